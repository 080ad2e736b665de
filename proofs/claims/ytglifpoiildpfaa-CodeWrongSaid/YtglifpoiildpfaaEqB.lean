/- '!=' of two tickets. -/
import Derived.Test.YtglifpoiildpfaaEq
namespace Go.Proofs.Ytglifpoiildpfaa
set_option linter.unusedSimpArgs false
set_option linter.unusedVariables false
open Go Go.RowKit Lb

theorem neq_tk' (a b c d e f a' b' c' d' e' f' : Int) (W : World) :
    (binOp .neq 23 (.agg #[.int .i64 a, .int .i64 b, .int .i64 c, .int .i64 d, .int .i64 e, .int .i64 f]) (.agg #[.int .i64 a', .int .i64 b', .int .i64 c', .int .i64 d', .int .i64 e', .int .i64 f'])).run Try.prog W = .ok (.bool (!decide ((⟨a, b, c, d, e, f⟩ : Tk) = ⟨a', b', c', d', e', f'⟩))) W := by
  simp [go_sem, stood_tk]
  repeat' split
  all_goals simp_all
end Go.Proofs.Ytglifpoiildpfaa
