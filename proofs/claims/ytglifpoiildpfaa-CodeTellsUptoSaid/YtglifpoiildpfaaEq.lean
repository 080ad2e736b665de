import Derived.Test.YtglifpoiildpfaaTick
namespace Go.Proofs.Ytglifpoiildpfaa
set_option linter.unusedSimpArgs false
set_option linter.unusedVariables false
open Go Go.RowKit Lb

theorem stood_tk : Try.prog.stoodInHeld 23 = false := by kernel_rfl
theorem guard_tk : Try.prog.eqGuardType Try.prog.depth 23 = false := by kernel_rfl
theorem eql_tk' (a b c d e f a' b' c' d' e' f' : Int) (W : World) :
    (binOp .eql 23 (.agg #[.int .i64 a, .int .i64 b, .int .i64 c, .int .i64 d, .int .i64 e, .int .i64 f]) (.agg #[.int .i64 a', .int .i64 b', .int .i64 c', .int .i64 d', .int .i64 e', .int .i64 f'])).run Try.prog W = .ok (.bool (decide ((⟨a, b, c, d, e, f⟩ : Tk) = ⟨a', b', c', d', e', f'⟩))) W := by
  simp [go_sem, stood_tk]
  repeat' split
  all_goals simp_all
end Go.Proofs.Ytglifpoiildpfaa
