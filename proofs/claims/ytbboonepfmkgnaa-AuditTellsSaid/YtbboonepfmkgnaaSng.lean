/- A ticket of all zones. -/
import Derived.Test.YtbboonepfmkgnaaOwn
namespace Go.Proofs.Ytbboonepfmkgnaa
set_option linter.unusedSimpArgs false
set_option linter.unusedVariables false
set_option maxRecDepth 100000
open Go Go.RowKit Lb

def single (id : Int) : Tk := ⟨id, 1, 10, 500, 15, 0⟩

theorem law_single (id : Int) (w : World) :
    Calls Try.prog 54 #[.int .i64 id] w fun e w' => e = .returned (.agg (tkc (single id))) ∧ Ext w w' := by
  go_enter Try.func54, Try.ntmps54
  go_wp2_with fail
  refine bodyPost_ret (v := .agg (tkc (single id))) (by simp [results, Try.results54, go_sem, tkc, single]) rfl ⟨rfl, ?_⟩
  repeat (first | (with_reducible exact Ext.refl _) | (with_reducible refine Ext.alloc ?_ _) | (with_reducible apply Ext.setC; focus (simp <;> omega)) | (with_reducible refine Ext.drew ?_) | (with_reducible refine Ext.drewN ?_ _) | (with_reducible refine Ext.trans ?_ (Hid.out ‹Hid (Ext _ _)›)))
end Go.Proofs.Ytbboonepfmkgnaa
