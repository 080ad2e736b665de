/- Literals of no tap, of one tap, as operations of a drawn region. -/
import Derived.Test.YtbboonepfmkgnaaRegC
import Derived.Test.YtbboonepfmkgnaaOwn
namespace Go.Proofs.Ytbboonepfmkgnaa
set_option linter.unusedSimpArgs false
set_option linter.unusedVariables false
set_option maxRecDepth 100000
open Go Go.RowKit Lb

theorem bs0_tp {d : Option Tmp} {ps : String} {af : Array Edge} {ty : TypeId} {Q : Exit → Act → World → Prop} (a : Act) (w : World) (K : Act → World → Prop) (h : K (a.put d (.slice (some ⟨w.heap.size, 0, none⟩) 0 0)) (w.alloc (.cells #[] 30))) :
    Oper.wp Try.prog { dst := d, op := .buildSlice 23 0 #[], type := ty, pos := ps, after := af, guard := none } a w K Q := by
  go_simp
  exact h
theorem bs1_tp {d : Option Tmp} {ps : String} {af : Array Edge} {ty : TypeId} {px : Nat} {Q : Exit → Act → World → Prop} (p : Tp) (a : Act) (w : World) (K : Act → World → Prop) (hp : a.eval (.tmp px) = .agg (tpc p)) (h : K (a.put d (.slice (some ⟨w.heap.size, 0, none⟩) 1 1)) (w.alloc (.cells (tpc p) 30))) :
    Oper.wp Try.prog { dst := d, op := .buildSlice 23 1 #[(0, .tmp px)], type := ty, pos := ps, after := af, guard := none } a w K Q := by
  unfold tpc at hp h
  simp only [Act.eval, Array.getD_eq_getD_getElem?] at hp
  go_simp
  exact h
end Go.Proofs.Ytbboonepfmkgnaa
