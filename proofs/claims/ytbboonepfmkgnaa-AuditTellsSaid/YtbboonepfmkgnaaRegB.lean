/- More of drawn regions: two that may come up. -/
import Derived.Test.YtbboonepfmkgnaaReg
namespace Go.Proofs.Ytbboonepfmkgnaa
open Go Go.RowKit
set_option linter.unusedSimpArgs false
set_option linter.unusedVariables false
set_option maxRecDepth 100000

section
variable {P : Program} {l : List Oper} {Q : Exit → Act → World → Prop} {md : Region.Mode} {S : World → Prop}

/-- Numbers i and j may come up. -/
theorem T_two {n i j : Nat} {oi oj : Oper} {fuel : Nat} {listed : Array Bool} {a : Act} {w : World} (hi : l[i]? = some oi) (hj : l[j]? = some oj) (hr : Region.ready md l.toArray listed = [i, j]) (hwi : oi.guard = none) (hwj : oj.guard = none)
    (h1 : ∀ K : Act → World → Prop, Hid (∀ a w, ((listed.setIfInBounds i true).getD n false = true ∨ S w) → wpAnyT P md l.toArray (NoPanic Q) S n fuel (listed.setIfInBounds i true) a w → K a w) → Oper.wp P oi a w K (NoPanic Q))
    (h2 : ∀ K : Act → World → Prop, Hid (∀ a w, ((listed.setIfInBounds j true).getD n false = true ∨ S w) → wpAnyT P md l.toArray (NoPanic Q) S n fuel (listed.setIfInBounds j true) a w → K a w) → Oper.wp P oj a w K (NoPanic Q)) :
    wpAnyT P md l.toArray (NoPanic Q) S n (fuel + 1) listed a w := by
  refine ⟨fun h0 => (by rw [hr] at h0; cases h0), fun k hk => ?_⟩
  rw [hr] at hk
  rcases List.mem_cons.1 hk with rfl | hk
  · have hi' : l.toArray[k]? = some oi := by simpa using hi
    refine wpOp_step hi' fun K hK => ?_
    rw [if_pos (by simp [Region.wanted, hwi])]
    exact h1 K (Lib.hid fun a w h1 h2 => hK a w ⟨h1, h2⟩)
  · rw [List.mem_singleton] at hk
    subst hk
    have hj' : l.toArray[k]? = some oj := by simpa using hj
    refine wpOp_step hj' fun K hK => ?_
    rw [if_pos (by simp [Region.wanted, hwj])]
    exact h2 K (Lib.hid fun a w h1 h2 => hK a w ⟨h1, h2⟩)
end
/-- A block of one record reads as that. -/
theorem RdL.row1 {α : Type} [Inhabited α] {enc : α → Array Value} {k : Nat} {W : World} (x : α) {g : Nat} (h : Row W g (enc x)) : RdL k enc W (.slice (some ⟨g, 0, none⟩) 1 1) [x] := by
  refine ⟨_, 1, rfl, Nat.le_refl _, by unfold maxLen; omega, fun _ => ⟨_, 0, rfl, h.1, fun j hj i u hu => ?_⟩⟩
  have hj0 : j = 0 := by simpa using hj
  subst hj0
  rw [Nat.zero_mul, Nat.add_zero, Nat.zero_add, h.2.1 i]
  exact hu
end Go.Proofs.Ytbboonepfmkgnaa
