/- A slice that reads as a list of records, nil let in. -/
import Derived.Test.YtbboonepfmkgnaaKit
import Derived.Test.YtbboonepfmkgnaaSpec
import Derived.Shelf.Abstract
namespace Go.Proofs.Ytbboonepfmkgnaa
set_option linter.unusedSimpArgs false
set_option linter.unusedVariables false
set_option maxRecDepth 100000
open Go Go.RowKit Lb

/-- The slice value v holds the records l, each of k cells. -/
def RdL {α : Type} [Inhabited α] (k : Nat) (enc : α → Array Value) (w : World) (v : Value) (l : List α) : Prop :=
  ∃ A c, v = .slice A l.length c ∧ l.length ≤ c ∧ c ≤ maxLen ∧ (0 < l.length → ∃ b o, A = some ⟨b, o, none⟩ ∧ b < w.heap.size ∧
    ∀ j, j < l.length → ∀ i u, (enc l[j]!)[i]? = some u → w.cell? ⟨b, o + j * k + i, none⟩ = some u)

section
variable {α : Type} [Inhabited α] {k : Nat} {enc : α → Array Value} {w w' : World} {v : Value} {l : List α}
theorem RdL.nil : RdL k enc w (.slice none 0 0) ([] : List α) := ⟨none, 0, rfl, Nat.le_refl _, Nat.zero_le _, fun h => by simp at h⟩
theorem RdL.keep (h : RdL k enc w v l) (hk : ∀ b o, b < w.heap.size → w'.cell? ⟨b, o, none⟩ = w.cell? ⟨b, o, none⟩) (hs : w.heap.size ≤ w'.heap.size) : RdL k enc w' v l := by
  obtain ⟨A, c, hv, h1, h2, h3⟩ := h
  refine ⟨A, c, hv, h1, h2, fun hn => ?_⟩
  obtain ⟨b, o, hA, hb, hc⟩ := h3 hn
  exact ⟨b, o, hA, by omega, fun j hj i u hu => (hk b _ hb).trans (hc j hj i u hu)⟩
theorem RdL.ext (h : RdL k enc w v l) (he : Ext w w') : RdL k enc w' v l := h.keep he.cells he.size
end
end Go.Proofs.Ytbboonepfmkgnaa
