/- Small words: the first place at which a predicate holds; the first error of a list; how a slice's records are read. -/
import Derived.Test.YtbboonepfmkgnaaOwn
import Derived.Test.YtbboonepfmkgnaaPl
namespace Go.Proofs.Ytbboonepfmkgnaa
set_option linter.unusedSimpArgs false
set_option linter.unusedVariables false
set_option maxRecDepth 100000
open Go Go.RowKit Lb

section
variable {α : Type} [Inhabited α] {k : Nat} {enc : α → Array Value} {w w' : World} {v : Value} {l : List α}
/-- record j of a slice: where it lies -/
theorem RdL.at_ (h : RdL k enc w v l) {j : Nat} (hj : j < l.length) : ∃ b o c, v = .slice (some ⟨b, o, none⟩) l.length c ∧ b < w.heap.size ∧ ∀ i u, (enc l[j])[i]? = some u → w.cell? ⟨b, o + j * k + i, none⟩ = some u := by
  obtain ⟨A, c, rfl, h1, h2, h3⟩ := h
  obtain ⟨b, o, rfl, hb, hc⟩ := h3 (by omega)
  refine ⟨b, o, c, rfl, hb, fun i u hu => hc j hj i u ?_⟩
  rwa [show l[j]! = l[j] from by simp [hj]]
theorem RdL.form (h : RdL k enc w v l) : ∃ A c, v = .slice A l.length c ∧ l.length ≤ c ∧ c ≤ maxLen := by
  obtain ⟨A, c, rfl, h1, h2, -⟩ := h
  exact ⟨A, c, rfl, h1, h2⟩
/-- the beginning of a slice -/
theorem RdL.take {A : Option Addr} {n c : Nat} (h : RdL k enc w (.slice A n c) l) (j : Nat) (hj : j ≤ l.length) : RdL k enc w (.slice A j c) (l.take j) := by
  obtain ⟨A', c', hv, h1, h2, h3⟩ := h
  injection hv with hA hn hc
  subst hA hn hc
  have hl : (l.take j).length = j := by rw [List.length_take]; omega
  refine ⟨A, c, by rw [hl], by omega, h2, fun hp => ?_⟩
  obtain ⟨b, o, hA, hb, hcl⟩ := h3 (by omega)
  refine ⟨b, o, hA, hb, fun i hi u x hx => hcl i (by omega) u x ?_⟩
  have h1 : (l.take j)[i]! = l[i]! := by
    rw [hl] at hi
    have h3 : i < l.length := by omega
    simp [h3, hi]
  rwa [h1] at hx
end
def ixBy {α : Type} (p : α → Bool) (l : List α) : Int := match l.findIdx? p with
  | some i => i
  | none => -1

theorem ixBy_any {α : Type} (p : α → Bool) (l : List α) : decide (0 ≤ ixBy p l) = l.any p := by
  unfold ixBy
  cases hf : l.findIdx? p with
  | none =>
    rw [List.findIdx?_eq_none_iff] at hf
    simp only [Int.reduceNeg, Int.reduceLE, decide_false]
    symm
    rw [List.any_eq_false]
    intro x hx
    simp [hf x hx]
  | some i =>
    rw [List.findIdx?_eq_some_iff_getElem] at hf
    obtain ⟨h1, h2, _⟩ := hf
    simp only [Int.natCast_nonneg, decide_true]
    symm
    rw [List.any_eq_true]
    exact ⟨_, List.getElem_mem h1, h2⟩

theorem take_snoc_get {α : Type} (l : List α) (k : Nat) (h : k < l.length) : l.take (k + 1) = l.take k ++ [l[k]] := List.take_succ_eq_append_getElem h
end Go.Proofs.Ytbboonepfmkgnaa
