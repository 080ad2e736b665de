/- A field of a record in a row of the call's own is written; its cells. -/
import Derived.Test.YthollackhkiofaaApp
namespace Go.Proofs.Ythollackhkiofaa
set_option linter.unusedSimpArgs false
set_option linter.unusedVariables false
set_option maxRecDepth 100000
open Go Go.RowKit Lb

section
variable {α : Type} {enc : α → Array Value} {k : Nat}
theorem encs_put (hk : ∀ x, (enc x).size = k) (l : List α) (j i : Nat) (hj : j < l.length) (hi : i < k) (x' : α) (u : Value) (hx : (enc x').toList = (enc l[j]).toList.set i u) :
    (encs enc l).set (j * k + i) u = encs enc (l.set j x') := by
  induction l generalizing j with
  | nil => simp at hj
  | cons x l ih =>
    cases j with
    | zero =>
      rw [encs_cons, List.set_cons_zero, encs_cons, Nat.zero_mul, Nat.zero_add, List.set_append_left _ _ (by rw [Array.length_toList, hk]; exact hi)]
      rw [hx]
      rfl
    | succ j =>
      rw [encs_cons, List.set_cons_succ, encs_cons, List.set_append_right _ _ (by rw [Array.length_toList, hk, Nat.succ_mul]; omega), Array.length_toList, hk]
      rw [show (j + 1) * k + i - k = j * k + i from by rw [Nat.succ_mul]; omega]
      rw [ih j (by simpa using hj) hx]
theorem OwnL.field {e : TypeId} {base g n c : Nat} {w : World} {l : List α} (hk : ∀ x, (enc x).size = k) (h : OwnL e k enc base w (.slice (some ⟨g, 0, none⟩) n c) l) (j i : Nat) (hj : j < l.length) (hi : i < k) (u : Value) (hu : (enc l[j])[i]? = some u) :
    w.cell? ⟨g, j * k + i, none⟩ = some u ∧ w.frozen? ⟨g, j * k + i, none⟩ = false := by
  have hx : (encs enc l)[j * k + i]? = some u := by rw [encs_get hk l j i hj hi]; exact hu
  have h1 := h.cells (g := g) rfl _ _ hx
  rw [show (⟨g, 0, none⟩ : Addr).add (j * k + i) = ⟨g, j * k + i, none⟩ from by unfold Addr.add; split <;> simp_all] at h1
  refine ⟨h1, ?_⟩
  rcases h.2 with ⟨h', _⟩ | ⟨g', cap', cur, h', hb, hg, -⟩
  · simp at h'
  · simp only [Value.slice.injEq, Option.some.injEq, Addr.mk.injEq, and_true, true_and] at h'
    obtain ⟨rfl, -⟩ := h'
    unfold World.frozen?
    simp only [hg]
    simp
theorem OwnL.put_field {e : TypeId} {base g n c : Nat} {w : World} {l : List α} (hk : ∀ x, (enc x).size = k) (h : OwnL e k enc base w (.slice (some ⟨g, 0, none⟩) n c) l) (j i : Nat) (hj : j < l.length) (hi : i < k) (x' : α) (u : Value)
    (hx : (enc x').toList = (enc l[j]).toList.set i u) : OwnL e k enc base (w.setCell ⟨g, j * k + i, none⟩ u) (.slice (some ⟨g, 0, none⟩) n c) (l.set j x') := by
  obtain ⟨A, c', hv⟩ := h.form
  injection hv with _ hn hc
  subst hn hc
  unfold OwnL at h ⊢
  rw [List.length_set]
  have h1 := (h.stored (j * k + i) u).1
  rwa [encs_put hk l j i hj hi x' u hx] at h1
theorem OwnL.slot {e : TypeId} {base : Nat} {w : World} {v : Value} {l : List α} (h : OwnL e k enc base w v l) (hl : 0 < l.length) : ∃ g c, v = .slice (some ⟨g, 0, none⟩) l.length c ∧ base ≤ g ∧ g < w.heap.size ∧ l.length ≤ c := by
  rcases h.2 with ⟨rfl, h0⟩ | ⟨g, cap, cur, rfl, hb, hg, hnc, -⟩
  · omega
  · exact ⟨g, cap, rfl, hb, (Array.getElem?_eq_some_iff.1 hg).1, hnc⟩
end
/-- A row beside another one that has grown. -/
theorem OwnL.kept' {α : Type} {enc : α → Array Value} {k : Nat} {e : TypeId} {base : Nat} {w w' : World} {v u : Value} {l : List α} (h : OwnL e k enc base w v l) (hg : w.grownBy w' u.ownBlock) (hd : ∀ q, u.ownBlock = some q → v.ownBlock ≠ some q) : OwnL e k enc base w' v l := by
  cases hu : u.ownBlock with
  | none => rw [hu] at hg; exact World.ownsRow.kept h hg (by cases hv : v.ownBlock with
    | none => exact .inl rfl
    | some q => exact .inr (by simp))
  | some q => rw [hu] at hg; exact World.ownsRow.kept h hg (.inr (hd q hu))
end Go.Proofs.Ythollackhkiofaa
