/- Rows of records that the call itself made: how they read. -/
import Derived.Test.YtbboonepfmkgnaaSl
import Derived.Test.YtbboonepfmkgnaaRule
namespace Go.Proofs.Ytbboonepfmkgnaa
set_option linter.unusedSimpArgs false
set_option linter.unusedVariables false
set_option maxRecDepth 100000
open Go Go.RowKit Lb

/-- the cells of a list of records -/
def encs {α : Type} (enc : α → Array Value) (l : List α) : List Value := l.flatMap fun x => (enc x).toList
section
variable {α : Type} {enc : α → Array Value} {k : Nat}
theorem encs_nil : encs enc [] = [] := rfl
theorem encs_cons (x : α) (l : List α) : encs enc (x :: l) = (enc x).toList ++ encs enc l := rfl
theorem encs_append (a b : List α) : encs enc (a ++ b) = encs enc a ++ encs enc b := by simp [encs]
theorem encs_length (hk : ∀ x, (enc x).size = k) (l : List α) : (encs enc l).length = l.length * k := by
  induction l with
  | nil => simp [encs]
  | cons x l ih => rw [encs_cons, List.length_append, ih, Array.length_toList, hk, List.length_cons, Nat.add_mul]; omega
theorem encs_get (hk : ∀ x, (enc x).size = k) (l : List α) (j i : Nat) (hj : j < l.length) (hi : i < k) : (encs enc l)[j * k + i]? = (enc l[j])[i]? := by
  induction l generalizing j with
  | nil => simp at hj
  | cons x l ih =>
    rw [encs_cons]
    cases j with
    | zero => rw [List.getElem?_append_left (by rw [Array.length_toList, hk]; omega)]; simp
    | succ j =>
      rw [List.getElem?_append_right (by rw [Array.length_toList, hk, Nat.succ_mul]; omega), Array.length_toList, hk]
      rw [show (j + 1) * k + i - k = j * k + i from by rw [Nat.succ_mul]; omega]
      exact ih j (by simpa using hj)
theorem encs_drop (hk : ∀ x, (enc x).size = k) (l : List α) (j : Nat) : (encs enc l).drop (j * k) = encs enc (l.drop j) := by
  induction l generalizing j with
  | nil => simp [encs]
  | cons x l ih =>
    cases j with
    | zero => simp
    | succ j =>
      rw [encs_cons, List.drop_succ_cons, ← ih j, Nat.succ_mul, Nat.add_comm, ← List.drop_drop]
      congr 1
      rw [List.drop_append_of_le_length (by rw [Array.length_toList, hk]; exact Nat.le_refl _), List.drop_of_length_le (by rw [Array.length_toList, hk]; exact Nat.le_refl _)]
      rfl
theorem encs_take (hk : ∀ x, (enc x).size = k) (l : List α) (j : Nat) : (encs enc l).take (j * k) = encs enc (l.take j) := by
  induction l generalizing j with
  | nil => simp [encs]
  | cons x l ih =>
    cases j with
    | zero => simp [encs]
    | succ j =>
      rw [encs_cons, List.take_succ_cons, encs_cons, ← ih j, List.take_append, List.take_of_length_le (by rw [Array.length_toList, hk, Nat.succ_mul]; omega), Array.length_toList, hk]
      rw [show (j + 1) * k - k = j * k from by rw [Nat.succ_mul]; omega]
end

/-- The call's own row, from block base on, holds the records l. -/
def OwnL {α : Type} (e : TypeId) (k : Nat) (enc : α → Array Value) (base : Nat) (w : World) (v : Value) (l : List α) : Prop :=
  w.ownsRow base e k v l.length (encs enc l)

section
variable {α : Type} {e : TypeId} {k base : Nat} {enc : α → Array Value} {w w' : World} {v : Value} {l : List α}
theorem OwnL.rd [Inhabited α] (h : OwnL e k enc base w v l) (hk : ∀ x, (enc x).size = k) : RdL k enc w v l := by
  obtain ⟨h1, h2⟩ := h
  rcases h2 with ⟨rfl, h0⟩ | ⟨g, cap, cur, rfl, hb, hg, hn, hm, hs, ht⟩
  · have : l = [] := List.eq_nil_of_length_eq_zero h0
    subst this
    exact RdL.nil
  · refine ⟨_, cap, rfl, hn, hm, fun _ => ⟨g, 0, rfl, ?_, fun j hj i u hu => ?_⟩⟩
    · exact (Array.getElem?_eq_some_iff.1 hg).1
    · have hi : i < k := by have := (Array.getElem?_eq_some_iff.1 hu).1; rwa [hk] at this
      rw [Nat.zero_add, cell_of_row w g _ cur e (0, 0) hg]
      have hx : (encs enc l)[j * k + i]? = some u := by
        rw [encs_get hk l j i hj hi]
        rwa [show l[j]! = l[j] from by simp [hj]] at hu
      rw [← ht] at hx
      rw [List.getElem?_take] at hx
      split at hx
      · rw [← Array.getElem?_toList]; exact hx
      · cases hx
theorem OwnL.ext (h : OwnL e k enc base w v l) (he : Ext w w') : OwnL e k enc base w' v l := by
  unfold OwnL at h ⊢
  refine h.kept (row := none) ⟨he.os, he.tape, he.output, Ext.size he, fun i hi _ => he.block i hi⟩ ?_
  cases hv : v.ownBlock <;> simp
theorem OwnL.lower {b2 : Nat} (h : OwnL e k enc base w v l) (hb : b2 ≤ base) : OwnL e k enc b2 w v l := ownsRow_base h hb
theorem OwnL.nil : OwnL e k enc base w (.slice none 0 0) ([] : List α) := World.ownsRow_nil _ _ _ _
theorem OwnL.drew (h : OwnL e k enc base w v l) : OwnL e k enc base w.drew v l := h
theorem OwnL.drewN (n : Nat) (h : OwnL e k enc base w v l) : OwnL e k enc base (w.drewN n) v l := h
theorem OwnL.alloc (o : Obj) (h : OwnL e k enc base w v l) : OwnL e k enc base (w.alloc o) v l := World.ownsRow.alloc h o
theorem OwnL.set {a : Addr} (h : OwnL e k enc base w v l) (ha : a.block < base) (u : Value) : OwnL e k enc base (w.setCell a u) v l :=
  ownsRow_setCell h (fun q => by have := h.lt _ q; omega) u
theorem OwnL.setC {a : Addr} {u : Value} (ha : a.block < base) (h : OwnL e k enc base w v l) : OwnL e k enc base (w.setCell a u) v l := h.set ha u
theorem OwnL.form (h : OwnL e k enc base w v l) : ∃ A c, v = .slice A l.length c := by
  obtain ⟨h1, h2⟩ := h
  rcases h2 with ⟨rfl, h0⟩ | ⟨g, cap, cur, rfl, -⟩
  · exact ⟨none, 0, by rw [h0]⟩
  · exact ⟨_, cap, rfl⟩
end
theorem tkc_size (t : Tk) : (tkc t).size = 6 := rfl
theorem tpc_size (p : Tp) : (tpc p).size = 5 := rfl
theorem inc_size (n : Int) : (inc n).size = 1 := rfl
theorem encs_inc (l : List Int) : encs inc l = l.map (Value.int .i64) := by
  induction l with
  | nil => rfl
  | cons x l ih => rw [encs_cons, ih]; rfl
end Go.Proofs.Ytbboonepfmkgnaa
