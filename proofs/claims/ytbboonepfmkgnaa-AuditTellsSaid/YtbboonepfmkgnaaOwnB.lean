/- Writing cells of a row of the call's own, one after the other; a row made longer into its room. -/
import Derived.Laws.OwnMore
import Derived.Laws.IdiomCopy
import Derived.Maps.AppendAt
import Derived.Deep.AppendLies
import Derived.OwnWalk
import Derived.Test.YtbboonepfmkgnaaOwn
namespace Go.Proofs.Ytbboonepfmkgnaa
set_option linter.unusedSimpArgs false
set_option linter.unusedVariables false
set_option maxRecDepth 100000
open Go Go.RowKit Lb

theorem setCells_grown (b : Nat) : ∀ (vs : List Value) (o : Nat) (w : World), w.grownBy (w.setCells b o vs) (some b)
  | [], o, w => World.grownBy.refl _ _
  | u :: r, o, w => by
    have h1 : w.grownBy (w.setCell ⟨b, o, none⟩ u) (some b) := ⟨rfl, rfl, rfl, by simp [World.setCell], fun k _ hk => Below.heap_setCell _ _ _ _ (fun e => hk (by rw [e]))⟩
    exact h1.trans (setCells_grown b r (o + 1) _)
theorem drew_grown (w : World) (row : Option Nat) : w.grownBy w.drew row := ⟨rfl, rfl, rfl, Nat.le_refl _, fun _ _ _ => rfl⟩

theorem own_setCells {base b cap : Nat} {e : TypeId} {size n : Nat} : ∀ (vs : List Value) (o : Nat) (w : World) (xs : List Value), w.ownsRow base e size (.slice (some ⟨b, 0, none⟩) n cap) n xs → o + vs.length ≤ xs.length →
    (w.setCells b o vs).ownsRow base e size (.slice (some ⟨b, 0, none⟩) n cap) n (xs.take o ++ vs ++ xs.drop (o + vs.length))
  | [], o, w, xs, h, _ => by simpa [World.setCells] using h
  | u :: r, o, w, xs, h, hl => by
    simp only [List.length_cons] at hl
    have h1 := (h.stored o u).1
    have h2 := own_setCells r (o + 1) _ _ h1 (by simp; omega)
    have he : (xs.set o u).take (o + 1) ++ r ++ (xs.set o u).drop (o + 1 + r.length) = xs.take o ++ (u :: r) ++ xs.drop (o + (u :: r).length) := by
      rw [List.drop_set_of_lt (by omega), List.length_cons, show o + 1 + r.length = o + (r.length + 1) from by omega]
      rw [List.take_set, List.take_succ_eq_append_getElem (by omega), List.set_append_right _ _ (by simp; omega)]
      simp [Nat.min_eq_left (show o ≤ xs.length by omega)]
    rw [he] at h2
    exact h2

/-- A row that has room is one element longer, too. -/
theorem own_longer {w : World} {base b cap : Nat} {e : TypeId} {size n : Nat} {xs : List Value} (h : w.ownsRow base e size (.slice (some ⟨b, 0, none⟩) n cap) n xs) (hc : n + 1 ≤ cap) :
    ∃ ys, ys.length = size ∧ w.ownsRow base e size (.slice (some ⟨b, 0, none⟩) (n + 1) cap) (n + 1) (xs ++ ys) := by
  obtain ⟨h1, h2⟩ := h
  rcases h2 with ⟨h', _⟩ | ⟨g', cap', cur, h', hb, hg, hnc, hcm, hcs, htake⟩
  · simp at h'
  · simp only [Value.slice.injEq, Option.some.injEq, Addr.mk.injEq, and_true, true_and] at h'
    obtain ⟨rfl, rfl⟩ := h'
    have hle : (n + 1) * size ≤ cap * size := Nat.mul_le_mul_right _ hc
    have hsz : (n + 1) * size = n * size + size := by rw [Nat.add_mul]; omega
    refine ⟨(cur.toList.drop (n * size)).take size, ?_, ?_, .inr ⟨b, cap, cur, rfl, hb, hg, hc, hcm, hcs, ?_⟩⟩
    · rw [List.length_take, List.length_drop, Array.length_toList]; omega
    · rw [List.length_append, h1, List.length_take, List.length_drop, Array.length_toList]; omega
    · rw [hsz, List.take_add, htake]

/-- A row made anew, of which so many elements count. -/
theorem own_alloc {w : World} {base : Nat} {e : TypeId} {size n cap : Nat} {cur : Array Value} (hb : base ≤ w.heap.size) (hnc : n ≤ cap) (hm : cap ≤ maxLen) (hs : cur.size = cap * size) :
    (w.alloc (.cells cur e)).ownsRow base e size (.slice (some ⟨w.heap.size, 0, none⟩) n cap) n (cur.toList.take (n * size)) := by
  refine ⟨?_, .inr ⟨w.heap.size, cap, cur, rfl, hb, heap_alloc_new w _, hnc, hm, hs, rfl⟩⟩
  rw [List.length_take, Array.length_toList, hs]
  exact Nat.min_eq_left (Nat.mul_le_mul_right _ hnc)
theorem Row.grown {w w' : World} {g : Nat} {cs : Array Value} {row : Option Nat} (h : Row w g cs) (hg : w.grownBy w' row) (hne : some g ≠ row) : Row w' g cs :=
  ⟨Nat.lt_of_lt_of_le h.1 hg.size, fun o => (hg.cell_far ⟨g, o, none⟩ h.1 hne).trans (h.2.1 o), fun o => (hg.frozen_far ⟨g, o, none⟩ h.1 hne).trans (h.2.2 o)⟩
theorem Row.below {w w' : World} {g B : Nat} {cs : Array Value} (h : Row w g cs) (hb : Below B w w') (hg : g < B) : Row w' g cs :=
  ⟨Nat.lt_of_lt_of_le h.1 hb.size, fun o => (Below.cell (p := ⟨g, o, none⟩) hb hg).trans (h.2.1 o), fun o => (Below.frozen (p := ⟨g, o, none⟩) hb hg).trans (h.2.2 o)⟩
/-- A store into another block than the row's. -/
theorem OwnL.put {α : Type} {e : TypeId} {k base : Nat} {enc : α → Array Value} {w : World} {v : Value} {l : List α} (h : OwnL e k enc base w v l) {a : Addr} (ha : v.ownBlock ≠ some a.block) (u : Value) : OwnL e k enc base (w.setCell a u) v l := ownsRow_setCell h ha u
end Go.Proofs.Ytbboonepfmkgnaa
