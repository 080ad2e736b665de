/- What a call may do to memory: it makes new blocks; all that was there stays. Small laws on that. -/
import Derived.Test.YtbboonepfmkgnaaProg
import Derived.WalkKit
import Derived.WalkSpells
import Derived.WalkLawsBesides
import Derived.Deep.QuietTactic
import Derived.BigQuiet
import Derived.Outline
import Derived.Lib.Hide
import Derived.Deep.Draws
import Derived.Deep.LoopGhost
import Derived.Deep.DeepMust
import Derived.Deep.AppendLies
import Derived.Deep.DeepCutAuto
import Derived.Deep.RegionWith
import Derived.Laws.BytesArg
import Derived.RegionTactic
import Derived.ChangeAlike
namespace Go.Proofs.Ytbboonepfmkgnaa
set_option linter.unusedSimpArgs false
set_option linter.unusedVariables false
open Go Go.RowKit

/-- New blocks alone: all that was there is as it was. -/
def Ext (w w' : World) : Prop := Below w.heap.size w w'

theorem Ext.refl (w : World) : Ext w w := Below.refl _ _
theorem Ext.size {w w' : World} (h : Ext w w') : w.heap.size ≤ w'.heap.size := Below.size h
theorem Ext.trans {a b c : World} (h : Ext a b) (k : Ext b c) : Ext a c := Below.trans h (Below.mono k h.size)
theorem Ext.alloc {a b : World} (h : Ext a b) (o : Obj) : Ext a (b.alloc o) := Below.alloc h h.size o
theorem Ext.drew {a b : World} (h : Ext a b) : Ext a b.drew := Below.drew h
theorem Ext.drewN {a b : World} (h : Ext a b) (n : Nat) : Ext a (b.drewN n) := ⟨h.os, h.tape, h.output, (have k := h.size; k), h.block⟩
theorem Ext.setCell {a b : World} (h : Ext a b) {p : Addr} (hp : a.heap.size ≤ p.block) (u : Value) : Ext a (b.setCell p u) := Below.setCell h hp u
theorem Ext.setC {a b : World} {p : Addr} {u : Value} (hp : a.heap.size ≤ p.block) (h : Ext a b) : Ext a (b.setCell p u) := Below.setCell h hp u
theorem Ext.cells {w w' : World} (h : Ext w w') : ∀ b o, b < w.heap.size → w'.cell? ⟨b, o, none⟩ = w.cell? ⟨b, o, none⟩ :=
  fun b o hb => Below.cell (p := ⟨b, o, none⟩) h hb
theorem Ext.frozs {w w' : World} (h : Ext w w') : ∀ b o, b < w.heap.size → w'.frozen? ⟨b, o, none⟩ = w.frozen? ⟨b, o, none⟩ :=
  fun b o hb => Below.frozen (p := ⟨b, o, none⟩) h hb
theorem Ext.grown {a b c : World} (h : Ext a b) {row : Option Nat} (hg : b.grownBy c row) (hr : ∀ k, row = some k → a.heap.size ≤ k) : Ext a c := Below.grown h hg h.size hr

/-- Beside new blocks only one block may have been written. -/
def Only (w w' : World) (p : Nat) : Prop := w.grownBy w' (some p)
theorem Only.refl (w : World) (p : Nat) : Only w w p := World.grownBy.refl _ _
theorem Only.size {w w' : World} {p : Nat} (h : Only w w' p) : w.heap.size ≤ w'.heap.size := World.grownBy.size h
theorem Only.heap {w w' : World} {p : Nat} (h : Only w w' p) {k : Nat} (hk : k < w.heap.size) (hne : k ≠ p) : w'.heap[k]? = w.heap[k]? :=
  World.grownBy.block h k hk (fun e => hne (by injection e))
theorem Only.cell {w w' : World} {p : Nat} (h : Only w w' p) {k : Nat} (hk : k < w.heap.size) (hne : k ≠ p) (o : Nat) : w'.cell? ⟨k, o, none⟩ = w.cell? ⟨k, o, none⟩ :=
  World.cell?_of_block (a := ⟨k, o, none⟩) (h.heap hk hne)
theorem Only.froz {w w' : World} {p : Nat} (h : Only w w' p) {k : Nat} (hk : k < w.heap.size) (hne : k ≠ p) (o : Nat) : w'.frozen? ⟨k, o, none⟩ = w.frozen? ⟨k, o, none⟩ :=
  World.frozen?_of_block (a := ⟨k, o, none⟩) (h.heap hk hne)
theorem Only.own {a b c : World} {p : Nat} (h : Only a b p) {row : Option Nat} (hg : b.grownBy c row) (hr : ∀ k, row = some k → a.heap.size ≤ k) : Only a c p :=
  ⟨hg.os.trans h.os, hg.tape.trans h.tape, hg.output.trans h.output, Nat.le_trans h.size hg.size, fun k hk hne =>
    (hg.block k (Nat.lt_of_lt_of_le hk h.size) (fun e => by have := hr k e.symm; omega)).trans (h.block k hk hne)⟩
theorem Only.ext {a b c : World} {p : Nat} (h : Only a b p) (k : Ext b c) : Only a c p :=
  h.own (row := none) ⟨k.os, k.tape, k.output, Ext.size k, fun i hi _ => k.block i hi⟩ (fun _ e => by cases e)
theorem Only.trans {a b c : World} {p : Nat} (h : Only a b p) (k : Only b c p) : Only a c p :=
  ⟨k.os.trans h.os, k.tape.trans h.tape, k.output.trans h.output, Nat.le_trans h.size k.size, fun i hi hne => (k.block i (Nat.lt_of_lt_of_le hi h.size) hne).trans (h.block i hi hne)⟩
theorem Only.alloc {a b : World} {p : Nat} (h : Only a b p) (o : Obj) : Only a (b.alloc o) p := h.ext ((Ext.refl _).alloc o)
theorem Only.drewN {a b : World} {p : Nat} (h : Only a b p) (n : Nat) : Only a (b.drewN n) p := h.ext ((Ext.refl _).drewN n)
theorem Only.drew {a b : World} {p : Nat} (h : Only a b p) : Only a b.drew p := h.ext ((Ext.refl _).drew)
theorem Only.setCell {a b : World} {p : Nat} (h : Only a b p) {q : Addr} (hq : q.block = p ∨ a.heap.size ≤ q.block) (u : Value) : Only a (b.setCell q u) p :=
  ⟨h.os, h.tape, h.output, by simpa [World.setCell] using h.size, fun k hk hne => (Below.heap_setCell b q u k (by
    rintro rfl
    rcases hq with hq | hq
    · exact hne (by rw [hq])
    · omega)).trans (h.block k hk hne)⟩
/-- The one block that may have been written was made by the call itself. -/
theorem Ext.only {a b c : World} {p : Nat} (h : Ext a b) (k : Only b c p) (hp : a.heap.size ≤ p) : Ext a c := h.grown k (fun q e => by injection e with e; omega)
theorem ownsRow_setCell {w : World} {base : Nat} {e : TypeId} {size : Nat} {v : Value} {n : Nat} {xs : List Value} (h : w.ownsRow base e size v n xs) {a : Addr} (ha : v.ownBlock ≠ some a.block) (u : Value) : (w.setCell a u).ownsRow base e size v n xs :=
  h.kept (row := some a.block) ⟨rfl, rfl, rfl, by simp [World.setCell], fun k _ hne => Below.heap_setCell w a u k (fun e => hne (by rw [e]))⟩ (.inr ha)

theorem ownsRow_base {w : World} {base b2 : Nat} {e : TypeId} {size : Nat} {v : Value} {n : Nat} {xs : List Value} (h : w.ownsRow base e size v n xs) (hb : b2 ≤ base) : w.ownsRow b2 e size v n xs := by
  obtain ⟨h1, h2⟩ := h
  refine ⟨h1, ?_⟩
  rcases h2 with h2 | ⟨g, cap, cur, hv, hg, rest⟩
  · exact .inl h2
  · exact .inr ⟨g, cap, cur, hv, by omega, rest⟩

theorem ownsRow_new {w : World} {base g n size : Nat} {e : TypeId} {cs : Array Value} {xs : List Value} (hg : g = w.heap.size) (hx : cs.toList = xs) (hb : base ≤ w.heap.size) (hm : n ≤ maxLen) (hs : cs.size = n * size) :
    (w.alloc (.cells cs e)).ownsRow base e size (.slice (some ⟨g, 0, none⟩) n n) n xs := by
  subst hg; subst hx
  exact World.ownsRow_lit w cs n hb hm hs


theorem size_set {w : World} {a : Addr} {u : Value} : (w.setCell a u).heap.size = w.heap.size := by simp [World.setCell]
theorem size_drew {w : World} : w.drew.heap.size = w.heap.size := rfl
theorem cellA {w : World} {o : Obj} {p i : Nat} (h : p < w.heap.size) : (w.alloc o).cell? ⟨p, i, none⟩ = w.cell? ⟨p, i, none⟩ := World.cell?_alloc_lt w o ⟨p, i, none⟩ h
theorem frozA {w : World} {o : Obj} {p i : Nat} (h : p < w.heap.size) : (w.alloc o).frozen? ⟨p, i, none⟩ = w.frozen? ⟨p, i, none⟩ := ((Ext.refl w).alloc o).frozs p i h

/-- Block g is known cell by cell; none is frozen. -/
def Row (w : World) (g : Nat) (cs : Array Value) : Prop := g < w.heap.size ∧ (∀ o, w.cell? ⟨g, o, none⟩ = cs[o]?) ∧ (∀ o, w.frozen? ⟨g, o, none⟩ = false)
theorem Row.ext {w w' : World} {g : Nat} {cs : Array Value} (h : Ext w w') (r : Row w g cs) : Row w' g cs :=
  ⟨Nat.lt_of_lt_of_le r.1 h.size, fun o => (h.cells g o r.1).trans (r.2.1 o), fun o => (h.frozs g o r.1).trans (r.2.2 o)⟩
theorem Row.only {w w' : World} {g p : Nat} {cs : Array Value} (h : Only w w' p) (hp : g ≠ p) (r : Row w g cs) : Row w' g cs :=
  ⟨Nat.lt_of_lt_of_le r.1 h.size, fun o => (h.cell r.1 hp o).trans (r.2.1 o), fun o => (h.froz r.1 hp o).trans (r.2.2 o)⟩
theorem Row.new {w : World} {cs : Array Value} {t : TypeId} : Row (w.alloc (.cells cs t)) w.heap.size cs := by
  have hh : (w.alloc (.cells cs t)).heap[w.heap.size]? = some (.cells cs t (0, 0)) := heap_alloc_new w _
  refine ⟨by simp, fun o => cell_of_row _ _ o cs t (0, 0) hh, fun o => ?_⟩
  unfold World.frozen?
  simp only [hh]
  simp
theorem Row.newAt {w : World} {g : Nat} {cs : Array Value} {t : TypeId} (hg : g = w.heap.size) : Row (w.alloc (.cells cs t)) g cs := by
  subst hg; exact Row.new
theorem Row.alloc {w : World} {g : Nat} {cs : Array Value} {o : Obj} (r : Row w g cs) : Row (w.alloc o) g cs := r.ext ((Ext.refl w).alloc o)
theorem Row.drew {w : World} {g : Nat} {cs : Array Value} (r : Row w g cs) : Row w.drew g cs := r
theorem Row.drewN {w : World} {g n : Nat} {cs : Array Value} (r : Row w g cs) : Row (w.drewN n) g cs := r
theorem Row.far {w : World} {g : Nat} {cs : Array Value} {p : Addr} {u : Value} (hp : g ≠ p.block) (r : Row w g cs) : Row (w.setCell p u) g cs :=
  Row.only ((Only.refl w p.block).setCell (.inl rfl) u) hp r
theorem Row.set_ {w : World} {g i : Nat} {cs : Array Value} {u : Value} (r : Row w g cs) : Row (w.setCell ⟨g, i, none⟩ u) g (cs.setIfInBounds i u) := by
  refine ⟨by rw [show (w.setCell ⟨g, i, none⟩ u).heap.size = w.heap.size from by simp [World.setCell]]; exact r.1, fun o => ?_, fun o => by simpa [go_sem] using r.2.2 o⟩
  rw [Array.getElem?_setIfInBounds]
  by_cases e : i = o
  · subst e
    rw [if_pos rfl]
    have hc := r.2.1 i
    by_cases hi : i < cs.size
    · rw [Array.getElem?_eq_getElem hi] at hc
      rw [if_pos hi]
      exact World.cell?_setCell_same _ _ _ hc
    · rw [if_neg hi]
      rw [Array.getElem?_eq_none (by omega)] at hc
      cases hx : (w.setCell ⟨g, i, none⟩ u).cell? ⟨g, i, none⟩ with
      | none => rfl
      | some y =>
        exfalso
        simp only [World.setCell, World.cell?, Array.getElem?_modify, if_true] at hx
        simp only [World.cell?] at hc
        split at hc
        · rename_i hh
          rw [hh] at hx
          simp at hx hc
          have := (Array.getElem?_eq_some_iff.1 hx).1
          simp at this
          omega
        · rename_i hh
          cases h3 : w.heap[g]? with
          | none => rw [h3] at hx; simp at hx
          | some ob =>
            rw [h3] at hx
            cases ob <;> simp at hx
            rename_i c el fr
            exact hh _ _ _ h3
  · rw [if_neg e]
    rw [World.cell?_setCell_other _ _ _ _ (by simp [e])]
    exact r.2.1 o
theorem Row.use {w : World} {g : Nat} {cs : Array Value} {G : Prop} (r : Row w g cs) (k : (∀ o, w.cell? ⟨g, o, none⟩ = cs[o]?) → (∀ o, w.frozen? ⟨g, o, none⟩ = false) → g < w.heap.size → Hid (Row w g cs) → G) : G := k r.2.1 r.2.2 r.1 r

/-- What a region with calls keeps: one block's cells, and that nothing old has turned. -/
theorem keepH {G : Nat} {cs : Array Value} {w W w' : World} (hs : (∀ o, W.cell? ⟨G, o, none⟩ = cs[o]?) ∧ G < W.heap.size ∧ Ext w W) (h : Ext W w') :
    (∀ o, w'.cell? ⟨G, o, none⟩ = cs[o]?) ∧ G < w'.heap.size ∧ Ext w w' :=
  ⟨fun o => (h.cells G o hs.2.1).trans (hs.1 o), Nat.lt_of_lt_of_le hs.2.1 h.size, hs.2.2.trans h⟩

theorem ret_int {k : IntKind} {a b : Int} (h : a = b) : Ending.returned (.int k a) = .returned (.int k b) := by rw [h]
theorem ret_bool {a b : Bool} (h : a = b) : Ending.returned (.bool a) = .returned (.bool b) := by rw [h]
theorem ret_string {a b : ByteArray} (h : a = b) : Ending.returned (.string a) = .returned (.string b) := by rw [h]
end Go.Proofs.Ytbboonepfmkgnaa
