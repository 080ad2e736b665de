/- Ma: parts of the proofs, laid together. -/
import Derived.Test.YteojjbhadgkfgaaDoorProg
import Derived.WalkKit
import Derived.WalkSpells
import Derived.WalkLawsBesides
import Derived.Deep.QuietTactic
import Derived.BigQuiet
import Derived.Outline
import Derived.Lib.Hide
import Derived.Deep.Draws
import Derived.Deep.LoopGhost
import Derived.Deep.DeepMust
import Derived.Deep.AppendLies
import Derived.Deep.DeepCutAuto
import Derived.Deep.RegionWith
import Derived.Laws.BytesArg
import Derived.RegionTactic
import Derived.ChangeAlike
import Derived.Shelf.Abstract
import Derived.Deep.RegionHeld3
import Derived.StillTailTactics
import Derived.Laws.OwnMore
import Derived.Laws.IdiomCopy
import Derived.Maps.AppendAt
import Derived.OwnWalk
import Derived.Deep.AppendSrc
import Derived.Deep.Upon
import Derived.Lib.AppendZeros
import Derived.Deep.RegionLaw
import Derived.Lib.SliceRun
import Derived.Lib.Walk
import Derived.BigRegion
/- What a call may do to memory: it makes new blocks; all that was there stays. Small laws on that. -/
namespace Go.Proofs.YteojjbhadgkfgaaDoor
set_option linter.unusedSimpArgs false
set_option linter.unusedVariables false
open Go Go.RowKit

/-- New blocks alone: all that was there is as it was. -/
def Ext (w w' : World) : Prop := Below w.heap.size w w'

theorem lSet {α : Type} : (∀ (l : List α) (i : Nat) (a : α), l.toArray.setIfInBounds i a = (l.set i a).toArray) ∧ (∀ (x a : α) (l : List α), (x :: l).set 0 a = a :: l) ∧ (∀ (x a : α) (l : List α) (n : Nat), (x :: l).set (n + 1) a = x :: l.set n a) := ⟨fun _ _ _ => by simp, fun _ _ _ => rfl, fun _ _ _ _ => rfl⟩
theorem Ext.refl (w : World) : Ext w w := Below.refl _ _
theorem Ext.size {w w' : World} (h : Ext w w') : w.heap.size ≤ w'.heap.size := Below.size h
theorem Ext.trans {a b c : World} (h : Ext a b) (k : Ext b c) : Ext a c := Below.trans h (Below.mono k h.size)
theorem Ext.alloc {a b : World} (h : Ext a b) (o : Obj) : Ext a (b.alloc o) := Below.alloc h h.size o
theorem Ext.drew {a b : World} (h : Ext a b) : Ext a b.drew := Below.drew h
theorem Ext.drewN {a b : World} (h : Ext a b) (n : Nat) : Ext a (b.drewN n) := ⟨h.os, h.tape, h.output, (have k := h.size; k), h.block⟩
theorem Ext.setCell {a b : World} (h : Ext a b) {p : Addr} (hp : a.heap.size ≤ p.block) (u : Value) : Ext a (b.setCell p u) := Below.setCell h hp u
theorem Ext.setC {a b : World} {p : Addr} {u : Value} (hp : a.heap.size ≤ p.block) (h : Ext a b) : Ext a (b.setCell p u) := Below.setCell h hp u
theorem Ext.cells {w w' : World} (h : Ext w w') : ∀ b o, b < w.heap.size → w'.cell? ⟨b, o, none⟩ = w.cell? ⟨b, o, none⟩ :=
 fun b o hb => Below.cell (p := ⟨b, o, none⟩) h hb
theorem Ext.frozs {w w' : World} (h : Ext w w') : ∀ b o, b < w.heap.size → w'.frozen? ⟨b, o, none⟩ = w.frozen? ⟨b, o, none⟩ :=
 fun b o hb => Below.frozen (p := ⟨b, o, none⟩) h hb
theorem Ext.grown {a b c : World} (h : Ext a b) {row : Option Nat} (hg : b.grownBy c row) (hr : ∀ k, row = some k → a.heap.size ≤ k) : Ext a c := Below.grown h hg h.size hr

/-- Beside new blocks only one block may have been written. -/
def Only (w w' : World) (p : Nat) : Prop := w.grownBy w' (some p)
theorem Only.refl (w : World) (p : Nat) : Only w w p := World.grownBy.refl _ _
theorem Only.size {w w' : World} {p : Nat} (h : Only w w' p) : w.heap.size ≤ w'.heap.size := World.grownBy.size h
theorem Only.heap {w w' : World} {p : Nat} (h : Only w w' p) {k : Nat} (hk : k < w.heap.size) (hne : k ≠ p) : w'.heap[k]? = w.heap[k]? :=
 World.grownBy.block h k hk (fun e => hne (by injection e))
theorem Only.cell {w w' : World} {p : Nat} (h : Only w w' p) {k : Nat} (hk : k < w.heap.size) (hne : k ≠ p) (o : Nat) : w'.cell? ⟨k, o, none⟩ = w.cell? ⟨k, o, none⟩ :=
 World.cell?_of_block (a := ⟨k, o, none⟩) (h.heap hk hne)
theorem Only.froz {w w' : World} {p : Nat} (h : Only w w' p) {k : Nat} (hk : k < w.heap.size) (hne : k ≠ p) (o : Nat) : w'.frozen? ⟨k, o, none⟩ = w.frozen? ⟨k, o, none⟩ :=
 World.frozen?_of_block (a := ⟨k, o, none⟩) (h.heap hk hne)
theorem Only.own {a b c : World} {p : Nat} (h : Only a b p) {row : Option Nat} (hg : b.grownBy c row) (hr : ∀ k, row = some k → a.heap.size ≤ k) : Only a c p :=
 ⟨hg.os.trans h.os, hg.tape.trans h.tape, hg.output.trans h.output, Nat.le_trans h.size hg.size, fun k hk hne =>
  (hg.block k (Nat.lt_of_lt_of_le hk h.size) (fun e => by have := hr k e.symm; omega)).trans (h.block k hk hne)⟩
theorem Only.ext {a b c : World} {p : Nat} (h : Only a b p) (k : Ext b c) : Only a c p :=
 h.own (row := none) ⟨k.os, k.tape, k.output, Ext.size k, fun i hi _ => k.block i hi⟩ (fun _ e => by cases e)
theorem Only.trans {a b c : World} {p : Nat} (h : Only a b p) (k : Only b c p) : Only a c p :=
 ⟨k.os.trans h.os, k.tape.trans h.tape, k.output.trans h.output, Nat.le_trans h.size k.size, fun i hi hne => (k.block i (Nat.lt_of_lt_of_le hi h.size) hne).trans (h.block i hi hne)⟩
theorem Only.alloc {a b : World} {p : Nat} (h : Only a b p) (o : Obj) : Only a (b.alloc o) p := h.ext ((Ext.refl _).alloc o)
theorem Only.drewN {a b : World} {p : Nat} (h : Only a b p) (n : Nat) : Only a (b.drewN n) p := h.ext ((Ext.refl _).drewN n)
theorem Only.drew {a b : World} {p : Nat} (h : Only a b p) : Only a b.drew p := h.ext ((Ext.refl _).drew)
theorem Only.setCell {a b : World} {p : Nat} (h : Only a b p) {q : Addr} (hq : q.block = p ∨ a.heap.size ≤ q.block) (u : Value) : Only a (b.setCell q u) p :=
 ⟨h.os, h.tape, h.output, by simpa [World.setCell] using h.size, fun k hk hne => (Below.heap_setCell b q u k (by
  rintro rfl
  rcases hq with hq | hq
  ·exact hne (by rw [hq])
  ·omega)).trans (h.block k hk hne)⟩
/-- The one block that may have been written was made by the call itself. -/
theorem Ext.only {a b c : World} {p : Nat} (h : Ext a b) (k : Only b c p) (hp : a.heap.size ≤ p) : Ext a c := h.grown k (fun q e => by injection e with e; omega)
theorem ownsRow_setCell {w : World} {base : Nat} {e : TypeId} {size : Nat} {v : Value} {n : Nat} {xs : List Value} (h : w.ownsRow base e size v n xs) {a : Addr} (ha : v.ownBlock ≠ some a.block) (u : Value) : (w.setCell a u).ownsRow base e size v n xs :=
 h.kept (row := some a.block) ⟨rfl, rfl, rfl, by simp [World.setCell], fun k _ hne => Below.heap_setCell w a u k (fun e => hne (by rw [e]))⟩ (.inr ha)

theorem ownsRow_base {w : World} {base b2 : Nat} {e : TypeId} {size : Nat} {v : Value} {n : Nat} {xs : List Value} (h : w.ownsRow base e size v n xs) (hb : b2 ≤ base) : w.ownsRow b2 e size v n xs := by
 obtain ⟨h1, h2⟩ := h
 refine ⟨h1, ?_⟩
 rcases h2 with h2 | ⟨g, cap, cur, hv, hg, rest⟩
 ·exact .inl h2
 ·exact .inr ⟨g, cap, cur, hv, by omega, rest⟩

theorem ownsRow_new {w : World} {base g n size : Nat} {e : TypeId} {cs : Array Value} {xs : List Value} (hg : g = w.heap.size) (hx : cs.toList = xs) (hb : base ≤ w.heap.size) (hm : n ≤ maxLen) (hs : cs.size = n * size) :
  (w.alloc (.cells cs e)).ownsRow base e size (.slice (some ⟨g, 0, none⟩) n n) n xs := by
 subst hg; subst hx
 exact World.ownsRow_lit w cs n hb hm hs

/-- 'string(b)' of a row of bytes that the call owns. -/
theorem conv_own {w : World} {base : Nat} {v : Value} {n : Nat} {xs : List Int} (h : w.ownsRow base 5 1 v n (xs.map (Value.int .u8))) :
  (convert 98 9 v).run Tryd.prog w = .ok (.string (strOfNums xs)) w := by
 have hl := h.1
 rcases h.2 with ⟨rfl, rfl⟩ | ⟨g, cap, cur, rfl, _⟩
 ·have : xs = [] := by simpa using hl
  subst this
  exact run_convert_bytes_nil w 98 5 Tryd.underlying98 Tryd.underlying5 0 0 9 Tryd.underlying9
 ·refine run_convert_bytes_arg w 98 5 Tryd.underlying98 Tryd.underlying5 g 0 n cap xs (by simpa using hl) ?_ 9 Tryd.underlying9
  intro i hi
  have hx : (xs.map (Value.int .u8))[i]? = some (.int .u8 (xs.getD i 0)) := by
   have hi' : i < xs.length := by simp at hl; omega
   simp [List.getD, hi']
  have := h.cells (g := g) rfl i _ hx
  rwa [show (⟨g, 0, none⟩ : Addr).add i = ⟨g, 0 + i, none⟩ from by unfold Addr.add; split <;> simp_all] at this

theorem size_set {w : World} {a : Addr} {u : Value} : (w.setCell a u).heap.size = w.heap.size := by simp [World.setCell]
theorem size_drew {w : World} : w.drew.heap.size = w.heap.size := rfl
theorem cellA {w : World} {o : Obj} {p i : Nat} (h : p < w.heap.size) : (w.alloc o).cell? ⟨p, i, none⟩ = w.cell? ⟨p, i, none⟩ := World.cell?_alloc_lt w o ⟨p, i, none⟩ h
/-- Block g is known cell by cell; none is frozen. -/
def Row (w : World) (g : Nat) (cs : Array Value) : Prop := g < w.heap.size ∧ (∀ o, w.cell? ⟨g, o, none⟩ = cs[o]?) ∧ (∀ o, w.frozen? ⟨g, o, none⟩ = false)
theorem Row.ext {w w' : World} {g : Nat} {cs : Array Value} (h : Ext w w') (r : Row w g cs) : Row w' g cs :=
 ⟨Nat.lt_of_lt_of_le r.1 h.size, fun o => (h.cells g o r.1).trans (r.2.1 o), fun o => (h.frozs g o r.1).trans (r.2.2 o)⟩
theorem Row.only {w w' : World} {g p : Nat} {cs : Array Value} (h : Only w w' p) (hp : g ≠ p) (r : Row w g cs) : Row w' g cs :=
 ⟨Nat.lt_of_lt_of_le r.1 h.size, fun o => (h.cell r.1 hp o).trans (r.2.1 o), fun o => (h.froz r.1 hp o).trans (r.2.2 o)⟩
theorem Row.new {w : World} {cs : Array Value} {t : TypeId} : Row (w.alloc (.cells cs t)) w.heap.size cs := by
 have hh : (w.alloc (.cells cs t)).heap[w.heap.size]? = some (.cells cs t (0, 0)) := heap_alloc_new w _
 refine ⟨by simp, fun o => cell_of_row _ _ o cs t (0, 0) hh, fun o => ?_⟩
 unfold World.frozen?
 simp only [hh]
 simp
theorem Row.newAt {w : World} {g : Nat} {cs : Array Value} {t : TypeId} (hg : g = w.heap.size) : Row (w.alloc (.cells cs t)) g cs := by
 subst hg; exact Row.new
theorem Row.alloc {w : World} {g : Nat} {cs : Array Value} {o : Obj} (r : Row w g cs) : Row (w.alloc o) g cs := r.ext ((Ext.refl w).alloc o)
theorem Row.drew {w : World} {g : Nat} {cs : Array Value} (r : Row w g cs) : Row w.drew g cs := r
theorem Row.drewN {w : World} {g n : Nat} {cs : Array Value} (r : Row w g cs) : Row (w.drewN n) g cs := r
theorem Row.far {w : World} {g : Nat} {cs : Array Value} {p : Addr} {u : Value} (hp : g ≠ p.block) (r : Row w g cs) : Row (w.setCell p u) g cs :=
 Row.only ((Only.refl w p.block).setCell (.inl rfl) u) hp r
theorem Row.set_ {w : World} {g i : Nat} {cs : Array Value} {u : Value} (r : Row w g cs) : Row (w.setCell ⟨g, i, none⟩ u) g (cs.setIfInBounds i u) := by
 refine ⟨by rw [show (w.setCell ⟨g, i, none⟩ u).heap.size = w.heap.size from by simp [World.setCell]]; exact r.1, fun o => ?_, fun o => by simpa [go_sem] using r.2.2 o⟩
 rw [Array.getElem?_setIfInBounds]
 by_cases e : i = o
 ·subst e
  rw [if_pos rfl]
  have hc := r.2.1 i
  by_cases hi : i < cs.size
  ·rw [Array.getElem?_eq_getElem hi] at hc
   rw [if_pos hi]
   exact World.cell?_setCell_same _ _ _ hc
  ·rw [if_neg hi]
   rw [Array.getElem?_eq_none (by omega)] at hc
   cases hx : (w.setCell ⟨g, i, none⟩ u).cell? ⟨g, i, none⟩ with
   | none => rfl
   | some y =>
    exfalso
    simp only [World.setCell, World.cell?, Array.getElem?_modify, if_true] at hx
    simp only [World.cell?] at hc
    split at hc
    ·rename_i hh
     rw [hh] at hx
     simp at hx hc
     have := (Array.getElem?_eq_some_iff.1 hx).1
     simp at this
     omega
    ·rename_i hh
     cases h3 : w.heap[g]? with
     | none => rw [h3] at hx; simp at hx
     | some ob =>
      rw [h3] at hx
      cases ob <;> simp at hx
      rename_i c el fr
      exact hh _ _ _ h3
 ·rw [if_neg e]
  rw [World.cell?_setCell_other _ _ _ _ (by simp [e])]
  exact r.2.1 o
theorem Row.use {w : World} {g : Nat} {cs : Array Value} {G : Prop} (r : Row w g cs) (k : (∀ o, w.cell? ⟨g, o, none⟩ = cs[o]?) → (∀ o, w.frozen? ⟨g, o, none⟩ = false) → g < w.heap.size → Hid (Row w g cs) → G) : G := k r.2.1 r.2.2 r.1 r

theorem ret_int {k : IntKind} {a b : Int} (h : a = b) : Ending.returned (.int k a) = .returned (.int k b) := by rw [h]
theorem ret_bool {a b : Bool} (h : a = b) : Ending.returned (.bool a) = .returned (.bool b) := by rw [h]
theorem ret_string {a b : ByteArray} (h : a = b) : Ending.returned (.string a) = .returned (.string b) := by rw [h]
/-- closes 'Ext w w'' (the tactic stands once, here) -/
theorem extA {w w' : World} (h : Ext w w' := by repeat (first | (with_reducible exact Ext.refl _) | (with_reducible refine Ext.alloc ?_ _) | (with_reducible apply Ext.setC; focus (simp <;> omega)) | (with_reducible refine Ext.drew ?_) | (with_reducible refine Ext.drewN ?_ _) | (with_reducible refine Ext.trans ?_ (Hid.out ‹Hid (Ext _ _)›)))) : Ext w w' := h
/-- closes 'Row w g cs' -/
theorem rowA {w : World} {g : Nat} {cs : Array Value} (h : Row w g cs := by repeat (first | (with_reducible exact Hid.out ‹Hid (Row _ _ _)›) | (with_reducible exact Row.newAt rfl) | (with_reducible apply Row.newAt; (simp; done)) | (with_reducible apply Row.set_) | (with_reducible apply Row.far; focus (simp <;> omega)) | (with_reducible apply Row.alloc) | (with_reducible apply Row.drew) | (with_reducible apply Row.drewN) | (with_reducible apply Row.ext (Hid.out ‹Hid (Ext _ _)›)))) : Row w g cs := h
end Go.Proofs.YteojjbhadgkfgaaDoor

/- The plain functions that the program and the references compute, on lists and integers. -/
namespace Lb

structure Tk where
 id : Int
 kind : Int
 frm : Int
 til : Int
 zones : Int
 rides : Int
 deriving DecidableEq, Inhabited

structure Tp where
 ticket : Int
 gate : Int
 seq : Int
 time : Int
 zone : Int
 deriving DecidableEq, Inhabited

structure Ld where
 tickets : List Tk
 taps : List Tp
 verdicts : List Int
 deriving DecidableEq, Inhabited

structure Dn where
 version : Int
 ids : List Int
 deriving DecidableEq, Inhabited

structure Gt where
 id : Int
 zone : Int
 seq : Int
 alone : List Tp
 denied : Dn
 left : Int
 untl : Int
 deriving DecidableEq, Inhabited

structure Vw where
 epoch : Int
 leader : Int
 up : Bool
 deriving DecidableEq, Inhabited

structure St where
 ledger : Ld
 denied : Dn
 gates : List Gt
 views : List Vw
 deriving DecidableEq, Inhabited

structure Ac where
 kind : Int
 id : Int
 of : Int
 time : Int
 ticket : Tk
 deriving DecidableEq, Inhabited

def ld0 : Ld := ⟨[], [], []⟩
def dn0 : Dn := ⟨0, []⟩
def gt0 : Gt := ⟨0, 0, 0, [], dn0, 0, 0⟩
def st0 : St := ⟨ld0, dn0, [], []⟩

def within (n a b : Int) : Bool := decide (a ≤ n) && decide (n ≤ b)

/- tickets -/
def ckTicket (t : Tk) : Int :=
 if !(within t.id 1 9999 && within t.frm 0 9999 && within t.til 0 9999 && within t.zones 1 15) then 3
 else if !within t.kind 1 3 then 7
 else if t.til < t.frm then 4
 else if t.kind = 3 ∧ within t.rides 2 9 = false ∨ t.kind ≠ 3 ∧ t.rides ≠ 0 then 1 else 0

/- bytes of a ticket, and back -/
/- taps -/
def isZone (n : Int) : Bool := n == 1 || n == 2 || n == 4 || n == 8

def ckTap (p : Tp) : Int :=
 if !(within p.ticket 1 9999 && within p.gate 0 2 && within p.seq 1 99 && within p.time 0 9999) then 3
 else if !isZone p.zone then 9 else 0

def place (t : Tk) (time zone : Int) : Int :=
 if time < t.frm ∨ t.til < time then 8
 else if t.zones / zone % 2 = 0 then 9 else 0

def goesOn (last : Option Int) (time : Int) : Bool :=
 match last with
 | none => false
 | some s => decide (s ≤ time) && decide (time < s + 60)

/- last: the time of the last ride; none: there was none -/
def judge (t : Tk) (last : Option Int) (rides : Int) (p : Tp) : Int × Int :=
 let e := place t p.time p.zone
 if e ≠ 0 then (3, e)
 else if goesOn last p.time then (2, 0)
 else if t.kind = 1 ∧ 1 ≤ rides ∨ t.kind = 3 ∧ t.rides ≤ rides then (3, 10)
 else (1, 0)

def lastTime (was : List Tp) : Option Int := was.getLast?.map (·.time)

/- ledgers -/
def noRise (prev : Option Int) (n : Int) : Bool :=
 match prev with
 | none => false
 | some b => decide (n ≤ b)

def ckTickets : Option Int → List Tk → Int
 | _, [] => 0
 | prev, t :: l =>
  if ckTicket t ≠ 0 then ckTicket t
  else if noRise prev t.id then 4
  else ckTickets (some t.id) l

def isRide (id : Int) (x : Tp × Int) : Bool := x.1.ticket == id && x.2 == 1

def ridesOf (taps : List Tp) (vs : List Int) (id : Int) : List Tp :=
 ((taps.zip vs).filter (isRide id)).map (·.1)

end Lb

/- A slice that reads as a list of records, nil let in. -/
namespace Go.Proofs.YteojjbhadgkfgaaDoor
set_option linter.unusedSimpArgs false
set_option linter.unusedVariables false
set_option maxRecDepth 100000
open Go Go.RowKit Lb

/-- The slice value v holds the records l, each of k cells. -/
def RdL {α : Type} [Inhabited α] (k : Nat) (enc : α → Array Value) (w : World) (v : Value) (l : List α) : Prop :=
 ∃ A c, v = .slice A l.length c ∧ l.length ≤ c ∧ c ≤ maxLen ∧ (0 < l.length → ∃ b o, A = some ⟨b, o, none⟩ ∧ b < w.heap.size ∧
  ∀ j, j < l.length → ∀ i u, (enc l[j]!)[i]? = some u → w.cell? ⟨b, o + j * k + i, none⟩ = some u)

section
variable {α : Type} [Inhabited α] {k : Nat} {enc : α → Array Value} {w w' : World} {v : Value} {l : List α}
theorem RdL.nil : RdL k enc w (.slice none 0 0) ([] : List α) := ⟨none, 0, rfl, Nat.le_refl _, Nat.zero_le _, fun h => by simp at h⟩
theorem RdL.keep (h : RdL k enc w v l) (hk : ∀ b o, b < w.heap.size → w'.cell? ⟨b, o, none⟩ = w.cell? ⟨b, o, none⟩) (hs : w.heap.size ≤ w'.heap.size) : RdL k enc w' v l := by
 obtain ⟨A, c, hv, h1, h2, h3⟩ := h
 refine ⟨A, c, hv, h1, h2, fun hn => ?_⟩
 obtain ⟨b, o, hA, hb, hc⟩ := h3 hn
 exact ⟨b, o, hA, by omega, fun j hj i u hu => (hk b _ hb).trans (hc j hj i u hu)⟩
theorem RdL.ext (h : RdL k enc w v l) (he : Ext w w') : RdL k enc w' v l := h.keep he.cells he.size
end
end Go.Proofs.YteojjbhadgkfgaaDoor

/- ticket.Check, its twin in the references, and within compute the plain check of a ticket. -/
namespace Go.Proofs.YteojjbhadgkfgaaDoor
set_option linter.unusedSimpArgs false
set_option linter.unusedVariables false
open Go Go.RowKit Lb

def tkc (t : Tk) : Array Value := #[.int .i64 t.id, .int .i64 t.kind, .int .i64 t.frm, .int .i64 t.til, .int .i64 t.zones, .int .i64 t.rides]

theorem ticket_within (n a b : Int) (w : World) :
  Calls Tryd.prog 86 #[.int .i64 n, .int .i64 a, .int .i64 b] w fun e w' => e = .returned (.bool (within n a b)) ∧ w = w' := by
 go_enter Tryd.func86, Tryd.ntmps86
 go_wp2
 all_goals
  go_ret
  exact ⟨ret_bool (by simp [within, *] <;> omega), rfl⟩

theorem ticket_Check (t : Tk) (w : World) :
  Calls Tryd.prog 71 #[.agg (tkc t)] w fun e w' => e = .returned (.int .i64 (ckTicket t)) ∧ Ext w w' := by
 obtain ⟨a, b, c, d, e, f⟩ := t
 unfold tkc
 go_enter Tryd.func71, Tryd.ntmps71
 go_wp2_with (go_at_call 86; refine (ticket_within _ _ _ _).mono ?_; rintro e w' ⟨rfl, rfl⟩)
 all_goals
  go_ret
  refine ⟨ret_int ?_, (Ext.refl _).alloc _⟩
  simp_all [ckTicket]
end Go.Proofs.YteojjbhadgkfgaaDoor

/- rule.Check, Zone, Place and their twins in the references compute the plain checks. -/
namespace Go.Proofs.YteojjbhadgkfgaaDoor
set_option linter.unusedSimpArgs false
set_option linter.unusedVariables false
set_option maxRecDepth 100000
open Go Go.RowKit Lb

def tpc (p : Tp) : Array Value := #[.int .i64 p.ticket, .int .i64 p.gate, .int .i64 p.seq, .int .i64 p.time, .int .i64 p.zone]
def inc (n : Int) : Array Value := #[.int .i64 n]

theorem rule_within (n a b : Int) (w : World) :
  Calls Tryd.prog 87 #[.int .i64 n, .int .i64 a, .int .i64 b] w fun e w' => e = .returned (.bool (within n a b)) ∧ w = w' := by
 go_enter Tryd.func87, Tryd.ntmps87
 go_wp2
 all_goals
  go_ret
  exact ⟨ret_bool (by simp [within, *] <;> omega), rfl⟩

/-- the place of a number; -1: it is not there -/
def idxInt (l : List Int) (n : Int) : Int := match l.findIdx? (fun x => n == x) with
 | some i => i
 | none => -1

theorem findIdx_some {α : Type} {p : α → Bool} {l : List α} {k : Nat} (hk : k < l.length) (h0 : ∀ j (hj : j < k), p (l[j]'(by omega)) = false) (h1 : p l[k] = true) : l.findIdx? p = some k := by
 rw [List.findIdx?_eq_some_iff_getElem]
 exact ⟨hk, h1, fun j hj => by simp [h0 j hj]⟩
theorem findIdx_none {α : Type} {p : α → Bool} {l : List α} (h0 : ∀ j (hj : j < l.length), p l[j] = false) : l.findIdx? p = none := by
 rw [List.findIdx?_eq_none_iff]
 intro x hx
 obtain ⟨j, hj, rfl⟩ := List.mem_iff_getElem.1 hx
 exact h0 j hj

set_option maxHeartbeats 1000000 in
theorem slices_Index_int (l : List Int) (n : Int) (v : Value) (w : World) (hr : RdL 1 inc w v l) :
  Calls Tryd.prog 59 #[v, .int .i64 n] w fun e w' => e = .returned (.int .i64 (idxInt l n)) ∧ w = w' := by
 obtain ⟨A, c, rfl, h1, h2, h3⟩ := hr
 have hm : l.length ≤ 9223372036854775807 := by unfold maxLen at h2; omega
 have H3 := Lib.hid h3
 clear h3 h1 h2
 go_enter Tryd.func59, Tryd.ntmps59
 go_wp2
 go_loopg [4, 5, 8] l.length (fun gg _ _ s8 wr => wr = w ∧ ∃ k : Nat, k ≤ l.length ∧ l.length - k ≤ gg ∧ s8 = .int .i64 k ∧ Aside (∀ j (hj : j < k), (h : j < l.length) → (n == l[j]) = false))
 case atStart => exact ⟨rfl, 0, Nat.zero_le _, by omega, rfl, fun j hj => by omega⟩
 case round =>
  obtain ⟨rfl, k, hk, hg, rfl, HA⟩ := hrel
  by_cases hlt : k < l.length
  ·obtain ⟨b, o, rfl, hb, hc⟩ := H3.out (by omega)
   have hx := hc k hlt 0 (.int .i64 l[k]) (by simp [inc, hlt])
   simp only [Nat.mul_one, Nat.add_zero] at hx
   clear hc
   have HL := Lib.hid hlt
   have hlt' : (k : Int) < (l.length : Int) := by omega
   generalize hX : l[k] = x at hx
   have HX := Lib.hid hX
   clear hX
   by_cases hnx : (n == x) = true
   ·go_wp2
    go_ret
    refine ⟨ret_int ?_, rfl⟩
    unfold idxInt
    rw [findIdx_some HL.out (fun j hj => HA.out j hj (by omega)) (by rw [← HX.out] at hnx; exact hnx)]
   ·have hnx' : (n == x) = false := by simpa using hnx
    clear hnx
    go_wp2
    go_roundg (l.length - (k + 1))
    case measure => omega
    case rel =>
     refine ⟨rfl, k + 1, by omega, by omega, by go_num, fun j hj h => ?_⟩
     by_cases e : j = k
     ·subst e; rw [← HX.out] at hnx'; exact hnx'
     ·exact HA.out j (by omega) h
  ·have hkl : k = l.length := by omega
   have hge : ¬ (k : Int) < (l.length : Int) := by omega
   have HK := Lib.hid hkl
   clear hkl
   go_wp2
   go_ret
   refine ⟨ret_int ?_, rfl⟩
   unfold idxInt
   rw [findIdx_none (fun j hj => HA.out j (by have := HK.out; omega) hj)]
end Go.Proofs.YteojjbhadgkfgaaDoor

/- Rows of records that the call itself made: how they read. -/
namespace Go.Proofs.YteojjbhadgkfgaaDoor
set_option linter.unusedSimpArgs false
set_option linter.unusedVariables false
set_option maxRecDepth 100000
open Go Go.RowKit Lb

/-- the cells of a list of records -/
def encs {α : Type} (enc : α → Array Value) (l : List α) : List Value := l.flatMap fun x => (enc x).toList
section
variable {α : Type} {enc : α → Array Value} {k : Nat}
theorem encs_cons (x : α) (l : List α) : encs enc (x :: l) = (enc x).toList ++ encs enc l := rfl
theorem encs_append (a b : List α) : encs enc (a ++ b) = encs enc a ++ encs enc b := by simp [encs]
theorem encs_length (hk : ∀ x, (enc x).size = k) (l : List α) : (encs enc l).length = l.length * k := by
 induction l with
 | nil => simp [encs]
 | cons x l ih => rw [encs_cons, List.length_append, ih, Array.length_toList, hk, List.length_cons, Nat.add_mul]; omega
theorem encs_get (hk : ∀ x, (enc x).size = k) (l : List α) (j i : Nat) (hj : j < l.length) (hi : i < k) : (encs enc l)[j * k + i]? = (enc l[j])[i]? := by
 induction l generalizing j with
 | nil => simp at hj
 | cons x l ih =>
  rw [encs_cons]
  cases j with
  | zero => rw [List.getElem?_append_left (by rw [Array.length_toList, hk]; omega)]; simp
  | succ j =>
   rw [List.getElem?_append_right (by rw [Array.length_toList, hk, Nat.succ_mul]; omega), Array.length_toList, hk]
   rw [show (j + 1) * k + i - k = j * k + i from by rw [Nat.succ_mul]; omega]
   exact ih j (by simpa using hj)
end

/-- The call's own row, from block base on, holds the records l. -/
def OwnL {α : Type} (e : TypeId) (k : Nat) (enc : α → Array Value) (base : Nat) (w : World) (v : Value) (l : List α) : Prop :=
 w.ownsRow base e k v l.length (encs enc l)

section
variable {α : Type} {e : TypeId} {k base : Nat} {enc : α → Array Value} {w w' : World} {v : Value} {l : List α}
theorem OwnL.rd [Inhabited α] (h : OwnL e k enc base w v l) (hk : ∀ x, (enc x).size = k) : RdL k enc w v l := by
 obtain ⟨h1, h2⟩ := h
 rcases h2 with ⟨rfl, h0⟩ | ⟨g, cap, cur, rfl, hb, hg, hn, hm, hs, ht⟩
 ·have : l = [] := List.eq_nil_of_length_eq_zero h0
  subst this
  exact RdL.nil
 ·refine ⟨_, cap, rfl, hn, hm, fun _ => ⟨g, 0, rfl, ?_, fun j hj i u hu => ?_⟩⟩
  ·exact (Array.getElem?_eq_some_iff.1 hg).1
  ·have hi : i < k := by have := (Array.getElem?_eq_some_iff.1 hu).1; rwa [hk] at this
   rw [Nat.zero_add, cell_of_row w g _ cur e (0, 0) hg]
   have hx : (encs enc l)[j * k + i]? = some u := by
    rw [encs_get hk l j i hj hi]
    rwa [show l[j]! = l[j] from by simp [hj]] at hu
   rw [← ht] at hx
   rw [List.getElem?_take] at hx
   split at hx
   ·rw [← Array.getElem?_toList]; exact hx
   ·cases hx
theorem OwnL.ext (h : OwnL e k enc base w v l) (he : Ext w w') : OwnL e k enc base w' v l := by
 unfold OwnL at h ⊢
 refine h.kept (row := none) ⟨he.os, he.tape, he.output, Ext.size he, fun i hi _ => he.block i hi⟩ ?_
 cases hv : v.ownBlock <;> simp
theorem OwnL.lower {b2 : Nat} (h : OwnL e k enc base w v l) (hb : b2 ≤ base) : OwnL e k enc b2 w v l := ownsRow_base h hb
theorem OwnL.nil : OwnL e k enc base w (.slice none 0 0) ([] : List α) := World.ownsRow_nil _ _ _ _
theorem OwnL.drew (h : OwnL e k enc base w v l) : OwnL e k enc base w.drew v l := h
theorem OwnL.drewN (n : Nat) (h : OwnL e k enc base w v l) : OwnL e k enc base (w.drewN n) v l := h
theorem OwnL.alloc (o : Obj) (h : OwnL e k enc base w v l) : OwnL e k enc base (w.alloc o) v l := World.ownsRow.alloc h o
theorem OwnL.set {a : Addr} (h : OwnL e k enc base w v l) (ha : a.block < base) (u : Value) : OwnL e k enc base (w.setCell a u) v l :=
 ownsRow_setCell h (fun q => by have := h.lt _ q; omega) u
theorem OwnL.setC {a : Addr} {u : Value} (ha : a.block < base) (h : OwnL e k enc base w v l) : OwnL e k enc base (w.setCell a u) v l := h.set ha u
theorem OwnL.form (h : OwnL e k enc base w v l) : ∃ A c, v = .slice A l.length c := by
 obtain ⟨h1, h2⟩ := h
 rcases h2 with ⟨rfl, h0⟩ | ⟨g, cap, cur, rfl, -⟩
 ·exact ⟨none, 0, by rw [h0]⟩
 ·exact ⟨_, cap, rfl⟩
end
theorem tkc_size (t : Tk) : (tkc t).size = 6 := rfl
theorem tpc_size (p : Tp) : (tpc p).size = 5 := rfl
theorem inc_size (n : Int) : (inc n).size = 1 := rfl
theorem encs_inc (l : List Int) : encs inc l = l.map (Value.int .i64) := by
 induction l with
 | nil => rfl
 | cons x l ih => rw [encs_cons, ih]; rfl
end Go.Proofs.YteojjbhadgkfgaaDoor

/- Ledgers: what a tap is behind others, what a right ledger is, what comes of a tap and of a ticket: the plain side. -/
namespace Lb

/-- the first error -/
def eachE {α : Type} (f : α → Int) : List α → Int
 | [] => 0
 | x :: l => if f x ≠ 0 then f x else eachE f l
theorem eachE_cons {α : Type} (f : α → Int) (x : α) (l : List α) : eachE f (x :: l) = if f x ≠ 0 then f x else eachE f l := rfl
theorem eachE_ok {α : Type} {f : α → Int} {l : List α} : eachE f l = 0 ↔ ∀ x ∈ l, f x = 0 := by
 induction l with
 | nil => simp [eachE]
 | cons a l ih =>
  rw [eachE_cons]
  by_cases ha : f a = 0
  ·rw [if_neg (by simpa using ha), ih]
   simp [ha]
  ·rw [if_pos ha]
   simp [ha]
def sameNo (p x : Tp) : Bool := x.gate == p.gate && x.seq == p.seq
def ticketOf (tks : List Tk) (id : Int) : Option Tk := tks.find? (fun t => t.id == id)
/-- is the last one later? -/
def lateBy (taps : List Tp) (p : Tp) : Bool := match taps.getLast? with
 | none => false
 | some x => decide (p.time < x.time)
/-- what the judge says of a tap behind others -/
def judgeIn (t : Tk) (taps : List Tp) (vs : List Int) (p : Tp) : Int × Int :=
 judge t (lastTime (ridesOf taps vs p.ticket)) (ridesOf taps vs p.ticket).length p
/-- what a tap is behind others; else verdict 0, and why -/
def tapV (tks : List Tk) (taps : List Tp) (vs : List Int) (p : Tp) : Int × Int :=
 if ckTap p ≠ 0 then (0, ckTap p)
 else match ticketOf tks p.ticket with
  | none => (0, 5)
  | some t => if taps.any (sameNo p) then (0, 6) else if lateBy taps p then (0, 4) else judgeIn t taps vs p
/-- what is wrong with a tap of a ledger and its verdict -/
def ckTapAt (tks : List Tk) (taps : List Tp) (vs : List Int) (p : Tp) (v : Int) : Int :=
 if ckTap p ≠ 0 then ckTap p
 else match ticketOf tks p.ticket with
  | none => 5
  | some t => if taps.any (sameNo p) then 6 else if v ≠ 1 ∧ v ≠ 2 then 7 else if lateBy taps p then 4 else if (judgeIn t taps vs p).1 ≠ v then 4 else 0
/-- tap by tap; pre, pv: those ahead -/
def ckTaps (tks : List Tk) : List Tp → List Int → List Tp → List Int → Int
 | pre, pv, p :: l, v :: vl => if ckTapAt tks pre pv p v ≠ 0 then ckTapAt tks pre pv p v else ckTaps tks (pre ++ [p]) (pv ++ [v]) l vl
 | _, _, _, _ => 0
def ckLedger (l : Ld) : Int :=
 if 12 < l.tickets.length ∨ 60 < l.taps.length ∨ l.taps.length ≠ l.verdicts.length then 2
 else if ckTickets none l.tickets ≠ 0 then ckTickets none l.tickets
 else ckTaps l.tickets [] [] l.taps l.verdicts
def Right (l : Ld) : Prop := ckLedger l = 0

/- laws of these -/
theorem judge_cases (t : Tk) (last : Option Int) (r : Int) (p : Tp) : ((judge t last r p).1 = 1 ∧ (judge t last r p).2 = 0) ∨ ((judge t last r p).1 = 2 ∧ (judge t last r p).2 = 0) ∨ ((judge t last r p).1 = 3 ∧ (judge t last r p).2 ≠ 0) := by
 unfold judge
 by_cases h1 : place t p.time p.zone = 0
 ·simp only [h1, ne_eq, not_true_eq_false, if_false]
  split
  ·simp
  ·split <;> simp
 ·simp [h1]
theorem tapV_ok {tks : List Tk} {taps : List Tp} {vs : List Int} {p : Tp} (h : (tapV tks taps vs p).2 = 0) :
  ckTap p = 0 ∧ ∃ t, ticketOf tks p.ticket = some t ∧ taps.any (sameNo p) = false ∧ lateBy taps p = false ∧ tapV tks taps vs p = judgeIn t taps vs p ∧ ((tapV tks taps vs p).1 = 1 ∨ (tapV tks taps vs p).1 = 2) := by
 unfold tapV at h ⊢
 by_cases h1 : ckTap p = 0
 ·simp only [h1, ne_eq, not_true_eq_false, if_false] at h ⊢
  cases ht : ticketOf tks p.ticket with
  | none => simp [ht] at h
  | some t =>
   simp only [ht] at h ⊢
   cases ha : taps.any (sameNo p) with
   | true => simp [ha] at h
   | false =>
    cases hl : lateBy taps p with
    | true => simp [ha, hl] at h
    | false =>
     simp only [ha, hl, Bool.false_eq_true, if_false] at h ⊢
     refine ⟨trivial, t, rfl, by trivial, by trivial, rfl, ?_⟩
     have := judge_cases t (lastTime (ridesOf taps vs p.ticket)) (ridesOf taps vs p.ticket).length p
     unfold judgeIn at h ⊢
     omega
 ·simp [h1] at h
theorem tapV_of_ckTapAt {tks : List Tk} {taps : List Tp} {vs : List Int} {p : Tp} {v : Int} (h : ckTapAt tks taps vs p v = 0) : tapV tks taps vs p = (v, 0) ∧ (v = 1 ∨ v = 2) := by
 unfold ckTapAt at h
 unfold tapV
 by_cases h1 : ckTap p = 0
 ·simp only [h1, ne_eq, not_true_eq_false, if_false] at h ⊢
  cases ht : ticketOf tks p.ticket with
  | none => simp [ht] at h
  | some t =>
   simp only [ht] at h ⊢
   cases ha : taps.any (sameNo p) with
   | true => simp [ha] at h
   | false =>
    by_cases hv : v ≠ 1 ∧ v ≠ 2
    ·simp [ha, hv] at h
    ·cases hl : lateBy taps p with
     | true => simp only [ha, hl, Bool.false_eq_true, if_false, if_neg hv] at h; simp at h
     | false =>
      simp only [ha, hl, Bool.false_eq_true, if_false, if_neg hv] at h ⊢
      by_cases hj : (judgeIn t taps vs p).1 = v
      ·have := judge_cases t (lastTime (ridesOf taps vs p.ticket)) (ridesOf taps vs p.ticket).length p
       have hv2 : v = 1 ∨ v = 2 := by omega
       refine ⟨?_, hv2⟩
       unfold judgeIn at hj ⊢
       have h2 : (judge t (lastTime (ridesOf taps vs p.ticket)) (↑(ridesOf taps vs p.ticket).length) p).2 = 0 := by omega
       rw [← hj, ← h2]
      ·simp [hj] at h
 ·simp [h1] at h
theorem ckTaps_snoc (tks : List Tk) (p : Tp) (v : Int) : ∀ (l : List Tp) (vl : List Int) (pre : List Tp) (pv : List Int), l.length = vl.length →
  ckTaps tks pre pv (l ++ [p]) (vl ++ [v]) = if ckTaps tks pre pv l vl ≠ 0 then ckTaps tks pre pv l vl else ckTapAt tks (pre ++ l) (pv ++ vl) p v
 | [], [], pre, pv, _ => by
  by_cases hc : ckTapAt tks pre pv p v = 0 <;> simp [ckTaps, hc]
 | x :: l, y :: vl, pre, pv, h => by
  have ih := ckTaps_snoc tks p v l vl (pre ++ [x]) (pv ++ [y]) (by simpa using h)
  by_cases hc : ckTapAt tks pre pv x y = 0
  ·simp only [List.cons_append, ckTaps, hc, ne_eq, not_true_eq_false, if_false, ih]
   simp
  ·simp [List.cons_append, ckTaps, hc]
 | [], _ :: _, _, _, h => by simp at h
 | _ :: _, [], _, _, h => by simp at h
theorem right_iff {l : Ld} : Right l ↔ l.tickets.length ≤ 12 ∧ l.taps.length ≤ 60 ∧ l.taps.length = l.verdicts.length ∧ ckTickets none l.tickets = 0 ∧ ckTaps l.tickets [] [] l.taps l.verdicts = 0 := by
 unfold Right ckLedger
 by_cases h1 : 12 < l.tickets.length ∨ 60 < l.taps.length ∨ l.taps.length ≠ l.verdicts.length
 ·rw [if_pos h1]
  constructor
  ·intro h; simp at h
  ·intro h; omega
 ·rw [if_neg h1]
  by_cases h2 : ckTickets none l.tickets = 0
  ·rw [if_neg (by simpa using h2)]
   constructor
   ·intro h; exact ⟨by omega, by omega, by omega, h2, h⟩
   ·intro h; exact h.2.2.2.2
  ·rw [if_pos h2]
   constructor
   ·intro h; exact absurd h h2
   ·intro h; exact absurd h.2.2.2.1 h2
/-- each beginning of a right ledger is one, and its next tap leads on -/
theorem right_init {tks : List Tk} {taps : List Tp} {vs : List Int} {p : Tp} {v : Int} (h : Right ⟨tks, taps ++ [p], vs ++ [v]⟩) : Right ⟨tks, taps, vs⟩ ∧ tapV tks taps vs p = (v, 0) ∧ (v = 1 ∨ v = 2) := by
 obtain ⟨h1, h2, h3, h4, h5⟩ := right_iff.1 h
 simp only [List.length_append, List.length_singleton] at h1 h2 h3 h4 h5
 rw [ckTaps_snoc tks _ _ _ _ _ _ (by omega)] at h5
 by_cases hc : ckTaps tks [] [] taps vs = 0
 ·rw [if_neg (by simpa using hc)] at h5
  obtain ⟨h6, h7⟩ := tapV_of_ckTapAt h5
  simp only [List.nil_append] at h6
  exact ⟨right_iff.2 ⟨h1, by simp only; omega, by simp only; omega, h4, hc⟩, h6, h7⟩
 ·rw [if_pos hc] at h5
  exact absurd h5 hc
end Lb

/- Small words: the first place at which a predicate holds; the first error of a list; how a slice's records are read. -/
namespace Go.Proofs.YteojjbhadgkfgaaDoor
set_option linter.unusedSimpArgs false
set_option linter.unusedVariables false
set_option maxRecDepth 100000
open Go Go.RowKit Lb

section
variable {α : Type} [Inhabited α] {k : Nat} {enc : α → Array Value} {w w' : World} {v : Value} {l : List α}
/-- record j of a slice: where it lies -/
theorem RdL.at_ (h : RdL k enc w v l) {j : Nat} (hj : j < l.length) : ∃ b o c, v = .slice (some ⟨b, o, none⟩) l.length c ∧ b < w.heap.size ∧ ∀ i u, (enc l[j])[i]? = some u → w.cell? ⟨b, o + j * k + i, none⟩ = some u := by
 obtain ⟨A, c, rfl, h1, h2, h3⟩ := h
 obtain ⟨b, o, rfl, hb, hc⟩ := h3 (by omega)
 refine ⟨b, o, c, rfl, hb, fun i u hu => hc j hj i u ?_⟩
 rwa [show l[j]! = l[j] from by simp [hj]]
theorem RdL.form (h : RdL k enc w v l) : ∃ A c, v = .slice A l.length c ∧ l.length ≤ c ∧ c ≤ maxLen := by
 obtain ⟨A, c, rfl, h1, h2, -⟩ := h
 exact ⟨A, c, rfl, h1, h2⟩
/-- the beginning of a slice -/
theorem RdL.take {A : Option Addr} {n c : Nat} (h : RdL k enc w (.slice A n c) l) (j : Nat) (hj : j ≤ l.length) : RdL k enc w (.slice A j c) (l.take j) := by
 obtain ⟨A', c', hv, h1, h2, h3⟩ := h
 injection hv with hA hn hc
 subst hA hn hc
 have hl : (l.take j).length = j := by rw [List.length_take]; omega
 refine ⟨A, c, by rw [hl], by omega, h2, fun hp => ?_⟩
 obtain ⟨b, o, hA, hb, hcl⟩ := h3 (by omega)
 refine ⟨b, o, hA, hb, fun i hi u x hx => hcl i (by omega) u x ?_⟩
 have h1 : (l.take j)[i]! = l[i]! := by
  rw [hl] at hi
  have h3 : i < l.length := by omega
  simp [h3, hi]
 rwa [h1] at hx
end
def ixBy {α : Type} (p : α → Bool) (l : List α) : Int := match l.findIdx? p with
 | some i => i
 | none => -1

theorem ixBy_any {α : Type} (p : α → Bool) (l : List α) : decide (0 ≤ ixBy p l) = l.any p := by
 unfold ixBy
 cases hf : l.findIdx? p with
 | none =>
  rw [List.findIdx?_eq_none_iff] at hf
  simp only [Int.reduceNeg, Int.reduceLE, decide_false]
  symm
  rw [List.any_eq_false]
  intro x hx
  simp [hf x hx]
 | some i =>
  rw [List.findIdx?_eq_some_iff_getElem] at hf
  obtain ⟨h1, h2, _⟩ := hf
  simp only [Int.natCast_nonneg, decide_true]
  symm
  rw [List.any_eq_true]
  exact ⟨_, List.getElem_mem h1, h2⟩

theorem take_snoc_get {α : Type} (l : List α) (k : Nat) (h : k < l.length) : l.take (k + 1) = l.take k ++ [l[k]] := List.take_succ_eq_append_getElem h
end Go.Proofs.YteojjbhadgkfgaaDoor

/- slices.IndexFunc over tickets, at whatever predicate. -/
namespace Go.Proofs.YteojjbhadgkfgaaDoor
set_option linter.unusedSimpArgs false
set_option linter.unusedVariables false
set_option maxRecDepth 100000
open Go Go.RowKit Lb

set_option maxHeartbeats 2000000 in
theorem IndexFunc_tk (p : Tk → Bool) (g : Nat) (lb : Array Value) (eg : ∀ args w, (callFunc g args).run Tryd.prog w = .ok (.enter g args) w) (l : List Tk) (v : Value) (w : World) (hr : RdL 6 tkc w v l)
  (hp : ∀ W x, Ext w W → Calls Tryd.prog g (#[.agg (tkc x)] ++ lb) W fun e w' => e = .returned (.bool (p x)) ∧ Ext W w') :
  Calls Tryd.prog 46 #[v, .func (.func g) #[] lb] w fun e w' => e = .returned (.int .i64 (ixBy p l)) ∧ Ext w w' := by
 obtain ⟨A, c, rfl, h1, h2, h3⟩ := hr
 have hm : l.length ≤ 9223372036854775807 := by unfold maxLen at h2; omega
 have H3 := Lib.hid h3
 have HP := Lib.hid hp
 clear h3 h1 h2 hp
 go_enter Tryd.func46, Tryd.ntmps46
 go_wp2
 go_loopg [4, 5, 8] l.length (fun gg _ _ s8 wr => ∃ k : Nat, k ≤ l.length ∧ l.length - k ≤ gg ∧ s8 = .int .i64 k ∧ Aside (Ext w wr) ∧ Aside (∀ j (hj : j < k), (h : j < l.length) → p l[j] = false))
 case atStart => exact ⟨0, Nat.zero_le _, by omega, rfl, Ext.refl _, fun j hj => by omega⟩
 case round =>
  obtain ⟨k, hk, hg, rfl, HE, HA⟩ := hrel
  by_cases hlt : k < l.length
  ·obtain ⟨b, o, rfl, hb, hc⟩ := H3.out (by omega)
   have hbr : b < wr.heap.size := Nat.lt_of_lt_of_le hb HE.out.size
   have hcr : ∀ i u, (tkc l[k]!)[i]? = some u → wr.cell? ⟨b, o + k * 6 + i, none⟩ = some u := fun i u hu => (HE.out.cells b _ hb).trans (hc k hlt i u hu)
   clear hc
   have hkk : l[k]! = l[k] := by simp [hlt]
   rw [hkk] at hcr
   have HL := Lib.hid hlt
   have hlt' : (k : Int) < (l.length : Int) := by omega
   generalize hX : l[k] = x at hcr
   have HX := Lib.hid hX
   clear hX hkk
   have hcall := HP.out wr x HE.out
   obtain ⟨x0, x1, x2, x3, x4, x5⟩ := x
   have c0 := hcr 0 _ rfl
   have c1 := hcr 1 _ rfl
   have c2 := hcr 2 _ rfl
   have c3 := hcr 3 _ rfl
   have c4 := hcr 4 _ rfl
   have c5 := hcr 5 _ rfl
   simp only [Nat.add_zero] at c0
   clear hcr
   unfold tkc at hcall
   cases hq : p ⟨x0, x1, x2, x3, x4, x5⟩ with
   | true =>
    rw [hq] at hcall
    have HC := Lib.hid hcall
    have HQ := Lib.hid hq
    clear hcall hq
    go_wp2_with (go_at_fn g; refine (HC.out).mono ?_; rintro e w1 ⟨rfl, h1⟩)
    go_ret
    refine ⟨ret_int ?_, HE.out.trans h1⟩
    unfold ixBy
    rw [findIdx_some HL.out (fun j hj => HA.out j hj (by omega)) (by have := HQ.out; rw [← HX.out] at this; exact this)]
   | false =>
    rw [hq] at hcall
    have HC := Lib.hid hcall
    have HQ := Lib.hid hq
    clear hcall hq
    go_wp2_with (go_at_fn g; refine (HC.out).mono ?_; rintro e w1 ⟨rfl, h1⟩)
    go_roundg (l.length - (k + 1))
    case measure => omega
    case rel =>
     refine ⟨k + 1, by omega, by omega, by go_num, HE.out.trans h1, fun j hj h => ?_⟩
     by_cases e : j = k
     ·subst e; have := HQ.out; rw [← HX.out] at this; exact this
     ·exact HA.out j (by omega) h
  ·have hkl : k = l.length := by omega
   have hge : ¬ (k : Int) < (l.length : Int) := by omega
   have HK := Lib.hid hkl
   clear hkl
   go_wp2
   go_ret
   refine ⟨ret_int ?_, HE.out⟩
   unfold ixBy
   rw [findIdx_none (fun j hj => HA.out j (by have := HK.out; omega) hj)]

end Go.Proofs.YteojjbhadgkfgaaDoor

/- slices.IndexFunc and ContainsFunc over taps, at whatever predicate. -/
namespace Go.Proofs.YteojjbhadgkfgaaDoor
set_option linter.unusedSimpArgs false
set_option linter.unusedVariables false
set_option maxRecDepth 100000
open Go Go.RowKit Lb

set_option maxHeartbeats 2000000 in
theorem IndexFunc_tpx (p : Tp → Bool) (g : Nat) (lb : Array Value) (eg : ∀ args w, (callFunc g args).run Tryd.prog w = .ok (.enter g args) w) (l : List Tp) (v : Value) (w : World) (hr : RdL 5 tpc w v l)
  (hp : ∀ W x, Ext w W → Calls Tryd.prog g (#[.agg (tpc x)] ++ lb) W fun e w' => e = .returned (.bool (p x)) ∧ Ext W w') :
  Calls Tryd.prog 89 #[v, .func (.func g) #[] lb] w fun e w' => e = .returned (.int .i64 (ixBy p l)) ∧ Ext w w' := by
 obtain ⟨A, c, rfl, h1, h2, h3⟩ := hr
 have hm : l.length ≤ 9223372036854775807 := by unfold maxLen at h2; omega
 have H3 := Lib.hid h3
 have HP := Lib.hid hp
 clear h3 h1 h2 hp
 go_enter Tryd.func89, Tryd.ntmps89
 go_wp2
 go_loopg [4, 5, 8] l.length (fun gg _ _ s8 wr => ∃ k : Nat, k ≤ l.length ∧ l.length - k ≤ gg ∧ s8 = .int .i64 k ∧ Aside (Ext w wr) ∧ Aside (∀ j (hj : j < k), (h : j < l.length) → p l[j] = false))
 case atStart => exact ⟨0, Nat.zero_le _, by omega, rfl, Ext.refl _, fun j hj => by omega⟩
 case round =>
  obtain ⟨k, hk, hg, rfl, HE, HA⟩ := hrel
  by_cases hlt : k < l.length
  ·obtain ⟨b, o, rfl, hb, hc⟩ := H3.out (by omega)
   have hbr : b < wr.heap.size := Nat.lt_of_lt_of_le hb HE.out.size
   have hcr : ∀ i u, (tpc l[k]!)[i]? = some u → wr.cell? ⟨b, o + k * 5 + i, none⟩ = some u := fun i u hu => (HE.out.cells b _ hb).trans (hc k hlt i u hu)
   clear hc
   have hkk : l[k]! = l[k] := by simp [hlt]
   rw [hkk] at hcr
   have HL := Lib.hid hlt
   have hlt' : (k : Int) < (l.length : Int) := by omega
   generalize hX : l[k] = x at hcr
   have HX := Lib.hid hX
   clear hX hkk
   have hcall := HP.out wr x HE.out
   obtain ⟨x0, x1, x2, x3, x4⟩ := x
   have c0 := hcr 0 _ rfl
   have c1 := hcr 1 _ rfl
   have c2 := hcr 2 _ rfl
   have c3 := hcr 3 _ rfl
   have c4 := hcr 4 _ rfl
   simp only [Nat.add_zero] at c0
   clear hcr
   unfold tpc at hcall
   cases hq : p ⟨x0, x1, x2, x3, x4⟩ with
   | true =>
    rw [hq] at hcall
    have HC := Lib.hid hcall
    have HQ := Lib.hid hq
    clear hcall hq
    go_wp2_with (go_at_fn g; refine (HC.out).mono ?_; rintro e w1 ⟨rfl, h1⟩)
    go_ret
    refine ⟨ret_int ?_, HE.out.trans h1⟩
    unfold ixBy
    rw [findIdx_some HL.out (fun j hj => HA.out j hj (by omega)) (by have := HQ.out; rw [← HX.out] at this; exact this)]
   | false =>
    rw [hq] at hcall
    have HC := Lib.hid hcall
    have HQ := Lib.hid hq
    clear hcall hq
    go_wp2_with (go_at_fn g; refine (HC.out).mono ?_; rintro e w1 ⟨rfl, h1⟩)
    go_roundg (l.length - (k + 1))
    case measure => omega
    case rel =>
     refine ⟨k + 1, by omega, by omega, by go_num, HE.out.trans h1, fun j hj h => ?_⟩
     by_cases e : j = k
     ·subst e; have := HQ.out; rw [← HX.out] at this; exact this
     ·exact HA.out j (by omega) h
  ·have hkl : k = l.length := by omega
   have hge : ¬ (k : Int) < (l.length : Int) := by omega
   have HK := Lib.hid hkl
   clear hkl
   go_wp2
   go_ret
   refine ⟨ret_int ?_, HE.out⟩
   unfold ixBy
   rw [findIdx_none (fun j hj => HA.out j (by have := HK.out; omega) hj)]

set_option maxHeartbeats 2000000 in
theorem ContainsFunc_tpx (p : Tp → Bool) (g : Nat) (lb : Array Value) (eg : ∀ args w, (callFunc g args).run Tryd.prog w = .ok (.enter g args) w) (l : List Tp) (v : Value) (w : World) (hr : RdL 5 tpc w v l)
  (hp : ∀ W x, Ext w W → Calls Tryd.prog g (#[.agg (tpc x)] ++ lb) W fun e w' => e = .returned (.bool (p x)) ∧ Ext W w') :
  Calls Tryd.prog 73 #[v, .func (.func g) #[] lb] w fun e w' => e = .returned (.bool (l.any p)) ∧ Ext w w' := by
 have hi := IndexFunc_tpx p g lb eg l v w hr hp
 rw [← ixBy_any]
 generalize ixBy p l = r at hi
 have HI := Lib.hid hi
 clear hi hp hr eg
 go_enter Tryd.func73, Tryd.ntmps73
 go_wp2_with fail
 refine (HI.out).mono ?_
 rintro e w1 ⟨rfl, h1⟩
 have H1 := Lib.hid h1
 clear h1
 go_wp2_with fail
 all_goals
  go_ret
  exact ⟨ret_bool (by simp_all), H1.out⟩
end Go.Proofs.YteojjbhadgkfgaaDoor

/- rule.Zone, Check, Place and their twins in the references compute the plain checks of taps. -/
namespace Go.Proofs.YteojjbhadgkfgaaDoor
set_option linter.unusedSimpArgs false
set_option linter.unusedVariables false
set_option maxRecDepth 100000
open Go Go.RowKit Lb

/-- a row that the call itself laid reads as numbers -/
theorem RdL.ints {w : World} {g : Nat} (l : List Int) (hm : l.length ≤ maxLen) (hg : g < w.heap.size) (h : ∀ o, w.cell? ⟨g, o, none⟩ = (l.map (Value.int .i64))[o]?) : RdL 1 inc w (.slice (some ⟨g, 0, none⟩) l.length l.length) l := by
 refine ⟨some ⟨g, 0, none⟩, l.length, rfl, Nat.le_refl _, hm, fun _ => ⟨g, 0, rfl, hg, fun j hj i u hu => ?_⟩⟩
 have hi : i = 0 := by
  rcases Nat.eq_zero_or_pos i with h0 | h0
  ·exact h0
  ·exfalso
   have hsz := (Array.getElem?_eq_some_iff.1 hu).1
   simp only [inc, List.size_toArray, List.length_cons, List.length_nil] at hsz
   omega
 subst hi
 simp only [Nat.zero_add, Nat.mul_one, Nat.add_zero]
 rw [h j, List.getElem?_map, List.getElem?_eq_getElem hj]
 simp [inc, hj] at hu
 rw [← hu]; rfl

set_option maxHeartbeats 1000000 in
theorem slices_Contains_int (l : List Int) (n : Int) (v : Value) (w : World) (hr : RdL 1 inc w v l) :
  Calls Tryd.prog 21 #[v, .int .i64 n] w fun e w' => e = .returned (.bool (l.any (fun x => n == x))) ∧ w = w' := by
 have hi := slices_Index_int l n v
 have hx : (decide (0 ≤ idxInt l n)) = l.any (fun x => n == x) := by
  unfold idxInt
  cases hf : l.findIdx? (fun x => n == x) with
  | none =>
   rw [List.findIdx?_eq_none_iff] at hf
   simp only [Int.reduceNeg, Int.reduceLE, decide_false]
   symm
   rw [List.any_eq_false]
   intro x hx
   simp [hf x hx]
  | some i =>
   rw [List.findIdx?_eq_some_iff_getElem] at hf
   obtain ⟨h1, h2, _⟩ := hf
   simp only [Int.natCast_nonneg, decide_true]
   symm
   rw [List.any_eq_true]
   exact ⟨_, List.getElem_mem h1, h2⟩
 rw [← hx]
 generalize idxInt l n = r at hi
 have HI := Lib.hid (hi w hr)
 clear hi hx
 go_enter Tryd.func21, Tryd.ntmps21
 go_wp2_with fail
 refine (HI.out).mono ?_
 rintro e w1 ⟨rfl, rfl⟩
 go_wp2_with fail
 all_goals
  go_ret
  exact ⟨ret_bool (by simp_all), rfl⟩

set_option maxHeartbeats 1000000 in
theorem rule_Zone (n : Int) (w : World) :
  Calls Tryd.prog 88 #[.int .i64 n] w fun e w' => e = .returned (.bool (isZone n)) ∧ Ext w w' := by
 have hz : [(1 : Int), 2, 4, 8].any (fun x => n == x) = isZone n := by simp [isZone, Bool.or_assoc]
 rw [← hz]
 have HZ := fun (w : World) h => slices_Contains_int [1, 2, 4, 8] n (.slice (some ⟨w.heap.size, 0, none⟩) 4 4) (w.alloc (.cells #[.int .i64 1, .int .i64 2, .int .i64 4, .int .i64 8] 3)) h
 clear hz
 go_enter Tryd.func88, Tryd.ntmps88
 go_wp2_with fail
 refine (HZ w (RdL.ints [1, 2, 4, 8] (by unfold maxLen; simp) (by simp) (fun o => by rw [Row.new.2.1 o]; simp))).mono ?_
 rintro e w1 ⟨rfl, rfl⟩
 go_wp2_with fail
 go_ret
 refine ⟨ret_bool (by simp), ?_⟩
 exact extA

set_option maxHeartbeats 1000000 in
theorem rule_Check (p : Tp) (w : World) :
  Calls Tryd.prog 72 #[.agg (tpc p)] w fun e w' => e = .returned (.int .i64 (ckTap p)) ∧ Ext w w' := by
 obtain ⟨a, b, c, d, e⟩ := p
 unfold tpc
 go_enter Tryd.func72, Tryd.ntmps72
 go_wp2_with (first | (go_at_call 87; refine (rule_within _ _ _ _).mono ?_; rintro e w' ⟨rfl, rfl⟩) | (go_at_call 88; refine (rule_Zone _ _).mono ?_; rintro e w1 ⟨rfl, h1⟩; have H1 := Lib.hid h1; have hz1 := h1.size; clear h1; (try simp only [World.size_alloc, size_set, World.heap_drewN, size_drew] at hz1); apply Row.use (w := w1) (g := w.heap.size); (focus (exact rowA)); intro q1_0 f1_0 l1_0 R1_0; (try simp only [lSet] at q1_0 R1_0)))
 all_goals
  go_ret
  refine ⟨ret_int ?_, ?_⟩
  ·simp_all [ckTap]
  ·exact extA

end Go.Proofs.YteojjbhadgkfgaaDoor

/- rule.Place and the references' PlaceOf; the judge's methods. -/
namespace Go.Proofs.YteojjbhadgkfgaaDoor
set_option linter.unusedSimpArgs false
set_option linter.unusedVariables false
set_option maxRecDepth 100000
open Go Go.RowKit Lb

theorem zone_and_nat : ∀ n : Fin 16, ∀ z ∈ [1, 2, 4, 8], (bits .and .i64 ((n.val : Nat) : Int) z == 0) = decide ((n.val : Int) / z % 2 = 0) := by decide +kernel
theorem zone_and {n z : Int} (h0 : 0 ≤ n) (h1 : n < 16) (hz : isZone z = true) : (bits .and .i64 n z == 0) = decide (n / z % 2 = 0) := by
 obtain ⟨k, rfl⟩ := Int.eq_ofNat_of_zero_le h0
 have hz' : z ∈ [1, 2, 4, 8] := by simpa [isZone, or_assoc] using hz
 exact zone_and_nat ⟨k, by omega⟩ z hz'

set_option maxHeartbeats 1000000 in
theorem rule_Place (t : Tk) (time zone : Int) (w : World) (h0 : 0 ≤ t.zones) (h1 : t.zones < 16) (hz : isZone zone = true) :
  Calls Tryd.prog 99 #[.agg (tkc t), .int .i64 time, .int .i64 zone] w fun e w' => e = .returned (.int .i64 (place t time zone)) ∧ Ext w w' := by
 obtain ⟨a, b, c, d, x, f⟩ := t
 simp only at h0 h1
 have hb := zone_and h0 h1 hz
 clear h0 h1 hz
 unfold tkc
 go_enter Tryd.func99, Tryd.ntmps99
 go_wp2
 all_goals
  go_ret
  refine ⟨ret_int ?_, ?_⟩
  ·clear hb
   simp_all [place]
   try omega
  ·exact extA

end Go.Proofs.YteojjbhadgkfgaaDoor

/- The judge's methods. -/
namespace Go.Proofs.YteojjbhadgkfgaaDoor
set_option linter.unusedSimpArgs false
set_option linter.unusedVariables false
set_option maxRecDepth 100000
open Go Go.RowKit Lb

def spentB (t : Tk) (rides : Int) : Bool := decide (t.kind = 1 ∧ 1 ≤ rides ∨ t.kind = 3 ∧ t.rides ≤ rides)

/-- the cells of a judge -/
def jgc (t : Tk) (last : Option Addr) (rides : Int) : Array Value := #[.int .i64 t.id, .int .i64 t.kind, .int .i64 t.frm, .int .i64 t.til, .int .i64 t.zones, .int .i64 t.rides, .pointer last, .int .i64 rides]

set_option maxHeartbeats 1000000 in
theorem judge_spent (t : Tk) (last : Option Addr) (rides : Int) (g : Nat) (w : World) (hr : Row w g (jgc t last rides)) :
  Calls Tryd.prog 101 #[.pointer (some ⟨g, 0, none⟩)] w fun e w' => e = .returned (.bool (spentB t rides)) ∧ Ext w w' := by
 obtain ⟨a, b, c, d, x, f⟩ := t
 unfold jgc at hr
 have hq := hr.2.1
 clear hr
 have hsp : spentB ⟨a, b, c, d, x, f⟩ rides = ((b == 1 && decide (1 ≤ rides)) || (b == 3 && decide (f ≤ rides))) := by
  simp only [spentB, Bool.decide_or, Bool.decide_and]; rfl
 rw [hsp]
 clear hsp
 by_cases hk1 : b = 1
 ·subst hk1
  by_cases hr1 : 1 ≤ rides
  ·have hd : decide (1 ≤ rides) = true := by simpa using hr1
   go_enter Tryd.func101, Tryd.ntmps101
   go_wp2_with fail
   go_quiet (fail)
   go_wp2_with fail
   go_ret
   exact ⟨ret_bool (by simp_all), (Ext.refl _).drewN _⟩
  ·have hd : decide (1 ≤ rides) = false := by simpa using hr1
   clear hr1
   go_enter Tryd.func101, Tryd.ntmps101
   go_wp2_with fail
   go_quiet (fail)
   go_wp2_with fail
   go_ret
   exact ⟨ret_bool (by simp_all), (Ext.refl _).drewN _⟩
 ·have hk1' : (b == 1) = false := by simpa using hk1
  clear hk1
  by_cases hk3 : b = 3
  ·subst hk3
   by_cases hr1 : f ≤ rides
   ·have hd : decide (f ≤ rides) = true := by simpa using hr1
    go_enter Tryd.func101, Tryd.ntmps101
    go_wp2_with fail
    go_quiet (fail)
    go_wp2_with fail
    go_ret
    exact ⟨ret_bool (by simp_all), (Ext.refl _).drewN _⟩
   ·have hd : decide (f ≤ rides) = false := by simpa using hr1
    clear hr1
    go_enter Tryd.func101, Tryd.ntmps101
    go_wp2_with fail
    go_quiet (fail)
    go_wp2_with fail
    go_ret
    exact ⟨ret_bool (by simp_all), (Ext.refl _).drewN _⟩
  ·have hk3' : (b == 3) = false := by simpa using hk3
   clear hk3
   go_enter Tryd.func101, Tryd.ntmps101
   go_wp2_with fail
   go_quiet (fail)
   go_wp2_with fail
   go_ret
   exact ⟨ret_bool (by simp_all), (Ext.refl _).drewN _⟩

set_option maxHeartbeats 1000000 in
theorem judge_goesOn_no (t : Tk) (rides time : Int) (g : Nat) (w : World) (hr : Row w g (jgc t none rides)) :
  Calls Tryd.prog 100 #[.pointer (some ⟨g, 0, none⟩), .int .i64 time] w fun e w' => e = .returned (.bool (goesOn none time)) ∧ Ext w w' := by
 obtain ⟨a, b, c, d, x, f⟩ := t
 unfold jgc at hr
 have hq := hr.2.1
 clear hr
 go_enter Tryd.func100, Tryd.ntmps100
 go_wp2_with fail
 go_ret
 exact ⟨rfl, Ext.refl _⟩

set_option maxHeartbeats 1000000 in
theorem judge_goesOn_yes (t : Tk) (rides time s : Int) (g b0 o : Nat) (w : World) (hr : Row w g (jgc t (some ⟨b0, o, none⟩) rides)) (hs : w.cell? ⟨b0, o + 3, none⟩ = some (.int .i64 s))
  (h0 : 0 ≤ s) (h1 : s ≤ 9999) (h2 : 0 ≤ time) (h3 : time ≤ 9999) :
  Calls Tryd.prog 100 #[.pointer (some ⟨g, 0, none⟩), .int .i64 time] w fun e w' => e = .returned (.bool (goesOn (some s) time)) ∧ Ext w w' := by
 obtain ⟨a, b, c, d, x, f⟩ := t
 unfold jgc at hr
 have hq := hr.2.1
 clear hr
 go_enter Tryd.func100, Tryd.ntmps100
 go_wp2_with (go_at_call 87; refine (rule_within _ _ _ _).mono ?_; rintro e w' ⟨rfl, rfl⟩)
 go_ret
 refine ⟨ret_bool ?_, Ext.refl _⟩
 have e1 : (0 ≤ time - s) ↔ s ≤ time := by omega
 have e2 : (time - s ≤ 59) ↔ time < s + 60 := by omega
 simp only [within, goesOn, e1, e2]
end Go.Proofs.YteojjbhadgkfgaaDoor

/- The judge's answer, and rule.Raw; the references' JudgeOf. -/
namespace Go.Proofs.YteojjbhadgkfgaaDoor
set_option linter.unusedSimpArgs false
set_option linter.unusedVariables false
set_option maxRecDepth 100000
open Go Go.RowKit Lb

theorem judge_eq (t : Tk) (last : Option Int) (rides : Int) (p : Tp) : judge t last rides p =
  if place t p.time p.zone ≠ 0 then (3, place t p.time p.zone) else if goesOn last p.time = true then (2, 0) else if spentB t rides = true then (3, 10) else (1, 0) := by
 simp only [judge, spentB, decide_eq_true_eq]

set_option maxHeartbeats 2000000 in
theorem judge_say (t : Tk) (la : Option Addr) (last : Option Int) (rides : Int) (p : Tp) (g : Nat) (w : World) (hr : Row w g (jgc t la rides)) (h0 : 0 ≤ t.zones) (h1 : t.zones < 16) (hz : isZone p.zone = true)
  (hgo : ∀ w1, Ext w w1 → Calls Tryd.prog 100 #[.pointer (some ⟨g, 0, none⟩), .int .i64 p.time] w1 fun e w' => e = .returned (.bool (goesOn last p.time)) ∧ Ext w1 w') :
  Calls Tryd.prog 90 #[.pointer (some ⟨g, 0, none⟩), .agg (tpc p)] w fun e w' => e = .returned (.tuple #[.int .i64 (judge t last rides p).1, .int .i64 (judge t last rides p).2]) ∧ Ext w w' := by
 have hpl := fun w => rule_Place t p.time p.zone w h0 h1 hz
 have hsp := fun w h => judge_spent t la rides g w h
 rw [judge_eq]
 generalize place t p.time p.zone = r at hpl
 generalize goesOn last p.time = gb at hgo
 generalize spentB t rides = sb at hsp
 generalize hres : (if r ≠ 0 then ((3 : Int), r) else if gb = true then (2, 0) else if sb = true then (3, 10) else (1, 0)) = res
 have HQ := Lib.hid hres
 clear hres
 obtain ⟨a, b, c, d, x, f⟩ := t
 obtain ⟨pt, pg, ps, pti, pz⟩ := p
 have hq := hr.2.1
 have hfz := hr.2.2
 have hlt := hr.1
 have hlt1 : g < w.heap.size + 1 := by omega
 have HR := Lib.hid hr
 unfold jgc at hq
 unfold tkc at hpl
 unfold tpc
 simp only at hpl hgo
 have HP := Lib.hid hpl
 have HG := Lib.hid hgo
 have HS := Lib.hid hsp
 clear hpl hgo hsp hr h0 h1 hz
 go_enter Tryd.func90, Tryd.ntmps90
 go_wp2_with fail
 have hqa : ∀ o, (w.alloc (.cells #[.int .i64 pt, .int .i64 pg, .int .i64 ps, .int .i64 pti, .int .i64 pz] 62)).cell? ⟨g, o, none⟩ = (#[.int .i64 a, .int .i64 b, .int .i64 c, .int .i64 d, .int .i64 x, .int .i64 f, .pointer la, .int .i64 rides] : Array Value)[o]? := fun o => (cellA hlt).trans (hq o)
 have hqb : ∀ o, (w.alloc (.cells #[.int .i64 pt, .int .i64 pg, .int .i64 ps, .int .i64 pti, .int .i64 pz] 62)).cell? ⟨w.heap.size, o, none⟩ = (#[.int .i64 pt, .int .i64 pg, .int .i64 ps, .int .i64 pti, .int .i64 pz] : Array Value)[o]? := Row.new.2.1
 generalize hW : w.alloc (.cells #[.int .i64 pt, .int .i64 pg, .int .i64 ps, .int .i64 pti, .int .i64 pz] 62) = W at hqa hqb ⊢
 have HW := Lib.hid hW
 clear hW
 go_still_tail 8, (by kernel_rfl)
 change wpList _ _ _ _ _ W.drew
 have HE0 : Hid (Ext w W.drew) := by rw [← HW.out]; exact ((Ext.refl w).alloc _).drew
 have HRb : Hid (Row W w.heap.size #[.int .i64 pt, .int .i64 pg, .int .i64 ps, .int .i64 pti, .int .i64 pz]) := by rw [← HW.out]; exact Row.new
 generalize hW2 : W.drew = W2 at HE0 ⊢
 have HRb2 : Hid (Row W2 w.heap.size #[.int .i64 pt, .int .i64 pg, .int .i64 ps, .int .i64 pti, .int .i64 pz]) := by rw [← hW2]; exact HRb.out.drew
 have HRa2 : Hid (Row W2 g (jgc ⟨a, b, c, d, x, f⟩ la rides)) := HR.out.ext HE0.out
 clear hW2 hqa hqb hq hfz HRb HW HR
 clear W
 go_wp2_with fail
 (refine (HP.out _).mono ?_; rintro e w1 ⟨rfl, h1⟩; have H1 := Lib.hid h1; have hz1 := h1.size; clear h1; (try simp only [World.size_alloc, size_set, World.heap_drewN, size_drew] at hz1); apply Row.use (w := w1) (g := w.heap.size); (focus (exact rowA)); intro q1_0 f1_0 l1_0 R1_0; (try simp only [lSet] at q1_0 R1_0); apply Row.use (w := w1) (g := g); (focus (exact rowA)); intro q1_1 f1_1 l1_1 R1_1; (try simp only [lSet] at q1_1 R1_1))
 have Ew1 : Ext w w1 := HE0.out.trans H1.out
 have EwH := Lib.hid Ew1
 by_cases hr0 : r = 0
 ·have hrb : (r != 0) = false := by simpa using hr0
  subst hr0
  cases gb
  ·cases sb
   ·go_wp2_with fail
    refine (HG.out _ Ew1).mono ?_
    rintro e w2 ⟨rfl, h2⟩
    have H2 := Lib.hid h2
    have hR2 := (R1_1.out).ext h2
    have HR2 := Lib.hid hR2
    clear h2 hR2
    go_wp2_with fail
    refine (HS.out _ HR2.out).mono ?_
    rintro e w3 ⟨rfl, h3⟩
    have H3 := Lib.hid h3
    clear h3
    go_wp2_with fail
    go_ret2
    refine ⟨by rw [← HQ.out]; simp_all, ?_⟩
    clear Ew1
    exact extA
   ·go_wp2_with fail
    refine (HG.out _ Ew1).mono ?_
    rintro e w2 ⟨rfl, h2⟩
    have H2 := Lib.hid h2
    have hR2 := (R1_1.out).ext h2
    have HR2 := Lib.hid hR2
    clear h2 hR2
    go_wp2_with fail
    refine (HS.out _ HR2.out).mono ?_
    rintro e w3 ⟨rfl, h3⟩
    have H3 := Lib.hid h3
    clear h3
    go_wp2_with fail
    go_ret2
    refine ⟨by rw [← HQ.out]; simp_all, ?_⟩
    clear Ew1
    exact extA
  ·go_wp2_with fail
   refine (HG.out _ Ew1).mono ?_
   rintro e w2 ⟨rfl, h2⟩
   have H2 := Lib.hid h2
   have hR2 := (R1_1.out).ext h2
   have HR2 := Lib.hid hR2
   clear h2 hR2
   go_wp2_with fail
   go_ret2
   refine ⟨by rw [← HQ.out]; simp_all, ?_⟩
   clear Ew1
   exact extA
 ·have hrb : (r != 0) = true := by simpa using hr0
  go_wp2_with fail
  go_ret2
  refine ⟨by rw [← HQ.out]; simp_all, ?_⟩
  clear Ew1
  exact extA
end Go.Proofs.YteojjbhadgkfgaaDoor

/- rule.Raw gives the judge's answer. -/
namespace Go.Proofs.YteojjbhadgkfgaaDoor
set_option linter.unusedSimpArgs false
set_option linter.unusedVariables false
set_option maxRecDepth 100000
open Go Go.RowKit Lb

set_option maxHeartbeats 2000000 in
theorem rule_Raw (t : Tk) (was : List Tp) (rides : Int) (p : Tp) (v : Value) (w : World) (hr : RdL 5 tpc w v was) (h0 : 0 ≤ t.zones) (h1 : t.zones < 16) (hz : isZone p.zone = true)
  (ht0 : 0 ≤ p.time) (ht1 : p.time ≤ 9999) (hw : ∀ x ∈ was, 0 ≤ x.time ∧ x.time ≤ 9999) :
  Calls Tryd.prog 76 #[.agg (tkc t), v, .int .i64 rides, .agg (tpc p)] w fun e w' => e = .returned (.tuple #[.int .i64 (judge t (lastTime was) rides p).1, .int .i64 (judge t (lastTime was) rides p).2]) ∧ Ext w w' := by
 obtain ⟨A, c, rfl, hl1, hl2, hl3⟩ := hr
 unfold maxLen at hl2
 rcases List.eq_nil_or_concat was with rfl | ⟨init, x, rfl⟩
 ·have hs := fun g w hr => judge_say t none none rides p g w hr h0 h1 hz (fun w1 e => judge_goesOn_no t rides p.time g w1 (hr.ext e))
  have hl : lastTime [] = none := rfl
  rw [hl]
  generalize judge t none rides p = res at hs
  obtain ⟨a, b, c, d, y, f⟩ := t
  obtain ⟨pt, pg, ps, pti, pz⟩ := p
  unfold tkc
  have HS := Lib.hid hs
  clear hs h0 h1 hz ht0 ht1 hw hl hl1 hl2 hl3
  unfold tpc jgc at HS
  unfold tpc
  go_enter Tryd.func76, Tryd.ntmps76
  go_wp2_with fail
  refine (HS.out (w.heap.size + 1 + 1) _ ?hr1).mono ?_
  case hr1 => exact Row.newAt (by simp)
  rintro e w1 ⟨rfl, h1⟩
  have H1 := Lib.hid h1
  clear h1
  go_wp2_with fail
  go_ret2
  refine ⟨rfl, ?_⟩
  exact extA
 ·obtain ⟨b0, o, rfl, hb, hcell⟩ := hl3 (by simp)
  have hx := hcell init.length (by simp) 3 (.int .i64 x.time) (by simp [tpc])
  have hwx := hw x (by simp)
  have hl : lastTime (init ++ [x]) = some x.time := by simp [lastTime]
  have hlen : (init ++ [x]).length = init.length + 1 := by simp
  have hs := fun (g : Nat) (w : World) (hr : Row w g (jgc t (some ⟨b0, o + init.length * 5, none⟩) rides)) (hc : ∀ w1, Ext w w1 → w1.cell? ⟨b0, o + init.length * 5 + 3, none⟩ = some (.int .i64 x.time)) => judge_say t (some ⟨b0, o + init.length * 5, none⟩) (some x.time) rides p g w hr h0 h1 hz (fun w1 e => judge_goesOn_yes t rides p.time x.time g b0 (o + init.length * 5) w1 (hr.ext e) (hc w1 e) hwx.1 hwx.2 ht0 ht1)
  simp only [List.concat_eq_append] at *
  rw [hl]
  rw [hlen] at hl1 ⊢
  generalize judge t (some x.time) rides p = res at hs
  generalize init.length = n at *
  generalize x.time = tm at *
  obtain ⟨a, b, c', d, y, f⟩ := t
  obtain ⟨pt, pg, ps, pti, pz⟩ := p
  unfold tkc
  have HS := Lib.hid hs
  have HX := Lib.hid hx
  clear hs h0 h1 hz ht0 ht1 hw hl hl3 hcell hx hwx hlen
  unfold tpc jgc at HS
  unfold tpc
  go_enter Tryd.func76, Tryd.ntmps76
  go_wp2_with fail
  refine (HS.out (w.heap.size + 1 + 1) _ ?hra ?hrb).mono ?_
  case hra => exact Row.newAt (by simp)
  case hrb =>
   intro w1 hE
   have hE2 : Ext w w1 := ((((Ext.refl w).alloc _).alloc _).alloc _).trans hE
   exact (hE2.cells b0 _ hb).trans HX.out
  rintro e w1 ⟨rfl, h1⟩
  have H1 := Lib.hid h1
  clear h1
  go_wp2_with fail
  go_ret2
  refine ⟨rfl, ?_⟩
  exact extA
end Go.Proofs.YteojjbhadgkfgaaDoor

/- The references' JudgeOf gives the judge's answer; slices.IndexFunc and ContainsFunc over taps; rule.Each with rule.Check. -/
namespace Go.Proofs.YteojjbhadgkfgaaDoor
set_option linter.unusedSimpArgs false
set_option linter.unusedVariables false
set_option maxRecDepth 100000
open Go Go.RowKit Lb

end Go.Proofs.YteojjbhadgkfgaaDoor

/- Writing cells of a row of the call's own, one after the other; a row made longer into its room. -/
namespace Go.Proofs.YteojjbhadgkfgaaDoor
set_option linter.unusedSimpArgs false
set_option linter.unusedVariables false
set_option maxRecDepth 100000
open Go Go.RowKit Lb

theorem Row.grown {w w' : World} {g : Nat} {cs : Array Value} {row : Option Nat} (h : Row w g cs) (hg : w.grownBy w' row) (hne : some g ≠ row) : Row w' g cs :=
 ⟨Nat.lt_of_lt_of_le h.1 hg.size, fun o => (hg.cell_far ⟨g, o, none⟩ h.1 hne).trans (h.2.1 o), fun o => (hg.frozen_far ⟨g, o, none⟩ h.1 hne).trans (h.2.2 o)⟩
theorem Row.below {w w' : World} {g B : Nat} {cs : Array Value} (h : Row w g cs) (hb : Below B w w') (hg : g < B) : Row w' g cs :=
 ⟨Nat.lt_of_lt_of_le h.1 hb.size, fun o => (Below.cell (p := ⟨g, o, none⟩) hb hg).trans (h.2.1 o), fun o => (Below.frozen (p := ⟨g, o, none⟩) hb hg).trans (h.2.2 o)⟩
/-- A store into another block than the row's. -/
theorem OwnL.put {α : Type} {e : TypeId} {k base : Nat} {enc : α → Array Value} {w : World} {v : Value} {l : List α} (h : OwnL e k enc base w v l) {a : Addr} (ha : v.ownBlock ≠ some a.block) (u : Value) : OwnL e k enc base (w.setCell a u) v l := ownsRow_setCell h ha u
end Go.Proofs.YteojjbhadgkfgaaDoor

/- append of a slice that reads as records (the nil one too) to a row of the call's own. -/
namespace Go.Proofs.YteojjbhadgkfgaaDoor
set_option linter.unusedSimpArgs false
set_option linter.unusedVariables false
set_option maxRecDepth 100000
open Go Go.RowKit Lb

section
variable {α : Type} [Inhabited α] {enc : α → Array Value} {k : Nat}
theorem RdL.news {w : World} {l : List α} {ad : Addr} {n c : Nat} (h : RdL k enc w (.slice (some ad) n c) l) (hk : ∀ x, (enc x).size = k) (hk0 : 0 < k) : ∀ j u, (encs enc l)[j]? = some u → w.cell? (ad.add j) = some u := by
 intro j u hu
 obtain ⟨A, c', hv, h1, h2, h3⟩ := h
 injection hv with hA hn hc
 subst hA hn hc
 have hlen := encs_length (enc := enc) (k := k) hk l
 have hj : j < (encs enc l).length := (List.getElem?_eq_some_iff.1 hu).1
 have hj2 : j / k < l.length := by
  rw [Nat.div_lt_iff_lt_mul hk0]
  omega
 obtain ⟨b, o, hA, hb, hc⟩ := h3 (Nat.lt_of_le_of_lt (Nat.zero_le _) hj2)
 injection hA with hA
 subst hA
 have hg := encs_get (enc := enc) (k := k) hk l (j / k) (j % k) hj2 (Nat.mod_lt _ hk0)
 have hdm : j / k * k + j % k = j := by rw [Nat.mul_comm]; exact Nat.div_add_mod j k
 rw [hdm, hu] at hg
 have := hc (j / k) hj2 (j % k) u (by rw [getElem!_pos l (j / k) hj2]; exact hg.symm)
 rw [show o + j / k * k + j % k = o + j from by omega] at this
 rwa [show (⟨b, o, none⟩ : Addr).add j = ⟨b, o + j, none⟩ from by unfold Addr.add; split <;> simp_all]

variable {P : Program} (w : World)
theorem wp_append_rd {o : Oper} {a : Act} {K : Act → World → Prop} {Q : Exit → Act → World → Prop} (s x : Operand) (t : TypeId)
  (ho : o.op = .call { callee := .builtin .append, args := #[s, x], argTypes := #[t, t] })
  (base : Nat) (e : TypeId) (i : TypeInfo) (z : Value) (bytes : Nat) (ht : P.underlying t = some (.slice e)) (hi : P.info? e = some i) (hz : i.zero = some z)
  (hsize : i.size = k) (hby : i.bytes = bytes) (hzs : z.cells.size = k) (hsz : 0 < k) (hk : ∀ x, (enc x).size = k)
  (v : Value) (m : List α) (hs : a.eval s = v) (hown : OwnL e k enc base w v m)
  (xv : Value) (l : List α) (hx : a.eval x = xv) (hrd : RdL k enc w xv l) (h1 : ∀ u ∈ encs enc l, u.oneCell' = true)
  (h63 : m.length + l.length ≤ maxLen) (hbytes : (m.length + l.length) * bytes ≤ 140737488355328) (hbase : base ≤ w.heap.size)
  (h : ∀ v' w', OwnL e k enc base w' v' (m ++ l) → w.grownBy w' v.ownBlock → (v'.ownBlock = v.ownBlock ∨ v'.ownBlock = some w.heap.size) → K (a.put o.dst v') w') : o.wp P a w K Q := by
 by_cases hl : l = []
 ·subst hl
  obtain ⟨A, c, rfl, -, -, -⟩ := hrd
  have hsrc : Src P i.size t (.slice A 0 c) 0 [] w := by
   cases A with
   | none => exact Src.ofNil w ht c
   | some ad => exact Src.ofSlice w ht ad 0 c [] (by simp) (fun j u hj => by simp at hj) (fun u hu => by cases hu)
  have hv : ∃ A n c, v = .slice A n c ∧ n ≤ c := by
   rcases hown.2 with ⟨rfl, h0⟩ | ⟨g, cap, cur, rfl, hb, hg, hnc, -⟩
   ·exact ⟨_, _, _, rfl, Nat.le_refl _⟩
   ·exact ⟨_, _, _, rfl, hnc⟩
  obtain ⟨A', n', c', rfl, hle⟩ := hv
  refine Lib.wp_append_run w s x t t ho _ _ hs hx _ _ (run_append_nothing w t t o.type e i ht hi A' n' c' hle _ hsrc) ?_
  exact h _ _ (by rw [List.append_nil]; exact hown) (World.grownBy.refl _ _) (.inl rfl)
 ·have hp : 0 < l.length := List.length_pos_iff.2 hl
  obtain ⟨A, c, rfl, -, -, h3⟩ := id hrd
  obtain ⟨b, of, rfl, -, -⟩ := h3 hp
  refine wp_append_lies w s x t ho base e i z k bytes ht hi hz hsize hby hzs hsz v m.length (encs enc m) hs hown ⟨b, of, none⟩ l.length c (encs enc l) hx (encs_length hk l) (hrd.news hk hsz) h1 hp h63 hbytes hbase _ rfl ?_
  intro g cap w' h4 h5 h6 h7
  refine h _ w' ?_ h5 ?_
  ·unfold OwnL
   rw [List.length_append, encs_append]
   exact h4
  ·rcases h6 with h6 | h6
   ·left; rw [h6]; rfl
   ·right; rw [h6]; rfl
theorem wpList_append_rd {ops : Array Oper} {rest : List Oper} {o : Oper} {a : Act} {Q : Exit → Act → World → Prop} (hgd : o.guard = none) (s x : Operand) (t : TypeId)
  (ho : o.op = .call { callee := .builtin .append, args := #[s, x], argTypes := #[t, t] })
  (base : Nat) (e : TypeId) (i : TypeInfo) (z : Value) (bytes : Nat) (ht : P.underlying t = some (.slice e)) (hi : P.info? e = some i) (hz : i.zero = some z)
  (hsize : i.size = k) (hby : i.bytes = bytes) (hzs : z.cells.size = k) (hsz : 0 < k) (hk : ∀ x, (enc x).size = k)
  (v : Value) (m : List α) (hs : a.eval s = v) (hown : OwnL e k enc base w v m)
  (xv : Value) (l : List α) (hx : a.eval x = xv) (hrd : RdL k enc w xv l) (h1 : ∀ u ∈ encs enc l, u.oneCell' = true)
  (h63 : m.length + l.length ≤ maxLen) (hbytes : (m.length + l.length) * bytes ≤ 140737488355328) (hbase : base ≤ w.heap.size)
  (h : ∀ v' w', OwnL e k enc base w' v' (m ++ l) → w.grownBy w' v.ownBlock → (v'.ownBlock = v.ownBlock ∨ v'.ownBlock = some w.heap.size) → wpList P ops Q rest (a.put o.dst v') w') : wpList P ops Q (o :: rest) a w :=
 wpList_plain hgd fun _ hK => wp_append_rd w s x t ho base e i z bytes ht hi hz hsize hby hzs hsz hk v m hs hown xv l hx hrd h1 h63 hbytes hbase fun v' w' h2 h3 h4 => hK _ _ (h v' w' h2 h3 h4)
theorem step_append_rd {ops : Array Oper} {o : Oper} {a : Act} {K : Act → World → Prop} {Q : Exit → Act → World → Prop} {E : Prop} (hgd : o.guard = none) (s x : Operand) (t : TypeId)
  (ho : o.op = .call { callee := .builtin .append, args := #[s, x], argTypes := #[t, t] })
  (base : Nat) (e : TypeId) (i : TypeInfo) (z : Value) (bytes : Nat) (ht : P.underlying t = some (.slice e)) (hi : P.info? e = some i) (hz : i.zero = some z)
  (hsize : i.size = k) (hby : i.bytes = bytes) (hzs : z.cells.size = k) (hsz : 0 < k) (hk : ∀ x, (enc x).size = k)
  (v : Value) (m : List α) (hs : a.eval s = v) (hown : OwnL e k enc base w v m)
  (xv : Value) (l : List α) (hx : a.eval x = xv) (hrd : RdL k enc w xv l) (h1 : ∀ u ∈ encs enc l, u.oneCell' = true)
  (h63 : m.length + l.length ≤ maxLen) (hbytes : (m.length + l.length) * bytes ≤ 140737488355328) (hbase : base ≤ w.heap.size)
  (h : ∀ v' w', OwnL e k enc base w' v' (m ++ l) → w.grownBy w' v.ownBlock → (v'.ownBlock = v.ownBlock ∨ v'.ownBlock = some w.heap.size) → K (a.put o.dst v') w') :
  if Region.wanted o (yielded ops a.tmps) = true then Oper.wp P o a w K Q else E := by
 have hw : Region.wanted o (yielded ops a.tmps) = true := by simp [Region.wanted, hgd]
 rw [if_pos hw]
 exact wp_append_rd w s x t ho base e i z bytes ht hi hz hsize hby hzs hsz hk v m hs hown xv l hx hrd h1 h63 hbytes hbase h
end
/-- A literal of one record reads as that. -/
theorem RdL.lit {α : Type} [Inhabited α] {enc : α → Array Value} {k : Nat} {e : TypeId} {W : World} (x : α) {cs : Array Value} {g : Nat} (hg : g = W.heap.size) (hc : cs = enc x) : RdL k enc (W.alloc (.cells cs e)) (.slice (some ⟨g, 0, none⟩) 1 1) [x] := by
 subst hg hc
 refine ⟨_, 1, rfl, Nat.le_refl _, by unfold maxLen; omega, fun _ => ⟨_, 0, rfl, by simp, fun j hj i u hu => ?_⟩⟩
 have hj0 : j = 0 := by simpa using hj
 subst hj0
 rw [Nat.zero_mul, Nat.add_zero, Nat.zero_add, Row.new.2.1 i]
 exact hu
/-- A row of nothing yet. -/
theorem OwnL.made {α : Type} {enc : α → Array Value} {k : Nat} {e : TypeId} {base g : Nat} {w : World} (hg : g = w.heap.size) (hb : base ≤ w.heap.size) : OwnL e k enc base (w.alloc (.cells #[] e)) (.slice (some ⟨g, 0, none⟩) 0 0) ([] : List α) := by
 subst hg
 exact World.ownsRow_made w #[] 0 hb (Nat.zero_le _) (by simp)
end Go.Proofs.YteojjbhadgkfgaaDoor

/- slices.Clone over records. -/
namespace Go.Proofs.YteojjbhadgkfgaaDoor
set_option linter.unusedSimpArgs false
set_option linter.unusedVariables false
set_option maxRecDepth 100000
open Go Go.RowKit Lb

end Go.Proofs.YteojjbhadgkfgaaDoor

/- slices.Clone over records. -/
namespace Go.Proofs.YteojjbhadgkfgaaDoor
set_option linter.unusedSimpArgs false
set_option linter.unusedVariables false
set_option maxRecDepth 100000
open Go Go.RowKit Lb

end Go.Proofs.YteojjbhadgkfgaaDoor

/- slices.Clone over records. -/
namespace Go.Proofs.YteojjbhadgkfgaaDoor
set_option linter.unusedSimpArgs false
set_option linter.unusedVariables false
set_option maxRecDepth 100000
open Go Go.RowKit Lb

end Go.Proofs.YteojjbhadgkfgaaDoor

/- A field of a record in a row of the call's own is written; its cells. -/
namespace Go.Proofs.YteojjbhadgkfgaaDoor
set_option linter.unusedSimpArgs false
set_option linter.unusedVariables false
set_option maxRecDepth 100000
open Go Go.RowKit Lb

section
variable {α : Type} {enc : α → Array Value} {k : Nat}
theorem encs_put (hk : ∀ x, (enc x).size = k) (l : List α) (j i : Nat) (hj : j < l.length) (hi : i < k) (x' : α) (u : Value) (hx : (enc x').toList = (enc l[j]).toList.set i u) :
  (encs enc l).set (j * k + i) u = encs enc (l.set j x') := by
 induction l generalizing j with
 | nil => simp at hj
 | cons x l ih =>
  cases j with
  | zero =>
   rw [encs_cons, List.set_cons_zero, encs_cons, Nat.zero_mul, Nat.zero_add, List.set_append_left _ _ (by rw [Array.length_toList, hk]; exact hi)]
   rw [hx]
   rfl
  | succ j =>
   rw [encs_cons, List.set_cons_succ, encs_cons, List.set_append_right _ _ (by rw [Array.length_toList, hk, Nat.succ_mul]; omega), Array.length_toList, hk]
   rw [show (j + 1) * k + i - k = j * k + i from by rw [Nat.succ_mul]; omega]
   rw [ih j (by simpa using hj) hx]
theorem OwnL.field {e : TypeId} {base g n c : Nat} {w : World} {l : List α} (hk : ∀ x, (enc x).size = k) (h : OwnL e k enc base w (.slice (some ⟨g, 0, none⟩) n c) l) (j i : Nat) (hj : j < l.length) (hi : i < k) (u : Value) (hu : (enc l[j])[i]? = some u) :
  w.cell? ⟨g, j * k + i, none⟩ = some u ∧ w.frozen? ⟨g, j * k + i, none⟩ = false := by
 have hx : (encs enc l)[j * k + i]? = some u := by rw [encs_get hk l j i hj hi]; exact hu
 have h1 := h.cells (g := g) rfl _ _ hx
 rw [show (⟨g, 0, none⟩ : Addr).add (j * k + i) = ⟨g, j * k + i, none⟩ from by unfold Addr.add; split <;> simp_all] at h1
 refine ⟨h1, ?_⟩
 rcases h.2 with ⟨h', _⟩ | ⟨g', cap', cur, h', hb, hg, -⟩
 ·simp at h'
 ·simp only [Value.slice.injEq, Option.some.injEq, Addr.mk.injEq, and_true, true_and] at h'
  obtain ⟨rfl, -⟩ := h'
  unfold World.frozen?
  simp only [hg]
  simp
theorem OwnL.put_field {e : TypeId} {base g n c : Nat} {w : World} {l : List α} (hk : ∀ x, (enc x).size = k) (h : OwnL e k enc base w (.slice (some ⟨g, 0, none⟩) n c) l) (j i : Nat) (hj : j < l.length) (hi : i < k) (x' : α) (u : Value)
  (hx : (enc x').toList = (enc l[j]).toList.set i u) : OwnL e k enc base (w.setCell ⟨g, j * k + i, none⟩ u) (.slice (some ⟨g, 0, none⟩) n c) (l.set j x') := by
 obtain ⟨A, c', hv⟩ := h.form
 injection hv with _ hn hc
 subst hn hc
 unfold OwnL at h ⊢
 rw [List.length_set]
 have h1 := (h.stored (j * k + i) u).1
 rwa [encs_put hk l j i hj hi x' u hx] at h1
theorem OwnL.slot {e : TypeId} {base : Nat} {w : World} {v : Value} {l : List α} (h : OwnL e k enc base w v l) (hl : 0 < l.length) : ∃ g c, v = .slice (some ⟨g, 0, none⟩) l.length c ∧ base ≤ g ∧ g < w.heap.size ∧ l.length ≤ c := by
 rcases h.2 with ⟨rfl, h0⟩ | ⟨g, cap, cur, rfl, hb, hg, hnc, -⟩
 ·omega
 ·exact ⟨g, cap, rfl, hb, (Array.getElem?_eq_some_iff.1 hg).1, hnc⟩
end
end Go.Proofs.YteojjbhadgkfgaaDoor

/- A region that draws its order, and writes last what it reads: what is read may be taken first. -/
namespace Go.Proofs.YteojjbhadgkfgaaDoor
open Go Go.RowKit
set_option linter.unusedSimpArgs false
set_option linter.unusedVariables false
set_option maxRecDepth 100000

section
variable {P : Program} {l : List Oper} {Q : Exit → Act → World → Prop} {md : Region.Mode} {S : World → Prop}

def waits (md : Region.Mode) (ops : Array Oper) (j i : Nat) : Bool :=
 match ops[j]? with
 | some oj => oj.after.any fun e => Region.binds md e && e.on == i
 | none => false
theorem waits_spec {ops : Array Oper} {j i : Nat} (h : waits md ops j i = true) : ∃ oj, ops[j]? = some oj ∧ ∃ e ∈ oj.after, Region.binds md e = true ∧ e.on = i := by
 unfold waits at h
 split at h
 ·rename_i oj hj
  obtain ⟨e, he, hb⟩ := Array.any_eq_true'.1 h
  simp only [Bool.and_eq_true, beq_iff_eq] at hb
  exact ⟨oj, hj, e, he, hb.1, hb.2⟩
 ·cases h
/-- each operation ahead of number n is waited for by a later one, up to n -/
def sinks (md : Region.Mode) (ops : Array Oper) (n : Nat) : Bool :=
 (List.range n).all fun i => (List.range (n + 1)).any fun j => decide (i < j) && waits md ops j i
/-- what came up came up behind all that it waits for -/
def Closed (md : Region.Mode) (ops : Array Oper) (listed : Array Bool) : Prop :=
 listed.size = ops.size ∧ ∀ j oj, ops[j]? = some oj → listed.getD j false = true → ∀ e ∈ oj.after, Region.binds md e = true → listed.getD e.on false = true
def closedB (md : Region.Mode) (ops : Array Oper) (listed : Array Bool) : Bool :=
 listed.size == ops.size && (List.range ops.size).all fun j => match ops[j]? with
  | some oj => !listed.getD j false || oj.after.all fun e => !Region.binds md e || listed.getD e.on false
  | none => true
theorem closedB_spec {ops : Array Oper} {listed : Array Bool} (h : closedB md ops listed = true) : Closed md ops listed := by
 unfold closedB at h
 simp only [Bool.and_eq_true, beq_iff_eq, List.all_eq_true, List.mem_range] at h
 refine ⟨h.1, fun j oj hj hl e he hb => ?_⟩
 have h1 := h.2 j (Array.getElem?_eq_some_iff.1 hj).1
 rw [hj] at h1
 simp only [hl, Bool.not_true, Bool.false_or, Array.all_eq_true_iff_forall_mem] at h1
 have h2 := h1 e he
 simpa [hb] using h2
theorem Closed.set {ops : Array Oper} {i : Nat} {listed : Array Bool} (c : Closed md ops listed) (hi : i ∈ Region.ready md ops listed) : Closed md ops (listed.setIfInBounds i true) := by
 obtain ⟨_, oi, hoi, hall⟩ := mem_ready.1 hi
 refine ⟨by simp [c.1], fun j oj hj hl e he hb => ?_⟩
 by_cases hij : i = j
 ·subst hij
  have : oj = oi := Option.some.inj (hj.symm.trans hoi)
  subst this
  exact getD_set_true (hall e he hb)
 ·rw [getD_set_ne false hij] at hl
  exact getD_set_true (c.2 j oj hj hl e he hb)
theorem getD_ft {listed : Array Bool} {i : Nat} (h : listed.getD i true = false) : listed.getD i false = false := by
 rcases Nat.lt_or_ge i listed.size with h' | h'
 ·simp [h'] at h ⊢; exact h
 ·simp [Array.getElem?_eq_none h'] at h
/-- when number n is there, or may come up, all ahead of it are there -/
theorem Closed.all {ops : Array Oper} {n : Nat} {listed : Array Bool} (c : Closed md ops listed) (hs : sinks md ops n = true) (hn : listed.getD n false = true ∨ n ∈ Region.ready md ops listed) : ∀ (d i : Nat), n - i = d → i < n → listed.getD i false = true := by
 intro d
 induction d using Nat.strongRecOn with
 | _ d ih =>
  intro i hd hi
  have h1 := List.all_eq_true.1 hs i (List.mem_range.2 hi)
  obtain ⟨j, hj, hj2⟩ := List.any_eq_true.1 h1
  simp only [Bool.and_eq_true, decide_eq_true_eq] at hj2
  obtain ⟨oj, hoj, e, he, hb, hon⟩ := waits_spec hj2.2
  have hjle : j ≤ n := by have := List.mem_range.1 hj; omega
  rw [← hon]
  by_cases hjt : j = n
  ·subst hjt
   rcases hn with hn | hn
   ·exact c.2 j oj hoj hn e he hb
   ·obtain ⟨_, ot, hot, hall⟩ := mem_ready.1 hn
    have : oj = ot := Option.some.inj (hoj.symm.trans hot)
    subst this
    exact hall e he hb
  ·exact c.2 j oj hoj (ih (n - j) (by omega) j rfl (by omega)) e he hb

/-- Whatever order is picked from here on; and S holds behind each operation, till number n has come up. -/
def wpAnyT (P : Program) (md : Region.Mode) (ops : Array Oper) (Q : Exit → Act → World → Prop) (S : World → Prop) (n : Nat) : Nat → Array Bool → Act → World → Prop
 | 0, listed, a, w => Region.ready md ops listed = [] ∧ Q .normal a w
 | fuel + 1, listed, a, w =>
  (Region.ready md ops listed = [] → Q .normal a w) ∧
  ∀ i ∈ Region.ready md ops listed, wpOp P ops Q i (fun a' w' => ((listed.setIfInBounds i true).getD n false = true ∨ S w') ∧ wpAnyT P md ops Q S n fuel (listed.setIfInBounds i true) a' w') a w

theorem wpAny_of_T {ops : Array Oper} {n : Nat} : ∀ (fuel : Nat) (listed : Array Bool) (a : Act) (w : World), wpAnyT P md ops Q S n fuel listed a w → wpAny P md ops Q fuel listed a w
 | 0, _, _, _, h => h
 | fuel + 1, _, _, _, h => ⟨h.1, fun i hi => wpOp_mono (fun a' w' h' => wpAny_of_T fuel _ a' w' h'.2) (h.2 i hi)⟩

theorem wpAnyT_first {ops : Array Oper} {n i : Nat} {oi : Oper} {v : Value} (hi : ops[i]? = some oi) (hsel : ∀ (j : Nat) (o : Oper) cs b, ops[j]? = some o → o.op ≠ .select cs b)
  (hQ : ∀ c a w, Q (.panic c) (a.put oi.dst v) w → Q (.panic c) a w) (hs : sinks md ops n = true) (hin : i < n) :
  ∀ (fuel : Nat) (listed : Array Bool) (a : Act) (w : World), Closed md ops listed →
   (∀ j oj, ops[j]? = some oj → j ≠ i → listed.getD j true = false → (∀ e ∈ oj.after, Region.binds md e = true → e.on ≠ i) → oi.apart ops oj = true) →
   i ∈ Region.ready md ops listed → YieldsIf P ops S oi v a → S w →
   wpAnyT P md ops Q S n fuel (listed.setIfInBounds i true) (a.put oi.dst v) w → wpAnyT P md ops Q S n (fuel + 1) listed a w := by
 intro fuel
 induction fuel with
 | zero =>
  intro listed a w _ _ hr hy hS H
  refine ⟨fun h => (by rw [h] at hr; cases hr), fun j hj => ?_⟩
  by_cases hji : j = i
  ·subst hji; exact hy.wpOp hi hS ⟨.inr hS, H⟩
  ·have := ready_mono hj hji
   rw [H.1] at this
   cases this
 | succ fuel ih =>
  intro listed a w hc hfree hr hy hS H
  refine ⟨fun h => (by rw [h] at hr; cases hr), fun j hj => ?_⟩
  by_cases hji : j = i
  ·subst hji; exact hy.wpOp hi hS ⟨.inr hS, H⟩
  ·have h1 := H.2 j (ready_mono hj hji)
   obtain ⟨hjun, oj, hoj, hall⟩ := mem_ready.1 hj
   have hun0 := getD_ft (mem_ready.1 hr).1
   have hjn : j ≠ n := by
    intro e
    subst e
    have := hc.all hs (.inr hj) _ i rfl hin
    rw [hun0] at this
    cases this
   have hn0 : listed.getD n false = false := by
    cases hh : listed.getD n false with
    | false => rfl
    | true =>
     have := hc.all hs (.inl hh) _ i rfl hin
     rw [hun0] at this
     cases this
   have hnot : ∀ e ∈ oj.after, Region.binds md e = true → e.on ≠ i := fun e he hb heq => by
    have h1 := hall e he hb
    have h0 := (mem_ready.1 hr).1
    rw [heq] at h1
    rcases Nat.lt_or_ge i listed.size with h' | h'
    ·simp [h'] at h0 h1; rw [h0] at h1; cases h1
    ·simp [Array.getElem?_eq_none h'] at h1
   have h2 := wpOp_putIf hoj (hfree j oj hoj hji hjun hnot) (fun cs b => hsel i oi cs b hi) (fun cs b => hsel j oj cs b hoj) hQ hy h1
   have hfree' : ∀ k ok, ops[k]? = some ok → k ≠ i → (listed.setIfInBounds j true).getD k true = false →
     (∀ e ∈ ok.after, Region.binds md e = true → e.on ≠ i) → oi.apart ops ok = true := fun k ok hk hki hun hno => by
    refine hfree k ok hk hki ?_ hno
    by_cases hjk : j = k
    ·subst hjk; exact hjun
    ·rw [getD_set_ne true hjk] at hun; exact hun
   refine wpOp_mono (fun a' w' h3 => ?_) h2
   have hS' : S w' := by
    rcases h3.2.1 with h | h
    ·rw [getD_set_ne false hjn, getD_set_ne false (Nat.ne_of_lt hin), hn0] at h
     cases h
    ·exact h
   refine ⟨.inr hS', ih (listed.setIfInBounds j true) a' w' (hc.set hj) hfree' (ready_mono hr (Ne.symm hji)) h3.1 hS' ?_⟩
   rw [Array.setIfInBounds_comm _ _ hji]
   exact h3.2.2

/-- What the kernel looks at when number i is taken first. -/
def takes (md : Region.Mode) (ops : Array Oper) (listed : Array Bool) (n i : Nat) : Bool :=
 Region.noSelect ops && Region.free md ops listed i && (Region.ready md ops listed).contains i && sinks md ops n && closedB md ops listed && decide (i < n)

theorem T_take {n i : Nat} {oi : Oper} {v : Value} {fuel : Nat} {listed : Array Bool} {a : Act} {w : World} (hi : l[i]? = some oi)
  (hb : takes md l.toArray listed n i = true) (hw : oi.guard = none) (hS : S w) (hy : ∀ w, S w → (execOp a.eval oi).run P w = .ok (.value v) w)
  (h : wpAnyT P md l.toArray (NoPanic Q) S n fuel (listed.setIfInBounds i true) (a.put oi.dst v) w) : wpAnyT P md l.toArray (NoPanic Q) S n (fuel + 1) listed a w := by
 unfold takes at hb
 simp only [Bool.and_eq_true, decide_eq_true_eq] at hb
 obtain ⟨⟨⟨⟨⟨h1, h2⟩, h3⟩, h4⟩, h5⟩, h6⟩ := hb
 have hi' : l.toArray[i]? = some oi := by simpa using hi
 exact wpAnyT_first hi' (Region.noSelect_spec h1) (fun _ _ _ h => h) h4 h6 fuel listed a w (closedB_spec h5) (Region.free_spec hi' h2) (by simpa using h3) (.inl ⟨by simp [Region.wanted, hw], hy⟩) hS h

/-- Number i alone may come up. -/
theorem T_only {n i : Nat} {oi : Oper} {fuel : Nat} {listed : Array Bool} {a : Act} {w : World} (hi : l[i]? = some oi) (hr : Region.ready md l.toArray listed = [i]) (hw : oi.guard = none)
  (h : ∀ K : Act → World → Prop, Hid (∀ a w, ((listed.setIfInBounds i true).getD n false = true ∨ S w) → wpAnyT P md l.toArray (NoPanic Q) S n fuel (listed.setIfInBounds i true) a w → K a w) → Oper.wp P oi a w K (NoPanic Q)) :
  wpAnyT P md l.toArray (NoPanic Q) S n (fuel + 1) listed a w := by
 refine ⟨fun h0 => (by rw [hr] at h0; cases h0), fun j hj => ?_⟩
 rw [hr, List.mem_singleton] at hj
 subst hj
 have hi' : l.toArray[j]? = some oi := by simpa using hi
 refine wpOp_step hi' fun K hK => ?_
 rw [if_pos (by simp [Region.wanted, hw])]
 exact h K (Lib.hid fun a w h1 h2 => hK a w ⟨h1, h2⟩)

theorem T_done {n : Nat} {listed : Array Bool} {a : Act} {w : World} (hr : Region.ready md l.toArray listed = []) (h : Q .normal a w) :
  ∀ fuel, wpAnyT P md l.toArray (NoPanic Q) S n fuel listed a w
 | 0 => ⟨hr, h⟩
 | _ + 1 => ⟨fun _ => h, by rw [hr]; simp⟩

theorem T_begin (S : World → Prop) (n : Nat) {id : Nat} {a : Act} {w : World} (hm : P.follows .mixedOrders = true) (hS : S w.drew)
  (h : S w.drew → wpAnyT P .any l.toArray (NoPanic Q) S n l.length (Array.replicate l.length false) a w.drew) : (Code.region id l.toArray true).wp P Q a w :=
 wp_region_noPanic (wp_region_any hm (by simpa using wpAny_of_T _ _ _ _ (h hS)))
end
section
variable {P : Program} {l : List Oper} {Q : Exit → Act → World → Prop} {md : Region.Mode} {S : World → Prop} {n : Nat} {oi : Oper} {v : Value} {fuel : Nat} {listed : Array Bool} {a : Act} {w : World}
theorem tkA (i : Nat) {R : World → Prop} (HK : Hid (∀ w', S w' → R w')) (hS : S w) (h : wpAnyT P md l.toArray (NoPanic Q) S n fuel (listed.setIfInBounds i true) (a.put oi.dst v) w)
  (hi : l[i]? = some oi := by rfl) (hb : takes md l.toArray listed n i = true := by kernel_rfl) (hw : oi.guard = none := by rfl)
  (hy : ∀ w, R w → (execOp a.eval oi).run P w = .ok (.value v) w := by (intro w hk; (try dsimp only at hk); go_simp; try (with_reducible rfl))) :
  wpAnyT P md l.toArray (NoPanic Q) S n (fuel + 1) listed a w := T_take hi hb hw hS (fun w h => hy w (HK.out w h)) h
theorem tkS (i : Nat) (hS : S w) (h : wpAnyT P md l.toArray (NoPanic Q) S n fuel (listed.setIfInBounds i true) (a.put oi.dst v) w)
  (hi : l[i]? = some oi := by rfl) (hb : takes md l.toArray listed n i = true := by kernel_rfl) (hw : oi.guard = none := by rfl)
  (hy : ∀ w, S w → (execOp a.eval oi).run P w = .ok (.value v) w := by (intro w hSw; (try dsimp only at hSw); go_simp; try (with_reducible rfl))) :
  wpAnyT P md l.toArray (NoPanic Q) S n (fuel + 1) listed a w := T_take hi hb hw hS hy h
end

end Go.Proofs.YteojjbhadgkfgaaDoor

/- More of drawn regions: two that may come up. -/
namespace Go.Proofs.YteojjbhadgkfgaaDoor
open Go Go.RowKit
set_option linter.unusedSimpArgs false
set_option linter.unusedVariables false
set_option maxRecDepth 100000

section
variable {P : Program} {l : List Oper} {Q : Exit → Act → World → Prop} {md : Region.Mode} {S : World → Prop}

end
end Go.Proofs.YteojjbhadgkfgaaDoor

/- A drawn region's part: x's copy and one more record behind it. -/
namespace Go.Proofs.YteojjbhadgkfgaaDoor
open Go Go.RowKit
set_option linter.unusedSimpArgs false
set_option linter.unusedVariables false
set_option maxRecDepth 100000

section
variable {P : Program} {l : List Oper} {Q : Exit → Act → World → Prop} {md : Region.Mode} {S : World → Prop}
variable {α : Type} [Inhabited α] {enc : α → Array Value} {k : Nat}

end
end Go.Proofs.YteojjbhadgkfgaaDoor

/- Literals of no tap, of one tap, as operations of a drawn region. -/
namespace Go.Proofs.YteojjbhadgkfgaaDoor
set_option linter.unusedSimpArgs false
set_option linter.unusedVariables false
set_option maxRecDepth 100000
open Go Go.RowKit Lb

end Go.Proofs.YteojjbhadgkfgaaDoor

/- Drawn regions with guards: what is wanted may be taken first, or comes alone; x's copy and one more record behind it, under a guard. -/
namespace Go.Proofs.YteojjbhadgkfgaaDoor
open Go Go.RowKit
set_option linter.unusedSimpArgs false
set_option linter.unusedVariables false
set_option maxRecDepth 100000

section
variable {P : Program} {l : List Oper} {Q : Exit → Act → World → Prop} {md : Region.Mode} {S : World → Prop}

variable {α : Type} [Inhabited α] {enc : α → Array Value} {k : Nat}
end

end Go.Proofs.YteojjbhadgkfgaaDoor

/- A walk goes on from a world of which only some blocks are known. -/
namespace Go.Proofs.YteojjbhadgkfgaaDoor
open Go Go.RowKit
set_option linter.unusedSimpArgs false
set_option linter.unusedVariables false
set_option maxRecDepth 100000

section
variable {P : Program} {c : Code} {Q : Exit → Act → World → Prop} {a : Act} {w w0 : World} {g0 g1 g2 g3 g4 : Nat} {c0 c1 c2 c3 c4 : Array Value}
theorem wp_gen2 (h0 : Row w g0 c0) (h1 : Row w g1 c1) (hE : Ext w0 w) (k : ∀ W, Hid (Ext w0 W) → w0.heap.size ≤ W.heap.size → Hid (Row W g0 c0) → Hid (Row W g1 c1) → c.wp P Q a W) : c.wp P Q a w := k w hE hE.size h0 h1
theorem wp_gen3 (h0 : Row w g0 c0) (h1 : Row w g1 c1) (h2 : Row w g2 c2) (hE : Ext w0 w) (k : ∀ W, Hid (Ext w0 W) → w0.heap.size ≤ W.heap.size → Hid (Row W g0 c0) → Hid (Row W g1 c1) → Hid (Row W g2 c2) → c.wp P Q a W) : c.wp P Q a w := k w hE hE.size h0 h1 h2
end
theorem Row.size {w : World} {g : Nat} {cs : Array Value} (h : Row w g cs) : g < w.heap.size := h.1
end Go.Proofs.YteojjbhadgkfgaaDoor

/- A drawn region that makes rows and appends to them, in whatever order. -/
namespace Go.Proofs.YteojjbhadgkfgaaDoor
open Go Go.RowKit
set_option linter.unusedSimpArgs false
set_option linter.unusedVariables false
set_option maxRecDepth 100000

/-- a row that the call owns -/
structure RowF where
 v : Value
 e : TypeId
 k : Nat
 n : Nat
 xs : List Value
def RowF.ok (r : RowF) (base : Nat) (w : World) : Prop := w.ownsRow base r.e r.k r.v r.n r.xs
def upd (rows : Nat → Option RowF) (i : Nat) (r : Option RowF) : Nat → Option RowF := fun j => if j = i then r else rows j
theorem upd_same (rows : Nat → Option RowF) (i : Nat) (r : Option RowF) : upd rows i r i = r := by simp [upd]
theorem upd_ne (rows : Nat → Option RowF) {i j : Nat} (r : Option RowF) (h : j ≠ i) : upd rows i r j = rows j := by simp [upd, h]
theorem RowF.ok.lt {r : RowF} {base : Nat} {w : World} (h : r.ok base w) {q : Nat} (hq : r.v.ownBlock = some q) : base ≤ q ∧ q < w.heap.size := by
 obtain ⟨h1, h2⟩ := h
 rcases h2 with ⟨hv, _⟩ | ⟨g, cap, cur, hv, hb, hg, -⟩
 ·rw [hv] at hq; simp [Value.ownBlock] at hq
 ·rw [hv] at hq
  simp [Value.ownBlock] at hq
  subst hq
  exact ⟨hb, (Array.getElem?_eq_some_iff.1 hg).1⟩
/-- beside new blocks those of 'own' may have been written -/
structure Fr (own : Nat → Prop) (w0 w : World) : Prop where
 os : w.os = w0.os
 tape : w.tape = w0.tape
 output : w.output = w0.output
 size : w0.heap.size ≤ w.heap.size
 block : ∀ k, k < w0.heap.size → ¬ own k → w.heap[k]? = w0.heap[k]?
theorem Fr.refl (own : Nat → Prop) (w : World) : Fr own w w := ⟨rfl, rfl, rfl, Nat.le_refl _, fun _ _ _ => rfl⟩
theorem Fr.grown {own : Nat → Prop} {w0 w w' : World} {row : Option Nat} (h : Fr own w0 w) (hg : w.grownBy w' row) (hr : ∀ q, row = some q → w0.heap.size ≤ q ∨ own q) : Fr own w0 w' :=
 ⟨hg.os.trans h.os, hg.tape.trans h.tape, hg.output.trans h.output, Nat.le_trans h.size hg.size, fun k hk hn => (hg.block k (Nat.lt_of_lt_of_le hk h.size) (fun e => by
  rcases hr k e.symm with h1 | h1
  ·omega
  ·exact hn h1)).trans (h.block k hk hn)⟩
theorem Fr.alloc {own : Nat → Prop} {w0 w : World} (h : Fr own w0 w) (o : Obj) : Fr own w0 (w.alloc o) := h.grown (World.grownBy_alloc w o none) (fun _ e => by cases e)
theorem Fr.ext {w0 w : World} (h : Fr (fun _ => False) w0 w) : Ext w0 w := ⟨h.os, h.tape, h.output, h.size, fun k hk => h.block k hk (fun f => f)⟩
theorem Fr.below {own : Nat → Prop} {base : Nat} {w0 w : World} (h : Fr own w0 w) (hb : base ≤ w0.heap.size) (ho : ∀ k, own k → base ≤ k) : Below base w0 w := ⟨h.os, h.tape, h.output, by have := h.size; omega, fun k hk => h.block k (by omega) (fun f => by have := ho k f; omega)⟩
theorem Fr.row {own : Nat → Prop} {w0 w : World} {g : Nat} {cs : Array Value} (h : Fr own w0 w) (hn : ¬ own g) (r : Row w0 g cs) : Row w g cs :=
 ⟨Nat.lt_of_lt_of_le r.1 h.size, fun o => (World.cell?_of_block (a := ⟨g, o, none⟩) (h.block g r.1 hn)).trans (r.2.1 o), fun o => (World.frozen?_of_block (a := ⟨g, o, none⟩) (h.block g r.1 hn)).trans (r.2.2 o)⟩
theorem Fr.cell {own : Nat → Prop} {w0 w : World} {g : Nat} (h : Fr own w0 w) (hn : ¬ own g) (hg : g < w0.heap.size) (o : Nat) : w.cell? ⟨g, o, none⟩ = w0.cell? ⟨g, o, none⟩ := World.cell?_of_block (a := ⟨g, o, none⟩) (h.block g hg hn)
theorem Fr.own {own : Nat → Prop} {w0 w : World} {α : Type} {e : TypeId} {k base : Nat} {enc : α → Array Value} {v : Value} {l : List α} (h : Fr own w0 w) (ho : OwnL e k enc base w0 v l) (hn : ∀ q, v.ownBlock = some q → ¬ own q) : OwnL e k enc base w v l := by
 obtain ⟨h1, h2⟩ := ho
 refine ⟨h1, ?_⟩
 rcases h2 with h2 | ⟨g, cap, cur, hv, hb, hg, rest⟩
 ·exact .inl h2
 ·exact .inr ⟨g, cap, cur, hv, hb, (h.block g (Array.getElem?_eq_some_iff.1 hg).1 (hn g (by rw [hv]; rfl))).trans hg, rest⟩
theorem Fr.rd {own : Nat → Prop} {w0 w : World} {α : Type} [Inhabited α] {k : Nat} {enc : α → Array Value} {v : Value} {l : List α} (h : Fr own w0 w) (hr : RdL k enc w0 v l) (hn : ∀ q, v.ownBlock = some q → ¬ own q) : RdL k enc w v l := by
 obtain ⟨A, c, hv, h1, h2, h3⟩ := hr
 refine ⟨A, c, hv, h1, h2, fun hp => ?_⟩
 obtain ⟨b, o, hA, hb, hc⟩ := h3 hp
 refine ⟨b, o, hA, Nat.lt_of_lt_of_le hb h.size, fun j hj i u hu => ?_⟩
 rw [h.cell (hn b (by rw [hv, hA]; rfl)) hb]
 exact hc j hj i u hu

structure Inv (own : Nat → Prop) (base : Nat) (w0 w : World) (rows : Nat → Option RowF) : Prop where
 ok : ∀ i r, rows i = some r → r.ok base w
 apart : ∀ i j r s, i ≠ j → rows i = some r → rows j = some s → ∀ q, r.v.ownBlock = some q → s.v.ownBlock ≠ some q
 home : ∀ i r q, rows i = some r → r.v.ownBlock = some q → w0.heap.size ≤ q ∨ own q
 fr : Fr own w0 w

section
variable {own : Nat → Prop} {base : Nat} {w0 w : World} {rows : Nat → Option RowF}
theorem Inv.lit (h : Inv own base w0 w rows) (hb : base ≤ w0.heap.size) {cs : Array Value} {e : TypeId} {k n : Nat} (hcs : cs.size = n * k) (hn : n ≤ maxLen) (i : Nat) :
  Inv own base w0 (w.alloc (.cells cs e)) (upd rows i (some ⟨.slice (some ⟨w.heap.size, 0, none⟩) n n, e, k, n, cs.toList⟩)) := by
 have hbw : base ≤ w.heap.size := Nat.le_trans hb h.fr.size
 refine ⟨fun j r hr => ?_, fun j1 j2 r s hne hr hs q hq hq2 => ?_, fun j r q hr hq => ?_, h.fr.alloc _⟩
 ·by_cases hj : j = i
  ·subst hj
   rw [upd_same] at hr
   injection hr with hr
   subst hr
   exact World.ownsRow_lit w cs n hbw hn hcs
  ·rw [upd_ne _ _ hj] at hr
   exact World.ownsRow.alloc (h.ok j r hr) _
 ·by_cases h1 : j1 = i
  ·subst h1
   rw [upd_same] at hr
   rw [upd_ne _ _ (Ne.symm hne)] at hs
   injection hr with hr
   subst hr
   simp [Value.ownBlock] at hq
   subst hq
   have := ((h.ok j2 s hs).lt hq2).2
   omega
  ·rw [upd_ne _ _ h1] at hr
   by_cases h2 : j2 = i
   ·subst h2
    rw [upd_same] at hs
    injection hs with hs
    subst hs
    simp [Value.ownBlock] at hq2
    subst hq2
    have := ((h.ok j1 r hr).lt hq).2
    omega
   ·rw [upd_ne _ _ h2] at hs
    exact h.apart j1 j2 r s hne hr hs q hq hq2
 ·by_cases hj : j = i
  ·subst hj
   rw [upd_same] at hr
   injection hr with hr
   subst hr
   simp [Value.ownBlock] at hq
   subst hq
   exact .inl h.fr.size
  ·rw [upd_ne _ _ hj] at hr
   exact h.home j r q hr hq
end

/-- An operation that makes a row (x: none), or appends to the row at place x what the row at place y (or what lay there) holds; or a row that is there from the beginning. -/
structure Job where
 num : Nat
 dst : Nat
 x : Option Nat
 y : Option Nat
 e : TypeId
 k : Nat
 n : Nat
 xs : List Value
def Job.row (J : Job) (v : Value) : RowF := ⟨v, J.e, J.k, J.n, J.xs⟩

def mark : Array Bool → List Nat → List Bool → Array Bool
 | L, n :: ns, b :: bs => mark (if b then L.setIfInBounds n true else L) ns bs
 | L, _, _ => L
def Agree (jobs : List Job) (bs0 : List Bool) (a0 a : Act) : Prop :=
 a.tmps.size = a0.tmps.size ∧ a.defers = a0.defers ∧ ∀ t, (∀ (p : Nat) (J : Job), jobs[p]? = some J → bs0[p]? = some false → J.dst ≠ t) → a.tmps[t]? = a0.tmps[t]?
section
variable {P : Program} {l : List Oper} {Q : Exit → Act → World → Prop} {md : Region.Mode} {S : World → Prop}
end
end Go.Proofs.YteojjbhadgkfgaaDoor

/- Reads of a drawn region that only some operation waits for; operations that read no memory. -/
namespace Go.Proofs.YteojjbhadgkfgaaDoor
open Go Go.RowKit
set_option linter.unusedSimpArgs false
set_option linter.unusedVariables false
set_option maxRecDepth 100000

section
variable {P : Program} {l : List Oper} {Q : Exit → Act → World → Prop} {md : Region.Mode} {S : World → Prop}
end
end Go.Proofs.YteojjbhadgkfgaaDoor

/- What the operations of RegG owe: literals, appends. -/
namespace Go.Proofs.YteojjbhadgkfgaaDoor
open Go Go.RowKit Lb
set_option linter.unusedSimpArgs false
set_option linter.unusedVariables false
set_option maxRecDepth 100000

section
variable {P : Program} {l : List Oper} {Q : Exit → Act → World → Prop} {jobs : List Job} {bs0 : List Bool} {a0 : Act} {own : Nat → Prop} {base : Nat} {w0 : World}
def freeT (jobs : List Job) (bs0 : List Bool) (t : Nat) : Bool := (jobs.zip bs0).all fun x => x.2 || x.1.dst != t
theorem Agree.tmp {a : Act} (h : Agree jobs bs0 a0 a) {t : Nat} (ht : freeT jobs bs0 t = true) : a.tmps[t]? = a0.tmps[t]? := by
 refine h.2.2 t (fun p J hp hb he => ?_)
 have hm : (J, false) ∈ jobs.zip bs0 := by
  refine List.mem_iff_getElem?.2 ⟨p, ?_⟩
  rw [List.getElem?_zip_eq_some]
  exact ⟨hp, hb⟩
 have := List.all_eq_true.1 ht _ hm
 simp at this
 exact this he
theorem Agree.eval {a : Act} (h : Agree jobs bs0 a0 a) {t : Nat} (ht : freeT jobs bs0 t = true) : a.eval (.tmp t) = a0.eval (.tmp t) := by
 have := h.tmp ht
 simp only [Act.eval, Array.getD_eq_getD_getElem?, this]
theorem OwnL.of_row {α : Type} {enc : α → Array Value} {k : Nat} {e : TypeId} {w : World} {v : Value} {m : List α} (h : w.ownsRow base e k v m.length (encs enc m)) : OwnL e k enc base w v m := h

variable {α : Type} {enc : α → Array Value} {k : Nat}
end
theorem Inv.none {own : Nat → Prop} {base : Nat} {w : World} : Inv own base w w (fun _ => Option.none) := ⟨fun _ _ h => (by cases h), fun _ _ _ _ _ h => (by cases h), fun _ _ _ h => (by cases h), Fr.refl _ _⟩
end Go.Proofs.YteojjbhadgkfgaaDoor
