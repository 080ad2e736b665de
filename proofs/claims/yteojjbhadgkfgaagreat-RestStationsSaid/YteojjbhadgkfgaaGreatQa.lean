/- Qa: parts of the proofs, laid together. -/
import Derived.Test.YteojjbhadgkfgaaGreatProg
import Derived.WalkKit
import Derived.WalkSpells
import Derived.WalkLawsBesides
import Derived.Deep.QuietTactic
import Derived.BigQuiet
import Derived.Outline
import Derived.Lib.Hide
import Derived.Deep.Draws
import Derived.Deep.LoopGhost
import Derived.Deep.DeepMust
import Derived.Deep.AppendLies
import Derived.Deep.DeepCutAuto
import Derived.Deep.RegionWith
import Derived.Laws.BytesArg
import Derived.RegionTactic
import Derived.ChangeAlike
import Derived.Shelf.Abstract
import Derived.Deep.RegionHeld3
import Derived.StillTailTactics
import Derived.Laws.OwnMore
import Derived.Laws.IdiomCopy
import Derived.Maps.AppendAt
import Derived.OwnWalk
import Derived.Deep.AppendSrc
import Derived.Deep.Upon
import Derived.Lib.AppendZeros
import Derived.Deep.RegionLaw
import Derived.Lib.SliceRun
import Derived.Lib.Walk
import Derived.BigRegion
/- What a call may do to memory: it makes new blocks; all that was there stays. Small laws on that. -/
set_option maxHeartbeats 64000000
namespace Go.Proofs.YteojjbhadgkfgaaGreat
set_option linter.unusedSimpArgs false
set_option linter.unusedVariables false
open Go Go.RowKit

def Ext (w w' : World) : Prop:=Below w.heap.size w w'

theorem Jm {α : Type} : (∀ (l : List α) (i : Nat) (a : α),l.toArray.setIfInBounds i a = (l.set i a).toArray) /\ (∀ (x a : α) (l : List α),(x :: l).set 0 a = a :: l) /\ (∀ (x a : α) (l : List α) (n : Nat),(x :: l).set (n + 1) a = x :: l.set n a):=⟨fun _ _ _=>by simp,fun _ _ _=>rfl,fun _ _ _ _=>rfl⟩
theorem hH {p : Prop} (h : p) : Hid p:=Lib.hid h
theorem Ext.refl (w : World) : Ext w w:=Below.refl _ _
theorem Ext.size {w w' : World} (h : Ext w w') : w.heap.size <= w'.heap.size:=Below.size h
theorem Ext.trans {a b c : World} (h : Ext a b) (k : Ext b c) : Ext a c:=Below.trans h (Below.mono k h.size)
theorem Ext.alloc {a b : World} (h : Ext a b) (o : Obj) : Ext a (b.alloc o):=Below.alloc h h.size o
theorem Ext.drew {a b : World} (h : Ext a b) : Ext a b.drew:=Below.drew h
theorem Ext.drewN {a b : World} (h : Ext a b) (n : Nat) : Ext a (b.drewN n):=⟨h.os,h.tape,h.output,(have k:=h.size;k),h.block⟩
theorem Ext.setCell {a b : World} (h : Ext a b) {p : Addr} (hp : a.heap.size <= p.block) (u : Value) : Ext a (b.setCell p u):=Below.setCell h hp u
theorem Ext.Jl {a b : World} {p : Addr} {u : Value} (hp : a.heap.size <= p.block) (h : Ext a b) : Ext a (b.setCell p u):=Below.setCell h hp u
theorem Ext.cells {w w' : World} (h : Ext w w') : ∀ b o,b < w.heap.size -> w'.cell? ⟨b,o,none⟩ = w.cell? ⟨b,o,none⟩ :=
 fun b o hb=>Below.cell (p:=⟨b,o,none⟩) h hb
theorem Ext.frozs {w w' : World} (h : Ext w w') : ∀ b o,b < w.heap.size -> w'.frozen? ⟨b,o,none⟩ = w.frozen? ⟨b,o,none⟩ :=
 fun b o hb=>Below.frozen (p:=⟨b,o,none⟩) h hb
theorem Ext.grown {a b c : World} (h : Ext a b) {row : Option Nat} (hg : b.grownBy c row) (hr : ∀ k,row = some k -> a.heap.size <= k) : Ext a c:=Below.grown h hg h.size hr

def Only (w w' : World) (p : Nat) : Prop:=w.grownBy w' (some p)
theorem Only.refl (w : World) (p : Nat) : Only w w p:=World.grownBy.refl _ _
theorem Only.size {w w' : World} {p : Nat} (h : Only w w' p) : w.heap.size <= w'.heap.size:=World.grownBy.size h
theorem Only.heap {w w' : World} {p : Nat} (h : Only w w' p) {k : Nat} (hk : k < w.heap.size) (hne : k ≠ p) : w'.heap[k]? = w.heap[k]? :=
 World.grownBy.block h k hk (fun e=>hne (by injection e))
theorem Only.cell {w w' : World} {p : Nat} (h : Only w w' p) {k : Nat} (hk : k < w.heap.size) (hne : k ≠ p) (o : Nat) : w'.cell? ⟨k,o,none⟩ = w.cell? ⟨k,o,none⟩ :=
 World.cell?_of_block (a:=⟨k,o,none⟩) (h.heap hk hne)
theorem Only.froz {w w' : World} {p : Nat} (h : Only w w' p) {k : Nat} (hk : k < w.heap.size) (hne : k ≠ p) (o : Nat) : w'.frozen? ⟨k,o,none⟩ = w.frozen? ⟨k,o,none⟩ :=
 World.frozen?_of_block (a:=⟨k,o,none⟩) (h.heap hk hne)
theorem Only.own {a b c : World} {p : Nat} (h : Only a b p) {row : Option Nat} (hg : b.grownBy c row) (hr : ∀ k,row = some k -> a.heap.size <= k) : Only a c p :=
 ⟨hg.os.trans h.os,hg.tape.trans h.tape,hg.output.trans h.output,Nat.le_trans h.size hg.size,fun k hk hne =>
  (hg.block k (Nat.lt_of_lt_of_le hk h.size) (fun e=>by have:=hr k e.symm;omega)).trans (h.block k hk hne)⟩
theorem Only.ext {a b c : World} {p : Nat} (h : Only a b p) (k : Ext b c) : Only a c p :=
 h.own (row:=none) ⟨k.os,k.tape,k.output,Ext.size k,fun i hi _=>k.block i hi⟩ (fun _ e=>by cases e)
theorem Only.trans {a b c : World} {p : Nat} (h : Only a b p) (k : Only b c p) : Only a c p :=
 ⟨k.os.trans h.os,k.tape.trans h.tape,k.output.trans h.output,Nat.le_trans h.size k.size,fun i hi hne=>(k.block i (Nat.lt_of_lt_of_le hi h.size) hne).trans (h.block i hi hne)⟩
theorem Only.alloc {a b : World} {p : Nat} (h : Only a b p) (o : Obj) : Only a (b.alloc o) p:=h.ext ((Ext.refl _).alloc o)
theorem Only.drewN {a b : World} {p : Nat} (h : Only a b p) (n : Nat) : Only a (b.drewN n) p:=h.ext ((Ext.refl _).drewN n)
theorem Only.drew {a b : World} {p : Nat} (h : Only a b p) : Only a b.drew p:=h.ext ((Ext.refl _).drew)
theorem Only.setCell {a b : World} {p : Nat} (h : Only a b p) {q : Addr} (hq : q.block = p \/ a.heap.size <= q.block) (u : Value) : Only a (b.setCell q u) p :=
 ⟨h.os,h.tape,h.output,by simpa [World.setCell] using h.size,fun k hk hne=>(Below.heap_setCell b q u k (by
  rintro rfl
  rcases hq with hq | hq
  ·exact hne (by rw [hq])
  ·omega)).trans (h.block k hk hne)⟩
theorem Ext.only {a b c : World} {p : Nat} (h : Ext a b) (k : Only b c p) (hp : a.heap.size <= p) : Ext a c:=h.grown k (fun q e=>by injection e with e;omega)
theorem ownsRow_setCell {w : World} {base : Nat} {e : TypeId} {size : Nat} {v : Value} {n : Nat} {xs : List Value} (h : w.ownsRow base e size v n xs) {a : Addr} (ha : v.ownBlock ≠ some a.block) (u : Value) : (w.setCell a u).ownsRow base e size v n xs :=
 h.kept (row:=some a.block) ⟨rfl,rfl,rfl,by simp [World.setCell],fun k _ hne=>Below.heap_setCell w a u k (fun e=>hne (by rw [e]))⟩ (.inr ha)

theorem ownsRow_base {w : World} {base b2 : Nat} {e : TypeId} {size : Nat} {v : Value} {n : Nat} {xs : List Value} (h : w.ownsRow base e size v n xs) (hb : b2 <= base) : w.ownsRow b2 e size v n xs:=by
 obtain ⟨h1,h2⟩:=h;refine ⟨h1,?_⟩
 rcases h2 with h2 | ⟨g,cap,cur,hv,hg,rest⟩
 ·exact .inl h2
 ·exact .inr ⟨g,cap,cur,hv,by omega,rest⟩

theorem size_set {w : World} {a : Addr} {u : Value} : (w.setCell a u).heap.size = w.heap.size:=by simp [World.setCell]
theorem size_drew {w : World} : w.drew.heap.size = w.heap.size:=rfl
theorem cellA {w : World} {o : Obj} {p i : Nat} (h : p < w.heap.size) : (w.alloc o).cell? ⟨p,i,none⟩ = w.cell? ⟨p,i,none⟩:=World.cell?_alloc_lt w o ⟨p,i,none⟩ h
def Row (w : World) (g : Nat) (cs : Array Value) : Prop:=g < w.heap.size /\ (∀ o,w.cell? ⟨g,o,none⟩ = cs[o]?) /\ (∀ o,w.frozen? ⟨g,o,none⟩ = false)
theorem Row.ext {w w' : World} {g : Nat} {cs : Array Value} (h : Ext w w') (r : Row w g cs) : Row w' g cs :=
 ⟨Nat.lt_of_lt_of_le r.1 h.size,fun o=>(h.cells g o r.1).trans (r.2.1 o),fun o=>(h.frozs g o r.1).trans (r.2.2 o)⟩
theorem Row.only {w w' : World} {g p : Nat} {cs : Array Value} (h : Only w w' p) (hp : g ≠ p) (r : Row w g cs) : Row w' g cs :=
 ⟨Nat.lt_of_lt_of_le r.1 h.size,fun o=>(h.cell r.1 hp o).trans (r.2.1 o),fun o=>(h.froz r.1 hp o).trans (r.2.2 o)⟩
theorem Row.new {w : World} {cs : Array Value} {t : TypeId} : Row (w.alloc (.cells cs t)) w.heap.size cs:=by
 have hh : (w.alloc (.cells cs t)).heap[w.heap.size]? = some (.cells cs t (0,0)):=heap_alloc_new w _;refine ⟨by simp,fun o=>cell_of_row _ _ o cs t (0,0) hh,fun o=>?_⟩;unfold World.frozen?;simp only [hh]
 simp
theorem Row.newAt {w : World} {g : Nat} {cs : Array Value} {t : TypeId} (hg : g = w.heap.size) : Row (w.alloc (.cells cs t)) g cs:=by
 subst hg;exact Row.new
theorem Row.alloc {w : World} {g : Nat} {cs : Array Value} {o : Obj} (r : Row w g cs) : Row (w.alloc o) g cs:=r.ext ((Ext.refl w).alloc o)
theorem Row.drew {w : World} {g : Nat} {cs : Array Value} (r : Row w g cs) : Row w.drew g cs:=r
theorem Row.drewN {w : World} {g n : Nat} {cs : Array Value} (r : Row w g cs) : Row (w.drewN n) g cs:=r
theorem Row.far {w : World} {g : Nat} {cs : Array Value} {p : Addr} {u : Value} (hp : g ≠ p.block) (r : Row w g cs) : Row (w.setCell p u) g cs :=
 Row.only ((Only.refl w p.block).setCell (.inl rfl) u) hp r
theorem Row.J4 {w : World} {g i : Nat} {cs : Array Value} {u : Value} (r : Row w g cs) : Row (w.setCell ⟨g,i,none⟩ u) g (cs.setIfInBounds i u):=by
 refine ⟨by rw [show (w.setCell ⟨g,i,none⟩ u).heap.size = w.heap.size from by simp [World.setCell]];exact r.1,fun o=>?_,fun o=>by simpa [go_sem] using r.2.2 o⟩;rw [Array.getElem?_setIfInBounds]
 by_cases e : i = o
 ·subst e
  rw [if_pos rfl];have hc:=r.2.1 i
  by_cases hi : i < cs.size
  ·rw [Array.getElem?_eq_getElem hi] at hc
   rw [if_pos hi];exact World.cell?_setCell_same _ _ _ hc
  ·rw [if_neg hi]
   rw [Array.getElem?_eq_none (by omega)] at hc
   cases hx : (w.setCell ⟨g,i,none⟩ u).cell? ⟨g,i,none⟩ with
   | none=>rfl
   | some y =>
    exfalso
    simp only [World.setCell,World.cell?,Array.getElem?_modify,if_true] at hx;simp only [World.cell?] at hc
    split at hc
    ·rename_i hh
     rw [hh] at hx
     simp at hx hc
     have:=(Array.getElem?_eq_some_iff.1 hx).1
     simp at this
     omega
    ·rename_i hh
     cases h3 : w.heap[g]? with
     | none=>rw [h3] at hx;simp at hx
     | some ob =>
      rw [h3] at hx
      cases ob <;> simp at hx
      rename_i c el fr
      exact hh _ _ _ h3
 ·rw [if_neg e]
  rw [World.cell?_setCell_other _ _ _ _ (by simp [e])];exact r.2.1 o
theorem Row.use {w : World} {g : Nat} {cs : Array Value} {G : Prop} (r : Row w g cs) (k : (∀ o,w.cell? ⟨g,o,none⟩ = cs[o]?) -> (∀ o,w.frozen? ⟨g,o,none⟩ = false) -> g < w.heap.size -> Hid (Row w g cs) -> G) : G:=k r.2.1 r.2.2 r.1 r

theorem Jo {k : IntKind} {a b : Int} (h : a = b) : Ending.returned (.int k a) = .returned (.int k b):=by rw [h]
theorem Jq {a b : Bool} (h : a = b) : Ending.returned (.bool a) = .returned (.bool b):=by rw [h]
theorem Je {w w' : World} (h : Ext w w':=by repeat (first | (with_reducible exact Ext.refl _) | (with_reducible refine Ext.alloc ?_ _) | (with_reducible apply Ext.Jl;focus (simp <;> omega)) | (with_reducible refine Ext.drew ?_) | (with_reducible refine Ext.drewN ?_ _) | (with_reducible refine Ext.trans ?_ (Hid.out ‹Hid (Ext _ _)›)))) : Ext w w':=h
theorem rowA {w : World} {g : Nat} {cs : Array Value} (h : Row w g cs:=by repeat (first | (with_reducible exact Hid.out ‹Hid (Row _ _ _)›) | (with_reducible exact Row.newAt rfl) | (with_reducible apply Row.newAt;(simp;done)) | (with_reducible apply Row.J4) | (with_reducible apply Row.far;focus (simp <;> omega)) | (with_reducible apply Row.alloc) | (with_reducible apply Row.drew) | (with_reducible apply Row.drewN) | (with_reducible apply Row.ext (Hid.out ‹Hid (Ext _ _)›)))) : Row w g cs:=h
theorem lSz : (∀ (w : World) (o : Obj),(w.alloc o).heap.size = w.heap.size + 1) /\ (∀ {w : World} {a : Addr} {u : Value},(w.setCell a u).heap.size = w.heap.size) /\ (∀ (w : World) (n : Nat),(w.drewN n).heap = w.heap) /\ (∀ {w : World},w.drew.heap.size = w.heap.size):=⟨World.size_alloc,size_set,World.heap_drewN,size_drew⟩
theorem Ji (w : World) (g : Nat) {cs0 cs : Array Value} {G : Prop} (k : (∀ o,w.cell? ⟨g,o,none⟩ = cs[o]?) -> (∀ o,w.frozen? ⟨g,o,none⟩ = false) -> g < w.heap.size -> Hid (Row w g cs) -> G) (r : Row w g cs0:=by exact rowA) (hc : cs0 = cs:=by ((try simp only [Jm]);exact rfl)) : G:=by
 subst hc;exact k r.2.1 r.2.2 r.1 r
theorem gA {P : Program} {f : Nat} {args : Array Value} {w : World} {r : Ending} {Q : Ending -> World -> Prop} {n : Nat} (h : Calls P f args w fun e w'=>e = r /\ Ext w w') (k : ∀ w',Hid (Ext w w') -> n <= w'.heap.size -> Q r w') (hn : w.heap.size = n:=by ((try simp only [lSz]);exact rfl)) : Calls P f args w Q :=
 h.mono (by rintro e w' ⟨rfl,hx⟩;exact k w' hx (hn ▸ hx.size))
theorem gB {P : Program} {f : Nat} {args : Array Value} {w : World} {r : Ending} {Q : Ending -> World -> Prop} (h : Calls P f args w fun e w'=>e = r /\ w = w') (k : Q r w) : Calls P f args w Q :=
 h.mono (by rintro e w' ⟨rfl,rfl⟩;exact k)

end Go.Proofs.YteojjbhadgkfgaaGreat

namespace Lb

structure Tk where
 id : Int
 kind : Int
 frm : Int
 til : Int
 JS : Int
 rides : Int
 deriving DecidableEq,Inhabited

structure Tp where
 ticket : Int
 gate : Int
 seq : Int
 time : Int
 zone : Int
 deriving DecidableEq,Inhabited

structure Ld where
 Jc : List Tk
 Jf : List Tp
 Jd : List Int
 deriving DecidableEq,Inhabited

structure Dn where
 Jk : Int
 ids : List Int
 deriving DecidableEq,Inhabited

structure Gt where
 id : Int
 zone : Int
 seq : Int
 Jn : List Tp
 Jb : Dn
 left : Int
 JP : Int
 deriving DecidableEq,Inhabited

structure Vw where
 JK : Int
 JE : Int
 up : Bool
 deriving DecidableEq,Inhabited

structure St where
 Ja : Ld
 Jb : Dn
 Jg : List Gt
 Jj : List Vw
 deriving DecidableEq,Inhabited

structure Ac where
 kind : Int
 id : Int
 of : Int
 time : Int
 ticket : Tk
 deriving DecidableEq,Inhabited

def tk0 : Tk:=⟨0,0,0,0,0,0⟩
def tp0 : Tp:=⟨0,0,0,0,0⟩
def ld0 : Ld:=⟨[],[],[]⟩
def dn0 : Dn:=⟨0,[]⟩
def gt0 : Gt:=⟨0,0,0,[],dn0,0,0⟩
def st0 : St:=⟨ld0,dn0,[],[]⟩

def within (n a b : Int) : Bool:=decide (a <= n) && decide (n <= b)

def JB (t : Tk) : Int :=
 if !(within t.id 1 9999 && within t.frm 0 9999 && within t.til 0 9999 && within t.JS 1 15) then 3
 else if !within t.kind 1 3 then 7
 else if t.til < t.frm then 4
 else if t.kind = 3 /\ within t.rides 2 9 = false \/ t.kind ≠ 3 /\ t.rides ≠ 0 then 1 else 0

def Zk (n : Int) : Bool:=n == 1 || n == 2 || n == 4 || n == 8

def Jv (p : Tp) : Int :=
 if !(within p.ticket 1 9999 && within p.gate 0 2 && within p.seq 1 99 && within p.time 0 9999) then 3
 else if !Zk p.zone then 9 else 0

def place (t : Tk) (time zone : Int) : Int :=
 if time < t.frm \/ t.til < time then 8
 else if t.JS / zone % 2 = 0 then 9 else 0

def goesOn (last : Option Int) (time : Int) : Bool :=
 match last with
 | none=>false
 | some s=>decide (s <= time) && decide (time < s + 60)

def judge (t : Tk) (last : Option Int) (rides : Int) (p : Tp) : Int × Int :=
 let e:=place t p.time p.zone
 if e ≠ 0 then (3,e)
 else if goesOn last p.time then (2,0)
 else if t.kind = 1 /\ 1 <= rides \/ t.kind = 3 /\ t.rides <= rides then (3,10)
 else (1,0)

def Zo (f : Tp -> Int) : List Tp -> Int
 | []=>0
 | p :: l=>if f p ≠ 0 then f p else Zo f l

def Zi (was : List Tp) : Option Int:=was.getLast?.map (·.time)

def ZC (prev : Option Int) (n : Int) : Bool :=
 match prev with
 | none=>false
 | some b=>decide (n <= b)

def J5 : Option Int -> List Tk -> Int
 | _,[]=>0
 | prev,t :: l =>
  if JB t ≠ 0 then JB t
  else if ZC prev t.id then 4
  else J5 (some t.id) l

def isRide (id : Int) (x : Tp × Int) : Bool:=x.1.ticket == id && x.2 == 1

def ZV (Jf : List Tp) (vs : List Int) (id : Int) : List Tp :=
 ((Jf.zip vs).filter (isRide id)).map (·.1)

end Lb

namespace Go.Proofs.YteojjbhadgkfgaaGreat
set_option linter.unusedSimpArgs false
set_option linter.unusedVariables false
set_option maxRecDepth 100000
open Go Go.RowKit Lb

def RdL {α : Type} [Inhabited α] (k : Nat) (enc : α -> Array Value) (w : World) (v : Value) (l : List α) : Prop :=
 ∃ A c,v = .slice A l.length c /\ l.length <= c /\ c <= maxLen /\ (0 < l.length -> ∃ b o,A = some ⟨b,o,none⟩ /\ b < w.heap.size /\
  ∀ j,j < l.length -> ∀ i u,(enc l[j]!)[i]? = some u -> w.cell? ⟨b,o + j * k + i,none⟩ = some u)

section
variable {α : Type} [Inhabited α] {k : Nat} {enc : α -> Array Value} {w w' : World} {v : Value} {l : List α}
theorem RdL.nil : RdL k enc w (.slice none 0 0) ([] : List α):=⟨none,0,rfl,Nat.le_refl _,Nat.zero_le _,fun h=>by simp at h⟩
theorem RdL.keep (h : RdL k enc w v l) (hk : ∀ b o,b < w.heap.size -> w'.cell? ⟨b,o,none⟩ = w.cell? ⟨b,o,none⟩) (hs : w.heap.size <= w'.heap.size) : RdL k enc w' v l:=by
 obtain ⟨A,c,hv,h1,h2,h3⟩:=h;refine ⟨A,c,hv,h1,h2,fun hn=>?_⟩;obtain ⟨b,o,hA,hb,hc⟩:=h3 hn;exact ⟨b,o,hA,by omega,fun j hj i u hu=>(hk b _ hb).trans (hc j hj i u hu)⟩
theorem RdL.ext (h : RdL k enc w v l) (he : Ext w w') : RdL k enc w' v l:=h.keep he.cells he.size
end

def tkc (t : Tk) : Array Value:=#[.int .i64 t.id,.int .i64 t.kind,.int .i64 t.frm,.int .i64 t.til,.int .i64 t.JS,.int .i64 t.rides]

theorem ticket_within (n a b : Int) (w : World) :
  Calls Tryz.prog 124 #[.int .i64 n,.int .i64 a,.int .i64 b] w fun e w'=>e = .returned (.bool (within n a b)) /\ w = w':=by
 go_enter Tryz.func124,Tryz.ntmps124
 go_wp2
 all_goals
  go_ret;exact ⟨Jq (by simp [within, *] <;> omega),rfl⟩

theorem JA (n a b : Int) (w : World) :
  Calls Tryz.prog 60 #[.int .i64 n,.int .i64 a,.int .i64 b] w fun e w'=>e = .returned (.bool (within n a b)) /\ w = w':=by
 go_enter Tryz.func60,Tryz.ntmps60
 go_wp2
 all_goals
  go_ret;exact ⟨Jq (by simp [within, *] <;> omega),rfl⟩

theorem ticket_Check (t : Tk) (w : World) :
  Calls Tryz.prog 78 #[.agg (tkc t)] w fun e w'=>e = .returned (.int .i64 (JB t)) /\ Ext w w':=by
 obtain ⟨a,b,c,d,e,f⟩:=t;unfold tkc;go_enter Tryz.func78,Tryz.ntmps78
 go_wp2_with (go_at_call 124;refine gB (ticket_within _ _ _ _) ?_)
 all_goals
  go_ret;refine ⟨Jo ?_,(Ext.refl _).alloc _⟩
  simp_all [JB]
theorem ref_CheckTicket (t : Tk) (w : World) :
  Calls Tryz.prog 106 #[.agg (tkc t)] w fun e w'=>e = .returned (.int .i64 (JB t)) /\ Ext w w':=by
 obtain ⟨a,b,c,d,e,f⟩:=t;unfold tkc;go_enter Tryz.func106,Tryz.ntmps106
 go_wp2_with (go_at_call 60;refine gB (JA _ _ _ _) ?_)
 all_goals
  go_ret;refine ⟨Jo ?_,(Ext.refl _).alloc _⟩
  simp_all [JB]

def tpc (p : Tp) : Array Value:=#[.int .i64 p.ticket,.int .i64 p.gate,.int .i64 p.seq,.int .i64 p.time,.int .i64 p.zone]
def inc (n : Int) : Array Value:=#[.int .i64 n]

theorem rule_within (n a b : Int) (w : World) :
  Calls Tryz.prog 165 #[.int .i64 n,.int .i64 a,.int .i64 b] w fun e w'=>e = .returned (.bool (within n a b)) /\ w = w':=by
 go_enter Tryz.func165,Tryz.ntmps165
 go_wp2
 all_goals
  go_ret;exact ⟨Jq (by simp [within, *] <;> omega),rfl⟩

theorem ref_IsZone (n : Int) (w : World) :
  Calls Tryz.prog 110 #[.int .i64 n] w fun e w'=>e = .returned (.bool (Zk n)) /\ w = w':=by
 go_enter Tryz.func110,Tryz.ntmps110
 go_wp2
 all_goals
  go_ret;exact ⟨Jq (by simp_all [Zk]),rfl⟩

def idxInt (l : List Int) (n : Int) : Int:=match l.findIdx? (fun x=>n == x) with
 | some i=>i
 | none=>-1

theorem XP {α : Type} {p : α -> Bool} {l : List α} {k : Nat} (hk : k < l.length) (h0 : ∀ j (hj : j < k),p (l[j]'(by omega)) = false) (h1 : p l[k] = true) : l.findIdx? p = some k:=by
 rw [List.findIdx?_eq_some_iff_getElem];exact ⟨hk,h1,fun j hj=>by simp [h0 j hj]⟩
theorem findIdx_none {α : Type} {p : α -> Bool} {l : List α} (h0 : ∀ j (hj : j < l.length),p l[j] = false) : l.findIdx? p = none:=by
 rw [List.findIdx?_eq_none_iff];intro x hx;obtain ⟨j,hj,rfl⟩:=List.mem_iff_getElem.1 hx;exact h0 j hj

theorem slices_Index_int (l : List Int) (n : Int) (v : Value) (w : World) (hr : RdL 1 inc w v l) :
  Calls Tryz.prog 137 #[v,.int .i64 n] w fun e w'=>e = .returned (.int .i64 (idxInt l n)) /\ w = w':=by
 obtain ⟨A,c,rfl,h1,h2,h3⟩:=hr
 have hm : l.length <= 9223372036854775807:=by unfold maxLen at h2;omega
 have H3:=hH h3;clear h3 h1 h2;go_enter Tryz.func137,Tryz.ntmps137
 go_wp2
 go_loopg [4,5,8] l.length (fun gg _ _ s8 wr=>wr = w /\ ∃ k : Nat,k <= l.length /\ l.length - k <= gg /\ s8 = .int .i64 k /\ Aside (∀ j (hj : j < k),(h : j < l.length) -> (n == l[j]) = false))
 case atStart=>exact ⟨rfl,0,Nat.zero_le _,by omega,rfl,fun j hj=>by omega⟩
 case round =>
  obtain ⟨rfl,k,hk,hg,rfl,HA⟩:=hrel
  by_cases hlt : k < l.length
  ·obtain ⟨b,o,rfl,hb,hc⟩:=H3.out (by omega)
   have hx:=hc k hlt 0 (.int .i64 l[k]) (by simp [inc,hlt]);simp only [Nat.mul_one,Nat.add_zero] at hx;clear hc;have HL:=hH hlt
   have hlt' : (k : Int) < (l.length : Int):=by omega
   generalize hX : l[k] = x at hx;have HX:=hH hX;clear hX
   by_cases hnx : (n == x) = true
   ·go_wp2
    go_ret;refine ⟨Jo ?_,rfl⟩;unfold idxInt;rw [XP HL.out (fun j hj=>HA.out j hj (by omega)) (by rw [<- HX.out] at hnx;exact hnx)]
   ·have hnx' : (n == x) = false:=by simpa using hnx
    clear hnx
    go_wp2
    go_roundg (l.length - (k + 1))
    case measure=>omega
    case rel =>
     refine ⟨rfl,k + 1,by omega,by omega,by go_num,fun j hj h=>?_⟩
     by_cases e : j = k
     ·subst e;rw [<- HX.out] at hnx';exact hnx'
     ·exact HA.out j (by omega) h
  ·have hkl : k = l.length:=by omega
   have hge : ¬ (k : Int) < (l.length : Int):=by omega
   have HK:=hH hkl;clear hkl
   go_wp2
   go_ret;refine ⟨Jo ?_,rfl⟩;unfold idxInt;rw [findIdx_none (fun j hj=>HA.out j (by have:=HK.out;omega) hj)]

def encs {α : Type} (enc : α -> Array Value) (l : List α) : List Value:=l.flatMap fun x=>(enc x).toList
section
variable {α : Type} {enc : α -> Array Value} {k : Nat}
theorem encs_nil : encs enc [] = []:=rfl
theorem Z7 (x : α) (l : List α) : encs enc (x :: l) = (enc x).toList ++ encs enc l:=rfl
theorem encs_append (a b : List α) : encs enc (a ++ b) = encs enc a ++ encs enc b:=by simp [encs]
theorem Zv (hk : ∀ x,(enc x).size = k) (l : List α) : (encs enc l).length = l.length * k:=by
 induction l with
 | nil=>simp [encs]
 | cons x l ih=>rw [Z7,List.length_append,ih,Array.length_toList,hk,List.length_cons,Nat.add_mul];omega
theorem XV (hk : ∀ x,(enc x).size = k) (l : List α) (j i : Nat) (hj : j < l.length) (hi : i < k) : (encs enc l)[j * k + i]? = (enc l[j])[i]?:=by
 induction l generalizing j with
 | nil=>simp at hj
 | cons x l ih =>
  rw [Z7]
  cases j with
  | zero=>rw [List.getElem?_append_left (by rw [Array.length_toList,hk];omega)];simp
  | succ j =>
   rw [List.getElem?_append_right (by rw [Array.length_toList,hk,Nat.succ_mul];omega),Array.length_toList,hk];rw [show (j + 1) * k + i - k = j * k + i from by rw [Nat.succ_mul];omega];exact ih j (by simpa using hj)
theorem encs_drop (hk : ∀ x,(enc x).size = k) (l : List α) (j : Nat) : (encs enc l).drop (j * k) = encs enc (l.drop j):=by
 induction l generalizing j with
 | nil=>simp [encs]
 | cons x l ih =>
  cases j with
  | zero=>simp
  | succ j =>
   rw [Z7,List.drop_succ_cons,<- ih j,Nat.succ_mul,Nat.add_comm,<- List.drop_drop]
   congr 1
   rw [List.drop_append_of_le_length (by rw [Array.length_toList,hk];exact Nat.le_refl _),List.drop_of_length_le (by rw [Array.length_toList,hk];exact Nat.le_refl _)]
   rfl
theorem encs_take (hk : ∀ x,(enc x).size = k) (l : List α) (j : Nat) : (encs enc l).take (j * k) = encs enc (l.take j):=by
 induction l generalizing j with
 | nil=>simp [encs]
 | cons x l ih =>
  cases j with
  | zero=>simp [encs]
  | succ j =>
   rw [Z7,List.take_succ_cons,Z7,<- ih j,List.take_append,List.take_of_length_le (by rw [Array.length_toList,hk,Nat.succ_mul];omega),Array.length_toList,hk];rw [show (j + 1) * k - k = j * k from by rw [Nat.succ_mul];omega]
end

def Jh {α : Type} (e : TypeId) (k : Nat) (enc : α -> Array Value) (base : Nat) (w : World) (v : Value) (l : List α) : Prop :=
 w.ownsRow base e k v l.length (encs enc l)

section
variable {α : Type} {e : TypeId} {k base : Nat} {enc : α -> Array Value} {w w' : World} {v : Value} {l : List α}
theorem Jh.rd [Inhabited α] (h : Jh e k enc base w v l) (hk : ∀ x,(enc x).size = k) : RdL k enc w v l:=by
 obtain ⟨h1,h2⟩:=h
 rcases h2 with ⟨rfl,h0⟩ | ⟨g,cap,cur,rfl,hb,hg,hn,hm,hs,ht⟩
 ·have : l = []:=List.eq_nil_of_length_eq_zero h0
  subst this;exact RdL.nil
 ·refine ⟨_,cap,rfl,hn,hm,fun _=>⟨g,0,rfl,?_,fun j hj i u hu=>?_⟩⟩
  ·exact (Array.getElem?_eq_some_iff.1 hg).1
  ·have hi : i < k:=by have:=(Array.getElem?_eq_some_iff.1 hu).1;rwa [hk] at this
   rw [Nat.zero_add,cell_of_row w g _ cur e (0,0) hg]
   have hx : (encs enc l)[j * k + i]? = some u:=by
    rw [XV hk l j i hj hi]
    rwa [show l[j]! = l[j] from by simp [hj]] at hu
   rw [<- ht] at hx;rw [List.getElem?_take] at hx
   split at hx
   ·rw [<- Array.getElem?_toList];exact hx
   ·cases hx
theorem Jh.ext (h : Jh e k enc base w v l) (he : Ext w w') : Jh e k enc base w' v l:=by
 unfold Jh at h ⊢;refine h.kept (row:=none) ⟨he.os,he.tape,he.output,Ext.size he,fun i hi _=>he.block i hi⟩ ?_
 cases hv : v.ownBlock <;> simp
theorem Jh.lower {b2 : Nat} (h : Jh e k enc base w v l) (hb : b2 <= base) : Jh e k enc b2 w v l:=ownsRow_base h hb
theorem Jh.nil : Jh e k enc base w (.slice none 0 0) ([] : List α):=World.ownsRow_nil _ _ _ _
theorem Jh.drew (h : Jh e k enc base w v l) : Jh e k enc base w.drew v l:=h
theorem Jh.drewN (n : Nat) (h : Jh e k enc base w v l) : Jh e k enc base (w.drewN n) v l:=h
theorem Jh.alloc (o : Obj) (h : Jh e k enc base w v l) : Jh e k enc base (w.alloc o) v l:=World.ownsRow.alloc h o
theorem Jh.set {a : Addr} (h : Jh e k enc base w v l) (ha : a.block < base) (u : Value) : Jh e k enc base (w.setCell a u) v l :=
 ownsRow_setCell h (fun q=>by have:=h.lt _ q;omega) u
theorem Jh.Jl {a : Addr} {u : Value} (ha : a.block < base) (h : Jh e k enc base w v l) : Jh e k enc base (w.setCell a u) v l:=h.set ha u
theorem Jh.form (h : Jh e k enc base w v l) : ∃ A c,v = .slice A l.length c:=by
 obtain ⟨h1,h2⟩:=h
 rcases h2 with ⟨rfl,h0⟩ | ⟨g,cap,cur,rfl,-⟩
 ·exact ⟨none,0,by rw [h0]⟩
 ·exact ⟨_,cap,rfl⟩
end
theorem JH (t : Tk) : (tkc t).size = 6:=rfl
theorem Jr (p : Tp) : (tpc p).size = 5:=rfl
theorem JD (n : Int) : (inc n).size = 1:=rfl
theorem Xc (l : List Int) : encs inc l = l.map (Value.int .i64):=by
 induction l with
 | nil=>rfl
 | cons x l ih=>rw [Z7,ih];rfl
end Go.Proofs.YteojjbhadgkfgaaGreat

namespace Lb

def eachE {α : Type} (f : α -> Int) : List α -> Int
 | []=>0
 | x :: l=>if f x ≠ 0 then f x else eachE f l
theorem eachE_cons {α : Type} (f : α -> Int) (x : α) (l : List α) : eachE f (x :: l) = if f x ≠ 0 then f x else eachE f l:=rfl
theorem eachE_ok {α : Type} {f : α -> Int} {l : List α} : eachE f l = 0 ↔ ∀ x ∈ l,f x = 0:=by
 induction l with
 | nil=>simp [eachE]
 | cons a l ih =>
  rw [eachE_cons]
  by_cases ha : f a = 0
  ·rw [if_neg (by simpa using ha),ih]
   simp [ha]
  ·rw [if_pos ha]
   simp [ha]
def JM (p x : Tp) : Bool:=x.gate == p.gate && x.seq == p.seq
def JU (tks : List Tk) (id : Int) : Option Tk:=tks.find? (fun t=>t.id == id)
def Xa (Jf : List Tp) (p : Tp) : Bool:=match Jf.getLast? with
 | none=>false
 | some x=>decide (p.time < x.time)
def judgeIn (t : Tk) (Jf : List Tp) (vs : List Int) (p : Tp) : Int × Int :=
 judge t (Zi (ZV Jf vs p.ticket)) (ZV Jf vs p.ticket).length p
def Xw (tks : List Tk) (Jf : List Tp) (vs : List Int) (p : Tp) : Int × Int :=
 if Jv p ≠ 0 then (0,Jv p)
 else match JU tks p.ticket with
  | none=>(0,5)
  | some t=>if Jf.any (JM p) then (0,6) else if Xa Jf p then (0,4) else judgeIn t Jf vs p
def Zl (tks : List Tk) (Jf : List Tp) (vs : List Int) (p : Tp) (v : Int) : Int :=
 if Jv p ≠ 0 then Jv p
 else match JU tks p.ticket with
  | none=>5
  | some t=>if Jf.any (JM p) then 6 else if v ≠ 1 /\ v ≠ 2 then 7 else if Xa Jf p then 4 else if (judgeIn t Jf vs p).1 ≠ v then 4 else 0
def ZE (tks : List Tk) : List Tp -> List Int -> List Tp -> List Int -> Int
 | pre,pv,p :: l,v :: vl=>if Zl tks pre pv p v ≠ 0 then Zl tks pre pv p v else ZE tks (pre ++ [p]) (pv ++ [v]) l vl
 | _,_,_,_=>0
def Js (l : Ld) : Int :=
 if 12 < l.Jc.length \/ 60 < l.Jf.length \/ l.Jf.length ≠ l.Jd.length then 2
 else if J5 none l.Jc ≠ 0 then J5 none l.Jc
 else ZE l.Jc [] [] l.Jf l.Jd
def Right (l : Ld) : Prop:=Js l = 0

def Jy (l : Ld) (p : Tp) : Ld × Int × Int :=
 if (Xw l.Jc l.Jf l.Jd p).2 ≠ 0 then (ld0,(Xw l.Jc l.Jf l.Jd p).1,(Xw l.Jc l.Jf l.Jd p).2)
 else if l.Jf.length = 60 then (ld0,0,2)
 else (⟨l.Jc,l.Jf ++ [p],l.Jd ++ [(Xw l.Jc l.Jf l.Jd p).1]⟩,(Xw l.Jc l.Jf l.Jd p).1,0)
def enterAll (l : Ld) (p : Tp) : Ld × Int × Int:=if Js l ≠ 0 then (ld0,0,Js l) else Jy l p

def ZK (t : Tk) : List Tk -> List Tk
 | []=>[t]
 | x :: l=>if x.id < t.id then x :: ZK t l else t :: x :: l
def ZZ (l : Ld) (t : Tk) : Ld × Int :=
 if JB t ≠ 0 then (ld0,JB t)
 else if l.Jc.any (fun x=>x.id == t.id) then (ld0,6)
 else if l.Jc.length = 12 then (ld0,2)
 else (⟨ZK t l.Jc,l.Jf,l.Jd⟩,0)
def sellAll (l : Ld) (t : Tk) : Ld × Int:=if Js l ≠ 0 then (ld0,Js l) else ZZ l t
theorem judge_cases (t : Tk) (last : Option Int) (r : Int) (p : Tp) : ((judge t last r p).1 = 1 /\ (judge t last r p).2 = 0) \/ ((judge t last r p).1 = 2 /\ (judge t last r p).2 = 0) \/ ((judge t last r p).1 = 3 /\ (judge t last r p).2 ≠ 0):=by
 unfold judge
 by_cases h1 : place t p.time p.zone = 0
 ·simp only [h1,ne_eq,not_true_eq_false,if_false]
  split
  ·simp
  ·split <;> simp
 ·simp [h1]
theorem tapV_ok {tks : List Tk} {Jf : List Tp} {vs : List Int} {p : Tp} (h : (Xw tks Jf vs p).2 = 0) :
  Jv p = 0 /\ ∃ t,JU tks p.ticket = some t /\ Jf.any (JM p) = false /\ Xa Jf p = false /\ Xw tks Jf vs p = judgeIn t Jf vs p /\ ((Xw tks Jf vs p).1 = 1 \/ (Xw tks Jf vs p).1 = 2):=by
 unfold Xw at h ⊢
 by_cases h1 : Jv p = 0
 ·simp only [h1,ne_eq,not_true_eq_false,if_false] at h ⊢
  cases ht : JU tks p.ticket with
  | none=>simp [ht] at h
  | some t =>
   simp only [ht] at h ⊢
   cases ha : Jf.any (JM p) with
   | true=>simp [ha] at h
   | false =>
    cases hl : Xa Jf p with
    | true=>simp [ha,hl] at h
    | false =>
     simp only [ha,hl,Bool.false_eq_true,if_false] at h ⊢;refine ⟨trivial,t,rfl,by trivial,by trivial,rfl,?_⟩;have:=judge_cases t (Zi (ZV Jf vs p.ticket)) (ZV Jf vs p.ticket).length p;unfold judgeIn at h ⊢
     omega
 ·simp [h1] at h
theorem ckTapAt_of_tapV {tks : List Tk} {Jf : List Tp} {vs : List Int} {p : Tp} (h : (Xw tks Jf vs p).2 = 0) : Zl tks Jf vs p (Xw tks Jf vs p).1 = 0:=by
 obtain ⟨h1,t,h2,h3,h4,h5,h6⟩:=tapV_ok h;unfold Zl;rw [h5] at h6 ⊢;simp only [h1,h2,h3,h4,ne_eq,not_true_eq_false,if_false,Bool.false_eq_true];rw [if_neg (by omega)]
theorem ckTaps_snoc (tks : List Tk) (p : Tp) (v : Int) : ∀ (l : List Tp) (vl : List Int) (pre : List Tp) (pv : List Int),l.length = vl.length ->
  ZE tks pre pv (l ++ [p]) (vl ++ [v]) = if ZE tks pre pv l vl ≠ 0 then ZE tks pre pv l vl else Zl tks (pre ++ l) (pv ++ vl) p v
 | [],[],pre,pv,_=>by
  by_cases hc : Zl tks pre pv p v = 0 <;> simp [ZE,hc]
 | x :: l,y :: vl,pre,pv,h=>by
  have ih:=ckTaps_snoc tks p v l vl (pre ++ [x]) (pv ++ [y]) (by simpa using h)
  by_cases hc : Zl tks pre pv x y = 0
  ·simp only [List.cons_append,ZE,hc,ne_eq,not_true_eq_false,if_false,ih]
   simp
  ·simp [List.cons_append,ZE,hc]
 | [],_ :: _,_,_,h=>by simp at h
 | _ :: _,[],_,_,h=>by simp at h
theorem J6 {l : Ld} : Right l ↔ l.Jc.length <= 12 /\ l.Jf.length <= 60 /\ l.Jf.length = l.Jd.length /\ J5 none l.Jc = 0 /\ ZE l.Jc [] [] l.Jf l.Jd = 0:=by
 unfold Right Js
 by_cases h1 : 12 < l.Jc.length \/ 60 < l.Jf.length \/ l.Jf.length ≠ l.Jd.length
 ·rw [if_pos h1]
  constructor
  ·intro h;simp at h
  ·intro h;omega
 ·rw [if_neg h1]
  by_cases h2 : J5 none l.Jc = 0
  ·rw [if_neg (by simpa using h2)]
   constructor
   ·intro h;exact ⟨by omega,by omega,by omega,h2,h⟩
   ·intro h;exact h.2.2.2.2
  ·rw [if_pos h2]
   constructor
   ·intro h;exact absurd h h2
   ·intro h;exact absurd h.2.2.2.1 h2
theorem right_snoc {tks : List Tk} {Jf : List Tp} {vs : List Int} {p : Tp} (h : Right ⟨tks,Jf,vs⟩) (hl : Jf.length < 60) (hv : (Xw tks Jf vs p).2 = 0) : Right ⟨tks,Jf ++ [p],vs ++ [(Xw tks Jf vs p).1]⟩:=by
 obtain ⟨h1,h2,h3,h4,h5⟩:=J6.1 h;simp only at h1 h2 h3 h4 h5;refine J6.2 ⟨h1,by simp;omega,by simp;omega,h4,?_⟩
 simp only
 rw [ckTaps_snoc tks _ _ _ _ _ _ h3,if_neg (by simpa using h5)]
 simpa using ckTapAt_of_tapV hv
theorem enter_right {l a : Ld} {p : Tp} {v : Int} (h : Right l) (he : Jy l p = (a,v,0)) : Right a /\ a = ⟨l.Jc,l.Jf ++ [p],l.Jd ++ [v]⟩ /\ l.Jf.length < 60 /\ Xw l.Jc l.Jf l.Jd p = (v,0) /\ (v = 1 \/ v = 2):=by
 unfold Jy at he;have h60:=(J6.1 h).2.1
 by_cases h1 : (Xw l.Jc l.Jf l.Jd p).2 = 0
 ·rw [if_neg (by simpa using h1)] at he
  by_cases h2 : l.Jf.length = 60
  ·rw [if_pos h2] at he;simp at he
  ·rw [if_neg h2] at he
   simp only [Prod.mk.injEq,and_true] at he;obtain ⟨rfl,hv⟩:=he;have hr:=right_snoc (tks:=l.Jc) (Jf:=l.Jf) (vs:=l.Jd) h (by omega) h1;obtain ⟨-,t,-,-,-,-,h6⟩:=tapV_ok h1;refine ⟨hr,by rw [hv],by omega,?_,by omega⟩;rw [<- hv,<- h1]
 ·rw [if_pos h1] at he
  simp only [Prod.mk.injEq] at he;exact absurd he.2.2 h1
end Lb

namespace Go.Proofs.YteojjbhadgkfgaaGreat
set_option linter.unusedSimpArgs false
set_option linter.unusedVariables false
set_option maxRecDepth 100000
open Go Go.RowKit Lb

section
variable {α : Type} [Inhabited α] {k : Nat} {enc : α -> Array Value} {w w' : World} {v : Value} {l : List α}
theorem RdL.at_ (h : RdL k enc w v l) {j : Nat} (hj : j < l.length) : ∃ b o c,v = .slice (some ⟨b,o,none⟩) l.length c /\ b < w.heap.size /\ ∀ i u,(enc l[j])[i]? = some u -> w.cell? ⟨b,o + j * k + i,none⟩ = some u:=by
 obtain ⟨A,c,rfl,h1,h2,h3⟩:=h;obtain ⟨b,o,rfl,hb,hc⟩:=h3 (by omega);refine ⟨b,o,c,rfl,hb,fun i u hu=>hc j hj i u ?_⟩
 rwa [show l[j]! = l[j] from by simp [hj]]
theorem RdL.form (h : RdL k enc w v l) : ∃ A c,v = .slice A l.length c /\ l.length <= c /\ c <= maxLen:=by
 obtain ⟨A,c,rfl,h1,h2,-⟩:=h;exact ⟨A,c,rfl,h1,h2⟩
theorem RdL.take {A : Option Addr} {n c : Nat} (h : RdL k enc w (.slice A n c) l) (j : Nat) (hj : j <= l.length) : RdL k enc w (.slice A j c) (l.take j):=by
 obtain ⟨A',c',hv,h1,h2,h3⟩:=h
 injection hv with hA hn hc
 subst hA hn hc
 have hl : (l.take j).length = j:=by rw [List.length_take];omega
 refine ⟨A,c,by rw [hl],by omega,h2,fun hp=>?_⟩;obtain ⟨b,o,hA,hb,hcl⟩:=h3 (by omega);refine ⟨b,o,hA,hb,fun i hi u x hx=>hcl i (by omega) u x ?_⟩
 have h1 : (l.take j)[i]! = l[i]!:=by
  rw [hl] at hi
  have h3 : i < l.length:=by omega
  simp [h3,hi]
 rwa [h1] at hx
end
def XI {α : Type} (p : α -> Bool) (l : List α) : Int:=match l.findIdx? p with
 | some i=>i
 | none=>-1

theorem ixBy_any {α : Type} (p : α -> Bool) (l : List α) : decide (0 <= XI p l) = l.any p:=by
 unfold XI
 cases hf : l.findIdx? p with
 | none =>
  rw [List.findIdx?_eq_none_iff] at hf;simp only [Int.reduceNeg,Int.reduceLE,decide_false]
  symm
  rw [List.any_eq_false];intro x hx
  simp [hf x hx]
 | some i =>
  rw [List.findIdx?_eq_some_iff_getElem] at hf;obtain ⟨h1,h2,_⟩:=hf;simp only [Int.natCast_nonneg,decide_true]
  symm
  rw [List.any_eq_true];exact ⟨_,List.getElem_mem h1,h2⟩

theorem take_snoc_get {α : Type} (l : List α) (k : Nat) (h : k < l.length) : l.take (k + 1) = l.take k ++ [l[k]]:=List.take_succ_eq_append_getElem h

theorem IndexFunc_tk (p : Tk -> Bool) (g : Nat) (lb : Array Value) (eg : ∀ args w,(callFunc g args).run Tryz.prog w = .ok (.enter g args) w) (l : List Tk) (v : Value) (w : World) (hr : RdL 6 tkc w v l)
  (hp : ∀ W x,Ext w W -> Calls Tryz.prog g (#[.agg (tkc x)] ++ lb) W fun e w'=>e = .returned (.bool (p x)) /\ Ext W w') :
  Calls Tryz.prog 177 #[v,.func (.func g) #[] lb] w fun e w'=>e = .returned (.int .i64 (XI p l)) /\ Ext w w':=by
 obtain ⟨A,c,rfl,h1,h2,h3⟩:=hr
 have hm : l.length <= 9223372036854775807:=by unfold maxLen at h2;omega
 have H3:=hH h3;have HP:=hH hp;clear h3 h1 h2 hp;go_enter Tryz.func177,Tryz.ntmps177
 go_wp2
 go_loopg [4,5,8] l.length (fun gg _ _ s8 wr=>∃ k : Nat,k <= l.length /\ l.length - k <= gg /\ s8 = .int .i64 k /\ Aside (Ext w wr) /\ Aside (∀ j (hj : j < k),(h : j < l.length) -> p l[j] = false))
 case atStart=>exact ⟨0,Nat.zero_le _,by omega,rfl,Ext.refl _,fun j hj=>by omega⟩
 case round =>
  obtain ⟨k,hk,hg,rfl,HE,HA⟩:=hrel
  by_cases hlt : k < l.length
  ·obtain ⟨b,o,rfl,hb,hc⟩:=H3.out (by omega)
   have hbr : b < wr.heap.size:=Nat.lt_of_lt_of_le hb HE.out.size;have hcr : ∀ i u,(tkc l[k]!)[i]? = some u -> wr.cell? ⟨b,o + k * 6 + i,none⟩ = some u:=fun i u hu=>(HE.out.cells b _ hb).trans (hc k hlt i u hu);clear hc
   have hkk : l[k]! = l[k]:=by simp [hlt]
   rw [hkk] at hcr;have HL:=hH hlt
   have hlt' : (k : Int) < (l.length : Int):=by omega
   generalize hX : l[k] = x at hcr;have HX:=hH hX;clear hX hkk;have hcall:=HP.out wr x HE.out;obtain ⟨x0,x1,x2,x3,x4,x5⟩:=x;have c0:=hcr 0 _ rfl;have c1:=hcr 1 _ rfl;have c2:=hcr 2 _ rfl;have c3:=hcr 3 _ rfl;have c4:=hcr 4 _ rfl;have c5:=hcr 5 _ rfl;simp only [Nat.add_zero] at c0;clear hcr;unfold tkc at hcall
   cases hq : p ⟨x0,x1,x2,x3,x4,x5⟩ with
   | true =>
    rw [hq] at hcall;have HC:=hH hcall;have HQ:=hH hq;clear hcall hq
    go_wp2_with (go_at_fn g;refine (HC.out).mono ?_;rintro e w1 ⟨rfl,h1⟩)
    go_ret;refine ⟨Jo ?_,HE.out.trans h1⟩;unfold XI;rw [XP HL.out (fun j hj=>HA.out j hj (by omega)) (by have:=HQ.out;rw [<- HX.out] at this;exact this)]
   | false =>
    rw [hq] at hcall;have HC:=hH hcall;have HQ:=hH hq;clear hcall hq
    go_wp2_with (go_at_fn g;refine (HC.out).mono ?_;rintro e w1 ⟨rfl,h1⟩)
    go_roundg (l.length - (k + 1))
    case measure=>omega
    case rel =>
     refine ⟨k + 1,by omega,by omega,by go_num,HE.out.trans h1,fun j hj h=>?_⟩
     by_cases e : j = k
     ·subst e;have:=HQ.out;rw [<- HX.out] at this;exact this
     ·exact HA.out j (by omega) h
  ·have hkl : k = l.length:=by omega
   have hge : ¬ (k : Int) < (l.length : Int):=by omega
   have HK:=hH hkl;clear hkl
   go_wp2
   go_ret;refine ⟨Jo ?_,HE.out⟩;unfold XI;rw [findIdx_none (fun j hj=>HA.out j (by have:=HK.out;omega) hj)]


theorem IndexFunc_tpx (p : Tp -> Bool) (g : Nat) (lb : Array Value) (eg : ∀ args w,(callFunc g args).run Tryz.prog w = .ok (.enter g args) w) (l : List Tp) (v : Value) (w : World) (hr : RdL 5 tpc w v l)
  (hp : ∀ W x,Ext w W -> Calls Tryz.prog g (#[.agg (tpc x)] ++ lb) W fun e w'=>e = .returned (.bool (p x)) /\ Ext W w') :
  Calls Tryz.prog 161 #[v,.func (.func g) #[] lb] w fun e w'=>e = .returned (.int .i64 (XI p l)) /\ Ext w w':=by
 obtain ⟨A,c,rfl,h1,h2,h3⟩:=hr
 have hm : l.length <= 9223372036854775807:=by unfold maxLen at h2;omega
 have H3:=hH h3;have HP:=hH hp;clear h3 h1 h2 hp;go_enter Tryz.func161,Tryz.ntmps161
 go_wp2
 go_loopg [4,5,8] l.length (fun gg _ _ s8 wr=>∃ k : Nat,k <= l.length /\ l.length - k <= gg /\ s8 = .int .i64 k /\ Aside (Ext w wr) /\ Aside (∀ j (hj : j < k),(h : j < l.length) -> p l[j] = false))
 case atStart=>exact ⟨0,Nat.zero_le _,by omega,rfl,Ext.refl _,fun j hj=>by omega⟩
 case round =>
  obtain ⟨k,hk,hg,rfl,HE,HA⟩:=hrel
  by_cases hlt : k < l.length
  ·obtain ⟨b,o,rfl,hb,hc⟩:=H3.out (by omega)
   have hbr : b < wr.heap.size:=Nat.lt_of_lt_of_le hb HE.out.size;have hcr : ∀ i u,(tpc l[k]!)[i]? = some u -> wr.cell? ⟨b,o + k * 5 + i,none⟩ = some u:=fun i u hu=>(HE.out.cells b _ hb).trans (hc k hlt i u hu);clear hc
   have hkk : l[k]! = l[k]:=by simp [hlt]
   rw [hkk] at hcr;have HL:=hH hlt
   have hlt' : (k : Int) < (l.length : Int):=by omega
   generalize hX : l[k] = x at hcr;have HX:=hH hX;clear hX hkk;have hcall:=HP.out wr x HE.out;obtain ⟨x0,x1,x2,x3,x4⟩:=x;have c0:=hcr 0 _ rfl;have c1:=hcr 1 _ rfl;have c2:=hcr 2 _ rfl;have c3:=hcr 3 _ rfl;have c4:=hcr 4 _ rfl;simp only [Nat.add_zero] at c0;clear hcr;unfold tpc at hcall
   cases hq : p ⟨x0,x1,x2,x3,x4⟩ with
   | true =>
    rw [hq] at hcall;have HC:=hH hcall;have HQ:=hH hq;clear hcall hq
    go_wp2_with (go_at_fn g;refine (HC.out).mono ?_;rintro e w1 ⟨rfl,h1⟩)
    go_ret;refine ⟨Jo ?_,HE.out.trans h1⟩;unfold XI;rw [XP HL.out (fun j hj=>HA.out j hj (by omega)) (by have:=HQ.out;rw [<- HX.out] at this;exact this)]
   | false =>
    rw [hq] at hcall;have HC:=hH hcall;have HQ:=hH hq;clear hcall hq
    go_wp2_with (go_at_fn g;refine (HC.out).mono ?_;rintro e w1 ⟨rfl,h1⟩)
    go_roundg (l.length - (k + 1))
    case measure=>omega
    case rel =>
     refine ⟨k + 1,by omega,by omega,by go_num,HE.out.trans h1,fun j hj h=>?_⟩
     by_cases e : j = k
     ·subst e;have:=HQ.out;rw [<- HX.out] at this;exact this
     ·exact HA.out j (by omega) h
  ·have hkl : k = l.length:=by omega
   have hge : ¬ (k : Int) < (l.length : Int):=by omega
   have HK:=hH hkl;clear hkl
   go_wp2
   go_ret;refine ⟨Jo ?_,HE.out⟩;unfold XI;rw [findIdx_none (fun j hj=>HA.out j (by have:=HK.out;omega) hj)]

theorem Xl (p : Tp -> Bool) (g : Nat) (lb : Array Value) (eg : ∀ args w,(callFunc g args).run Tryz.prog w = .ok (.enter g args) w) (l : List Tp) (v : Value) (w : World) (hr : RdL 5 tpc w v l)
  (hp : ∀ W x,Ext w W -> Calls Tryz.prog g (#[.agg (tpc x)] ++ lb) W fun e w'=>e = .returned (.bool (p x)) /\ Ext W w') :
  Calls Tryz.prog 116 #[v,.func (.func g) #[] lb] w fun e w'=>e = .returned (.bool (l.any p)) /\ Ext w w':=by
 have hi:=IndexFunc_tpx p g lb eg l v w hr hp;rw [<- ixBy_any];generalize XI p l = r at hi;have HI:=hH hi;clear hi hp hr eg;go_enter Tryz.func116,Tryz.ntmps116;go_wp2_with fail;refine (HI.out).mono ?_;rintro e w1 ⟨rfl,h1⟩;have H1:=hH h1;clear h1;go_wp2_with fail
 all_goals
  go_ret;exact ⟨Jq (by simp_all),H1.out⟩

theorem RdL.ints {w : World} {g : Nat} (l : List Int) (hm : l.length <= maxLen) (hg : g < w.heap.size) (h : ∀ o,w.cell? ⟨g,o,none⟩ = (l.map (Value.int .i64))[o]?) : RdL 1 inc w (.slice (some ⟨g,0,none⟩) l.length l.length) l:=by
 refine ⟨some ⟨g,0,none⟩,l.length,rfl,Nat.le_refl _,hm,fun _=>⟨g,0,rfl,hg,fun j hj i u hu=>?_⟩⟩
 have hi : i = 0:=by
  rcases Nat.eq_zero_or_pos i with h0 | h0
  ·exact h0
  ·exfalso
   have hsz:=(Array.getElem?_eq_some_iff.1 hu).1;simp only [inc,List.size_toArray,List.length_cons,List.length_nil] at hsz
   omega
 subst hi;simp only [Nat.zero_add,Nat.mul_one,Nat.add_zero];rw [h j,List.getElem?_map,List.getElem?_eq_getElem hj]
 simp [inc,hj] at hu
 rw [<- hu];rfl

theorem slices_Contains_int (l : List Int) (n : Int) (v : Value) (w : World) (hr : RdL 1 inc w v l) :
  Calls Tryz.prog 88 #[v,.int .i64 n] w fun e w'=>e = .returned (.bool (l.any (fun x=>n == x))) /\ w = w':=by
 have hi:=slices_Index_int l n v
 have hx : (decide (0 <= idxInt l n)) = l.any (fun x=>n == x):=by
  unfold idxInt
  cases hf : l.findIdx? (fun x=>n == x) with
  | none =>
   rw [List.findIdx?_eq_none_iff] at hf;simp only [Int.reduceNeg,Int.reduceLE,decide_false]
   symm
   rw [List.any_eq_false];intro x hx
   simp [hf x hx]
  | some i =>
   rw [List.findIdx?_eq_some_iff_getElem] at hf;obtain ⟨h1,h2,_⟩:=hf;simp only [Int.natCast_nonneg,decide_true]
   symm
   rw [List.any_eq_true];exact ⟨_,List.getElem_mem h1,h2⟩
 rw [<- hx];generalize idxInt l n = r at hi;have HI:=hH (hi w hr);clear hi hx;go_enter Tryz.func88,Tryz.ntmps88;go_wp2_with fail;refine gB (HI.out) ?_;go_wp2_with fail
 all_goals
  go_ret;exact ⟨Jq (by simp_all),rfl⟩

theorem rule_Zone (n : Int) (w : World) :
  Calls Tryz.prog 122 #[.int .i64 n] w fun e w'=>e = .returned (.bool (Zk n)) /\ Ext w w':=by
 have hz : [(1 : Int),2,4,8].any (fun x=>n == x) = Zk n:=by simp [Zk,Bool.or_assoc]
 rw [<- hz];have HZ:=fun (w : World) h=>slices_Contains_int [1,2,4,8] n (.slice (some ⟨w.heap.size,0,none⟩) 4 4) (w.alloc (.cells #[.int .i64 1,.int .i64 2,.int .i64 4,.int .i64 8] 3)) h;clear hz;go_enter Tryz.func122,Tryz.ntmps122;go_wp2_with fail;refine gB (HZ w (RdL.ints [1,2,4,8] (by unfold maxLen;simp) (by simp) (fun o=>by rw [Row.new.2.1 o];simp))) ?_;go_wp2_with fail;go_ret;refine ⟨Jq (by simp),?_⟩;exact Je

theorem rule_Check (p : Tp) (w : World) :
  Calls Tryz.prog 128 #[.agg (tpc p)] w fun e w'=>e = .returned (.int .i64 (Jv p)) /\ Ext w w':=by
 obtain ⟨a,b,c,d,e⟩:=p;unfold tpc;go_enter Tryz.func128,Tryz.ntmps128
 go_wp2_with (first | (go_at_call 165;refine gB (rule_within _ _ _ _) ?_) | (go_at_call 122;refine gA (rule_Zone _ _) fun w1 H1 hz1=>?_;refine Ji w1 w.heap.size fun q1_0 f1_0 l1_0 R1_0=>?_))
 all_goals
  go_ret;refine ⟨Jo ?_,?_⟩
  ·simp_all [Jv]
  ·exact Je

theorem ref_CheckTap (p : Tp) (w : World) :
  Calls Tryz.prog 107 #[.agg (tpc p)] w fun e w'=>e = .returned (.int .i64 (Jv p)) /\ Ext w w':=by
 obtain ⟨a,b,c,d,e⟩:=p;unfold tpc;go_enter Tryz.func107,Tryz.ntmps107
 go_wp2_with (first | (go_at_call 60;refine gB (JA _ _ _ _) ?_) | (go_at_call 110;refine gB (ref_IsZone _ _) ?_))
 all_goals
  go_ret;refine ⟨Jo ?_,?_⟩
  ·simp_all [Jv]
  ·exact Je

theorem zone_and_nat : ∀ n : Fin 16,∀ z ∈ [1,2,4,8],(bits .and .i64 ((n.val : Nat) : Int) z == 0) = decide ((n.val : Int) / z % 2 = 0):=by decide +kernel
theorem zone_and {n z : Int} (h0 : 0 <= n) (h1 : n < 16) (hz : Zk z = true) : (bits .and .i64 n z == 0) = decide (n / z % 2 = 0):=by
 obtain ⟨k,rfl⟩:=Int.eq_ofNat_of_zero_le h0
 have hz' : z ∈ [1,2,4,8]:=by simpa [Zk,or_assoc] using hz
 exact zone_and_nat ⟨k,by omega⟩ z hz'

theorem rule_Place (t : Tk) (time zone : Int) (w : World) (h0 : 0 <= t.JS) (h1 : t.JS < 16) (hz : Zk zone = true) :
  Calls Tryz.prog 163 #[.agg (tkc t),.int .i64 time,.int .i64 zone] w fun e w'=>e = .returned (.int .i64 (place t time zone)) /\ Ext w w':=by
 obtain ⟨a,b,c,d,x,f⟩:=t;simp only at h0 h1;have hb:=zone_and h0 h1 hz;clear h0 h1 hz;unfold tkc;go_enter Tryz.func163,Tryz.ntmps163
 go_wp2
 all_goals
  go_ret;refine ⟨Jo ?_,?_⟩
  ·clear hb
   simp_all [place]
   try omega
  ·exact Je

theorem ediv_zone {n z : Int} (h0 : 0 <= n) (hz : Zk z = true) : n.tdiv z = n / z /\ (n / z).tmod 2 = n / z % 2 /\ 0 <= n / z /\ n / z <= n:=by
 have hz' : z = 1 \/ z = 2 \/ z = 4 \/ z = 8:=by simpa [Zk,or_assoc] using hz
 have h1 : 0 <= n / z:=Int.ediv_nonneg h0 (by omega);refine ⟨Int.tdiv_eq_ediv_of_nonneg h0,Int.tmod_eq_emod_of_nonneg h1,h1,?_⟩
 rcases hz' with rfl | rfl | rfl | rfl <;> omega

theorem ref_PlaceOf (t : Tk) (time zone : Int) (w : World) (h0 : 0 <= t.JS) (h1 : t.JS < 16) (hz : Zk zone = true) :
  Calls Tryz.prog 156 #[.agg (tkc t),.int .i64 time,.int .i64 zone] w fun e w'=>e = .returned (.int .i64 (place t time zone)) /\ Ext w w':=by
 obtain ⟨a,b,c,d,x,f⟩:=t;simp only at h0 h1
 have hz' : 1 <= zone:=by simp [Zk] at hz;omega
 obtain ⟨e1,e2,e3,e4⟩:=ediv_zone h0 hz;clear hz;unfold tkc;go_enter Tryz.func156,Tryz.ntmps156
 go_wp2_with (first | (go_at_call 60;refine gB (JA _ _ _ _) ?_))
 all_goals
  go_ret;refine ⟨Jo ?_,?_⟩
  ·clear e1 e2 e3 e4
   simp_all [place,within]
   try omega
  ·exact Je

def spentB (t : Tk) (rides : Int) : Bool:=decide (t.kind = 1 /\ 1 <= rides \/ t.kind = 3 /\ t.rides <= rides)

def jgc (t : Tk) (last : Option Addr) (rides : Int) : Array Value:=#[.int .i64 t.id,.int .i64 t.kind,.int .i64 t.frm,.int .i64 t.til,.int .i64 t.JS,.int .i64 t.rides,.pointer last,.int .i64 rides]

theorem judge_spent (t : Tk) (last : Option Addr) (rides : Int) (g : Nat) (w : World) (hr : Row w g (jgc t last rides)) :
  Calls Tryz.prog 199 #[.pointer (some ⟨g,0,none⟩)] w fun e w'=>e = .returned (.bool (spentB t rides)) /\ Ext w w':=by
 obtain ⟨a,b,c,d,x,f⟩:=t;unfold jgc at hr;have hq:=hr.2.1;clear hr
 have hsp : spentB ⟨a,b,c,d,x,f⟩ rides = ((b == 1 && decide (1 <= rides)) || (b == 3 && decide (f <= rides))):=by
  simp only [spentB,Bool.decide_or,Bool.decide_and];rfl
 rw [hsp];clear hsp
 by_cases hk1 : b = 1
 ·subst hk1
  by_cases hr1 : 1 <= rides
  ·have hd : decide (1 <= rides) = true:=by simpa using hr1
   go_enter Tryz.func199,Tryz.ntmps199;go_wp2_with fail;go_quiet (fail);go_wp2_with fail;go_ret;exact ⟨Jq (by simp_all),(Ext.refl _).drewN _⟩
  ·have hd : decide (1 <= rides) = false:=by simpa using hr1
   clear hr1;go_enter Tryz.func199,Tryz.ntmps199;go_wp2_with fail;go_quiet (fail);go_wp2_with fail;go_ret;exact ⟨Jq (by simp_all),(Ext.refl _).drewN _⟩
 ·have hk1' : (b == 1) = false:=by simpa using hk1
  clear hk1
  by_cases hk3 : b = 3
  ·subst hk3
   by_cases hr1 : f <= rides
   ·have hd : decide (f <= rides) = true:=by simpa using hr1
    go_enter Tryz.func199,Tryz.ntmps199;go_wp2_with fail;go_quiet (fail);go_wp2_with fail;go_ret;exact ⟨Jq (by simp_all),(Ext.refl _).drewN _⟩
   ·have hd : decide (f <= rides) = false:=by simpa using hr1
    clear hr1;go_enter Tryz.func199,Tryz.ntmps199;go_wp2_with fail;go_quiet (fail);go_wp2_with fail;go_ret;exact ⟨Jq (by simp_all),(Ext.refl _).drewN _⟩
  ·have hk3' : (b == 3) = false:=by simpa using hk3
   clear hk3;go_enter Tryz.func199,Tryz.ntmps199;go_wp2_with fail;go_quiet (fail);go_wp2_with fail;go_ret;exact ⟨Jq (by simp_all),(Ext.refl _).drewN _⟩

theorem judge_goesOn_no (t : Tk) (rides time : Int) (g : Nat) (w : World) (hr : Row w g (jgc t none rides)) :
  Calls Tryz.prog 198 #[.pointer (some ⟨g,0,none⟩),.int .i64 time] w fun e w'=>e = .returned (.bool (goesOn none time)) /\ Ext w w':=by
 obtain ⟨a,b,c,d,x,f⟩:=t;unfold jgc at hr;have hq:=hr.2.1;clear hr;go_enter Tryz.func198,Tryz.ntmps198;go_wp2_with fail;go_ret;exact ⟨rfl,Ext.refl _⟩

theorem judge_goesOn_yes (t : Tk) (rides time s : Int) (g b0 o : Nat) (w : World) (hr : Row w g (jgc t (some ⟨b0,o,none⟩) rides)) (hs : w.cell? ⟨b0,o + 3,none⟩ = some (.int .i64 s))
  (h0 : 0 <= s) (h1 : s <= 9999) (h2 : 0 <= time) (h3 : time <= 9999) :
  Calls Tryz.prog 198 #[.pointer (some ⟨g,0,none⟩),.int .i64 time] w fun e w'=>e = .returned (.bool (goesOn (some s) time)) /\ Ext w w':=by
 obtain ⟨a,b,c,d,x,f⟩:=t;unfold jgc at hr;have hq:=hr.2.1;clear hr;go_enter Tryz.func198,Tryz.ntmps198
 go_wp2_with (go_at_call 165;refine gB (rule_within _ _ _ _) ?_)
 go_ret;refine ⟨Jq ?_,Ext.refl _⟩
 have e1 : (0 <= time - s) ↔ s <= time:=by omega
 have e2 : (time - s <= 59) ↔ time < s + 60:=by omega
 simp only [within,goesOn,e1,e2]

theorem judge_eq (t : Tk) (last : Option Int) (rides : Int) (p : Tp) : judge t last rides p =
  if place t p.time p.zone ≠ 0 then (3,place t p.time p.zone) else if goesOn last p.time = true then (2,0) else if spentB t rides = true then (3,10) else (1,0):=by
 simp only [judge,spentB,decide_eq_true_eq]

theorem judge_say (t : Tk) (la : Option Addr) (last : Option Int) (rides : Int) (p : Tp) (g : Nat) (w : World) (hr : Row w g (jgc t la rides)) (h0 : 0 <= t.JS) (h1 : t.JS < 16) (hz : Zk p.zone = true)
  (hgo : ∀ w1,Ext w w1 -> Calls Tryz.prog 198 #[.pointer (some ⟨g,0,none⟩),.int .i64 p.time] w1 fun e w'=>e = .returned (.bool (goesOn last p.time)) /\ Ext w1 w') :
  Calls Tryz.prog 180 #[.pointer (some ⟨g,0,none⟩),.agg (tpc p)] w fun e w'=>e = .returned (.tuple #[.int .i64 (judge t last rides p).1,.int .i64 (judge t last rides p).2]) /\ Ext w w':=by
 have hpl:=fun w=>rule_Place t p.time p.zone w h0 h1 hz;have hsp:=fun w h=>judge_spent t la rides g w h;rw [judge_eq];generalize place t p.time p.zone = r at hpl;generalize goesOn last p.time = gb at hgo;generalize spentB t rides = sb at hsp;generalize hres : (if r ≠ 0 then ((3 : Int),r) else if gb = true then (2,0) else if sb = true then (3,10) else (1,0)) = res;have HQ:=hH hres;clear hres;obtain ⟨a,b,c,d,x,f⟩:=t;obtain ⟨pt,pg,ps,pti,pz⟩:=p;have hq:=hr.2.1;have hfz:=hr.2.2;have hlt:=hr.1
 have hlt1 : g < w.heap.size + 1:=by omega
 have HR:=hH hr;unfold jgc at hq;unfold tkc at hpl;unfold tpc;simp only at hpl hgo;have HP:=hH hpl;have HG:=hH hgo;have HS:=hH hsp;clear hpl hgo hsp hr h0 h1 hz;go_enter Tryz.func180,Tryz.ntmps180;go_wp2_with fail;have hqa : ∀ o,(w.alloc (.cells #[.int .i64 pt,.int .i64 pg,.int .i64 ps,.int .i64 pti,.int .i64 pz] 57)).cell? ⟨g,o,none⟩ = (#[.int .i64 a,.int .i64 b,.int .i64 c,.int .i64 d,.int .i64 x,.int .i64 f,.pointer la,.int .i64 rides] : Array Value)[o]?:=fun o=>(cellA hlt).trans (hq o);have hqb : ∀ o,(w.alloc (.cells #[.int .i64 pt,.int .i64 pg,.int .i64 ps,.int .i64 pti,.int .i64 pz] 57)).cell? ⟨w.heap.size,o,none⟩ = (#[.int .i64 pt,.int .i64 pg,.int .i64 ps,.int .i64 pti,.int .i64 pz] : Array Value)[o]?:=Row.new.2.1;generalize hW : w.alloc (.cells #[.int .i64 pt,.int .i64 pg,.int .i64 ps,.int .i64 pti,.int .i64 pz] 57) = W at hqa hqb ⊢;have HW:=hH hW;clear hW
 go_still_tail 8,(by kernel_rfl)
 change wpList _ _ _ _ _ W.drew
 have HE0 : Hid (Ext w W.drew):=by rw [<- HW.out];exact ((Ext.refl w).alloc _).drew
 have HRb : Hid (Row W w.heap.size #[.int .i64 pt,.int .i64 pg,.int .i64 ps,.int .i64 pti,.int .i64 pz]):=by rw [<- HW.out];exact Row.new
 generalize hW2 : W.drew = W2 at HE0 ⊢
 have HRb2 : Hid (Row W2 w.heap.size #[.int .i64 pt,.int .i64 pg,.int .i64 ps,.int .i64 pti,.int .i64 pz]):=by rw [<- hW2];exact HRb.out.drew
 have HRa2 : Hid (Row W2 g (jgc ⟨a,b,c,d,x,f⟩ la rides)):=HR.out.ext HE0.out;clear hW2 hqa hqb hq hfz HRb HW HR;clear W;go_wp2_with fail;(refine gA (HP.out _) fun w1 H1 hz1=>?_;refine Ji w1 w.heap.size fun q1_0 f1_0 l1_0 R1_0=>?_;refine Ji w1 g fun q1_1 f1_1 l1_1 R1_1=>?_);have Ew1 : Ext w w1:=HE0.out.trans H1.out;have EwH:=hH Ew1
 by_cases hr0 : r = 0
 ·have hrb : (r != 0) = false:=by simpa using hr0
  subst hr0
  cases gb
  ·cases sb
   ·go_wp2_with fail
    refine (HG.out _ Ew1).mono ?_;rintro e w2 ⟨rfl,h2⟩;have H2:=hH h2;have hR2:=(R1_1.out).ext h2;have HR2:=hH hR2;clear h2 hR2;go_wp2_with fail;refine (HS.out _ HR2.out).mono ?_;rintro e w3 ⟨rfl,h3⟩;have H3:=hH h3;clear h3;go_wp2_with fail;go_ret2;refine ⟨by rw [<- HQ.out];simp_all,?_⟩;clear Ew1;exact Je
   ·go_wp2_with fail
    refine (HG.out _ Ew1).mono ?_;rintro e w2 ⟨rfl,h2⟩;have H2:=hH h2;have hR2:=(R1_1.out).ext h2;have HR2:=hH hR2;clear h2 hR2;go_wp2_with fail;refine (HS.out _ HR2.out).mono ?_;rintro e w3 ⟨rfl,h3⟩;have H3:=hH h3;clear h3;go_wp2_with fail;go_ret2;refine ⟨by rw [<- HQ.out];simp_all,?_⟩;clear Ew1;exact Je
  ·go_wp2_with fail
   refine (HG.out _ Ew1).mono ?_;rintro e w2 ⟨rfl,h2⟩;have H2:=hH h2;have hR2:=(R1_1.out).ext h2;have HR2:=hH hR2;clear h2 hR2;go_wp2_with fail;go_ret2;refine ⟨by rw [<- HQ.out];simp_all,?_⟩;clear Ew1;exact Je
 ·have hrb : (r != 0) = true:=by simpa using hr0
  go_wp2_with fail;go_ret2;refine ⟨by rw [<- HQ.out];simp_all,?_⟩;clear Ew1;exact Je

theorem rule_Raw (t : Tk) (was : List Tp) (rides : Int) (p : Tp) (v : Value) (w : World) (hr : RdL 5 tpc w v was) (h0 : 0 <= t.JS) (h1 : t.JS < 16) (hz : Zk p.zone = true)
  (ht0 : 0 <= p.time) (ht1 : p.time <= 9999) (hw : ∀ x ∈ was,0 <= x.time /\ x.time <= 9999) :
  Calls Tryz.prog 160 #[.agg (tkc t),v,.int .i64 rides,.agg (tpc p)] w fun e w'=>e = .returned (.tuple #[.int .i64 (judge t (Zi was) rides p).1,.int .i64 (judge t (Zi was) rides p).2]) /\ Ext w w':=by
 obtain ⟨A,c,rfl,hl1,hl2,hl3⟩:=hr;unfold maxLen at hl2
 rcases List.eq_nil_or_concat was with rfl | ⟨init,x,rfl⟩
 ·have hs:=fun g w hr=>judge_say t none none rides p g w hr h0 h1 hz (fun w1 e=>judge_goesOn_no t rides p.time g w1 (hr.ext e))
  have hl : Zi [] = none:=rfl;rw [hl];generalize judge t none rides p = res at hs;obtain ⟨a,b,c,d,y,f⟩:=t;obtain ⟨pt,pg,ps,pti,pz⟩:=p;unfold tkc;have HS:=hH hs;clear hs h0 h1 hz ht0 ht1 hw hl hl1 hl2 hl3;unfold tpc jgc at HS;unfold tpc;go_enter Tryz.func160,Tryz.ntmps160;go_wp2_with fail;refine (HS.out (w.heap.size + 1 + 1) _ ?hr1).mono ?_
  case hr1=>exact Row.newAt (by simp)
  rintro e w1 ⟨rfl,h1⟩;have H1:=hH h1;clear h1;go_wp2_with fail;go_ret2;refine ⟨rfl,?_⟩;exact Je
 ·obtain ⟨b0,o,rfl,hb,hcell⟩:=hl3 (by simp)
  have hx:=hcell init.length (by simp) 3 (.int .i64 x.time) (by simp [tpc]);have hwx:=hw x (by simp)
  have hl : Zi (init ++ [x]) = some x.time:=by simp [Zi]
  have hlen : (init ++ [x]).length = init.length + 1:=by simp
  have hs:=fun (g : Nat) (w : World) (hr : Row w g (jgc t (some ⟨b0,o + init.length * 5,none⟩) rides)) (hc : ∀ w1,Ext w w1 -> w1.cell? ⟨b0,o + init.length * 5 + 3,none⟩ = some (.int .i64 x.time))=>judge_say t (some ⟨b0,o + init.length * 5,none⟩) (some x.time) rides p g w hr h0 h1 hz (fun w1 e=>judge_goesOn_yes t rides p.time x.time g b0 (o + init.length * 5) w1 (hr.ext e) (hc w1 e) hwx.1 hwx.2 ht0 ht1);simp only [List.concat_eq_append] at *;rw [hl];rw [hlen] at hl1 ⊢;generalize judge t (some x.time) rides p = res at hs;generalize init.length = n at *;generalize x.time = tm at *;obtain ⟨a,b,c',d,y,f⟩:=t;obtain ⟨pt,pg,ps,pti,pz⟩:=p;unfold tkc;have HS:=hH hs;have HX:=hH hx;clear hs h0 h1 hz ht0 ht1 hw hl hl3 hcell hx hwx hlen;unfold tpc jgc at HS;unfold tpc;go_enter Tryz.func160,Tryz.ntmps160;go_wp2_with fail;refine (HS.out (w.heap.size + 1 + 1) _ ?hra ?hrb).mono ?_
  case hra=>exact Row.newAt (by simp)
  case hrb =>
   intro w1 hE;have hE2 : Ext w w1:=((((Ext.refl w).alloc _).alloc _).alloc _).trans hE;exact (hE2.cells b0 _ hb).trans HX.out
  rintro e w1 ⟨rfl,h1⟩;have H1:=hH h1;clear h1;go_wp2_with fail;go_ret2;refine ⟨rfl,?_⟩;exact Je

theorem ref_JudgeOf_none (t : Tk) (rides : Int) (p : Tp) (w : World) (h0 : 0 <= t.JS) (h1 : t.JS < 16) (hz : Zk p.zone = true) :
  Calls Tryz.prog 109 #[.agg (tkc t),.int .i64 (-1),.int .i64 rides,.agg (tpc p)] w fun e w'=>e = .returned (.tuple #[.int .i64 (judge t none rides p).1,.int .i64 (judge t none rides p).2]) /\ Ext w w':=by
 have hpl:=fun w=>ref_PlaceOf t p.time p.zone w h0 h1 hz;rw [judge_eq];generalize place t p.time p.zone = r at hpl;generalize hres : (if r ≠ 0 then ((3 : Int),r) else if goesOn none p.time = true then (2,0) else if spentB t rides = true then (3,10) else (1,0)) = res;have HQ:=hH hres;clear hres h0 h1 hz;obtain ⟨a,b,c,d,x,f⟩:=t;obtain ⟨pt,pg,ps,pti,pz⟩:=p;unfold tkc at hpl ⊢;unfold tpc;have HP:=hH hpl;clear hpl;go_enter Tryz.func109,Tryz.ntmps109;go_wp2_with fail;(refine gA (HP.out _) fun w1 H1 hz1=>?_;refine Ji w1 w.heap.size fun q1_0 f1_0 l1_0 R1_0=>?_;refine Ji w1 (w.heap.size + 1) fun q1_1 f1_1 l1_1 R1_1=>?_)
 by_cases hr0 : r = 0
 ·subst hr0
  go_wp2_with fail
  all_goals
   go_ret2;refine ⟨?_,?_⟩
   ·rw [<- HQ.out]
    clear HQ HP q1_0 q1_1 f1_0 f1_1 R1_0 R1_1 H1
    simp_all [goesOn,spentB]
    try (repeat' split)
    all_goals (first | omega | (simp;done) | (simp;omega))
   ·exact Je
 ·have hrb : (r != 0) = true:=by simpa using hr0
  go_wp2_with fail;go_ret2;refine ⟨?_,?_⟩
  ·rw [<- HQ.out,if_pos hr0];rfl
  ·exact Je

theorem ref_JudgeOf_some (t : Tk) (s rides : Int) (p : Tp) (w : World) (h0 : 0 <= t.JS) (h1 : t.JS < 16) (hz : Zk p.zone = true) (hs0 : 0 <= s) (hs1 : s <= 9999) :
  Calls Tryz.prog 109 #[.agg (tkc t),.int .i64 s,.int .i64 rides,.agg (tpc p)] w fun e w'=>e = .returned (.tuple #[.int .i64 (judge t (some s) rides p).1,.int .i64 (judge t (some s) rides p).2]) /\ Ext w w':=by
 have hpl:=fun w=>ref_PlaceOf t p.time p.zone w h0 h1 hz;rw [judge_eq];generalize place t p.time p.zone = r at hpl;generalize hres : (if r ≠ 0 then ((3 : Int),r) else if goesOn (some s) p.time = true then (2,0) else if spentB t rides = true then (3,10) else (1,0)) = res;have HQ:=hH hres;clear hres h0 h1 hz;obtain ⟨a,b,c,d,x,f⟩:=t;obtain ⟨pt,pg,ps,pti,pz⟩:=p;unfold tkc at hpl ⊢;unfold tpc;have HP:=hH hpl;clear hpl;go_enter Tryz.func109,Tryz.ntmps109;go_wp2_with fail;(refine gA (HP.out _) fun w1 H1 hz1=>?_;refine Ji w1 w.heap.size fun q1_0 f1_0 l1_0 R1_0=>?_;refine Ji w1 (w.heap.size + 1) fun q1_1 f1_1 l1_1 R1_1=>?_)
 by_cases hr0 : r = 0
 ·subst hr0
  go_wp2_with fail
  all_goals
   go_ret2;refine ⟨?_,?_⟩
   ·rw [<- HQ.out]
    clear HQ HP q1_0 q1_1 f1_0 f1_1 R1_0 R1_1 H1
    simp_all [goesOn,spentB]
    try (repeat' split)
    all_goals (first | omega | (simp;done) | (simp;omega))
   ·exact Je
 ·have hrb : (r != 0) = true:=by simpa using hr0
  go_wp2_with fail;go_ret2;refine ⟨?_,?_⟩
  ·rw [<- HQ.out,if_pos hr0];rfl
  ·exact Je


theorem Zj (b : Nat) : ∀ (vs : List Value) (o : Nat) (w : World),w.grownBy (w.setCells b o vs) (some b)
 | [],o,w=>World.grownBy.refl _ _
 | u :: r,o,w=>by
  have h1 : w.grownBy (w.setCell ⟨b,o,none⟩ u) (some b):=⟨rfl,rfl,rfl,by simp [World.setCell],fun k _ hk=>Below.heap_setCell _ _ _ _ (fun e=>hk (by rw [e]))⟩;exact h1.trans (Zj b r (o + 1) _)
theorem Xx (w : World) (row : Option Nat) : w.grownBy w.drew row:=⟨rfl,rfl,rfl,Nat.le_refl _,fun _ _ _=>rfl⟩

theorem Zt {base b cap : Nat} {e : TypeId} {size n : Nat} : ∀ (vs : List Value) (o : Nat) (w : World) (xs : List Value),w.ownsRow base e size (.slice (some ⟨b,0,none⟩) n cap) n xs -> o + vs.length <= xs.length ->
  (w.setCells b o vs).ownsRow base e size (.slice (some ⟨b,0,none⟩) n cap) n (xs.take o ++ vs ++ xs.drop (o + vs.length))
 | [],o,w,xs,h,_=>by simpa [World.setCells] using h
 | u :: r,o,w,xs,h,hl=>by
  simp only [List.length_cons] at hl;have h1:=(h.stored o u).1;have h2:=Zt r (o + 1) _ _ h1 (by simp;omega)
  have he : (xs.set o u).take (o + 1) ++ r ++ (xs.set o u).drop (o + 1 + r.length) = xs.take o ++ (u :: r) ++ xs.drop (o + (u :: r).length):=by
   rw [List.drop_set_of_lt (by omega),List.length_cons,show o + 1 + r.length = o + (r.length + 1) from by omega];rw [List.take_set,List.take_succ_eq_append_getElem (by omega),List.set_append_right _ _ (by simp;omega)]
   simp [Nat.min_eq_left (show o <= xs.length by omega)]
  rw [he] at h2;exact h2

theorem own_longer {w : World} {base b cap : Nat} {e : TypeId} {size n : Nat} {xs : List Value} (h : w.ownsRow base e size (.slice (some ⟨b,0,none⟩) n cap) n xs) (hc : n + 1 <= cap) :
  ∃ ys,ys.length = size /\ w.ownsRow base e size (.slice (some ⟨b,0,none⟩) (n + 1) cap) (n + 1) (xs ++ ys):=by
 obtain ⟨h1,h2⟩:=h
 rcases h2 with ⟨h',_⟩ | ⟨g',cap',cur,h',hb,hg,hnc,hcm,hcs,htake⟩
 ·simp at h'
 ·simp only [Value.slice.injEq,Option.some.injEq,Addr.mk.injEq,and_true,true_and] at h'
  obtain ⟨rfl,rfl⟩:=h';have hle : (n + 1) * size <= cap * size:=Nat.mul_le_mul_right _ hc
  have hsz : (n + 1) * size = n * size + size:=by rw [Nat.add_mul];omega
  refine ⟨(cur.toList.drop (n * size)).take size,?_,?_,.inr ⟨b,cap,cur,rfl,hb,hg,hc,hcm,hcs,?_⟩⟩
  ·rw [List.length_take,List.length_drop,Array.length_toList];omega
  ·rw [List.length_append,h1,List.length_take,List.length_drop,Array.length_toList];omega
  ·rw [hsz,List.take_add,htake]

theorem own_alloc {w : World} {base : Nat} {e : TypeId} {size n cap : Nat} {cur : Array Value} (hb : base <= w.heap.size) (hnc : n <= cap) (hm : cap <= maxLen) (hs : cur.size = cap * size) :
  (w.alloc (.cells cur e)).ownsRow base e size (.slice (some ⟨w.heap.size,0,none⟩) n cap) n (cur.toList.take (n * size)):=by
 refine ⟨?_,.inr ⟨w.heap.size,cap,cur,rfl,hb,heap_alloc_new w _,hnc,hm,hs,rfl⟩⟩;rw [List.length_take,Array.length_toList,hs];exact Nat.min_eq_left (Nat.mul_le_mul_right _ hnc)
theorem Row.grown {w w' : World} {g : Nat} {cs : Array Value} {row : Option Nat} (h : Row w g cs) (hg : w.grownBy w' row) (hne : some g ≠ row) : Row w' g cs :=
 ⟨Nat.lt_of_lt_of_le h.1 hg.size,fun o=>(hg.cell_far ⟨g,o,none⟩ h.1 hne).trans (h.2.1 o),fun o=>(hg.frozen_far ⟨g,o,none⟩ h.1 hne).trans (h.2.2 o)⟩
theorem Row.below {w w' : World} {g B : Nat} {cs : Array Value} (h : Row w g cs) (hb : Below B w w') (hg : g < B) : Row w' g cs :=
 ⟨Nat.lt_of_lt_of_le h.1 hb.size,fun o=>(Below.cell (p:=⟨g,o,none⟩) hb hg).trans (h.2.1 o),fun o=>(Below.frozen (p:=⟨g,o,none⟩) hb hg).trans (h.2.2 o)⟩
theorem Jh.put {α : Type} {e : TypeId} {k base : Nat} {enc : α -> Array Value} {w : World} {v : Value} {l : List α} (h : Jh e k enc base w v l) {a : Addr} (ha : v.ownBlock ≠ some a.block) (u : Value) : Jh e k enc base (w.setCell a u) v l:=ownsRow_setCell h ha u
theorem ownA {α : Type} {e : TypeId} {k b2 : Nat} (base : Nat) {enc : α -> Array Value} {w : World} {v : Value} {l : List α} (h : Jh e k enc base w v l:=by repeat (first | (with_reducible assumption) | (with_reducible exact Hid.out ‹Hid (Jh _ _ _ _ _ _ _)›) | (with_reducible apply Jh.Jl;focus (simp <;> omega)) | (with_reducible refine Jh.put ?_ (by assumption) _) | (with_reducible apply Jh.alloc) | (with_reducible apply Jh.drew) | (with_reducible apply Jh.drewN) | (with_reducible refine Jh.ext ?_ (Hid.out ‹Hid (Ext _ _)›)))) (hb : b2 <= base:=by omega) : Jh e k enc b2 w v l:=h.lower hb


section
variable {α : Type} [Inhabited α] {enc : α -> Array Value} {k : Nat}
theorem RdL.news {w : World} {l : List α} {ad : Addr} {n c : Nat} (h : RdL k enc w (.slice (some ad) n c) l) (hk : ∀ x,(enc x).size = k) (hk0 : 0 < k) : ∀ j u,(encs enc l)[j]? = some u -> w.cell? (ad.add j) = some u:=by
 intro j u hu;obtain ⟨A,c',hv,h1,h2,h3⟩:=h
 injection hv with hA hn hc
 subst hA hn hc;have hlen:=Zv (enc:=enc) (k:=k) hk l;have hj : j < (encs enc l).length:=(List.getElem?_eq_some_iff.1 hu).1
 have hj2 : j / k < l.length:=by
  rw [Nat.div_lt_iff_lt_mul hk0]
  omega
 obtain ⟨b,o,hA,hb,hc⟩:=h3 (Nat.lt_of_le_of_lt (Nat.zero_le _) hj2)
 injection hA with hA
 subst hA;have hg:=XV (enc:=enc) (k:=k) hk l (j / k) (j % k) hj2 (Nat.mod_lt _ hk0)
 have hdm : j / k * k + j % k = j:=by rw [Nat.mul_comm];exact Nat.div_add_mod j k
 rw [hdm,hu] at hg;have:=hc (j / k) hj2 (j % k) u (by rw [getElem!_pos l (j / k) hj2];exact hg.symm);rw [show o + j / k * k + j % k = o + j from by omega] at this
 rwa [show (⟨b,o,none⟩ : Addr).add j = ⟨b,o + j,none⟩ from by unfold Addr.add;split <;> simp_all]

variable {P : Program} (w : World)
theorem Zc {o : Oper} {a : Act} {K : Act -> World -> Prop} {Q : Exit -> Act -> World -> Prop} (s x : Operand) (t : TypeId)
  (ho : o.op = .call { callee:=.builtin .append,args:=#[s,x],argTypes:=#[t,t] })
  (base : Nat) (e : TypeId) (i : TypeInfo) (z : Value) (bytes : Nat) (ht : P.underlying t = some (.slice e)) (hi : P.info? e = some i) (hz : i.zero = some z)
  (hsize : i.size = k) (hby : i.bytes = bytes) (hzs : z.cells.size = k) (hsz : 0 < k) (hk : ∀ x,(enc x).size = k)
  (v : Value) (m : List α) (hs : a.eval s = v) (hown : Jh e k enc base w v m)
  (xv : Value) (l : List α) (hx : a.eval x = xv) (hrd : RdL k enc w xv l) (h1 : ∀ u ∈ encs enc l,u.oneCell' = true)
  (h63 : m.length + l.length <= maxLen) (hbytes : (m.length + l.length) * bytes <= 140737488355328) (hbase : base <= w.heap.size)
  (h : ∀ v' w',Jh e k enc base w' v' (m ++ l) -> w.grownBy w' v.ownBlock -> (v'.ownBlock = v.ownBlock \/ v'.ownBlock = some w.heap.size) -> K (a.put o.dst v') w') : o.wp P a w K Q:=by
 by_cases hl : l = []
 ·subst hl
  obtain ⟨A,c,rfl,-,-,-⟩:=hrd
  have hsrc : Src P i.size t (.slice A 0 c) 0 [] w:=by
   cases A with
   | none=>exact Src.ofNil w ht c
   | some ad=>exact Src.ofSlice w ht ad 0 c [] (by simp) (fun j u hj=>by simp at hj) (fun u hu=>by cases hu)
  have hv : ∃ A n c,v = .slice A n c /\ n <= c:=by
   rcases hown.2 with ⟨rfl,h0⟩ | ⟨g,cap,cur,rfl,hb,hg,hnc,-⟩
   ·exact ⟨_,_,_,rfl,Nat.le_refl _⟩
   ·exact ⟨_,_,_,rfl,hnc⟩
  obtain ⟨A',n',c',rfl,hle⟩:=hv;refine Lib.wp_append_run w s x t t ho _ _ hs hx _ _ (run_append_nothing w t t o.type e i ht hi A' n' c' hle _ hsrc) ?_;exact h _ _ (by rw [List.append_nil];exact hown) (World.grownBy.refl _ _) (.inl rfl)
 ·have hp : 0 < l.length:=List.length_pos_iff.2 hl
  obtain ⟨A,c,rfl,-,-,h3⟩:=id hrd;obtain ⟨b,of,rfl,-,-⟩:=h3 hp;refine wp_append_lies w s x t ho base e i z k bytes ht hi hz hsize hby hzs hsz v m.length (encs enc m) hs hown ⟨b,of,none⟩ l.length c (encs enc l) hx (Zv hk l) (hrd.news hk hsz) h1 hp h63 hbytes hbase _ rfl ?_;intro g cap w' h4 h5 h6 h7;refine h _ w' ?_ h5 ?_
  ·unfold Jh
   rw [List.length_append,encs_append];exact h4
  ·rcases h6 with h6 | h6
   ·left;rw [h6];rfl
   ·right;rw [h6];rfl
theorem JC {ops : Array Oper} {rest : List Oper} {o : Oper} {a : Act} {Q : Exit -> Act -> World -> Prop} (hgd : o.guard = none) (s x : Operand) (t : TypeId)
  (ho : o.op = .call { callee:=.builtin .append,args:=#[s,x],argTypes:=#[t,t] })
  (base : Nat) (e : TypeId) (i : TypeInfo) (z : Value) (bytes : Nat) (ht : P.underlying t = some (.slice e)) (hi : P.info? e = some i) (hz : i.zero = some z)
  (hsize : i.size = k) (hby : i.bytes = bytes) (hzs : z.cells.size = k) (hsz : 0 < k) (hk : ∀ x,(enc x).size = k)
  (v : Value) (m : List α) (hs : a.eval s = v) (hown : Jh e k enc base w v m)
  (xv : Value) (l : List α) (hx : a.eval x = xv) (hrd : RdL k enc w xv l) (h1 : ∀ u ∈ encs enc l,u.oneCell' = true)
  (h63 : m.length + l.length <= maxLen) (hbytes : (m.length + l.length) * bytes <= 140737488355328) (hbase : base <= w.heap.size)
  (h : ∀ v' w',Jh e k enc base w' v' (m ++ l) -> w.grownBy w' v.ownBlock -> (v'.ownBlock = v.ownBlock \/ v'.ownBlock = some w.heap.size) -> wpList P ops Q rest (a.put o.dst v') w') : wpList P ops Q (o :: rest) a w :=
 wpList_plain hgd fun _ hK=>Zc w s x t ho base e i z bytes ht hi hz hsize hby hzs hsz hk v m hs hown xv l hx hrd h1 h63 hbytes hbase fun v' w' h2 h3 h4=>hK _ _ (h v' w' h2 h3 h4)
theorem step_append_rd {ops : Array Oper} {o : Oper} {a : Act} {K : Act -> World -> Prop} {Q : Exit -> Act -> World -> Prop} {E : Prop} (hgd : o.guard = none) (s x : Operand) (t : TypeId)
  (ho : o.op = .call { callee:=.builtin .append,args:=#[s,x],argTypes:=#[t,t] })
  (base : Nat) (e : TypeId) (i : TypeInfo) (z : Value) (bytes : Nat) (ht : P.underlying t = some (.slice e)) (hi : P.info? e = some i) (hz : i.zero = some z)
  (hsize : i.size = k) (hby : i.bytes = bytes) (hzs : z.cells.size = k) (hsz : 0 < k) (hk : ∀ x,(enc x).size = k)
  (v : Value) (m : List α) (hs : a.eval s = v) (hown : Jh e k enc base w v m)
  (xv : Value) (l : List α) (hx : a.eval x = xv) (hrd : RdL k enc w xv l) (h1 : ∀ u ∈ encs enc l,u.oneCell' = true)
  (h63 : m.length + l.length <= maxLen) (hbytes : (m.length + l.length) * bytes <= 140737488355328) (hbase : base <= w.heap.size)
  (h : ∀ v' w',Jh e k enc base w' v' (m ++ l) -> w.grownBy w' v.ownBlock -> (v'.ownBlock = v.ownBlock \/ v'.ownBlock = some w.heap.size) -> K (a.put o.dst v') w') :
  if Region.wanted o (yielded ops a.tmps) = true then Oper.wp P o a w K Q else E:=by
 have hw : Region.wanted o (yielded ops a.tmps) = true:=by simp [Region.wanted,hgd]
 rw [if_pos hw];exact Zc w s x t ho base e i z bytes ht hi hz hsize hby hzs hsz hk v m hs hown xv l hx hrd h1 h63 hbytes hbase h
end
theorem RdL.lit {α : Type} [Inhabited α] {enc : α -> Array Value} {k : Nat} {e : TypeId} {W : World} (x : α) {cs : Array Value} {g : Nat} (hg : g = W.heap.size) (hc : cs = enc x) : RdL k enc (W.alloc (.cells cs e)) (.slice (some ⟨g,0,none⟩) 1 1) [x]:=by
 subst hg hc;refine ⟨_,1,rfl,Nat.le_refl _,by unfold maxLen;omega,fun _=>⟨_,0,rfl,by simp,fun j hj i u hu=>?_⟩⟩
 have hj0 : j = 0:=by simpa using hj
 subst hj0;rw [Nat.zero_mul,Nat.add_zero,Nat.zero_add,Row.new.2.1 i];exact hu
theorem Jh.made {α : Type} {enc : α -> Array Value} {k : Nat} {e : TypeId} {base g : Nat} {w : World} (hg : g = w.heap.size) (hb : base <= w.heap.size) : Jh e k enc base (w.alloc (.cells #[] e)) (.slice (some ⟨g,0,none⟩) 0 0) ([] : List α):=by
 subst hg;exact World.ownsRow_made w #[] 0 hb (Nat.zero_le _) (by simp)

theorem info_tk : (Tryz.prog.info? 34).map (fun i=>(i.zero,i.size,i.bytes)) = some (some (.agg #[.int .i64 0,.int .i64 0,.int .i64 0,.int .i64 0,.int .i64 0,.int .i64 0]),6,48):=by kernel_rfl

set_option maxRecDepth 100000 in
theorem Clone_tk (l : List Tk) (v : Value) (w : World) (hr : RdL 6 tkc w v l) (hb : l.length * 48 <= 140737488355328) :
  Calls Tryz.prog 170 #[v] w fun e w'=>∃ v',e = .returned v' /\ Ext w w' /\ Jh 34 6 tkc w.heap.size w' v' l:=by
 obtain ⟨i0,hi,hz0,hz1,hz2⟩:=info_parts info_tk;obtain ⟨A,c,rfl,h1,h2,h3⟩:=hr;have hlen:=Zv (enc:=tkc) (k:=6) (fun _=>rfl) l;have hm : l.length <= maxLen:=Nat.le_trans h1 h2
 cases A with
 | none =>
  have hl : l = []:=by
   cases l with
   | nil=>rfl
   | cons x l =>
    obtain ⟨b,o,h,_⟩:=h3 (by simp)
    cases h
  subst hl;clear h3 h1 h2 hlen;have hq : ∀ (w : World) (a : Option Addr) (n c n' c' : Nat),(binOp .eql 22 (.slice a n c) (.slice none n' c')).run Tryz.prog w = .ok (.bool a.isNone) w:=fun w a n c n' c'=>Lib.run_eql_slice_nil w _ _ a n c n' c' Tryz.underlying22;go_enter Tryz.func170,Tryz.ntmps170;go_wp2_with fail;go_ret;exact ⟨_,rfl,Ext.refl _,Jh.nil⟩
 | some ad =>
  have hnews : ∀ j u,(encs tkc l)[j]? = some u -> w.cell? (ad.add j) = some u:=by
   intro j u hu;have hj : j < (encs tkc l).length:=(List.getElem?_eq_some_iff.1 hu).1
   have hj2 : j / 6 < l.length:=by omega
   obtain ⟨b,o,hA,hb,hc⟩:=h3 (by omega)
   injection hA with hA
   subst hA;have hg:=XV (enc:=tkc) (k:=6) (fun _=>rfl) l (j / 6) (j % 6) hj2 (by omega);rw [show j / 6 * 6 + j % 6 = j from by omega,hu] at hg;have:=hc (j / 6) hj2 (j % 6) u (by rw [show l[j / 6]! = l[j / 6] from getElem!_pos l (j / 6) hj2];exact hg.symm);rw [show o + j / 6 * 6 + j % 6 = o + j from by omega] at this
   rwa [show (⟨b,o,none⟩ : Addr).add j = ⟨b,o + j,none⟩ from by unfold Addr.add;split <;> simp_all]
  have hone : ∀ u ∈ encs tkc l,u.oneCell' = true:=by
   intro u hu;obtain ⟨x,-,hx⟩:=List.mem_flatMap.1 hu
   simp [tkc] at hx
   (rcases hx with rfl | rfl | rfl | rfl | rfl | rfl) <;> rfl
  have hq : ∀ (w : World) (a : Option Addr) (n c n' c' : Nat),(binOp .eql 22 (.slice a n c) (.slice none n' c')).run Tryz.prog w = .ok (.bool a.isNone) w:=fun w a n c n' c'=>Lib.run_eql_slice_nil w _ _ a n c n' c' Tryz.underlying22;have HN:=hH hnews;have HL:=hH hlen;clear h3 hnews hlen;go_enter Tryz.func170,Tryz.ntmps170
  go_wp2_with (at_builtin;refine wpList_append_own _ rfl _ _ 22 rfl w.heap.size 34 i0 (.agg #[.int .i64 0,.int .i64 0,.int .i64 0,.int .i64 0,.int .i64 0,.int .i64 0]) 6 48 Tryz.underlying22 hi hz0 hz1 hz2 rfl (by decide) _ _ _ rfl (World.ownsRow_made w #[] 0 (Nat.le_refl _) (Nat.zero_le _) (by simp)) ad l.length c (encs tkc l) rfl ?qc1 ?qc2 ?qc3 ?qc4 ?qc5 ?qc6 ?_)
  case qc1=>exact HL.out
  case qc2 =>
   intro j u hj;exact Lib.cell?_alloc_some _ (HN.out j u hj)
  case qc3=>exact hone
  case qc4=>rw [Nat.zero_add];exact hm
  case qc5=>rw [Nat.zero_add];exact hb
  case qc6=>simp
  intro v' w1 hown hgrow hnil
  go_wp2
  go_ret;refine ⟨v',rfl,?_,?_⟩
  ·exact ((Ext.refl w).alloc _).grown hgrow (by intro k hk;simp [Value.ownBlock] at hk;omega)
  ·unfold Jh;simpa using hown


theorem Xi : (Tryz.prog.info? 57).map (fun i=>(i.zero,i.size,i.bytes)) = some (some (.agg #[.int .i64 0,.int .i64 0,.int .i64 0,.int .i64 0,.int .i64 0]),5,40):=by kernel_rfl

set_option maxRecDepth 100000 in
theorem Clone_tp (l : List Tp) (v : Value) (w : World) (hr : RdL 5 tpc w v l) (hb : l.length * 40 <= 140737488355328) :
  Calls Tryz.prog 130 #[v] w fun e w'=>∃ v',e = .returned v' /\ Ext w w' /\ Jh 57 5 tpc w.heap.size w' v' l:=by
 obtain ⟨i0,hi,hz0,hz1,hz2⟩:=info_parts Xi;obtain ⟨A,c,rfl,h1,h2,h3⟩:=hr;have hlen:=Zv (enc:=tpc) (k:=5) (fun _=>rfl) l;have hm : l.length <= maxLen:=Nat.le_trans h1 h2
 cases A with
 | none =>
  have hl : l = []:=by
   cases l with
   | nil=>rfl
   | cons x l =>
    obtain ⟨b,o,h,_⟩:=h3 (by simp)
    cases h
  subst hl;clear h3 h1 h2 hlen;have hq : ∀ (w : World) (a : Option Addr) (n c n' c' : Nat),(binOp .eql 23 (.slice a n c) (.slice none n' c')).run Tryz.prog w = .ok (.bool a.isNone) w:=fun w a n c n' c'=>Lib.run_eql_slice_nil w _ _ a n c n' c' Tryz.underlying23;go_enter Tryz.func130,Tryz.ntmps130;go_wp2_with fail;go_ret;exact ⟨_,rfl,Ext.refl _,Jh.nil⟩
 | some ad =>
  have hnews : ∀ j u,(encs tpc l)[j]? = some u -> w.cell? (ad.add j) = some u:=by
   intro j u hu;have hj : j < (encs tpc l).length:=(List.getElem?_eq_some_iff.1 hu).1
   have hj2 : j / 5 < l.length:=by omega
   obtain ⟨b,o,hA,hb,hc⟩:=h3 (by omega)
   injection hA with hA
   subst hA;have hg:=XV (enc:=tpc) (k:=5) (fun _=>rfl) l (j / 5) (j % 5) hj2 (by omega);rw [show j / 5 * 5 + j % 5 = j from by omega,hu] at hg;have:=hc (j / 5) hj2 (j % 5) u (by rw [show l[j / 5]! = l[j / 5] from getElem!_pos l (j / 5) hj2];exact hg.symm);rw [show o + j / 5 * 5 + j % 5 = o + j from by omega] at this
   rwa [show (⟨b,o,none⟩ : Addr).add j = ⟨b,o + j,none⟩ from by unfold Addr.add;split <;> simp_all]
  have hone : ∀ u ∈ encs tpc l,u.oneCell' = true:=by
   intro u hu;obtain ⟨x,-,hx⟩:=List.mem_flatMap.1 hu
   simp [tpc] at hx
   (rcases hx with rfl | rfl | rfl | rfl | rfl) <;> rfl
  have hq : ∀ (w : World) (a : Option Addr) (n c n' c' : Nat),(binOp .eql 23 (.slice a n c) (.slice none n' c')).run Tryz.prog w = .ok (.bool a.isNone) w:=fun w a n c n' c'=>Lib.run_eql_slice_nil w _ _ a n c n' c' Tryz.underlying23;have HN:=hH hnews;have HL:=hH hlen;clear h3 hnews hlen;go_enter Tryz.func130,Tryz.ntmps130
  go_wp2_with (at_builtin;refine wpList_append_own _ rfl _ _ 23 rfl w.heap.size 57 i0 (.agg #[.int .i64 0,.int .i64 0,.int .i64 0,.int .i64 0,.int .i64 0]) 5 40 Tryz.underlying23 hi hz0 hz1 hz2 rfl (by decide) _ _ _ rfl (World.ownsRow_made w #[] 0 (Nat.le_refl _) (Nat.zero_le _) (by simp)) ad l.length c (encs tpc l) rfl ?qc1 ?qc2 ?qc3 ?qc4 ?qc5 ?qc6 ?_)
  case qc1=>exact HL.out
  case qc2 =>
   intro j u hj;exact Lib.cell?_alloc_some _ (HN.out j u hj)
  case qc3=>exact hone
  case qc4=>rw [Nat.zero_add];exact hm
  case qc5=>rw [Nat.zero_add];exact hb
  case qc6=>simp
  intro v' w1 hown hgrow hnil
  go_wp2
  go_ret;refine ⟨v',rfl,?_,?_⟩
  ·exact ((Ext.refl w).alloc _).grown hgrow (by intro k hk;simp [Value.ownBlock] at hk;omega)
  ·unfold Jh;simpa using hown


theorem info_it : (Tryz.prog.info? 3).map (fun i=>(i.zero,i.size,i.bytes)) = some (some (.int .i64 0),1,8):=by kernel_rfl

set_option maxRecDepth 100000 in
theorem Clone_it (l : List Int) (v : Value) (w : World) (hr : RdL 1 inc w v l) (hb : l.length * 8 <= 140737488355328) :
  Calls Tryz.prog 173 #[v] w fun e w'=>∃ v',e = .returned v' /\ Ext w w' /\ Jh 3 1 inc w.heap.size w' v' l:=by
 obtain ⟨i0,hi,hz0,hz1,hz2⟩:=info_parts info_it;obtain ⟨A,c,rfl,h1,h2,h3⟩:=hr;have hlen:=Zv (enc:=inc) (k:=1) (fun _=>rfl) l;have hm : l.length <= maxLen:=Nat.le_trans h1 h2
 cases A with
 | none =>
  have hl : l = []:=by
   cases l with
   | nil=>rfl
   | cons x l =>
    obtain ⟨b,o,h,_⟩:=h3 (by simp)
    cases h
  subst hl;clear h3 h1 h2 hlen;have hq : ∀ (w : World) (a : Option Addr) (n c n' c' : Nat),(binOp .eql 24 (.slice a n c) (.slice none n' c')).run Tryz.prog w = .ok (.bool a.isNone) w:=fun w a n c n' c'=>Lib.run_eql_slice_nil w _ _ a n c n' c' Tryz.underlying24;go_enter Tryz.func173,Tryz.ntmps173;go_wp2_with fail;go_ret;exact ⟨_,rfl,Ext.refl _,Jh.nil⟩
 | some ad =>
  have hnews : ∀ j u,(encs inc l)[j]? = some u -> w.cell? (ad.add j) = some u:=by
   intro j u hu;have hj : j < (encs inc l).length:=(List.getElem?_eq_some_iff.1 hu).1
   have hj2 : j / 1 < l.length:=by omega
   obtain ⟨b,o,hA,hb,hc⟩:=h3 (by omega)
   injection hA with hA
   subst hA;have hg:=XV (enc:=inc) (k:=1) (fun _=>rfl) l (j / 1) (j % 1) hj2 (by omega);rw [show j / 1 * 1 + j % 1 = j from by omega,hu] at hg;have:=hc (j / 1) hj2 (j % 1) u (by rw [show l[j / 1]! = l[j / 1] from getElem!_pos l (j / 1) hj2];exact hg.symm);rw [show o + j / 1 * 1 + j % 1 = o + j from by omega] at this
   rwa [show (⟨b,o,none⟩ : Addr).add j = ⟨b,o + j,none⟩ from by unfold Addr.add;split <;> simp_all]
  have hone : ∀ u ∈ encs inc l,u.oneCell' = true:=by
   intro u hu;obtain ⟨x,-,hx⟩:=List.mem_flatMap.1 hu
   simp [inc] at hx
   (rcases hx with rfl) <;> rfl
  have hq : ∀ (w : World) (a : Option Addr) (n c n' c' : Nat),(binOp .eql 24 (.slice a n c) (.slice none n' c')).run Tryz.prog w = .ok (.bool a.isNone) w:=fun w a n c n' c'=>Lib.run_eql_slice_nil w _ _ a n c n' c' Tryz.underlying24;have HN:=hH hnews;have HL:=hH hlen;clear h3 hnews hlen;go_enter Tryz.func173,Tryz.ntmps173
  go_wp2_with (at_builtin;refine wpList_append_own _ rfl _ _ 24 rfl w.heap.size 3 i0 (.int .i64 0) 1 8 Tryz.underlying24 hi hz0 hz1 hz2 rfl (by decide) _ _ _ rfl (World.ownsRow_made w #[] 0 (Nat.le_refl _) (Nat.zero_le _) (by simp)) ad l.length c (encs inc l) rfl ?qc1 ?qc2 ?qc3 ?qc4 ?qc5 ?qc6 ?_)
  case qc1=>exact HL.out
  case qc2 =>
   intro j u hj;exact Lib.cell?_alloc_some _ (HN.out j u hj)
  case qc3=>exact hone
  case qc4=>rw [Nat.zero_add];exact hm
  case qc5=>rw [Nat.zero_add];exact hb
  case qc6=>simp
  intro v' w1 hown hgrow hnil
  go_wp2
  go_ret;refine ⟨v',rfl,?_,?_⟩
  ·exact ((Ext.refl w).alloc _).grown hgrow (by intro k hk;simp [Value.ownBlock] at hk;omega)
  ·unfold Jh;simpa using hown


section
variable {α : Type} {enc : α -> Array Value} {k : Nat}
theorem encs_put (hk : ∀ x,(enc x).size = k) (l : List α) (j i : Nat) (hj : j < l.length) (hi : i < k) (x' : α) (u : Value) (hx : (enc x').toList = (enc l[j]).toList.set i u) :
  (encs enc l).set (j * k + i) u = encs enc (l.set j x'):=by
 induction l generalizing j with
 | nil=>simp at hj
 | cons x l ih =>
  cases j with
  | zero =>
   rw [Z7,List.set_cons_zero,Z7,Nat.zero_mul,Nat.zero_add,List.set_append_left _ _ (by rw [Array.length_toList,hk];exact hi)];rw [hx]
   rfl
  | succ j =>
   rw [Z7,List.set_cons_succ,Z7,List.set_append_right _ _ (by rw [Array.length_toList,hk,Nat.succ_mul];omega),Array.length_toList,hk];rw [show (j + 1) * k + i - k = j * k + i from by rw [Nat.succ_mul];omega];rw [ih j (by simpa using hj) hx]
theorem Jh.field {e : TypeId} {base g n c : Nat} {w : World} {l : List α} (hk : ∀ x,(enc x).size = k) (h : Jh e k enc base w (.slice (some ⟨g,0,none⟩) n c) l) (j i : Nat) (hj : j < l.length) (hi : i < k) (u : Value) (hu : (enc l[j])[i]? = some u) :
  w.cell? ⟨g,j * k + i,none⟩ = some u /\ w.frozen? ⟨g,j * k + i,none⟩ = false:=by
 have hx : (encs enc l)[j * k + i]? = some u:=by rw [XV hk l j i hj hi];exact hu
 have h1:=h.cells (g:=g) rfl _ _ hx;rw [show (⟨g,0,none⟩ : Addr).add (j * k + i) = ⟨g,j * k + i,none⟩ from by unfold Addr.add;split <;> simp_all] at h1;refine ⟨h1,?_⟩
 rcases h.2 with ⟨h',_⟩ | ⟨g',cap',cur,h',hb,hg,-⟩
 ·simp at h'
 ·simp only [Value.slice.injEq,Option.some.injEq,Addr.mk.injEq,and_true,true_and] at h'
  obtain ⟨rfl,-⟩:=h';unfold World.frozen?;simp only [hg]
  simp
theorem Jh.JW {e : TypeId} {base g n c : Nat} {w : World} {l : List α} (hk : ∀ x,(enc x).size = k) (h : Jh e k enc base w (.slice (some ⟨g,0,none⟩) n c) l) (j i : Nat) (hj : j < l.length) (hi : i < k) (x' : α) (u : Value)
  (hx : (enc x').toList = (enc l[j]).toList.set i u) : Jh e k enc base (w.setCell ⟨g,j * k + i,none⟩ u) (.slice (some ⟨g,0,none⟩) n c) (l.set j x'):=by
 obtain ⟨A,c',hv⟩:=h.form
 injection hv with _ hn hc
 subst hn hc;unfold Jh at h ⊢;rw [List.length_set];have h1:=(h.stored (j * k + i) u).1
 rwa [encs_put hk l j i hj hi x' u hx] at h1
theorem Jh.slot {e : TypeId} {base : Nat} {w : World} {v : Value} {l : List α} (h : Jh e k enc base w v l) (hl : 0 < l.length) : ∃ g c,v = .slice (some ⟨g,0,none⟩) l.length c /\ base <= g /\ g < w.heap.size /\ l.length <= c:=by
 rcases h.2 with ⟨rfl,h0⟩ | ⟨g,cap,cur,rfl,hb,hg,hnc,-⟩
 ·omega
 ·exact ⟨g,cap,rfl,hb,(Array.getElem?_eq_some_iff.1 hg).1,hnc⟩
end
theorem Jh.kept' {α : Type} {enc : α -> Array Value} {k : Nat} {e : TypeId} {base : Nat} {w w' : World} {v u : Value} {l : List α} (h : Jh e k enc base w v l) (hg : w.grownBy w' u.ownBlock) (hd : ∀ q,u.ownBlock = some q -> v.ownBlock ≠ some q) : Jh e k enc base w' v l:=by
 cases hu : u.ownBlock with
 | none=>rw [hu] at hg;exact World.ownsRow.kept h hg (by cases hv : v.ownBlock with
  | none=>exact .inl rfl
  | some q=>exact .inr (by simp))
 | some q=>rw [hu] at hg;exact World.ownsRow.kept h hg (.inr (hd q hu))
end Go.Proofs.YteojjbhadgkfgaaGreat

namespace Go.Proofs.YteojjbhadgkfgaaGreat
open Go Go.RowKit
set_option linter.unusedSimpArgs false
set_option linter.unusedVariables false
set_option maxRecDepth 100000

section
variable {P : Program} {l : List Oper} {Q : Exit -> Act -> World -> Prop} {md : Region.Mode} {S : World -> Prop}

def waits (md : Region.Mode) (ops : Array Oper) (j i : Nat) : Bool :=
 match ops[j]? with
 | some oj=>oj.after.any fun e=>Region.binds md e && e.on == i
 | none=>false
theorem waits_spec {ops : Array Oper} {j i : Nat} (h : waits md ops j i = true) : ∃ oj,ops[j]? = some oj /\ ∃ e ∈ oj.after,Region.binds md e = true /\ e.on = i:=by
 unfold waits at h
 split at h
 ·rename_i oj hj
  obtain ⟨e,he,hb⟩:=Array.any_eq_true'.1 h;simp only [Bool.and_eq_true,beq_iff_eq] at hb;exact ⟨oj,hj,e,he,hb.1,hb.2⟩
 ·cases h
def sinks (md : Region.Mode) (ops : Array Oper) (n : Nat) : Bool :=
 (List.range n).all fun i=>(List.range (n + 1)).any fun j=>decide (i < j) && waits md ops j i
def Closed (md : Region.Mode) (ops : Array Oper) (listed : Array Bool) : Prop :=
 listed.size = ops.size /\ ∀ j oj,ops[j]? = some oj -> listed.getD j false = true -> ∀ e ∈ oj.after,Region.binds md e = true -> listed.getD e.on false = true
def Xr (md : Region.Mode) (ops : Array Oper) (listed : Array Bool) : Bool :=
 listed.size == ops.size && (List.range ops.size).all fun j=>match ops[j]? with
  | some oj=>!listed.getD j false || oj.after.all fun e=>!Region.binds md e || listed.getD e.on false
  | none=>true
theorem XU {ops : Array Oper} {listed : Array Bool} (h : Xr md ops listed = true) : Closed md ops listed:=by
 unfold Xr at h;simp only [Bool.and_eq_true,beq_iff_eq,List.all_eq_true,List.mem_range] at h;refine ⟨h.1,fun j oj hj hl e he hb=>?_⟩;have h1:=h.2 j (Array.getElem?_eq_some_iff.1 hj).1;rw [hj] at h1;simp only [hl,Bool.not_true,Bool.false_or,Array.all_eq_true_iff_forall_mem] at h1;have h2:=h1 e he
 simpa [hb] using h2
theorem Closed.set {ops : Array Oper} {i : Nat} {listed : Array Bool} (c : Closed md ops listed) (hi : i ∈ Region.ready md ops listed) : Closed md ops (listed.setIfInBounds i true):=by
 obtain ⟨_,oi,hoi,hall⟩:=mem_ready.1 hi;refine ⟨by simp [c.1],fun j oj hj hl e he hb=>?_⟩
 by_cases hij : i = j
 ·subst hij
  have : oj = oi:=Option.some.inj (hj.symm.trans hoi);subst this;exact getD_set_true (hall e he hb)
 ·rw [getD_set_ne false hij] at hl
  exact getD_set_true (c.2 j oj hj hl e he hb)
theorem getD_ft {listed : Array Bool} {i : Nat} (h : listed.getD i true = false) : listed.getD i false = false:=by
 rcases Nat.lt_or_ge i listed.size with h' | h'
 ·simp [h'] at h ⊢;exact h
 ·simp [Array.getElem?_eq_none h'] at h
theorem Closed.all {ops : Array Oper} {n : Nat} {listed : Array Bool} (c : Closed md ops listed) (hs : sinks md ops n = true) (hn : listed.getD n false = true \/ n ∈ Region.ready md ops listed) : ∀ (d i : Nat),n - i = d -> i < n -> listed.getD i false = true:=by
 intro d
 induction d using Nat.strongRecOn with
 | _ d ih =>
  intro i hd hi;have h1:=List.all_eq_true.1 hs i (List.mem_range.2 hi);obtain ⟨j,hj,hj2⟩:=List.any_eq_true.1 h1;simp only [Bool.and_eq_true,decide_eq_true_eq] at hj2;obtain ⟨oj,hoj,e,he,hb,hon⟩:=waits_spec hj2.2
  have hjle : j <= n:=by have:=List.mem_range.1 hj;omega
  rw [<- hon]
  by_cases hjt : j = n
  ·subst hjt
   rcases hn with hn | hn
   ·exact c.2 j oj hoj hn e he hb
   ·obtain ⟨_,ot,hot,hall⟩:=mem_ready.1 hn
    have : oj = ot:=Option.some.inj (hoj.symm.trans hot);subst this;exact hall e he hb
  ·exact c.2 j oj hoj (ih (n - j) (by omega) j rfl (by omega)) e he hb

def JF (P : Program) (md : Region.Mode) (ops : Array Oper) (Q : Exit -> Act -> World -> Prop) (S : World -> Prop) (n : Nat) : Nat -> Array Bool -> Act -> World -> Prop
 | 0,listed,a,w=>Region.ready md ops listed = [] /\ Q .normal a w
 | fuel + 1,listed,a,w =>
  (Region.ready md ops listed = [] -> Q .normal a w) /\
  ∀ i ∈ Region.ready md ops listed,wpOp P ops Q i (fun a' w'=>((listed.setIfInBounds i true).getD n false = true \/ S w') /\ JF P md ops Q S n fuel (listed.setIfInBounds i true) a' w') a w

theorem wpAny_of_T {ops : Array Oper} {n : Nat} : ∀ (fuel : Nat) (listed : Array Bool) (a : Act) (w : World),JF P md ops Q S n fuel listed a w -> wpAny P md ops Q fuel listed a w
 | 0,_,_,_,h=>h
 | fuel + 1,_,_,_,h=>⟨h.1,fun i hi=>wpOp_mono (fun a' w' h'=>wpAny_of_T fuel _ a' w' h'.2) (h.2 i hi)⟩

theorem wpAnyT_first {ops : Array Oper} {n i : Nat} {oi : Oper} {v : Value} (hi : ops[i]? = some oi) (hsel : ∀ (j : Nat) (o : Oper) cs b,ops[j]? = some o -> o.op ≠ .select cs b)
  (hQ : ∀ c a w,Q (.panic c) (a.put oi.dst v) w -> Q (.panic c) a w) (hs : sinks md ops n = true) (hin : i < n) :
  ∀ (fuel : Nat) (listed : Array Bool) (a : Act) (w : World),Closed md ops listed ->
   (∀ j oj,ops[j]? = some oj -> j ≠ i -> listed.getD j true = false -> (∀ e ∈ oj.after,Region.binds md e = true -> e.on ≠ i) -> oi.apart ops oj = true) ->
   i ∈ Region.ready md ops listed -> YieldsIf P ops S oi v a -> S w ->
   JF P md ops Q S n fuel (listed.setIfInBounds i true) (a.put oi.dst v) w -> JF P md ops Q S n (fuel + 1) listed a w:=by
 intro fuel
 induction fuel with
 | zero =>
  intro listed a w _ _ hr hy hS H;refine ⟨fun h=>(by rw [h] at hr;cases hr),fun j hj=>?_⟩
  by_cases hji : j = i
  ·subst hji;exact hy.wpOp hi hS ⟨.inr hS,H⟩
  ·have:=ready_mono hj hji
   rw [H.1] at this
   cases this
 | succ fuel ih =>
  intro listed a w hc hfree hr hy hS H;refine ⟨fun h=>(by rw [h] at hr;cases hr),fun j hj=>?_⟩
  by_cases hji : j = i
  ·subst hji;exact hy.wpOp hi hS ⟨.inr hS,H⟩
  ·have h1:=H.2 j (ready_mono hj hji)
   obtain ⟨hjun,oj,hoj,hall⟩:=mem_ready.1 hj;have hun0:=getD_ft (mem_ready.1 hr).1
   have hjn : j ≠ n:=by
    intro e;subst e;have:=hc.all hs (.inr hj) _ i rfl hin;rw [hun0] at this
    cases this
   have hn0 : listed.getD n false = false:=by
    cases hh : listed.getD n false with
    | false=>rfl
    | true =>
     have:=hc.all hs (.inl hh) _ i rfl hin;rw [hun0] at this
     cases this
   have hnot : ∀ e ∈ oj.after,Region.binds md e = true -> e.on ≠ i:=fun e he hb heq=>by
    have h1:=hall e he hb;have h0:=(mem_ready.1 hr).1;rw [heq] at h1
    rcases Nat.lt_or_ge i listed.size with h' | h'
    ·simp [h'] at h0 h1;rw [h0] at h1;cases h1
    ·simp [Array.getElem?_eq_none h'] at h1
   have h2:=wpOp_putIf hoj (hfree j oj hoj hji hjun hnot) (fun cs b=>hsel i oi cs b hi) (fun cs b=>hsel j oj cs b hoj) hQ hy h1;have hfree' : ∀ k ok,ops[k]? = some ok -> k ≠ i -> (listed.setIfInBounds j true).getD k true = false ->
     (∀ e ∈ ok.after,Region.binds md e = true -> e.on ≠ i) -> oi.apart ops ok = true:=fun k ok hk hki hun hno=>by
    refine hfree k ok hk hki ?_ hno
    by_cases hjk : j = k
    ·subst hjk;exact hjun
    ·rw [getD_set_ne true hjk] at hun;exact hun
   refine wpOp_mono (fun a' w' h3=>?_) h2
   have hS' : S w':=by
    rcases h3.2.1 with h | h
    ·rw [getD_set_ne false hjn,getD_set_ne false (Nat.ne_of_lt hin),hn0] at h
     cases h
    ·exact h
   refine ⟨.inr hS',ih (listed.setIfInBounds j true) a' w' (hc.set hj) hfree' (ready_mono hr (Ne.symm hji)) h3.1 hS' ?_⟩;rw [Array.setIfInBounds_comm _ _ hji];exact h3.2.2

def takes (md : Region.Mode) (ops : Array Oper) (listed : Array Bool) (n i : Nat) : Bool :=
 Region.noSelect ops && Region.free md ops listed i && (Region.ready md ops listed).contains i && sinks md ops n && Xr md ops listed && decide (i < n)

theorem T_take {n i : Nat} {oi : Oper} {v : Value} {fuel : Nat} {listed : Array Bool} {a : Act} {w : World} (hi : l[i]? = some oi)
  (hb : takes md l.toArray listed n i = true) (hw : oi.guard = none) (hS : S w) (hy : ∀ w,S w -> (execOp a.eval oi).run P w = .ok (.value v) w)
  (h : JF P md l.toArray (NoPanic Q) S n fuel (listed.setIfInBounds i true) (a.put oi.dst v) w) : JF P md l.toArray (NoPanic Q) S n (fuel + 1) listed a w:=by
 unfold takes at hb;simp only [Bool.and_eq_true,decide_eq_true_eq] at hb;obtain ⟨⟨⟨⟨⟨h1,h2⟩,h3⟩,h4⟩,h5⟩,h6⟩:=hb
 have hi' : l.toArray[i]? = some oi:=by simpa using hi
 exact wpAnyT_first hi' (Region.noSelect_spec h1) (fun _ _ _ h=>h) h4 h6 fuel listed a w (XU h5) (Region.free_spec hi' h2) (by simpa using h3) (.inl ⟨by simp [Region.wanted,hw],hy⟩) hS h

theorem T_only {n i : Nat} {oi : Oper} {fuel : Nat} {listed : Array Bool} {a : Act} {w : World} (hi : l[i]? = some oi) (hr : Region.ready md l.toArray listed = [i]) (hw : oi.guard = none)
  (h : ∀ K : Act -> World -> Prop,Hid (∀ a w,((listed.setIfInBounds i true).getD n false = true \/ S w) -> JF P md l.toArray (NoPanic Q) S n fuel (listed.setIfInBounds i true) a w -> K a w) -> Oper.wp P oi a w K (NoPanic Q)) :
  JF P md l.toArray (NoPanic Q) S n (fuel + 1) listed a w:=by
 refine ⟨fun h0=>(by rw [hr] at h0;cases h0),fun j hj=>?_⟩;rw [hr,List.mem_singleton] at hj;subst hj
 have hi' : l.toArray[j]? = some oi:=by simpa using hi
 refine wpOp_step hi' fun K hK=>?_;rw [if_pos (by simp [Region.wanted,hw])];exact h K (hH fun a w h1 h2=>hK a w ⟨h1,h2⟩)

theorem Ju {n : Nat} {listed : Array Bool} {a : Act} {w : World} (hr : Region.ready md l.toArray listed = []) (h : Q .normal a w) :
  ∀ fuel,JF P md l.toArray (NoPanic Q) S n fuel listed a w
 | 0=>⟨hr,h⟩
 | _ + 1=>⟨fun _=>h,by rw [hr];simp⟩

theorem Jw (S : World -> Prop) (n : Nat) {id : Nat} {a : Act} {w : World} (hm : P.follows .mixedOrders = true) (hS : S w.drew)
  (h : S w.drew -> JF P .any l.toArray (NoPanic Q) S n l.length (Array.replicate l.length false) a w.drew) : (Code.region id l.toArray true).wp P Q a w :=
 wp_region_noPanic (wp_region_any hm (by simpa using wpAny_of_T _ _ _ _ (h hS)))
end
section
variable {P : Program} {l : List Oper} {Q : Exit -> Act -> World -> Prop} {md : Region.Mode} {S : World -> Prop} {n : Nat} {oi : Oper} {v : Value} {fuel : Nat} {listed : Array Bool} {a a2 : Act} {l2 : Array Bool} {w : World}
theorem tkA (i : Nat) {R : World -> Prop} (HK : Hid (∀ w',S w' -> R w')) (hS : S w) (h : JF P md l.toArray (NoPanic Q) S n fuel l2 a2 w)
  (hi : l[i]? = some oi:=by rfl) (hb : takes md l.toArray listed n i = true:=by kernel_rfl) (hw : oi.guard = none:=by rfl)
  (hy : ∀ w,R w -> (execOp a.eval oi).run P w = .ok (.value v) w:=by (intro w hk;(try dsimp only at hk);go_simp;try (with_reducible rfl)))
  (ha : a.put oi.dst v = a2:=by ((try simp only [Act.put,Jm]);exact rfl)) (hl : listed.setIfInBounds i true = l2:=by ((try simp only [Jm]);exact rfl)) :
  JF P md l.toArray (NoPanic Q) S n (fuel + 1) listed a w:=T_take hi hb hw hS (fun w h=>hy w (HK.out w h)) (by rw [ha,hl];exact h)
theorem tkS (i : Nat) (hS : S w) (h : JF P md l.toArray (NoPanic Q) S n fuel l2 a2 w)
  (hi : l[i]? = some oi:=by rfl) (hb : takes md l.toArray listed n i = true:=by kernel_rfl) (hw : oi.guard = none:=by rfl)
  (hy : ∀ w,S w -> (execOp a.eval oi).run P w = .ok (.value v) w:=by (intro w hSw;(try dsimp only at hSw);go_simp;try (with_reducible rfl)))
  (ha : a.put oi.dst v = a2:=by ((try simp only [Act.put,Jm]);exact rfl)) (hl : listed.setIfInBounds i true = l2:=by ((try simp only [Jm]);exact rfl)) :
  JF P md l.toArray (NoPanic Q) S n (fuel + 1) listed a w:=T_take hi hb hw hS hy (by rw [ha,hl];exact h)
theorem oA (i : Nat) {S : World -> Prop} (h : ∀ K : Act -> World -> Prop,Hid (∀ a w,((listed.setIfInBounds i true).getD n false = true \/ S w) -> JF P md l.toArray (NoPanic Q) S n fuel (listed.setIfInBounds i true) a w -> K a w) -> Oper.wp P oi a w K (NoPanic Q))
 (hi : l[i]? = some oi:=by rfl) (hr : Region.ready md l.toArray listed = [i]:=by kernel_rfl) (hw : oi.guard = none:=by rfl) : JF P md l.toArray (NoPanic Q) S n (fuel + 1) listed a w:=T_only hi hr hw h

end

end Go.Proofs.YteojjbhadgkfgaaGreat

namespace Go.Proofs.YteojjbhadgkfgaaGreat
open Go Go.RowKit
set_option linter.unusedSimpArgs false
set_option linter.unusedVariables false
set_option maxRecDepth 100000

section
variable {P : Program} {l : List Oper} {Q : Exit -> Act -> World -> Prop} {md : Region.Mode} {S : World -> Prop}

theorem XD {n i j : Nat} {oi oj : Oper} {fuel : Nat} {listed : Array Bool} {a : Act} {w : World} (hi : l[i]? = some oi) (hj : l[j]? = some oj) (hr : Region.ready md l.toArray listed = [i,j]) (hwi : oi.guard = none) (hwj : oj.guard = none)
  (h1 : ∀ K : Act -> World -> Prop,Hid (∀ a w,((listed.setIfInBounds i true).getD n false = true \/ S w) -> JF P md l.toArray (NoPanic Q) S n fuel (listed.setIfInBounds i true) a w -> K a w) -> Oper.wp P oi a w K (NoPanic Q))
  (h2 : ∀ K : Act -> World -> Prop,Hid (∀ a w,((listed.setIfInBounds j true).getD n false = true \/ S w) -> JF P md l.toArray (NoPanic Q) S n fuel (listed.setIfInBounds j true) a w -> K a w) -> Oper.wp P oj a w K (NoPanic Q)) :
  JF P md l.toArray (NoPanic Q) S n (fuel + 1) listed a w:=by
 refine ⟨fun h0=>(by rw [hr] at h0;cases h0),fun k hk=>?_⟩;rw [hr] at hk
 rcases List.mem_cons.1 hk with rfl | hk
 ·have hi' : l.toArray[k]? = some oi:=by simpa using hi
  refine wpOp_step hi' fun K hK=>?_;rw [if_pos (by simp [Region.wanted,hwi])];exact h1 K (hH fun a w h1 h2=>hK a w ⟨h1,h2⟩)
 ·rw [List.mem_singleton] at hk
  subst hk
  have hj' : l.toArray[k]? = some oj:=by simpa using hj
  refine wpOp_step hj' fun K hK=>?_;rw [if_pos (by simp [Region.wanted,hwj])];exact h2 K (hH fun a w h1 h2=>hK a w ⟨h1,h2⟩)
end
theorem RdL.row1 {α : Type} [Inhabited α] {enc : α -> Array Value} {k : Nat} {W : World} (x : α) {g : Nat} (h : Row W g (enc x)) : RdL k enc W (.slice (some ⟨g,0,none⟩) 1 1) [x]:=by
 refine ⟨_,1,rfl,Nat.le_refl _,by unfold maxLen;omega,fun _=>⟨_,0,rfl,h.1,fun j hj i u hu=>?_⟩⟩
 have hj0 : j = 0:=by simpa using hj
 subst hj0;rw [Nat.zero_mul,Nat.add_zero,Nat.zero_add,h.2.1 i];exact hu
end Go.Proofs.YteojjbhadgkfgaaGreat

namespace Go.Proofs.YteojjbhadgkfgaaGreat
open Go Go.RowKit
set_option linter.unusedSimpArgs false
set_option linter.unusedVariables false
set_option maxRecDepth 100000

theorem Act.eval_same {a : Act} {d : Tmp} {v : Value} (h : d < a.tmps.size) : (a.put (some d) v).eval (.tmp d) = v:=by
 simp [Act.eval,Act.put,h]
theorem Act.ZB {a : Act} {d t : Tmp} {v : Value} (h : d ≠ t) : (a.put (some d) v).eval (.tmp t) = a.eval (.tmp t) :=
 Act.eval_put fun e he=>by
  injection he with he
  subst he;intro hh
  injection hh with hh
  exact h hh.symm
theorem Act.size_put {a : Act} {d : Tmp} {v : Value} : (a.put (some d) v).tmps.size = a.tmps.size:=by
 simp [Act.put]

section
variable {P : Program} {l : List Oper} {Q : Exit -> Act -> World -> Prop} {md : Region.Mode} {S : World -> Prop}
variable {α : Type} [Inhabited α] {enc : α -> Array Value} {k : Nat}

theorem T_copy1 {n i0 i3 i5 i6 d0 d3 d5 d6 x2 px : Nat} {o0 o3 o5 o6 : Oper} {fuel : Nat} {listed : Array Bool} {a : Act} {w : World}
  (e t : TypeId) (i : TypeInfo) (z : Value) (bytes : Nat) (ht : P.underlying t = some (.slice e)) (hi : P.info? e = some i) (hz : i.zero = some z)
  (hsize : i.size = k) (hby : i.bytes = bytes) (hzs : z.cells.size = k) (hsz : 0 < k) (hk : ∀ x,(enc x).size = k)
  (h0 : l[i0]? = some o0) (h3 : l[i3]? = some o3) (h5 : l[i5]? = some o5) (h6 : l[i6]? = some o6)
  (g0 : o0.guard = none) (g3 : o3.guard = none) (g5 : o5.guard = none) (g6 : o6.guard = none)
  (p : α)
  (s0 : ∀ (a : Act) (w : World) (K : Act -> World -> Prop),K (a.put (some d0) (.slice (some ⟨w.heap.size,0,none⟩) 0 0)) (w.alloc (.cells #[] e)) -> Oper.wp P o0 a w K (NoPanic Q))
  (s5 : ∀ (a : Act) (w : World) (K : Act -> World -> Prop),a.eval (.tmp px) = .agg (enc p) -> K (a.put (some d5) (.slice (some ⟨w.heap.size,0,none⟩) 1 1)) (w.alloc (.cells (enc p) e)) -> Oper.wp P o5 a w K (NoPanic Q))
  (s3 : o3.op = .call { callee:=.builtin .append,args:=#[.tmp d0,.tmp x2],argTypes:=#[t,t] }) (t3 : o3.dst = some d3)
  (s6 : o6.op = .call { callee:=.builtin .append,args:=#[.tmp d3,.tmp d5],argTypes:=#[t,t] }) (t6 : o6.dst = some d6)
  (hd : [d0,d3,d5,x2,px].Nodup) (hds : d0 < a.tmps.size /\ d3 < a.tmps.size /\ d5 < a.tmps.size)
  (hii : i0 ≠ i3 /\ i0 ≠ i5 /\ i3 ≠ i5)
  (r1 : Region.ready md l.toArray listed = [i0,i5])
  (r2 : Region.ready md l.toArray (listed.setIfInBounds i0 true) = [i3,i5])
  (r3 : Region.ready md l.toArray ((listed.setIfInBounds i0 true).setIfInBounds i3 true) = [i5])
  (r4 : Region.ready md l.toArray (((listed.setIfInBounds i0 true).setIfInBounds i3 true).setIfInBounds i5 true) = [i6])
  (r5 : Region.ready md l.toArray ((listed.setIfInBounds i0 true).setIfInBounds i5 true) = [i3])
  (r6 : Region.ready md l.toArray (listed.setIfInBounds i5 true) = [i0])
  (hS : ∀ w',Ext w w' -> S w')
  (xv : Value) (xs : List α) (hx : a.eval (.tmp x2) = xv) (hrd : RdL k enc w xv xs) (hp : a.eval (.tmp px) = .agg (enc p))
  (h1 : ∀ u ∈ encs enc xs,u.oneCell' = true) (h2 : ∀ u ∈ encs enc [p],u.oneCell' = true)
  (h63 : xs.length + 1 <= maxLen) (hbytes : (xs.length + 1) * bytes <= 140737488355328)
  (hfin : ∀ v0 v3 v5 v6 w',Jh e k enc w.heap.size w' v6 (xs ++ [p]) -> Ext w w' -> JF P md l.toArray (NoPanic Q) S n fuel ((((listed.setIfInBounds i0 true).setIfInBounds i3 true).setIfInBounds i5 true).setIfInBounds i6 true) ((((a.put (some d0) v0).put (some d3) v3).put (some d5) v5).put (some d6) v6) w') :
  JF P md l.toArray (NoPanic Q) S n (fuel + 4) listed a w:=by
 simp only [List.nodup_cons,List.mem_cons,not_or,List.not_mem_nil,not_false_eq_true,List.nodup_nil,and_true] at hd;obtain ⟨⟨n03,n05,n0x,n0p⟩,⟨n35,n3x,n3p⟩,⟨n5x,n5p⟩,nxp⟩:=hd;obtain ⟨z0,z3,z5⟩:=hds;obtain ⟨e03,e05,e35⟩:=hii;have hxs : xs.length * bytes <= 140737488355328:=Nat.le_trans (Nat.mul_le_mul_right _ (by omega)) hbytes
 -- the last step
 have L : ∀ v0 v3 v5 w1,Ext w w1 -> Jh e k enc w.heap.size w1 v3 xs -> RdL k enc w1 v5 [p] ->
   JF P md l.toArray (NoPanic Q) S n (fuel + 1) (((listed.setIfInBounds i0 true).setIfInBounds i3 true).setIfInBounds i5 true) (((a.put (some d0) v0).put (some d3) v3).put (some d5) v5) w1:=by
  intro v0 v3 v5 w1 he ho hr;refine T_only h6 r4 g6 fun K hK=>?_;refine Zc (enc:=enc) (k:=k) w1 _ _ t s6 w.heap.size e i z bytes ht hi hz hsize hby hzs hsz hk v3 xs ?_ ho v5 [p] ?_ hr h2 (by simpa using h63) (by simpa using hbytes) he.size ?_
  ·rw [Act.ZB (Ne.symm n35)]
   exact Act.eval_same (by rw [Act.size_put];exact z3)
  ·exact Act.eval_same (by rw [Act.size_put,Act.size_put];exact z5)
  intro v6 w' ho' hg hn;have he' : Ext w w':=he.grown hg fun q hq=>(ho.lt q hq).1;rw [t6];exact hK.out _ _ (.inr (hS _ he')) (hfin v0 v3 v5 v6 w' ho' he')
 refine XD h0 h5 r1 g0 g5 (fun K hK=>?_) (fun K hK=>?_)
 ·refine s0 _ _ _ (hK.out _ _ (.inr (hS _ ((Ext.refl _).alloc _))) ?_)
  clear K hK;have ho0 : Jh e k enc w.heap.size (w.alloc (.cells #[] e)) (.slice (some ⟨w.heap.size,0,none⟩) 0 0) ([] : List α):=Jh.made rfl (Nat.le_refl _);refine XD h3 h5 r2 g3 g5 (fun K hK=>?_) (fun K hK=>?_)
  ·refine Zc (enc:=enc) (k:=k) _ _ _ t s3 w.heap.size e i z bytes ht hi hz hsize hby hzs hsz hk _ [] ?_ ho0 xv xs ?_ (hrd.ext ((Ext.refl _).alloc _)) h1 (by simp;omega) (by simpa using hxs) (by simp) ?_
   ·exact Act.eval_same z0
   ·rw [Act.ZB n0x];exact hx
   intro v3 w1 ho1 hg hn;rw [List.nil_append] at ho1;have he1 : Ext w w1:=((Ext.refl w).alloc _).grown hg fun q hq=>(ho0.lt q hq).1;rw [t3];refine hK.out _ _ (.inr (hS _ he1)) ?_;clear K hK;refine T_only h5 r3 g5 fun K hK=>?_;refine s5 _ _ _ (by rw [Act.ZB n3p,Act.ZB n0p];exact hp) ?_;exact hK.out _ _ (.inr (hS _ (he1.alloc _))) (L _ _ _ _ (he1.alloc _) (ho1.alloc _) (RdL.lit p rfl rfl))
  ·refine s5 _ _ _ (by rw [Act.ZB n0p];exact hp) ?_
   refine hK.out _ _ (.inr (hS _ (((Ext.refl _).alloc _).alloc _))) ?_;clear K hK;refine T_only h3 r5 g3 fun K hK=>?_;refine Zc (enc:=enc) (k:=k) _ _ _ t s3 w.heap.size e i z bytes ht hi hz hsize hby hzs hsz hk _ [] ?_ (ho0.alloc _) xv xs ?_ (hrd.ext (((Ext.refl _).alloc _).alloc _)) h1 (by simp;omega) (by simpa using hxs) (by simp;omega) ?_
   ·rw [Act.ZB (Ne.symm n05)]
    exact Act.eval_same z0
   ·rw [Act.ZB n5x,Act.ZB n0x];exact hx
   intro v3 w1 ho1 hg hn;rw [List.nil_append] at ho1;have he1 : Ext w w1:=(((Ext.refl w).alloc _).alloc _).grown hg fun q hq=>(ho0.lt q hq).1;rw [t3];refine hK.out _ _ (.inr (hS _ he1)) ?_;have:=L (.slice (some ⟨w.heap.size,0,none⟩) 0 0) v3 (.slice (some ⟨(w.alloc (.cells #[] e)).heap.size,0,none⟩) 1 1) w1 he1 ho1 (RdL.row1 p (Row.grown Row.new hg (by simp [Value.ownBlock])));rw [Act.put_comm _ _ _ (fun d hd he=>by injection hd with hd;injection he with he;exact n35 (hd.trans he.symm)),Array.setIfInBounds_comm _ _ e35] at this;exact this
 ·refine s5 _ _ _ hp ?_
  refine hK.out _ _ (.inr (hS _ ((Ext.refl _).alloc _))) ?_;clear K hK;refine T_only h0 r6 g0 fun K hK=>?_;refine s0 _ _ _ (hK.out _ _ (.inr (hS _ (((Ext.refl _).alloc _).alloc _))) ?_);clear K hK;have ho0 : Jh e k enc w.heap.size ((w.alloc (.cells (enc p) e)).alloc (.cells #[] e)) (.slice (some ⟨(w.alloc (.cells (enc p) e)).heap.size,0,none⟩) 0 0) ([] : List α):=Jh.made rfl (by simp);rw [Array.setIfInBounds_comm _ _ (Ne.symm e05)];refine T_only h3 r5 g3 fun K hK=>?_;refine Zc (enc:=enc) (k:=k) _ _ _ t s3 w.heap.size e i z bytes ht hi hz hsize hby hzs hsz hk _ [] ?_ ho0 xv xs ?_ (hrd.ext (((Ext.refl _).alloc _).alloc _)) h1 (by simp;omega) (by simpa using hxs) (by simp;omega) ?_
  ·exact Act.eval_same (by rw [Act.size_put];exact z0)
  ·rw [Act.ZB n0x,Act.ZB n5x];exact hx
  intro v3 w1 ho1 hg hn;rw [List.nil_append] at ho1;have he1 : Ext w w1:=(((Ext.refl w).alloc _).alloc _).grown hg fun q hq=>(ho0.lt q hq).1;rw [t3];refine hK.out _ _ (.inr (hS _ he1)) ?_;have hr5 : Row w1 w.heap.size (enc p):=Row.grown (Row.alloc Row.new) hg (by simp [Value.ownBlock]);have:=L (.slice (some ⟨(w.alloc (.cells (enc p) e)).heap.size,0,none⟩) 0 0) v3 (.slice (some ⟨w.heap.size,0,none⟩) 1 1) w1 he1 ho1 (RdL.row1 p hr5);rw [Act.put_comm _ _ _ (fun d hd he=>by injection hd with hd;injection he with he;exact n35 (hd.trans he.symm)),Act.put_comm a _ _ (fun d hd he=>by injection hd with hd;injection he with he;exact n05 (hd.trans he.symm)),Array.setIfInBounds_comm _ _ e35] at this;exact this
end
end Go.Proofs.YteojjbhadgkfgaaGreat

namespace Go.Proofs.YteojjbhadgkfgaaGreat
set_option linter.unusedSimpArgs false
set_option linter.unusedVariables false
set_option maxRecDepth 100000
open Go Go.RowKit Lb

theorem bs0_tp {d : Option Tmp} {ps : String} {af : Array Edge} {ty : TypeId} {Q : Exit -> Act -> World -> Prop} (a : Act) (w : World) (K : Act -> World -> Prop) (h : K (a.put d (.slice (some ⟨w.heap.size,0,none⟩) 0 0)) (w.alloc (.cells #[] 57))) :
  Oper.wp Tryz.prog { dst:=d,op:=.buildSlice 23 0 #[],type:=ty,pos:=ps,after:=af,guard:=none } a w K Q:=by
 go_simp;exact h
theorem bs1_tp {d : Option Tmp} {ps : String} {af : Array Edge} {ty : TypeId} {px : Nat} {Q : Exit -> Act -> World -> Prop} (p : Tp) (a : Act) (w : World) (K : Act -> World -> Prop) (hp : a.eval (.tmp px) = .agg (tpc p)) (h : K (a.put d (.slice (some ⟨w.heap.size,0,none⟩) 1 1)) (w.alloc (.cells (tpc p) 57))) :
  Oper.wp Tryz.prog { dst:=d,op:=.buildSlice 23 1 #[(0,.tmp px)],type:=ty,pos:=ps,after:=af,guard:=none } a w K Q:=by
 unfold tpc at hp h;simp only [Act.eval,Array.getD_eq_getD_getElem?] at hp;go_simp;exact h
end Go.Proofs.YteojjbhadgkfgaaGreat

namespace Go.Proofs.YteojjbhadgkfgaaGreat
open Go Go.RowKit
set_option linter.unusedSimpArgs false
set_option linter.unusedVariables false
set_option maxRecDepth 100000

section
variable {P : Program} {l : List Oper} {Q : Exit -> Act -> World -> Prop} {md : Region.Mode} {S : World -> Prop}

theorem T_takeG {n i : Nat} {oi : Oper} {v : Value} {fuel : Nat} {listed : Array Bool} {a : Act} {w : World} (hi : l[i]? = some oi)
  (hb : takes md l.toArray listed n i = true) (hw : Region.wanted oi (yielded l.toArray a.tmps) = true) (hS : S w) (hy : ∀ w,S w -> (execOp a.eval oi).run P w = .ok (.value v) w)
  (h : JF P md l.toArray (NoPanic Q) S n fuel (listed.setIfInBounds i true) (a.put oi.dst v) w) : JF P md l.toArray (NoPanic Q) S n (fuel + 1) listed a w:=by
 unfold takes at hb;simp only [Bool.and_eq_true,decide_eq_true_eq] at hb;obtain ⟨⟨⟨⟨⟨h1,h2⟩,h3⟩,h4⟩,h5⟩,h6⟩:=hb
 have hi' : l.toArray[i]? = some oi:=by simpa using hi
 exact wpAnyT_first hi' (Region.noSelect_spec h1) (fun _ _ _ h=>h) h4 h6 fuel listed a w (XU h5) (Region.free_spec hi' h2) (by simpa using h3) (.inl ⟨hw,hy⟩) hS h
theorem T_onlyG {n i : Nat} {oi : Oper} {fuel : Nat} {listed : Array Bool} {a : Act} {w : World} (hi : l[i]? = some oi) (hr : Region.ready md l.toArray listed = [i]) (hw : Region.wanted oi (yielded l.toArray a.tmps) = true)
  (h : ∀ K : Act -> World -> Prop,Hid (∀ a w,((listed.setIfInBounds i true).getD n false = true \/ S w) -> JF P md l.toArray (NoPanic Q) S n fuel (listed.setIfInBounds i true) a w -> K a w) -> Oper.wp P oi a w K (NoPanic Q)) :
  JF P md l.toArray (NoPanic Q) S n (fuel + 1) listed a w:=by
 refine ⟨fun h0=>(by rw [hr] at h0;cases h0),fun j hj=>?_⟩;rw [hr,List.mem_singleton] at hj;subst hj
 have hi' : l.toArray[j]? = some oi:=by simpa using hi
 refine wpOp_step hi' fun K hK=>?_;rw [if_pos hw];exact h K (hH fun a w h1 h2=>hK a w ⟨h1,h2⟩)
variable {α : Type} [Inhabited α] {enc : α -> Array Value} {k : Nat}
end

section
variable {P : Program} {l : List Oper} {Q : Exit -> Act -> World -> Prop} {md : Region.Mode} {S : World -> Prop} {n : Nat} {oi : Oper} {v : Value} {fuel : Nat} {listed : Array Bool} {a a2 : Act} {l2 : Array Bool} {w : World}
theorem tkG (i : Nat) {R : World -> Prop} (HK : Hid (∀ w',S w' -> R w')) (hS : S w) (h : JF P md l.toArray (NoPanic Q) S n fuel l2 a2 w)
  (hi : l[i]? = some oi:=by rfl) (hb : takes md l.toArray listed n i = true:=by kernel_rfl) (hw : Region.wanted oi (yielded l.toArray a.tmps) = true:=by kernel_rfl)
  (hy : ∀ w,R w -> (execOp a.eval oi).run P w = .ok (.value v) w:=by (intro w hk;(try dsimp only at hk);go_simp;try (with_reducible rfl)))
  (ha : a.put oi.dst v = a2:=by ((try simp only [Act.put,Jm]);exact rfl)) (hl : listed.setIfInBounds i true = l2:=by ((try simp only [Jm]);exact rfl)) :
  JF P md l.toArray (NoPanic Q) S n (fuel + 1) listed a w:=T_takeG hi hb hw hS (fun w h=>hy w (HK.out w h)) (by rw [ha,hl];exact h)
end

end Go.Proofs.YteojjbhadgkfgaaGreat

namespace Go.Proofs.YteojjbhadgkfgaaGreat
open Go Go.RowKit
set_option linter.unusedSimpArgs false
set_option linter.unusedVariables false
set_option maxRecDepth 100000

section
variable {P : Program} {c : Code} {Q : Exit -> Act -> World -> Prop} {a : Act} {w w0 : World} {g0 g1 g2 g3 g4 : Nat} {c0 c1 c2 c3 c4 : Array Value}
theorem wp_gen1 (h0 : Row w g0 c0) (hE : Ext w0 w) (k : ∀ W,Hid (Ext w0 W) -> w0.heap.size <= W.heap.size -> Hid (Row W g0 c0) -> c.wp P Q a W) : c.wp P Q a w:=k w hE hE.size h0
theorem ZL (h0 : Row w g0 c0) (h1 : Row w g1 c1) (hE : Ext w0 w) (k : ∀ W,Hid (Ext w0 W) -> w0.heap.size <= W.heap.size -> Hid (Row W g0 c0) -> Hid (Row W g1 c1) -> c.wp P Q a W) : c.wp P Q a w:=k w hE hE.size h0 h1
theorem Xj (h0 : Row w g0 c0) (h1 : Row w g1 c1) (h2 : Row w g2 c2) (hE : Ext w0 w) (k : ∀ W,Hid (Ext w0 W) -> w0.heap.size <= W.heap.size -> Hid (Row W g0 c0) -> Hid (Row W g1 c1) -> Hid (Row W g2 c2) -> c.wp P Q a W) : c.wp P Q a w:=k w hE hE.size h0 h1 h2
theorem wp_gen4 (h0 : Row w g0 c0) (h1 : Row w g1 c1) (h2 : Row w g2 c2) (h3 : Row w g3 c3) (hE : Ext w0 w) (k : ∀ W,Hid (Ext w0 W) -> w0.heap.size <= W.heap.size -> Hid (Row W g0 c0) -> Hid (Row W g1 c1) -> Hid (Row W g2 c2) -> Hid (Row W g3 c3) -> c.wp P Q a W) : c.wp P Q a w:=k w hE hE.size h0 h1 h2 h3
end
theorem Row.size {w : World} {g : Nat} {cs : Array Value} (h : Row w g cs) : g < w.heap.size:=h.1
end Go.Proofs.YteojjbhadgkfgaaGreat

namespace Go.Proofs.YteojjbhadgkfgaaGreat
open Go Go.RowKit
set_option linter.unusedSimpArgs false
set_option linter.unusedVariables false
set_option maxRecDepth 100000

structure RowF where
 v : Value
 e : TypeId
 k : Nat
 n : Nat
 xs : List Value
def RowF.ok (r : RowF) (base : Nat) (w : World) : Prop:=w.ownsRow base r.e r.k r.v r.n r.xs
def upd (rows : Nat -> Option RowF) (i : Nat) (r : Option RowF) : Nat -> Option RowF:=fun j=>if j = i then r else rows j
theorem upd_same (rows : Nat -> Option RowF) (i : Nat) (r : Option RowF) : upd rows i r i = r:=by simp [upd]
theorem upd_ne (rows : Nat -> Option RowF) {i j : Nat} (r : Option RowF) (h : j ≠ i) : upd rows i r j = rows j:=by simp [upd,h]
theorem RowF.ok.lt {r : RowF} {base : Nat} {w : World} (h : r.ok base w) {q : Nat} (hq : r.v.ownBlock = some q) : base <= q /\ q < w.heap.size:=by
 obtain ⟨h1,h2⟩:=h
 rcases h2 with ⟨hv,_⟩ | ⟨g,cap,cur,hv,hb,hg,-⟩
 ·rw [hv] at hq;simp [Value.ownBlock] at hq
 ·rw [hv] at hq
  simp [Value.ownBlock] at hq
  subst hq;exact ⟨hb,(Array.getElem?_eq_some_iff.1 hg).1⟩
structure Fr (own : Nat -> Prop) (w0 w : World) : Prop where
 os : w.os = w0.os
 tape : w.tape = w0.tape
 output : w.output = w0.output
 size : w0.heap.size <= w.heap.size
 block : ∀ k,k < w0.heap.size -> ¬ own k -> w.heap[k]? = w0.heap[k]?
theorem Fr.refl (own : Nat -> Prop) (w : World) : Fr own w w:=⟨rfl,rfl,rfl,Nat.le_refl _,fun _ _ _=>rfl⟩
theorem Fr.grown {own : Nat -> Prop} {w0 w w' : World} {row : Option Nat} (h : Fr own w0 w) (hg : w.grownBy w' row) (hr : ∀ q,row = some q -> w0.heap.size <= q \/ own q) : Fr own w0 w' :=
 ⟨hg.os.trans h.os,hg.tape.trans h.tape,hg.output.trans h.output,Nat.le_trans h.size hg.size,fun k hk hn=>(hg.block k (Nat.lt_of_lt_of_le hk h.size) (fun e=>by
  rcases hr k e.symm with h1 | h1
  ·omega
  ·exact hn h1)).trans (h.block k hk hn)⟩
theorem Fr.alloc {own : Nat -> Prop} {w0 w : World} (h : Fr own w0 w) (o : Obj) : Fr own w0 (w.alloc o):=h.grown (World.grownBy_alloc w o none) (fun _ e=>by cases e)
theorem Fr.ext {w0 w : World} (h : Fr (fun _=>False) w0 w) : Ext w0 w:=⟨h.os,h.tape,h.output,h.size,fun k hk=>h.block k hk (fun f=>f)⟩
theorem Fr.below {own : Nat -> Prop} {base : Nat} {w0 w : World} (h : Fr own w0 w) (hb : base <= w0.heap.size) (ho : ∀ k,own k -> base <= k) : Below base w0 w:=⟨h.os,h.tape,h.output,by have:=h.size;omega,fun k hk=>h.block k (by omega) (fun f=>by have:=ho k f;omega)⟩
theorem Fr.row {own : Nat -> Prop} {w0 w : World} {g : Nat} {cs : Array Value} (h : Fr own w0 w) (hn : ¬ own g) (r : Row w0 g cs) : Row w g cs :=
 ⟨Nat.lt_of_lt_of_le r.1 h.size,fun o=>(World.cell?_of_block (a:=⟨g,o,none⟩) (h.block g r.1 hn)).trans (r.2.1 o),fun o=>(World.frozen?_of_block (a:=⟨g,o,none⟩) (h.block g r.1 hn)).trans (r.2.2 o)⟩
theorem Fr.cell {own : Nat -> Prop} {w0 w : World} {g : Nat} (h : Fr own w0 w) (hn : ¬ own g) (hg : g < w0.heap.size) (o : Nat) : w.cell? ⟨g,o,none⟩ = w0.cell? ⟨g,o,none⟩:=World.cell?_of_block (a:=⟨g,o,none⟩) (h.block g hg hn)
theorem Fr.own {own : Nat -> Prop} {w0 w : World} {α : Type} {e : TypeId} {k base : Nat} {enc : α -> Array Value} {v : Value} {l : List α} (h : Fr own w0 w) (ho : Jh e k enc base w0 v l) (hn : ∀ q,v.ownBlock = some q -> ¬ own q) : Jh e k enc base w v l:=by
 obtain ⟨h1,h2⟩:=ho;refine ⟨h1,?_⟩
 rcases h2 with h2 | ⟨g,cap,cur,hv,hb,hg,rest⟩
 ·exact .inl h2
 ·exact .inr ⟨g,cap,cur,hv,hb,(h.block g (Array.getElem?_eq_some_iff.1 hg).1 (hn g (by rw [hv];rfl))).trans hg,rest⟩
theorem Fr.rd {own : Nat -> Prop} {w0 w : World} {α : Type} [Inhabited α] {k : Nat} {enc : α -> Array Value} {v : Value} {l : List α} (h : Fr own w0 w) (hr : RdL k enc w0 v l) (hn : ∀ q,v.ownBlock = some q -> ¬ own q) : RdL k enc w v l:=by
 obtain ⟨A,c,hv,h1,h2,h3⟩:=hr;refine ⟨A,c,hv,h1,h2,fun hp=>?_⟩;obtain ⟨b,o,hA,hb,hc⟩:=h3 hp;refine ⟨b,o,hA,Nat.lt_of_lt_of_le hb h.size,fun j hj i u hu=>?_⟩;rw [h.cell (hn b (by rw [hv,hA];rfl)) hb];exact hc j hj i u hu

structure Inv (own : Nat -> Prop) (base : Nat) (w0 w : World) (rows : Nat -> Option RowF) : Prop where
 ok : ∀ i r,rows i = some r -> r.ok base w
 apart : ∀ i j r s,i ≠ j -> rows i = some r -> rows j = some s -> ∀ q,r.v.ownBlock = some q -> s.v.ownBlock ≠ some q
 home : ∀ i r q,rows i = some r -> r.v.ownBlock = some q -> w0.heap.size <= q \/ own q
 fr : Fr own w0 w

section
variable {own : Nat -> Prop} {base : Nat} {w0 w : World} {rows : Nat -> Option RowF}
theorem Inv.lit (h : Inv own base w0 w rows) (hb : base <= w0.heap.size) {cs : Array Value} {e : TypeId} {k n : Nat} (hcs : cs.size = n * k) (hn : n <= maxLen) (i : Nat) :
  Inv own base w0 (w.alloc (.cells cs e)) (upd rows i (some ⟨.slice (some ⟨w.heap.size,0,none⟩) n n,e,k,n,cs.toList⟩)):=by
 have hbw : base <= w.heap.size:=Nat.le_trans hb h.fr.size;refine ⟨fun j r hr=>?_,fun j1 j2 r s hne hr hs q hq hq2=>?_,fun j r q hr hq=>?_,h.fr.alloc _⟩
 ·by_cases hj : j = i
  ·subst hj
   rw [upd_same] at hr
   injection hr with hr
   subst hr;exact World.ownsRow_lit w cs n hbw hn hcs
  ·rw [upd_ne _ _ hj] at hr
   exact World.ownsRow.alloc (h.ok j r hr) _
 ·by_cases h1 : j1 = i
  ·subst h1
   rw [upd_same] at hr;rw [upd_ne _ _ (Ne.symm hne)] at hs
   injection hr with hr
   subst hr
   simp [Value.ownBlock] at hq
   subst hq;have:=((h.ok j2 s hs).lt hq2).2
   omega
  ·rw [upd_ne _ _ h1] at hr
   by_cases h2 : j2 = i
   ·subst h2
    rw [upd_same] at hs
    injection hs with hs
    subst hs
    simp [Value.ownBlock] at hq2
    subst hq2;have:=((h.ok j1 r hr).lt hq).2
    omega
   ·rw [upd_ne _ _ h2] at hs
    exact h.apart j1 j2 r s hne hr hs q hq hq2
 ·by_cases hj : j = i
  ·subst hj
   rw [upd_same] at hr
   injection hr with hr
   subst hr
   simp [Value.ownBlock] at hq
   subst hq;exact .inl h.fr.size
  ·rw [upd_ne _ _ hj] at hr
   exact h.home j r q hr hq
theorem Inv.app (h : Inv own base w0 w rows) {i : Nat} {r : RowF} (hr : rows i = some r) {w' : World} {v' : Value} {n' : Nat} {xs' : List Value} (ho : w'.ownsRow base r.e r.k v' n' xs') (hg : w.grownBy w' r.v.ownBlock) (hv : v'.ownBlock = r.v.ownBlock \/ v'.ownBlock = some w.heap.size) (j : Nat) :
  Inv own base w0 w' (upd (upd rows i none) j (some ⟨v',r.e,r.k,n',xs'⟩)):=by
 have old : ∀ m s,m ≠ j -> upd (upd rows i none) j (some ⟨v',r.e,r.k,n',xs'⟩) m = some s -> m ≠ i /\ rows m = some s:=by
  intro m s hm hs;rw [upd_ne _ _ hm] at hs
  by_cases hmi : m = i
  ·subst hmi;rw [upd_same] at hs;cases hs
  ·rw [upd_ne _ _ hmi] at hs;exact ⟨hmi,hs⟩
 have apv : ∀ m s,m ≠ i -> rows m = some s -> ∀ q,v'.ownBlock = some q -> s.v.ownBlock ≠ some q:=by
  intro m s hm hs q hq hq2
  rcases hv with hv | hv
  ·exact h.apart i m r s (Ne.symm hm) hr hs q (hv ▸ hq) hq2
  ·have h1:=((h.ok m s hs).lt hq2).2
   rw [hv] at hq
   injection hq with hq
   omega
 refine ⟨fun m s hs=>?_,fun m1 m2 s1 s2 hne hs1 hs2 q hq hq2=>?_,fun m s q hs hq=>?_,h.fr.grown hg (fun q hq=>h.home i r q hr hq)⟩
 ·by_cases hm : m = j
  ·subst hm
   rw [upd_same] at hs
   injection hs with hs
   subst hs;exact ho
  ·obtain ⟨hmi,hs⟩:=old m s hm hs
   refine World.ownsRow.kept (h.ok m s hs) hg ?_
   cases hob : s.v.ownBlock with
   | none=>exact .inl rfl
   | some q =>
    right
    intro e;exact h.apart i m r s (Ne.symm hmi) hr hs q e.symm hob
 ·by_cases h1 : m1 = j
  ·subst h1
   rw [upd_same] at hs1
   injection hs1 with hs1
   subst hs1;obtain ⟨hmi,hs2⟩:=old m2 s2 (Ne.symm hne) hs2;exact apv m2 s2 hmi hs2 q hq hq2
  ·obtain ⟨hmi,hs1'⟩:=old m1 s1 h1 hs1
   by_cases h2 : m2 = j
   ·subst h2
    rw [upd_same] at hs2
    injection hs2 with hs2
    subst hs2;exact apv m1 s1 hmi hs1' q hq2 hq
   ·obtain ⟨-,hs2⟩:=old m2 s2 h2 hs2
    exact h.apart m1 m2 s1 s2 hne hs1' hs2 q hq hq2
 ·by_cases hm : m = j
  ·subst hm
   rw [upd_same] at hs
   injection hs with hs
   subst hs
   rcases hv with hv | hv
   ·exact h.home i r q hr (hv ▸ hq)
   ·left
    simp only at hq;rw [hv] at hq
    injection hq with hq
    have:=h.fr.size
    omega
  ·obtain ⟨-,hs⟩:=old m s hm hs
   exact h.home m s q hs hq
end

structure Job where
 num : Nat
 dst : Nat
 x : Option Nat
 y : Option Nat
 e : TypeId
 k : Nat
 n : Nat
 xs : List Value
def Job.row (J : Job) (v : Value) : RowF:=⟨v,J.e,J.k,J.n,J.xs⟩

def mark : Array Bool -> List Nat -> List Bool -> Array Bool
 | L,n :: ns,b :: bs=>mark (if b then L.setIfInBounds n true else L) ns bs
 | L,_,_=>L
theorem set_true_comm (L : Array Bool) (i j : Nat) : (L.setIfInBounds i true).setIfInBounds j true = (L.setIfInBounds j true).setIfInBounds i true:=by
 by_cases h : i = j
 ·subst h;rfl
 ·exact Array.setIfInBounds_comm _ _ h
theorem mark_set : ∀ (L : Array Bool) (ns : List Nat) (bs : List Bool) (i : Nat),(mark L ns bs).setIfInBounds i true = mark (L.setIfInBounds i true) ns bs
 | L,n :: ns,b :: bs,i=>by
  unfold mark;rw [mark_set]
  cases b
  ·rfl
  ·simp only [if_true]
   rw [set_true_comm]
 | L,[],_,i=>by unfold mark;rfl
 | L,_ :: _,[],i=>by unfold mark;rfl
theorem mark_at : ∀ (L : Array Bool) (ns : List Nat) (bs : List Bool) (p i : Nat),ns[p]? = some i -> p < bs.length -> (mark L ns bs).setIfInBounds i true = mark L ns (bs.set p true)
 | L,n :: ns,b :: bs,0,i,h,_=>by
  have : n = i:=by simpa using h
  subst this;rw [mark_set];unfold mark;simp only [List.set_cons_zero,if_true]
  cases b
  ·rfl
  ·simp only [if_true]
   congr 1
   apply Array.ext <;> simp
 | L,n :: ns,b :: bs,p + 1,i,h,hp=>by
  unfold mark;simp only [List.set_cons_succ];exact mark_at _ ns bs p i (by simpa using h) (by simpa using hp)
 | L,[],_,p,i,h,_=>by simp at h
 | L,_ :: _,[],p,i,h,hp=>by simp at hp

def bools : List Bool -> List (List Bool)
 | []=>[[]]
 | b :: bs=>(bools bs).flatMap fun r=>if b then [true :: r] else [true :: r,false :: r]
theorem bools_mem : ∀ (bs cs : List Bool),cs.length = bs.length -> (∀ p : Nat,bs[p]? = some true -> cs[p]? = some true) -> cs ∈ bools bs
 | [],[],_,_=>by simp [bools]
 | b :: bs,c :: cs,hl,h=>by
  have ih:=bools_mem bs cs (by simpa using hl) (fun p hp=>by simpa using h (p + 1) (by simpa using hp));unfold bools;refine List.mem_flatMap.2 ⟨cs,ih,?_⟩
  cases b
  ·cases c <;> simp
  ·have:=h 0 (by simp)
   simp at this
   subst this
   simp
 | [],_ :: _,hl,_=>by simp at hl
 | _ :: _,[],hl,_=>by simp at hl

def jobOk (jobs : List Job) (bs : List Bool) (i : Nat) : Bool:=(List.range jobs.length).any fun p=>match jobs[p]?,bs[p]? with
 | some J,some false=>J.num == i && (match J.x with | none=>true | some px=>bs[px]? == some true) && (match J.y with | none=>true | some py=>bs[py]? == some true)
 | _,_=>false
def jobsOk (md : Region.Mode) (ops : Array Oper) (L : Array Bool) (jobs : List Job) (bs : List Bool) : Bool :=
 (bools bs).all fun cs=>cs.all id || !Xr md ops (mark L (jobs.map (·.num)) cs) || (!(Region.ready md ops (mark L (jobs.map (·.num)) cs)).isEmpty && (Region.ready md ops (mark L (jobs.map (·.num)) cs)).all (jobOk jobs cs))
def jobsApart (jobs : List Job) : Bool:=(List.range jobs.length).all fun p=>match jobs[p]? with
 | some J=>(List.range jobs.length).all fun q=>match jobs[q]? with
  | some K=>(p == q || (J.dst != K.dst)) && (match J.x with | none=>true | some px=>px < jobs.length && (p == q || K.x != some px) && K.y != some px) && (match J.y with | none=>true | some py=>decide (py < jobs.length))
  | none=>true
 | none=>true

theorem closedB_complete {md : Region.Mode} {ops : Array Oper} {listed : Array Bool} (h : Closed md ops listed) : Xr md ops listed = true:=by
 unfold Xr;simp only [Bool.and_eq_true,beq_iff_eq,List.all_eq_true,List.mem_range];refine ⟨h.1,fun j hj=>?_⟩;have hoj : ops[j]? = some ops[j]:=Array.getElem?_eq_getElem hj;rw [hoj];simp only [Bool.or_eq_true,Bool.not_eq_true',Array.all_eq_true_iff_forall_mem]
 cases hl : listed.getD j false with
 | false=>left;rfl
 | true =>
  right
  intro e he
  cases hb : Region.binds md e with
  | false=>left;rfl
  | true=>right;exact h.2 j _ hoj hl e he hb

def Agree (jobs : List Job) (bs0 : List Bool) (a0 a : Act) : Prop :=
 a.tmps.size = a0.tmps.size /\ a.defers = a0.defers /\ ∀ t,(∀ (p : Nat) (J : Job),jobs[p]? = some J -> bs0[p]? = some false -> J.dst ≠ t) -> a.tmps[t]? = a0.tmps[t]?
def XQ (f : Nat -> Value) : Nat -> List Job -> List Bool -> Act -> Act
 | p,J :: js,b :: bs,a=>XQ f (p + 1) js bs (if b then a else a.put (some J.dst) (f p))
 | _,_,_,a=>a
theorem Act.ext' {a b : Act} (h1 : a.tmps = b.tmps) (h2 : a.defers = b.defers) : a = b:=by
 cases a;cases b;simp at h1 h2;subst h1 h2;rfl
theorem putAll_eq (f : Nat -> Value) (a : Act) : ∀ (k : Nat) (js : List Job) (bs : List Bool) (a1 : Act),js.length = bs.length ->
  (∀ (p : Nat) (J : Job),js[p]? = some J -> bs[p]? = some false -> f (k + p) = a.eval (.tmp J.dst) /\ J.dst < a.tmps.size) -> a1.tmps.size = a.tmps.size -> a1.defers = a.defers ->
  (∀ t,a1.tmps[t]? = a.tmps[t]? \/ ∃ (p : Nat) (J : Job),js[p]? = some J /\ bs[p]? = some false /\ J.dst = t) -> a = XQ f k js bs a1
 | k,[],[],a1,_,_,h1,h2,h3=>by
  unfold XQ;refine Act.ext' (Array.ext_getElem? fun t=>?_) h2.symm
  rcases h3 t with h | ⟨p,J,h,_⟩
  ·exact h.symm
  ·simp at h
 | k,J :: js,b :: bs,a1,hl,hf,h1,h2,h3=>by
  unfold XQ
  have hf' : ∀ (p : Nat) (K : Job),js[p]? = some K -> bs[p]? = some false -> f (k + 1 + p) = a.eval (.tmp K.dst) /\ K.dst < a.tmps.size:=fun p K hp hb=>by
   have:=hf (p + 1) K (by simpa using hp) (by simpa using hb)
   rwa [show k + (p + 1) = k + 1 + p by omega] at this
  cases b
  ·simp only [Bool.false_eq_true,if_false]
   obtain ⟨e1,e2⟩:=hf 0 J (by simp) (by simp);refine putAll_eq f a (k + 1) js bs _ (by simpa using hl) hf' (by simp [Act.put,h1]) (by simp [Act.put,h2]) (fun t=>?_)
   by_cases ht : J.dst = t
   ·left
    subst ht;simp only [Nat.add_zero] at e1
    have : a.tmps[J.dst]? = some (a.eval (.tmp J.dst)):=by simp [Act.eval,e2]
    rw [this]
    simp [Act.put,h1,e2,e1]
   ·rcases h3 t with h | ⟨p,K,hp,hb,hd⟩
    ·left
     rw [<- h]
     simp [Act.put,Array.getElem?_setIfInBounds_ne ht]
    ·cases p with
     | zero=>simp at hp;subst hp;exact absurd hd ht
     | succ p=>exact .inr ⟨p,K,by simpa using hp,by simpa using hb,hd⟩
  ·simp only [if_true]
   refine putAll_eq f a (k + 1) js bs _ (by simpa using hl) hf' h1 h2 (fun t=>?_)
   rcases h3 t with h | ⟨p,K,hp,hb,hd⟩
   ·exact .inl h
   ·cases p with
    | zero=>simp at hb
    | succ p=>exact .inr ⟨p,K,by simpa using hp,by simpa using hb,hd⟩
 | _,[],_ :: _,_,hl,_,_,_,_=>by simp at hl
 | _,_ :: _,[],_,hl,_,_,_,_=>by simp at hl

section
variable {P : Program} {l : List Oper} {Q : Exit -> Act -> World -> Prop} {md : Region.Mode} {S : World -> Prop}
def Owes (P : Program) (l : List Oper) (Q : Exit -> Act -> World -> Prop) (jobs : List Job) (bs0 : List Bool) (a0 : Act) (own : Nat -> Prop) (base : Nat) (w0 : World) (J : Job) : Prop :=
 ∃ o,l[J.num]? = some o /\ (∀ a,Agree jobs bs0 a0 a -> Region.wanted o (yielded l.toArray a.tmps) = true) /\
  match J.x with
  | none=>∃ cs : Array Value,J.xs = cs.toList /\ cs.size = J.n * J.k /\ J.n <= maxLen /\ ∀ a w K,Agree jobs bs0 a0 a -> K (a.put (some J.dst) (.slice (some ⟨w.heap.size,0,none⟩) J.n J.n)) (w.alloc (.cells cs J.e)) -> Oper.wp P o a w K (NoPanic Q)
  | some px=>∀ (X : Job),jobs[px]? = some X -> X.e = J.e /\ X.k = J.k /\ ∀ a w K,Agree jobs bs0 a0 a -> Fr own w0 w -> base <= w.heap.size -> w.ownsRow base X.e X.k (a.eval (.tmp X.dst)) X.n X.xs ->
    (∀ (py : Nat) (Y : Job),J.y = some py -> jobs[py]? = some Y -> w.ownsRow base Y.e Y.k (a.eval (.tmp Y.dst)) Y.n Y.xs) ->
    (∀ v' w',w'.ownsRow base X.e X.k v' J.n J.xs -> w.grownBy w' (a.eval (.tmp X.dst)).ownBlock -> (v'.ownBlock = (a.eval (.tmp X.dst)).ownBlock \/ v'.ownBlock = some w.heap.size) -> K (a.put (some J.dst) v') w') -> Oper.wp P o a w K (NoPanic Q)

theorem T_jobs {n fuel : Nat} {listed : Array Bool} {a0 : Act} {w0 : World} (own : Nat -> Prop) (base : Nat) (jobs : List Job) (bs0 : List Bool) (rows0 : Nat -> Option RowF)
  (hlen : bs0.length = jobs.length) (hcl : Xr md l.toArray listed = true) (hm0 : mark listed (jobs.map (·.num)) bs0 = listed)
  (hok : jobsOk md l.toArray listed jobs bs0 = true) (hap : jobsApart jobs = true) (hdst : ∀ (p : Nat) (J : Job),jobs[p]? = some J -> J.dst < a0.tmps.size)
  (hb : base <= w0.heap.size) (hI : Inv own base w0 w0 rows0) (hg0 : ∀ (p : Nat) (J : Job),jobs[p]? = some J -> bs0[p]? = some true -> rows0 p = some (J.row (a0.eval (.tmp J.dst))))
  (hS : ∀ w,Fr own w0 w -> S w)
  (hj : ∀ (p : Nat) (J : Job),jobs[p]? = some J -> bs0[p]? = some false -> Owes P l Q jobs bs0 a0 own base w0 J)
  (hfin : ∀ (f : Nat -> Value) (w : World) (rows : Nat -> Option RowF),Inv own base w0 w rows -> (∀ (p : Nat) (J : Job),jobs[p]? = some J -> (∀ (q : Nat) (K : Job),jobs[q]? = some K -> K.x ≠ some p) -> rows p = some (J.row (f p))) ->
   JF P md l.toArray (NoPanic Q) S n fuel (mark listed (jobs.map (·.num)) (List.replicate jobs.length true)) (XQ f 0 jobs bs0 a0) w) :
  JF P md l.toArray (NoPanic Q) S n (fuel + (bs0.filter (!·)).length) listed a0 w0:=by
 have hmain : ∀ (m : Nat) (bs : List Bool) (a : Act) (w : World),(bs.filter (!·)).length = m -> bs.length = jobs.length -> (∀ p : Nat,bs0[p]? = some true -> bs[p]? = some true) -> Agree jobs bs0 a0 a ->
   Closed md l.toArray (mark listed (jobs.map (·.num)) bs) ->
   (∃ rows,Inv own base w0 w rows /\ ∀ (p : Nat) (J : Job),jobs[p]? = some J -> bs[p]? = some true -> (∀ (q : Nat) (K : Job),jobs[q]? = some K -> K.x = some p -> bs[q]? = some false) -> rows p = some (J.row (a.eval (.tmp J.dst)))) ->
   JF P md l.toArray (NoPanic Q) S n (fuel + m) (mark listed (jobs.map (·.num)) bs) a w:=by
  intro m
  induction m with
  | zero =>
   intro bs a w hc hbl hge hag hclo ⟨rows,hinv,hrows⟩
   have hall : ∀ p : Nat,p < bs.length -> bs[p]? = some true:=by
    intro p hp;rw [List.getElem?_eq_getElem hp]
    cases hb : bs[p] with
    | true=>rfl
    | false =>
     exfalso
     have : false ∈ bs.filter (!·):=List.mem_filter.2 ⟨hb ▸ List.getElem_mem hp,rfl⟩;rw [List.eq_nil_of_length_eq_zero hc] at this
     cases this
   have hbs : bs = List.replicate jobs.length true:=by
    apply List.ext_getElem?;intro p
    by_cases hp : p < bs.length
    ·rw [hall p hp,List.getElem?_replicate,if_pos (by omega)]
    ·rw [List.getElem?_eq_none (by omega),List.getElem?_eq_none (by simp;omega)]
   subst hbs
   have hpa : a = XQ (fun p=>match jobs[p]? with | some J=>a.eval (.tmp J.dst) | none=>undef) 0 jobs bs0 a0:=by
    refine putAll_eq _ a 0 jobs bs0 a0 hlen.symm (fun p J hp hb=>?_) hag.1.symm hag.2.1.symm (fun t=>?_)
    ·rw [Nat.zero_add,hp,hag.1]
     exact ⟨rfl,hdst p J hp⟩
    ·by_cases ht : ∃ (p : Nat) (J : Job),jobs[p]? = some J /\ bs0[p]? = some false /\ J.dst = t
     ·exact .inr ht
     ·left
      exact (hag.2.2 t (fun p J hp hb he=>ht ⟨p,J,hp,hb,he⟩)).symm
   rw [hpa,Nat.add_zero];refine hfin _ w rows hinv (fun p J hp hno=>?_);have hpl : p < jobs.length:=(List.getElem?_eq_some_iff.1 hp).1;have:=hrows p J hp (hall p (by omega)) (fun q K hq hx=>absurd hx (hno q K hq));rw [this];simp only [hp]
  | succ m ih =>
   intro bs a w hc hbl hge hag hclo ⟨rows,hinv,hrows⟩;have hk:=List.all_eq_true.1 hok bs (bools_mem bs0 bs (by omega) hge)
   have hnot : bs.all id = false:=by
    cases ha : bs.all id with
    | false=>rfl
    | true =>
     exfalso
     have : bs.filter (!·) = []:=by
      rw [List.filter_eq_nil_iff];intro b hb;have:=List.all_eq_true.1 ha b hb
      simp at this
      simp [this]
     rw [this] at hc
     simp at hc
   simp only [hnot,closedB_complete hclo,Bool.not_true,Bool.false_or,Bool.or_eq_true,Bool.and_eq_true,Bool.not_eq_true',List.isEmpty_eq_false_iff,Bool.false_eq_true,false_or] at hk;refine ⟨fun h=>absurd h hk.1,fun i hi=>?_⟩;have hjk:=List.all_eq_true.1 hk.2 i hi;unfold jobOk at hjk;obtain ⟨p,hp,hpj⟩:=List.any_eq_true.1 hjk;have hpl:=List.mem_range.1 hp;have hJ : jobs[p]? = some jobs[p]:=List.getElem?_eq_getElem hpl;generalize jobs[p] = J at hJ;rw [hJ] at hpj
   cases hbp : bs[p]? with
   | none=>rw [hbp] at hpj;simp at hpj
   | some b =>
    cases b with
    | true=>rw [hbp] at hpj;simp at hpj
    | false =>
     rw [hbp] at hpj;simp only [Bool.and_eq_true,beq_iff_eq] at hpj;obtain ⟨⟨hnum,hx⟩,hy⟩:=hpj
     have hb0 : bs0[p]? = some false:=by
      cases h0 : bs0[p]? with
      | none=>rw [List.getElem?_eq_none_iff] at h0;omega
      | some b=>cases b with
       | false=>rfl
       | true=>have:=hge p h0;rw [hbp] at this;simp at this
     have hapart : ∀ (q : Nat) (K : Job),jobs[q]? = some K -> (p = q \/ J.dst ≠ K.dst) /\ (∀ px,J.x = some px -> px < jobs.length /\ (p = q \/ K.x ≠ some px) /\ K.y ≠ some px) /\ (∀ py,J.y = some py -> py < jobs.length /\ K.x ≠ some py):=by
      intro q K hK;have hql : q < jobs.length:=(List.getElem?_eq_some_iff.1 hK).1;have h1:=List.all_eq_true.1 hap p (List.mem_range.2 hpl);rw [hJ] at h1;have h2:=List.all_eq_true.1 h1 q (List.mem_range.2 hql);rw [hK] at h2;have h3:=List.all_eq_true.1 hap q (List.mem_range.2 hql);rw [hK] at h3;have h4:=List.all_eq_true.1 h3 p (List.mem_range.2 hpl);rw [hJ] at h4;simp only [Bool.and_eq_true,Bool.or_eq_true,beq_iff_eq,bne_iff_ne,ne_eq] at h2 h4;refine ⟨h2.1.1,fun px hpx=>?_,fun py hpy=>⟨?_,fun hkx=>?_⟩⟩
      ·have:=h2.1.2
       rw [hpx] at this
       simpa [and_assoc] using this
      ·have:=h2.2
       rw [hpy] at this
       simpa using this
      ·have:=h4.1.2
       rw [hkx] at this
       simp [hpy] at this
     obtain ⟨o,ho,hw,hrun⟩:=hj p J hJ hb0
     have hi' : l.toArray[i]? = some o:=by rw [<- hnum];simpa using ho
     have hmk : (mark listed (jobs.map (·.num)) bs).setIfInBounds i true = mark listed (jobs.map (·.num)) (bs.set p true):=mark_at _ _ _ p i (by simp [hJ,hnum]) (by omega)
     have hcnt : ((bs.set p true).filter (!·)).length = m:=by
      have hpb : p < bs.length:=by omega
      have hbe : bs[p] = false:=by
       rw [List.getElem?_eq_getElem hpb] at hbp
       simpa using hbp
      have e1 : bs = bs.take p ++ false :: bs.drop (p + 1):=by
       have e2:=List.drop_eq_getElem_cons hpb;rw [hbe] at e2;rw [<- e2,List.take_append_drop]
      have e3 : bs.set p true = bs.take p ++ true :: bs.drop (p + 1):=by
       rw [List.set_eq_take_append_cons_drop,if_pos hpb]
      rw [e3];rw [e1] at hc;simp only [List.filter_append,List.filter_cons,Bool.not_false,Bool.not_true,if_true,List.length_append,List.length_cons,Bool.false_eq_true,if_false] at hc ⊢
      omega
     have hge' : ∀ q : Nat,bs0[q]? = some true -> (bs.set p true)[q]? = some true:=by
      intro q hq
      by_cases hqp : p = q
      ·subst hqp;rw [hb0] at hq;cases hq
      ·rw [List.getElem?_set_ne hqp];exact hge q hq
     have hclo' : Closed md l.toArray (mark listed (jobs.map (·.num)) (bs.set p true)):=by rw [<- hmk];exact Closed.set hclo hi
     have hag' : ∀ v,Agree jobs bs0 a0 (a.put (some J.dst) v):=by
      intro v;refine ⟨by simp [Act.put,hag.1],by simp [Act.put,hag.2.1],fun t ht=>?_⟩;rw [<- hag.2.2 t ht]
      simp [Act.put,Array.getElem?_setIfInBounds_ne (ht p J hJ hb0)]
     have hsame : ∀ v,(a.put (some J.dst) v).eval (.tmp J.dst) = v:=fun v=>Act.eval_same (by rw [hag.1];exact hdst p J hJ)
     have hoth : ∀ (q : Nat) (K : Job) (v : Value),jobs[q]? = some K -> q ≠ p -> (a.put (some J.dst) v).eval (.tmp K.dst) = a.eval (.tmp K.dst):=by
      intro q K v hK hqp
      rcases (hapart q K hK).1 with h | h
      ·exact absurd h.symm hqp
      ·exact Act.ZB h
     have hset : ∀ q : Nat,q ≠ p -> (bs.set p true)[q]? = bs[q]?:=fun q h=>List.getElem?_set_ne (Ne.symm h)
     have hps : (bs.set p true)[p]? = some true:=by rw [List.getElem?_set_self (by omega)]
     refine wpOp_step hi' fun K0 hK0=>?_;rw [if_pos (hw a hag)]
     cases hJx : J.x with
     | none =>
      rw [hJx] at hrun;obtain ⟨cs,hxs,hcs,hnm,hr⟩:=hrun;refine hr a w K0 hag (hK0 _ _ ⟨.inr (hS _ (hinv.fr.alloc _)),?_⟩);rw [hmk];refine ih _ _ _ hcnt (by simpa using hbl) hge' (hag' _) hclo' ⟨_,hinv.lit hb hcs hnm p,fun q K hK hbq hno=>?_⟩
      by_cases hqp : q = p
      ·subst hqp
       rw [hJ] at hK
       injection hK with hK
       subst hK;rw [upd_same,hsame,Job.row,hxs]
      ·rw [upd_ne _ _ hqp,hoth q K _ hK hqp]
       refine hrows q K hK (by rw [<- hset q hqp];exact hbq) (fun q2 K2 hK2 hx2=>?_);have h2:=hno q2 K2 hK2 hx2
       by_cases hq2 : q2 = p
       ·subst hq2;rw [hps] at h2;cases h2
       ·rw [hset q2 hq2] at h2;exact h2
     | some px =>
      rw [hJx] at hrun hx;simp only [beq_iff_eq] at hx;obtain ⟨hpxl,-,-⟩:=(hapart p J hJ).2.1 px hJx;have hX : jobs[px]? = some jobs[px]:=List.getElem?_eq_getElem hpxl;generalize jobs[px] = X at hX
      have hpxp : px ≠ p:=by
       intro h;subst h;rw [hbp] at hx
       cases hx
      obtain ⟨hXe,hXk,hr⟩:=hrun X hX
      have hrx : rows px = some (X.row (a.eval (.tmp X.dst))):=hrows px X hX hx (fun q K hK hKx=>by
       obtain ⟨-,h1,-⟩:=(hapart q K hK).2.1 px hJx
       rcases h1 with h1 | h1
       ·subst h1;exact hbp
       ·exact absurd hKx h1)
      refine hr a w K0 hag hinv.fr (Nat.le_trans hb hinv.fr.size) (hinv.ok px _ hrx) (fun py Y hpy hY=>?_) (fun v' w' hown hgr hvb=>?_)
      ·rw [hpy] at hy
       simp only [beq_iff_eq] at hy;have hry : rows py = some (Y.row (a.eval (.tmp Y.dst))):=hrows py Y hY hy (fun q K hK hKx=>absurd hKx ((hapart q K hK).2.2 py hpy).2);exact hinv.ok py _ hry
      ·have hinv':=hinv.app hrx hown hgr hvb p
       refine hK0 _ _ ⟨.inr (hS _ hinv'.fr),?_⟩;rw [hmk];refine ih _ _ _ hcnt (by simpa using hbl) hge' (hag' _) hclo' ⟨_,hinv',fun q K hK hbq hno=>?_⟩
       by_cases hqp : q = p
       ·subst hqp
        rw [hJ] at hK
        injection hK with hK
        subst hK;rw [upd_same,hsame];simp only [Job.row,hXe,hXk]
       ·have hqx : q ≠ px:=by
         intro h;subst h;have:=hno p J hJ hJx;rw [hps] at this
         cases this
        rw [upd_ne _ _ hqp,upd_ne _ _ hqx,hoth q K _ hK hqp];refine hrows q K hK (by rw [<- hset q hqp];exact hbq) (fun q2 K2 hK2 hx2=>?_);have h2:=hno q2 K2 hK2 hx2
        by_cases hq2 : q2 = p
        ·subst hq2;rw [hps] at h2;cases h2
        ·rw [hset q2 hq2] at h2;exact h2
 have h0:=hmain _ bs0 a0 w0 rfl hlen (fun p h=>h) ⟨rfl,rfl,fun _ _=>rfl⟩ (by rw [hm0];exact XU hcl) ⟨rows0,hI,fun p J hp hb _=>hg0 p J hp hb⟩;rw [hm0] at h0;exact h0
end
end Go.Proofs.YteojjbhadgkfgaaGreat

namespace Go.Proofs.YteojjbhadgkfgaaGreat
open Go Go.RowKit
set_option linter.unusedSimpArgs false
set_option linter.unusedVariables false
set_option maxRecDepth 100000

theorem Jt {o : Oper} (h : o.guard = none) {l : Array Oper} {ts : Array Value} : Region.wanted o (yielded l ts) = true:=by simp [Region.wanted,h]
section
variable {P : Program} {l : List Oper} {Q : Exit -> Act -> World -> Prop} {md : Region.Mode} {S : World -> Prop}
def reach (md : Region.Mode) (ops : Array Oper) (n : Nat) : Nat -> Nat -> Bool
 | 0,_=>false
 | fuel + 1,i=>(List.range (n + 1)).any fun j=>decide (i < j) && waits md ops j i && (j == n || reach md ops n fuel j)
theorem Closed.reach {ops : Array Oper} {n : Nat} {listed : Array Bool} (c : Closed md ops listed) (hn : listed.getD n false = true \/ n ∈ Region.ready md ops listed) : ∀ (fuel i : Nat),reach md ops n fuel i = true -> listed.getD i false = true
 | 0,i,h=>by simp [Go.Proofs.YteojjbhadgkfgaaGreat.reach] at h
 | fuel + 1,i,h=>by
  unfold Go.Proofs.YteojjbhadgkfgaaGreat.reach at h;obtain ⟨j,hj,hj2⟩:=List.any_eq_true.1 h;simp only [Bool.and_eq_true,Bool.or_eq_true,beq_iff_eq,decide_eq_true_eq] at hj2;obtain ⟨⟨-,hw⟩,hr⟩:=hj2;obtain ⟨oj,hoj,e,he,hb,hon⟩:=waits_spec hw;rw [<- hon]
  rcases hr with rfl | hr
  ·rcases hn with hn | hn
   ·exact c.2 j oj hoj hn e he hb
   ·obtain ⟨_,ot,hot,hall⟩:=mem_ready.1 hn
    have : oj = ot:=Option.some.inj (hoj.symm.trans hot);subst this;exact hall e he hb
  ·exact c.2 j oj hoj (Closed.reach c hn fuel j hr) e he hb

theorem wpAnyT_firstR {ops : Array Oper} {n i : Nat} {oi : Oper} {v : Value} (hi : ops[i]? = some oi) (hsel : ∀ (j : Nat) (o : Oper) cs b,ops[j]? = some o -> o.op ≠ .select cs b)
  (hQ : ∀ c a w,Q (.panic c) (a.put oi.dst v) w -> Q (.panic c) a w) (hin : i ≠ n) (hs : ∀ listed,Closed md ops listed -> (listed.getD n false = true \/ n ∈ Region.ready md ops listed) -> listed.getD i false = true) :
  ∀ (fuel : Nat) (listed : Array Bool) (a : Act) (w : World),Closed md ops listed ->
   (∀ j oj,ops[j]? = some oj -> j ≠ i -> listed.getD j true = false -> (∀ e ∈ oj.after,Region.binds md e = true -> e.on ≠ i) -> oi.apart ops oj = true) ->
   i ∈ Region.ready md ops listed -> YieldsIf P ops S oi v a -> S w ->
   JF P md ops Q S n fuel (listed.setIfInBounds i true) (a.put oi.dst v) w -> JF P md ops Q S n (fuel + 1) listed a w:=by
 intro fuel
 induction fuel with
 | zero =>
  intro listed a w _ _ hr hy hS H;refine ⟨fun h=>(by rw [h] at hr;cases hr),fun j hj=>?_⟩
  by_cases hji : j = i
  ·subst hji;exact hy.wpOp hi hS ⟨.inr hS,H⟩
  ·have:=ready_mono hj hji
   rw [H.1] at this
   cases this
 | succ fuel ih =>
  intro listed a w hc hfree hr hy hS H;refine ⟨fun h=>(by rw [h] at hr;cases hr),fun j hj=>?_⟩
  by_cases hji : j = i
  ·subst hji;exact hy.wpOp hi hS ⟨.inr hS,H⟩
  ·have h1:=H.2 j (ready_mono hj hji)
   obtain ⟨hjun,oj,hoj,hall⟩:=mem_ready.1 hj;have hun0:=getD_ft (mem_ready.1 hr).1
   have hjn : j ≠ n:=by
    intro e;subst e;have:=hs _ hc (.inr hj);rw [hun0] at this
    cases this
   have hn0 : listed.getD n false = false:=by
    cases hh : listed.getD n false with
    | false=>rfl
    | true =>
     have:=hs _ hc (.inl hh);rw [hun0] at this
     cases this
   have hnot : ∀ e ∈ oj.after,Region.binds md e = true -> e.on ≠ i:=fun e he hb heq=>by
    have h1:=hall e he hb;have h0:=(mem_ready.1 hr).1;rw [heq] at h1
    rcases Nat.lt_or_ge i listed.size with h' | h'
    ·simp [h'] at h0 h1;rw [h0] at h1;cases h1
    ·simp [Array.getElem?_eq_none h'] at h1
   have h2:=wpOp_putIf hoj (hfree j oj hoj hji hjun hnot) (fun cs b=>hsel i oi cs b hi) (fun cs b=>hsel j oj cs b hoj) hQ hy h1;have hfree' : ∀ k ok,ops[k]? = some ok -> k ≠ i -> (listed.setIfInBounds j true).getD k true = false ->
     (∀ e ∈ ok.after,Region.binds md e = true -> e.on ≠ i) -> oi.apart ops ok = true:=fun k ok hk hki hun hno=>by
    refine hfree k ok hk hki ?_ hno
    by_cases hjk : j = k
    ·subst hjk;exact hjun
    ·rw [getD_set_ne true hjk] at hun;exact hun
   refine wpOp_mono (fun a' w' h3=>?_) h2
   have hS' : S w':=by
    rcases h3.2.1 with h | h
    ·rw [getD_set_ne false hjn,getD_set_ne false hin,hn0] at h
     cases h
    ·exact h
   refine ⟨.inr hS',ih (listed.setIfInBounds j true) a' w' (hc.set hj) hfree' (ready_mono hr (Ne.symm hji)) h3.1 hS' ?_⟩;rw [Array.setIfInBounds_comm _ _ hji];exact h3.2.2


def takesR (md : Region.Mode) (ops : Array Oper) (listed : Array Bool) (n i : Nat) : Bool :=
 Region.noSelect ops && Region.free md ops listed i && (Region.ready md ops listed).contains i && reach md ops n (n + 1) i && Xr md ops listed && decide (i ≠ n)
theorem T_takeR {n i : Nat} {oi : Oper} {v : Value} {fuel : Nat} {listed : Array Bool} {a : Act} {w : World} (hi : l[i]? = some oi)
  (hb : takesR md l.toArray listed n i = true) (hw : Region.wanted oi (yielded l.toArray a.tmps) = true) (hS : S w) (hy : ∀ w,S w -> (execOp a.eval oi).run P w = .ok (.value v) w)
  (h : JF P md l.toArray (NoPanic Q) S n fuel (listed.setIfInBounds i true) (a.put oi.dst v) w) : JF P md l.toArray (NoPanic Q) S n (fuel + 1) listed a w:=by
 unfold takesR at hb;simp only [Bool.and_eq_true,decide_eq_true_eq] at hb;obtain ⟨⟨⟨⟨⟨h1,h2⟩,h3⟩,h4⟩,h5⟩,h6⟩:=hb
 have hi' : l.toArray[i]? = some oi:=by simpa using hi
 exact wpAnyT_firstR hi' (Region.noSelect_spec h1) (fun _ _ _ h=>h) h6 (fun L hL hn=>Closed.reach hL hn _ i h4) fuel listed a w (XU h5) (Region.free_spec hi' h2) (by simpa using h3) (.inl ⟨hw,hy⟩) hS h

theorem wpAnyT_firstP {ops : Array Oper} {n i : Nat} {oi : Oper} {v : Value} (hi : ops[i]? = some oi) (hsel : ∀ (j : Nat) (o : Oper) cs b,ops[j]? = some o -> o.op ≠ .select cs b)
  (hQ : ∀ c a w,Q (.panic c) (a.put oi.dst v) w -> Q (.panic c) a w) (hin : i ≠ n) :
  ∀ (fuel : Nat) (listed : Array Bool) (a : Act) (w : World),
   (∀ j oj,ops[j]? = some oj -> j ≠ i -> listed.getD j true = false -> (∀ e ∈ oj.after,Region.binds md e = true -> e.on ≠ i) -> oi.apart ops oj = true) ->
   i ∈ Region.ready md ops listed -> YieldsIf P ops (fun _=>True) oi v a -> (listed.getD n false = true \/ S w) ->
   JF P md ops Q S n fuel (listed.setIfInBounds i true) (a.put oi.dst v) w -> JF P md ops Q S n (fuel + 1) listed a w:=by
 intro fuel
 induction fuel with
 | zero =>
  intro listed a w _ hr hy hS H;refine ⟨fun h=>(by rw [h] at hr;cases hr),fun j hj=>?_⟩
  by_cases hji : j = i
  ·subst hji;exact hy.wpOp hi trivial ⟨by rw [getD_set_ne false hin];exact hS,H⟩
  ·have:=ready_mono hj hji
   rw [H.1] at this
   cases this
 | succ fuel ih =>
  intro listed a w hfree hr hy hS H;refine ⟨fun h=>(by rw [h] at hr;cases hr),fun j hj=>?_⟩
  by_cases hji : j = i
  ·subst hji;exact hy.wpOp hi trivial ⟨by rw [getD_set_ne false hin];exact hS,H⟩
  ·have h1:=H.2 j (ready_mono hj hji)
   obtain ⟨hjun,oj,hoj,hall⟩:=mem_ready.1 hj
   have hnot : ∀ e ∈ oj.after,Region.binds md e = true -> e.on ≠ i:=fun e he hb heq=>by
    have h1:=hall e he hb;have h0:=(mem_ready.1 hr).1;rw [heq] at h1
    rcases Nat.lt_or_ge i listed.size with h' | h'
    ·simp [h'] at h0 h1;rw [h0] at h1;cases h1
    ·simp [Array.getElem?_eq_none h'] at h1
   have h2:=wpOp_putIf hoj (hfree j oj hoj hji hjun hnot) (fun cs b=>hsel i oi cs b hi) (fun cs b=>hsel j oj cs b hoj) hQ hy h1;have hfree' : ∀ k ok,ops[k]? = some ok -> k ≠ i -> (listed.setIfInBounds j true).getD k true = false ->
     (∀ e ∈ ok.after,Region.binds md e = true -> e.on ≠ i) -> oi.apart ops ok = true:=fun k ok hk hki hun hno=>by
    refine hfree k ok hk hki ?_ hno
    by_cases hjk : j = k
    ·subst hjk;exact hjun
    ·rw [getD_set_ne true hjk] at hun;exact hun
   refine wpOp_mono (fun a' w' h3=>?_) h2
   have hS' : (listed.setIfInBounds j true).getD n false = true \/ S w':=by
    rcases h3.2.1 with h | h
    ·left
     rwa [Array.setIfInBounds_comm _ _ (Ne.symm hji),getD_set_ne false hin] at h
    ·exact .inr h
   refine ⟨hS',ih (listed.setIfInBounds j true) a' w' hfree' (ready_mono hr (Ne.symm hji)) h3.1 hS' ?_⟩;rw [Array.setIfInBounds_comm _ _ hji];exact h3.2.2
def takesP (md : Region.Mode) (ops : Array Oper) (listed : Array Bool) (n i : Nat) : Bool :=
 Region.noSelect ops && Region.free md ops listed i && (Region.ready md ops listed).contains i && decide (i ≠ n)
theorem T_takeP {n i : Nat} {oi : Oper} {v : Value} {fuel : Nat} {listed : Array Bool} {a : Act} {w : World} (hi : l[i]? = some oi)
  (hb : takesP md l.toArray listed n i = true) (hw : Region.wanted oi (yielded l.toArray a.tmps) = true) (hS : listed.getD n false = true \/ S w) (hy : ∀ w,(execOp a.eval oi).run P w = .ok (.value v) w)
  (h : JF P md l.toArray (NoPanic Q) S n fuel (listed.setIfInBounds i true) (a.put oi.dst v) w) : JF P md l.toArray (NoPanic Q) S n (fuel + 1) listed a w:=by
 unfold takesP at hb;simp only [Bool.and_eq_true,decide_eq_true_eq] at hb;obtain ⟨⟨⟨h1,h2⟩,h3⟩,h6⟩:=hb
 have hi' : l.toArray[i]? = some oi:=by simpa using hi
 exact wpAnyT_firstP hi' (Region.noSelect_spec h1) (fun _ _ _ h=>h) h6 fuel listed a w (Region.free_spec hi' h2) (by simpa using h3) (.inl ⟨hw,fun w _=>hy w⟩) hS h
end
section
variable {P : Program} {l : List Oper} {Q : Exit -> Act -> World -> Prop} {md : Region.Mode} {S : World -> Prop} {n : Nat} {oi : Oper} {v : Value} {fuel : Nat} {listed : Array Bool} {a a2 : Act} {l2 : Array Bool} {w : World}
theorem tkR (i : Nat) {R : World -> Prop} (HK : Hid (∀ w',S w' -> R w')) (hS : S w) (h : JF P md l.toArray (NoPanic Q) S n fuel l2 a2 w)
  (hi : l[i]? = some oi:=by rfl) (hb : takesR md l.toArray listed n i = true:=by kernel_rfl) (hw : Region.wanted oi (yielded l.toArray a.tmps) = true:=by first | exact Jt rfl | kernel_rfl)
  (hy : ∀ w,R w -> (execOp a.eval oi).run P w = .ok (.value v) w:=by (intro w hk;(try dsimp only at hk);go_simp;try (with_reducible rfl)))
  (ha : a.put oi.dst v = a2:=by ((try simp only [Act.put,Jm]);exact rfl)) (hl : listed.setIfInBounds i true = l2:=by ((try simp only [Jm]);exact rfl)) :
  JF P md l.toArray (NoPanic Q) S n (fuel + 1) listed a w:=T_takeR hi hb hw hS (fun w h=>hy w (HK.out w h)) (by rw [ha,hl];exact h)
end

section
variable {P : Program} {l : List Oper} {Q : Exit -> Act -> World -> Prop} {md : Region.Mode} {S : World -> Prop} {n : Nat} {oi : Oper} {v : Value} {fuel : Nat} {listed : Array Bool} {a a2 : Act} {l2 : Array Bool} {w : World}
theorem tkP (i : Nat) (h : JF P md l.toArray (NoPanic Q) S n fuel l2 a2 w)
  (hi : l[i]? = some oi:=by rfl) (hb : takesP md l.toArray listed n i = true:=by kernel_rfl) (hw : Region.wanted oi (yielded l.toArray a.tmps) = true:=by first | exact Jt rfl | kernel_rfl)
  (hS : listed.getD n false = true \/ S w:=by first | exact .inr (by assumption) | exact .inl (by kernel_rfl))
  (hy : ∀ w,(execOp a.eval oi).run P w = .ok (.value v) w:=by (intro w;go_simp;try (with_reducible rfl)))
  (ha : a.put oi.dst v = a2:=by ((try simp only [Act.put,Jm]);exact rfl)) (hl : listed.setIfInBounds i true = l2:=by ((try simp only [Jm]);exact rfl)) :
  JF P md l.toArray (NoPanic Q) S n (fuel + 1) listed a w:=T_takeP hi hb hw hS hy (by rw [ha,hl];exact h)
end

end Go.Proofs.YteojjbhadgkfgaaGreat

namespace Go.Proofs.YteojjbhadgkfgaaGreat
open Go Go.RowKit Lb
set_option linter.unusedSimpArgs false
set_option linter.unusedVariables false
set_option maxRecDepth 100000

section
variable {P : Program} {l : List Oper} {Q : Exit -> Act -> World -> Prop} {jobs : List Job} {bs0 : List Bool} {a0 : Act} {own : Nat -> Prop} {base : Nat} {w0 : World}
def freeT (jobs : List Job) (bs0 : List Bool) (t : Nat) : Bool:=(jobs.zip bs0).all fun x=>x.2 || x.1.dst != t
theorem Agree.tmp {a : Act} (h : Agree jobs bs0 a0 a) {t : Nat} (ht : freeT jobs bs0 t = true) : a.tmps[t]? = a0.tmps[t]?:=by
 refine h.2.2 t (fun p J hp hb he=>?_)
 have hm : (J,false) ∈ jobs.zip bs0:=by
  refine List.mem_iff_getElem?.2 ⟨p,?_⟩;rw [List.getElem?_zip_eq_some];exact ⟨hp,hb⟩
 have:=List.all_eq_true.1 ht _ hm
 simp at this
 exact this he
theorem Agree.eval {a : Act} (h : Agree jobs bs0 a0 a) {t : Nat} (ht : freeT jobs bs0 t = true) : a.eval (.tmp t) = a0.eval (.tmp t):=by
 have:=h.tmp ht;simp only [Act.eval,Array.getD_eq_getD_getElem?,this]
variable {α : Type} {enc : α -> Array Value} {k : Nat}
theorem Zu {J : Job} {e : TypeId} (xs : List α) (hk : ∀ x,(enc x).size = k) (hx : J.x = none) (he : J.e = e) (hk' : J.k = k) (hn : J.n = xs.length) (hxs : J.xs = encs enc xs) (hm : xs.length <= maxLen) {o : Oper} (hl : l[J.num]? = some o) (hw : ∀ a,Agree jobs bs0 a0 a -> Region.wanted o (yielded l.toArray a.tmps) = true)
  (hr : ∀ (a : Act) (w : World) (K : Act -> World -> Prop),Agree jobs bs0 a0 a -> K (a.put (some J.dst) (.slice (some ⟨w.heap.size,0,none⟩) xs.length xs.length)) (w.alloc (.cells (encs enc xs).toArray e)) -> Oper.wp P o a w K (NoPanic Q)) : Owes P l Q jobs bs0 a0 own base w0 J:=by
 refine ⟨o,hl,hw,?_⟩;rw [hx];refine ⟨(encs enc xs).toArray,by rw [hxs],?_,by rw [hn];exact hm,fun a w K h1 h2=>?_⟩
 ·rw [hn,hk',List.size_toArray,Zv hk]
 ·refine hr a w K h1 ?_
  rw [<- hn,<- he];exact h2
theorem owes_app [Inhabited α] {J X Y : Job} {px py : Nat} {e t : TypeId} {i : TypeInfo} {z : Value} {bytes : Nat} (m r : List α) (ht : P.underlying t = some (.slice e)) (hi : P.info? e = some i) (hz : i.zero = some z)
  (hsize : i.size = k) (hby : i.bytes = bytes) (hzs : z.cells.size = k) (hsz : 0 < k) (hk : ∀ x,(enc x).size = k)
  (hx : J.x = some px) (hX : jobs[px]? = some X) (hy : J.y = some py) (hY : jobs[py]? = some Y)
  (hJ : J.e = e /\ J.k = k /\ J.n = (m ++ r).length /\ J.xs = encs enc (m ++ r)) (hXX : X.e = e /\ X.k = k /\ X.n = m.length /\ X.xs = encs enc m) (hYY : Y.e = e /\ Y.k = k /\ Y.n = r.length /\ Y.xs = encs enc r)
  {o : Oper} (hl : l[J.num]? = some o) (hw : ∀ a,Agree jobs bs0 a0 a -> Region.wanted o (yielded l.toArray a.tmps) = true)
  (ho : o.op = .call { callee:=.builtin .append,args:=#[.tmp X.dst,.tmp Y.dst],argTypes:=#[t,t] }) (hd : o.dst = some J.dst)
  (h1 : ∀ u ∈ encs enc r,u.oneCell' = true) (h63 : m.length + r.length <= maxLen) (hbytes : (m.length + r.length) * bytes <= 140737488355328) : Owes P l Q jobs bs0 a0 own base w0 J:=by
 refine ⟨o,hl,hw,?_⟩;rw [hx];intro X' hX';rw [hX] at hX'
 injection hX' with hX'
 subst hX';refine ⟨by rw [hXX.1,hJ.1],by rw [hXX.2.1,hJ.2.1],fun a w K hag hfr hbw hrow hyrow hK=>?_⟩;rw [hXX.1,hXX.2.1,hXX.2.2.1,hXX.2.2.2] at hrow;have hyr:=hyrow py Y hy hY;rw [hYY.1,hYY.2.1,hYY.2.2.1,hYY.2.2.2] at hyr;refine Zc w (.tmp X.dst) (.tmp Y.dst) t ho base e i z bytes ht hi hz hsize hby hzs hsz hk _ m rfl hrow _ r rfl (Jh.rd (show Jh e k enc base w _ r from hyr) hk) h1 h63 hbytes hbw ?_;intro v' w' h1 h2 h3;rw [hd];refine hK v' w' ?_ h2 h3;rw [hXX.1,hXX.2.1,hJ.2.2.1,hJ.2.2.2];exact h1
theorem ZF [Inhabited α] {J X : Job} {px yt : Nat} {e t : TypeId} {i : TypeInfo} {z : Value} {bytes : Nat} (m r : List α) (ht : P.underlying t = some (.slice e)) (hi : P.info? e = some i) (hz : i.zero = some z)
  (hsize : i.size = k) (hby : i.bytes = bytes) (hzs : z.cells.size = k) (hsz : 0 < k) (hk : ∀ x,(enc x).size = k)
  (hx : J.x = some px) (hX : jobs[px]? = some X)
  (hJ : J.e = e /\ J.k = k /\ J.n = (m ++ r).length /\ J.xs = encs enc (m ++ r)) (hXX : X.e = e /\ X.k = k /\ X.n = m.length /\ X.xs = encs enc m)
  (yv : Value) (hyf : freeT jobs bs0 yt = true) (hya : a0.eval (.tmp yt) = yv) (hyr : ∀ w,Fr own w0 w -> RdL k enc w yv r)
  {o : Oper} (hl : l[J.num]? = some o) (hw : ∀ a,Agree jobs bs0 a0 a -> Region.wanted o (yielded l.toArray a.tmps) = true)
  (ho : o.op = .call { callee:=.builtin .append,args:=#[.tmp X.dst,.tmp yt],argTypes:=#[t,t] }) (hd : o.dst = some J.dst)
  (h1 : ∀ u ∈ encs enc r,u.oneCell' = true) (h63 : m.length + r.length <= maxLen) (hbytes : (m.length + r.length) * bytes <= 140737488355328) : Owes P l Q jobs bs0 a0 own base w0 J:=by
 refine ⟨o,hl,hw,?_⟩;rw [hx];intro X' hX';rw [hX] at hX'
 injection hX' with hX'
 subst hX';refine ⟨by rw [hXX.1,hJ.1],by rw [hXX.2.1,hJ.2.1],fun a w K hag hfr hbw hrow hyrow hK=>?_⟩;rw [hXX.1,hXX.2.1,hXX.2.2.1,hXX.2.2.2] at hrow;refine Zc w (.tmp X.dst) (.tmp yt) t ho base e i z bytes ht hi hz hsize hby hzs hsz hk _ m rfl hrow _ r rfl (by rw [hag.eval hyf,hya];exact hyr w hfr) h1 h63 hbytes hbw ?_;intro v' w' h1 h2 h3;rw [hd];refine hK v' w' ?_ h2 h3;rw [hXX.1,hXX.2.1,hJ.2.2.1,hJ.2.2.2];exact h1
end
theorem T_jobs' {P : Program} {l : List Oper} {Q : Exit -> Act -> World -> Prop} {md : Region.Mode} {S : World -> Prop} {n fuel : Nat} {listed : Array Bool} {a0 : Act} {w0 : World} (m : Nat) (own : Nat -> Prop) (base : Nat) (jobs : List Job) (bs0 : List Bool) (rows0 : Nat -> Option RowF) (hm : (bs0.filter (!·)).length = m)
  (hlen : bs0.length = jobs.length) (hcl : Xr md l.toArray listed = true) (hm0 : mark listed (jobs.map (·.num)) bs0 = listed)
  (hok : jobsOk md l.toArray listed jobs bs0 = true) (hap : jobsApart jobs = true) (hdst : ∀ (p : Nat) (J : Job),jobs[p]? = some J -> J.dst < a0.tmps.size)
  (hb : base <= w0.heap.size) (hI : Inv own base w0 w0 rows0) (hg0 : ∀ (p : Nat) (J : Job),jobs[p]? = some J -> bs0[p]? = some true -> rows0 p = some (J.row (a0.eval (.tmp J.dst))))
  (hS : ∀ w,Fr own w0 w -> S w)
  (hj : ∀ (p : Nat) (J : Job),jobs[p]? = some J -> bs0[p]? = some false -> Owes P l Q jobs bs0 a0 own base w0 J)
  (hfin : ∀ (f : Nat -> Value) (w : World) (rows : Nat -> Option RowF),Inv own base w0 w rows -> (∀ (p : Nat) (J : Job),jobs[p]? = some J -> (∀ (q : Nat) (K : Job),jobs[q]? = some K -> K.x ≠ some p) -> rows p = some (J.row (f p))) ->
   JF P md l.toArray (NoPanic Q) S n fuel (mark listed (jobs.map (·.num)) (List.replicate jobs.length true)) (XQ f 0 jobs bs0 a0) w) :
  JF P md l.toArray (NoPanic Q) S n (fuel + m) listed a0 w0:=by
 subst hm;exact T_jobs own base jobs bs0 rows0 hlen hcl hm0 hok hap hdst hb hI hg0 hS hj hfin
theorem Xn (l : List Tp) : ∀ u ∈ encs tpc l,u.oneCell' = true:=by
 intro u hu;obtain ⟨x,-,hx⟩:=List.mem_flatMap.1 hu
 simp [tpc] at hx
 (rcases hx with rfl | rfl | rfl | rfl | rfl) <;> rfl
theorem tk_one (l : List Tk) : ∀ u ∈ encs tkc l,u.oneCell' = true:=by
 intro u hu;obtain ⟨x,-,hx⟩:=List.mem_flatMap.1 hu
 simp [tkc] at hx
 (rcases hx with rfl | rfl | rfl | rfl | rfl | rfl) <;> rfl
theorem in_one (l : List Int) : ∀ u ∈ encs inc l,u.oneCell' = true:=by
 intro u hu;obtain ⟨x,-,hx⟩:=List.mem_flatMap.1 hu
 simp [inc] at hx
 subst hx
 rfl
theorem Inv.none {own : Nat -> Prop} {base : Nat} {w : World} : Inv own base w w (fun _=>Option.none):=⟨fun _ _ h=>(by cases h),fun _ _ _ _ _ h=>(by cases h),fun _ _ _ h=>(by cases h),Fr.refl _ _⟩
end Go.Proofs.YteojjbhadgkfgaaGreat
