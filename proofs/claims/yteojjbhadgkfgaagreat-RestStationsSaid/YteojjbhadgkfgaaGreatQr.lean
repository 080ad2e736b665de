/- Qr: parts of the proofs, laid together. -/
import Derived.Test.YteojjbhadgkfgaaGreatQg
import Derived.Test.YteojjbhadgkfgaaGreatQc
import Derived.Test.YteojjbhadgkfgaaGreatQa
import Derived.Test.YteojjbhadgkfgaaGreatQl
/- What the laws spoil: rows of the call's own whose contents nobody reads; spoilTaps, spoilLedger. -/
set_option maxHeartbeats 64000000
namespace Go.Proofs.YteojjbhadgkfgaaGreat
set_option linter.unusedSimpArgs false
set_option linter.unusedVariables false
set_option maxRecDepth 100000
open Go Go.RowKit Lb

section
variable {α : Type} {e : TypeId} {k lo : Nat} {enc : α -> Array Value} {w w' w0 w1 w2 : World} {v : Value} {l : List α} {own own2 : Nat -> Prop}
theorem Fr.weaken (h : Fr own w w') (h2 : ∀ q,own q -> own2 q) : Fr own2 w w':=⟨h.os,h.tape,h.output,h.size,fun k hk hn=>h.block k hk (fun ho=>hn (h2 k ho))⟩
theorem Fr.trans (h : Fr own w1 w2) (h2 : Fr own w2 w) : Fr own w1 w :=
 ⟨h2.os.trans h.os,h2.tape.trans h.tape,h2.output.trans h.output,Nat.le_trans h.size h2.size,fun k hk hn=>(h2.block k (Nat.lt_of_lt_of_le hk h.size) hn).trans (h.block k hk hn)⟩
theorem Fr.step (h : Fr own w0 w1) (he : Ext w1 w2) : Fr own w0 w2 :=
 ⟨he.os.trans h.os,he.tape.trans h.tape,he.output.trans h.output,Nat.le_trans h.size (Ext.size he),fun k hk hn=>(he.block k (Nat.lt_of_lt_of_le hk h.size)).trans (h.block k hk hn)⟩
theorem Fr.ZY (he : Ext w1 w2) : Fr own w1 w2:=(Fr.refl own w1).step he
theorem Ext.fr (h : Ext w0 w) (hf : Fr own w w') (ho : ∀ q,own q -> w0.heap.size <= q) : Ext w0 w':=Below.trans h (Below.mono (hf.below (base:=w0.heap.size) h.size ho) (Nat.le_refl _))

def ZI (lo : Nat) (e : TypeId) (k : Nat) (w : World) (v : Value) : Prop:=∃ n cs,w.ownsRow lo e k v n cs
theorem Jh.XH (h : Jh e k enc lo w v l) : ZI lo e k w v:=⟨_,_,h⟩
theorem ZI.nil : ZI lo e k w (.slice none 0 0):=⟨0,[],World.ownsRow_nil _ _ _ _⟩
theorem ZI.lower {lo2 : Nat} (h : ZI lo e k w v) (hb : lo2 <= lo) : ZI lo2 e k w v:=by
 obtain ⟨n,cs,h⟩:=h;exact ⟨n,cs,ownsRow_base h hb⟩
theorem ZI.ext (h : ZI lo e k w v) (he : Ext w w') : ZI lo e k w' v:=by
 obtain ⟨n,cs,h⟩:=h;refine ⟨n,cs,h.kept (row:=none) ⟨he.os,he.tape,he.output,Ext.size he,fun i hi _=>he.block i hi⟩ ?_⟩
 cases hv : v.ownBlock <;> simp
theorem ZI.bnd (h : ZI lo e k w v) : ∀ q,v.ownBlock = some q -> lo <= q /\ q < w.heap.size:=by
 obtain ⟨n,cs,-,h⟩:=h;intro q hq
 rcases h with ⟨rfl,-⟩ | ⟨g,cap,cur,rfl,hb,hg,-⟩
 ·simp [Value.ownBlock] at hq
 ·simp [Value.ownBlock] at hq
  subst hq;exact ⟨hb,(Array.getElem?_eq_some_iff.1 hg).1⟩
theorem setCell_cells {g : Nat} {cur : Array Value} {z : Nat × Nat} (hg : w.heap[g]? = some (.cells cur e z)) (a : Addr) (u : Value) : ∃ cur',(w.setCell a u).heap[g]? = some (.cells cur' e z) /\ cur'.size = cur.size:=by
 by_cases ha : a.block = g
 ·subst ha
  unfold World.setCell;simp only [Array.getElem?_modify,if_true,hg,Option.map_some];refine ⟨_,rfl,?_⟩
  split <;> simp
 ·exact ⟨cur,by rw [Below.heap_setCell _ _ _ _ (fun e=>ha e.symm)];exact hg,rfl⟩
theorem ZI.set (h : ZI lo e k w v) (a : Addr) (u : Value) : ZI lo e k (w.setCell a u) v:=by
 obtain ⟨n,cs,h1,h2⟩:=h
 rcases h2 with ⟨hv,h0⟩ | ⟨g,cap,cur,hv,hb,hg,hn,hm,hs,ht⟩
 ·exact ⟨n,cs,h1,.inl ⟨hv,h0⟩⟩
 ·obtain ⟨cur',hg',hs'⟩:=setCell_cells hg a u
  refine ⟨n,cur'.toList.take (n * k),?_,.inr ⟨g,cap,cur',hv,hb,hg',hn,hm,hs'.trans hs,rfl⟩⟩;rw [List.length_take,Array.length_toList,hs',hs];exact Nat.min_eq_left (Nat.mul_le_mul_right k hn)
theorem ZI.form (h : ZI lo e k w v) : ∃ A n c,v = .slice A n c /\ n <= maxLen:=by
 obtain ⟨n,cs,-,h⟩:=h
 rcases h with ⟨rfl,h0⟩ | ⟨g,cap,cur,rfl,-,-,hn,hm,-⟩
 ·exact ⟨_,_,_,rfl,by unfold maxLen;omega⟩
 ·exact ⟨_,_,_,rfl,Nat.le_trans hn hm⟩
theorem ZI.at' {A : Option Addr} {n c j i : Nat} (h : ZI lo e k w (.slice A n c)) (hj : j < n) (hi : i < k) :
  ∃ g,A = some ⟨g,0,none⟩ /\ g < w.heap.size /\ w.frozen? ⟨g,j * k + i,none⟩ = false /\ ∃ u,w.cell? ⟨g,j * k + i,none⟩ = some u:=by
 obtain ⟨n',cs,h1,h2⟩:=h
 rcases h2 with ⟨hv,h0⟩ | ⟨g,cap,cur,hv,hb,hg,hn,hm,hs,ht⟩
 ·injection hv with _ hv _
  omega
 ·injection hv with hA hn' hc
  subst hn' hc hA;have hle : (j + 1) * k <= c * k:=Nat.mul_le_mul_right k (by omega);rw [Nat.succ_mul] at hle
  have hlt : j * k + i < cur.size:=by omega
  refine ⟨g,rfl,(Array.getElem?_eq_some_iff.1 hg).1,?_,cur[j * k + i],?_⟩
  ·unfold World.frozen?
   simp only [hg]
   simp
  ·rw [cell_of_row w g _ cur e (0,0) hg]
   simp [hlt]

def Sp (own : Nat -> Prop) (w w' : World) : Prop:=Fr own w w' /\ ∀ b e k v,ZI b e k w v -> ZI b e k w' v
theorem Sp.refl (own : Nat -> Prop) (w : World) : Sp own w w:=⟨Fr.refl _ _,fun _ _ _ _ h=>h⟩
theorem Sp.fr (h : Sp own w w') : Fr own w w':=h.1
theorem Sp.row (h : Sp own w w') (hr : ZI lo e k w v) : ZI lo e k w' v:=h.2 _ _ _ _ hr
theorem Sp.weaken (h : Sp own w w') (h2 : ∀ q,own q -> own2 q) : Sp own2 w w':=⟨h.1.weaken h2,h.2⟩
theorem Sp.trans (h : Sp own w w') (h2 : Sp own w' w2) : Sp own w w2:=⟨h.1.trans h2.1,fun _ _ _ _ hr=>h2.2 _ _ _ _ (h.2 _ _ _ _ hr)⟩
theorem Sp.step (h : Sp own w w') (h2 : Ext w' w2) : Sp own w w2:=⟨h.1.step h2,fun _ _ _ _ hr=>(h.2 _ _ _ _ hr).ext h2⟩
theorem Sp.ZY (h : Ext w w') : Sp own w w':=(Sp.refl own w).step h
theorem Sp.set {a : Addr} (ha : own a.block) (u : Value) (h : Sp own w w') : Sp own w (w'.setCell a u):=⟨Fr.Jl ha h.1,fun _ _ _ _ hr=>(h.2 _ _ _ _ hr).set a u⟩
theorem Sp.drew (h : Sp own w w') : Sp own w w'.drew:=⟨h.1.drew,fun _ _ _ _ hr=>h.2 _ _ _ _ hr⟩
theorem Sp.drewN (n : Nat) (h : Sp own w w') : Sp own w (w'.drewN n):=⟨h.1.drewN n,fun _ _ _ _ hr=>h.2 _ _ _ _ hr⟩
theorem Sp.size (h : Sp own w w') : w.heap.size <= w'.heap.size:=h.1.size
theorem Sp.box {g : Nat} {cs : Array Value} (h : Sp own w w') (hn : ¬ own g) (r : Row w g cs) : Row w' g cs:=h.1.row hn r
theorem ZI.le (h : ZI lo e k w v) : ∀ A n c,v = .slice A n c -> n <= 9223372036854775807:=by
 intro A n c hv;obtain ⟨A',n',c',hv',hm⟩:=h.form;rw [hv] at hv'
 injection hv' with _ hn _
 subst hn;unfold maxLen at hm
 omega
theorem ZI.unlike {e2 : TypeId} {k2 lo2 : Nat} {u : Value} (h : ZI lo e k w v) (h2 : ZI lo2 e2 k2 w u) (he : e ≠ e2) : ∀ q,v.ownBlock = some q -> u.ownBlock ≠ some q:=by
 obtain ⟨n,cs,-,h⟩:=h;obtain ⟨n2,cs2,-,h2⟩:=h2;intro q hq hq2
 rcases h with ⟨hv,_⟩ | ⟨g,cap,cur,hv,-,hg,-⟩
 ·rw [hv] at hq;simp [Value.ownBlock] at hq
 ·rcases h2 with ⟨hu,_⟩ | ⟨g2,cap2,cur2,hu,-,hg2,-⟩
  ·rw [hu] at hq2;simp [Value.ownBlock] at hq2
  ·rw [hv] at hq
   rw [hu] at hq2
   simp [Value.ownBlock] at hq hq2
   subst hq;subst hq2;rw [hg] at hg2
   injection hg2 with hg2
   injection hg2 with _ e2 _
   exact he e2
end

theorem law_spoilTaps (v : Value) (lo : Nat) (w : World) (ho : ZI lo 57 5 w v) :
  Calls Tryz.prog 49 #[v] w fun e w'=>e = .returned (.tuple #[]) /\ Sp (fun q=>v.ownBlock = some q) w w':=by
 obtain ⟨A,n,c,rfl,-⟩:=ho.form;have hml:=ho.le A n c rfl;have HO:=hH ho;clear ho;go_enter Tryz.func49,Tryz.ntmps49;go_wp2_with fail
 go_loopg [2] n (fun gg s2 wr=>∃ k : Nat,k <= n /\ n - k <= gg /\ s2 = .int .i64 k /\ Aside (Sp (fun q=>(Value.slice A n c).ownBlock = some q) w wr))
 case atStart=>exact ⟨0,Nat.zero_le _,by omega,rfl,Sp.refl _ _⟩
 case round =>
  obtain ⟨k,hk,hg,rfl,HV⟩:=hrel
  by_cases hlt : k < n
  ·have hlt' : (k : Int) < (n : Int):=by omega
   obtain ⟨g,rfl,hb,hfz,u,hc⟩:=(HV.out.row HO.out).at' hlt (i:=3) (by omega);go_wp2_with fail;go_roundg (n - (k + 1))
   case measure=>omega
   case rel=>exact ⟨k + 1,by omega,by omega,by go_num,Sp.set (own:=fun q=>(Value.slice (some ⟨g,0,none⟩) n c).ownBlock = some q) (a:=⟨g,k * 5 + 3,none⟩) rfl _ HV.out⟩
  ·have hge : ¬ (k : Int) < (n : Int):=by omega
   go_wp2_with fail;go_end0;exact ⟨rfl,HV.out⟩

def Bx (w : World) (p : Nat) (e : TypeId) (cs : Array Value) : Prop:=w.heap[p]? = some (.cells cs e (0,0))
def spT : List TypeId:=[34,57,3,52,110]
def spo (lo : Nat) (w : World) (q : Nat) : Prop:=lo <= q /\ ∃ e cs,Bx w q e cs /\ e ∈ spT
theorem ZI.spo {lo : Nat} {e : TypeId} {k : Nat} {w : World} {v : Value} (h : ZI lo e k w v) (he : e ∈ spT) : ∀ q,v.ownBlock = some q -> spo lo w q:=by
 intro q hq;have hb:=h.bnd q hq;obtain ⟨n,cs,-,h⟩:=h
 rcases h with ⟨rfl,-⟩ | ⟨g,cap,cur,rfl,-,hg,-⟩
 ·simp [Value.ownBlock] at hq
 ·simp [Value.ownBlock] at hq
  subst hq;exact ⟨hb.1,e,cur,hg,he⟩
theorem spo.lt {lo : Nat} {w : World} {q : Nat} (h : spo lo w q) : q < w.heap.size:=by
 obtain ⟨-,e,cs,h,-⟩:=h;exact (Array.getElem?_eq_some_iff.1 h).1
theorem spo.lower {lo lo2 : Nat} {w : World} {q : Nat} (h : spo lo w q) (hl : lo2 <= lo) : spo lo2 w q:=⟨Nat.le_trans hl h.1,h.2⟩
theorem Bx.lt {p : Nat} {w : World} {e : TypeId} {cs : Array Value} (h : Bx w p e cs) : p < w.heap.size:=(Array.getElem?_eq_some_iff.1 h).1
theorem Bx.new {w : World} {e : TypeId} {cs : Array Value} : Bx (w.alloc (.cells cs e)) w.heap.size e cs:=heap_alloc_new w _
theorem Bx.fr {own : Nat -> Prop} {p : Nat} {w w' : World} {e : TypeId} {cs : Array Value} (h : Bx w p e cs) (hf : Fr own w w') (hn : ¬ own p) : Bx w' p e cs:=(hf.block p h.lt hn).trans h
theorem Bx.ext {p : Nat} {w w' : World} {e : TypeId} {cs : Array Value} (h : Bx w p e cs) (hf : Ext w w') : Bx w' p e cs:=(hf.block p h.lt).trans h
theorem Bx.drew {p : Nat} {w : World} {e : TypeId} {cs : Array Value} (h : Bx w p e cs) : Bx w.drew p e cs:=h
theorem Bx.drewN {p : Nat} {w : World} {e : TypeId} {cs : Array Value} (n : Nat) (h : Bx w p e cs) : Bx (w.drewN n) p e cs:=h
theorem Bx.alloc {p : Nat} {w : World} {e : TypeId} {cs : Array Value} (h : Bx w p e cs) (o : Obj) : Bx (w.alloc o) p e cs:=h.ext ((Ext.refl w).alloc o)
theorem Bx.far {p : Nat} {w : World} {e : TypeId} {cs : Array Value} {a : Addr} {u : Value} (hn : p ≠ a.block) (h : Bx w p e cs) : Bx (w.setCell a u) p e cs:=by
 unfold Bx;rw [Below.heap_setCell _ _ _ _ hn];exact h
theorem Bx.set {p i : Nat} {w : World} {e : TypeId} {cs : Array Value} {u : Value} (h : Bx w p e cs) : Bx (w.setCell ⟨p,i,none⟩ u) p e (cs.setIfInBounds i u):=by
 unfold Bx at h ⊢;unfold World.setCell;simp only [Array.getElem?_modify,if_true,h,Option.map_some,Option.isSome_none,Bool.false_eq_true,if_false]
theorem Bx.row {p : Nat} {w : World} {e : TypeId} {cs : Array Value} (h : Bx w p e cs) : Row w p cs:=by
 refine ⟨h.lt,fun o=>?_,fun o=>?_⟩
 ·exact cell_of_row w p o cs e (0,0) h
 ·unfold Bx at h
  unfold World.frozen?;simp only [h]
  simp
theorem ZI.box {lo : Nat} {e e2 : TypeId} {k p : Nat} {w : World} {v : Value} {cs : Array Value} (h : ZI lo e k w v) (hb : Bx w p e2 cs) (he : e ≠ e2) : v.ownBlock ≠ some p:=by
 intro hq;obtain ⟨n,cs',-,h⟩:=h
 rcases h with ⟨rfl,-⟩ | ⟨g,cap,cur,rfl,-,hg,-⟩
 ·simp [Value.ownBlock] at hq
 ·simp [Value.ownBlock] at hq
  subst hq;unfold Bx at hb;rw [hg] at hb
  injection hb with hb
  injection hb with _ h3 _
  exact he h3
def own3 (s0 s1 s2 : Value) (q : Nat) : Prop:=s0.ownBlock = some q \/ s1.ownBlock = some q \/ s2.ownBlock = some q
theorem law_spoilLedger (s0 s1 s2 : Value) (lo : Nat) (w : World) (h0 : ZI lo 34 6 w s0) (h1 : ZI lo 57 5 w s1) (h2 : ZI lo 3 1 w s2) :
  Calls Tryz.prog 97 #[.agg #[s0,s1,s2]] w fun e w'=>e = .returned (.tuple #[]) /\ Sp (own3 s0 s1 s2) w w':=by
 obtain ⟨A0,n0,c0,rfl,-⟩:=h0.form;obtain ⟨A1,n1,c1,rfl,-⟩:=h1.form;obtain ⟨A2,n2,c2,rfl,-⟩:=h2.form;have hm0:=h0.le A0 n0 c0 rfl;have hm2:=h2.le A2 n2 c2 rfl;have H0:=hH h0;have H1:=hH h1;have H2:=hH h2;clear h0 h1 h2;go_enter Tryz.func97,Tryz.ntmps97;go_wp2_with fail;refine (law_spoilTaps _ lo _ (H1.out.ext Je)).mono ?_;rintro e w1 ⟨rfl,h1⟩;have hr:=h1.box (g:=w.heap.size) (cs:=#[.slice A0 n0 c0,.slice A1 n1 c1,.slice A2 n2 c2]) (fun h=>by have:=(H1.out.bnd _ h).2;omega) (by exact rowA);have HS:=hH ((Sp.ZY (own:=own3 (.slice A0 n0 c0) (.slice A1 n1 c1) (.slice A2 n2 c2)) ((Ext.refl w).alloc _)).trans (h1.weaken fun q h=>.inr (.inl h)));have HR:=hH hr;clear h1 hr;(refine Ji w1 w.heap.size fun q1_0 f1_0 l1_0 R1_0=>?_);go_wp2_with fail
 go_loopg [2] n0 (fun gg s2 wr=>∃ k : Nat,k <= n0 /\ n0 - k <= gg /\ s2 = .int .i64 k /\ Aside (Sp (own3 (.slice A0 n0 c0) (.slice A1 n1 c1) (.slice A2 n2 c2)) w wr /\ Row wr w.heap.size #[.slice A0 n0 c0,.slice A1 n1 c1,.slice A2 n2 c2]))
 case atStart=>exact ⟨0,Nat.zero_le _,by omega,rfl,HS.out,HR.out⟩
 case round =>
  obtain ⟨k,hk,hg,rfl,HV⟩:=hrel;have HW:=hH HV.out.1;have HY:=hH HV.out.2;clear HV HS HR q1_0 f1_0 l1_0 R1_0;(refine Ji wr w.heap.size fun q2_0 f2_0 l2_0 R2_0=>?_)
  by_cases hlt : k < n0
  ·have hlt' : (k : Int) < (n0 : Int):=by omega
   obtain ⟨g,rfl,hb,hfz,u,hc⟩:=(HW.out.row H0.out).at' hlt (i:=0) (by omega);have hgb:=H0.out.bnd g rfl;simp only [Nat.add_zero] at hc hfz;go_wp2_with fail;go_roundg (n0 - (k + 1))
   case measure=>omega
   case rel=>exact ⟨k + 1,by omega,by omega,by go_num,Sp.set (a:=⟨g,k * 6,none⟩) (.inl rfl) _ HW.out,Row.far (by simp;omega) HY.out⟩
  ·have hge : ¬ (k : Int) < (n0 : Int):=by omega
   go_wp2_with fail
   go_loopg [3] n2 (fun gg s3 ws=>∃ j : Nat,j <= n2 /\ n2 - j <= gg /\ s3 = .int .i64 j /\ Aside (Sp (own3 (.slice A0 n0 c0) (.slice A1 n1 c1) (.slice A2 n2 c2)) w ws /\ Row ws w.heap.size #[.slice A0 n0 c0,.slice A1 n1 c1,.slice A2 n2 c2]))
   case atStart=>exact ⟨0,Nat.zero_le _,by omega,rfl,HW.out,HY.out⟩
   case round =>
    obtain ⟨j,hj,hg2,rfl,HV⟩:=hrel;have HW2:=hH HV.out.1;have HY2:=hH HV.out.2;clear HV HY HW q2_0 f2_0 l2_0 R2_0;(refine Ji wr w.heap.size fun q3_0 f3_0 l3_0 R3_0=>?_)
    by_cases hlt : j < n2
    ·have hlt' : (j : Int) < (n2 : Int):=by omega
     obtain ⟨g,rfl,hb,hfz,u,hc⟩:=(HW2.out.row H2.out).at' hlt (i:=0) (by omega);have hgb:=H2.out.bnd g rfl;simp only [Nat.add_zero,Nat.mul_one] at hc hfz;go_wp2_with fail;go_roundg (n2 - (j + 1))
     case measure=>omega
     case rel=>exact ⟨j + 1,by omega,by omega,by go_num,Sp.set (a:=⟨g,j,none⟩) (.inr (.inr rfl)) _ HW2.out,Row.far (by simp;omega) HY2.out⟩
    ·have hge : ¬ (j : Int) < (n2 : Int):=by omega
     go_wp2_with fail;go_end0;exact ⟨rfl,HW2.out⟩

structure Gx where
 id : Int
 zone : Int
 seq : Int
 sa : Value
 ver : Int
 si : Value
 left : Int
 JP : Int
instance : Inhabited Gx:=⟨⟨0,0,0,.slice none 0 0,0,.slice none 0 0,0,0⟩⟩
def gxc (x : Gx) : Array Value:=#[.int .i64 x.id,.int .i64 x.zone,.int .i64 x.seq,x.sa,.int .i64 x.ver,x.si,.int .i64 x.left,.int .i64 x.JP]
theorem gxc_size (x : Gx) : (gxc x).size = 8:=rfl
def GxS (lo : Nat) (w : World) (l : List Gx) : Prop:=∀ x ∈ l,ZI lo 57 5 w x.sa /\ ZI lo 3 1 w x.si
theorem GxS.set {lo : Nat} {w : World} {l : List Gx} (h : GxS lo w l) (i : Nat) (hi : i < l.length) (z : Int) : GxS lo w (l.set i { l[i] with id:=z }):=by
 intro x hx
 rcases List.mem_or_eq_of_mem_set hx with hx | rfl
 ·exact h x hx
 ·exact h l[i] (List.getElem_mem hi)


theorem bs0_tkS {d : Option Tmp} {ps : String} {af : Array Edge} {ty : TypeId} {Q : Exit -> Act -> World -> Prop} (a : Act) (w : World) (K : Act -> World -> Prop) (h : K (a.put d (.slice (some ⟨w.heap.size,0,none⟩) 0 0)) (w.alloc (.cells #[] 34))) :
  Oper.wp Tryz.prog { dst:=d,op:=Op.buildSlice 22 0 #[],type:=ty,pos:=ps,after:=af,guard:=none } a w K (NoPanic Q):=by
 go_simp
 simpa [Act.put] using h

theorem law_copiedLedger (l : Ld) (s0 s1 s2 : Value) (w : World) (hr0 : RdL 6 tkc w s0 l.Jc) (hr1 : RdL 5 tpc w s1 l.Jf) (hr2 : RdL 1 inc w s2 l.Jd) (hz : fitsL l) :
  Calls Tryz.prog 43 #[.agg #[s0,s1,s2]] w fun e w'=>∃ t0 t1 t2,e = .returned (.agg #[t0,t1,t2]) /\ Ext w w' /\ Jh 34 6 tkc w.heap.size w' t0 l.Jc /\ Jh 57 5 tpc w.heap.size w' t1 l.Jf /\ Jh 3 1 inc w.heap.size w' t2 l.Jd:=by
 have HT0:=hH hr0;have HT1:=hH hr1;have HT2:=hH hr2;obtain ⟨A0,c0,rfl,hc0,hm0⟩:=hr0.form;obtain ⟨A1,c1,rfl,hc1,hm1⟩:=hr1.form;obtain ⟨A2,c2,rfl,hc2,hm2⟩:=hr2.form;have HZ:=hH (And.intro (And.intro (show l.Jc.length <= maxLen by omega) (And.intro (show l.Jf.length <= maxLen by omega) (show l.Jd.length <= maxLen by omega))) hz);clear hr0 hr1 hr2 hz hc0 hc1 hc2 hm0 hm1 hm2;obtain ⟨i0,ji,ji0,ji1,ji2⟩:=info_parts info_tk;obtain ⟨k0,kj,kj0,kj1,kj2⟩:=info_parts Xi;obtain ⟨m0,mj,mj0,mj1,mj2⟩:=info_parts info_it;go_enter Tryz.func43,Tryz.ntmps43;go_upto_region 1 with fail;(apply ZL (w0:=w) (g0:=w.heap.size) (g1:=w.heap.size + 1);(focus (exact rowA));(focus (exact rowA));(focus (exact Je));intro Y HY hzY Ra_0 Ra_1;(try simp only [Jm,World.size_alloc,size_set,World.heap_drewN,size_drew] at hzY Ra_0 Ra_1);have la_0:=Ra_0.out.size;have la_1:=Ra_1.out.size);have HK:=hH (fun w' (h : Ext Y w')=>(Row.ext h Ra_0.out).2.1);(refine Jw (fun w'=>Ext Y w') 13 (by kernel_rfl) ((Ext.refl _).drew) (fun hS=>?_);simp only [List.length_cons,List.length_nil]);(refine tkR 1 HK hS ?_;refine tkR 2 HK hS ?_;refine tkR 5 HK hS ?_;refine tkR 6 HK hS ?_;refine tkR 9 HK hS ?_;refine tkR 10 HK hS ?_)
 have hwy : Ext w Y:=by exact Je
 refine T_jobs' 6 (fun _=>False) Y.heap.size [⟨0,3,none,none,34,6,([] : List Tk).length,encs tkc []⟩,⟨3,6,some 0,none,34,6,([] ++ l.Jc).length,encs tkc ([] ++ l.Jc)⟩,
  ⟨4,7,none,none,57,5,([] : List Tp).length,encs tpc []⟩,⟨7,10,some 2,none,57,5,([] ++ l.Jf).length,encs tpc ([] ++ l.Jf)⟩,
  ⟨8,11,none,none,3,1,([] : List Int).length,encs inc []⟩,⟨11,14,some 4,none,3,1,([] ++ l.Jd).length,encs inc ([] ++ l.Jd)⟩] [false,false,false,false,false,false]
  (fun _=>none) rfl rfl (by kernel_rfl) (by kernel_rfl) (by kernel_rfl) (by kernel_rfl) ?hd ?hb ?hI ?hg ?hS ?hj ?hf
 case hd=>intro q J hq;rcases q with _ | _ | _ | _ | _ | _ | q <;> simp only [List.getElem?_cons_zero,List.getElem?_cons_succ,List.getElem?_nil,Option.some.injEq,reduceCtorEq] at hq <;> subst hq <;> simp
 case hb=>exact hS.size
 case hI=>exact Inv.none
 case hg=>intro q J hq hb;rcases q with _ | _ | _ | _ | _ | _ | q <;> simp only [List.getElem?_cons_zero,List.getElem?_cons_succ,List.getElem?_nil,Option.some.injEq,reduceCtorEq] at hq hb <;> simp at hb
 case hS=>exact fun W h=>hS.trans h.ext
 case hj =>
  intro q J hq hb;have hzz:=HZ.out;obtain ⟨⟨z1,z2,z3⟩,z4,z5,z6⟩:=hzz
  rcases q with _ | _ | _ | _ | _ | _ | q <;> simp only [List.getElem?_cons_zero,List.getElem?_cons_succ,List.getElem?_nil,Option.some.injEq,reduceCtorEq] at hq hb <;> subst hq
  ·refine Zu (enc:=tkc) [] JH rfl rfl rfl rfl rfl (by simp [maxLen]) rfl (fun a _=>Jt rfl) (fun a W K hag hK=>bs0_tkS a W K ?_)
   simpa [encs] using hK
  ·exact ZF (enc:=tkc) (px:=0) (yt:=5) [] l.Jc Tryz.underlying22 ji ji0 ji1 ji2 rfl (by decide) JH rfl rfl ⟨rfl,rfl,rfl,rfl⟩ ⟨rfl,rfl,rfl,rfl⟩ _ (by rfl) rfl (fun W h=>HT0.out.ext (hwy.trans (hS.trans h.ext))) rfl (fun a _=>Jt rfl) rfl rfl (tk_one _) (by simpa using z1) (by simpa using z4)
  ·refine Zu (enc:=tpc) [] Jr rfl rfl rfl rfl rfl (by simp [maxLen]) rfl (fun a _=>Jt rfl) (fun a W K hag hK=>bs0_tp a W K ?_)
   simpa [encs] using hK
  ·exact ZF (enc:=tpc) (px:=2) (yt:=9) [] l.Jf Tryz.underlying23 kj kj0 kj1 kj2 rfl (by decide) Jr rfl rfl ⟨rfl,rfl,rfl,rfl⟩ ⟨rfl,rfl,rfl,rfl⟩ _ (by rfl) rfl (fun W h=>HT1.out.ext (hwy.trans (hS.trans h.ext))) rfl (fun a _=>Jt rfl) rfl rfl (Xn _) (by simpa using z2) (by simpa using z5)
  ·refine Zu (enc:=inc) [] JD rfl rfl rfl rfl rfl (by simp [maxLen]) rfl (fun a _=>Jt rfl) (fun a W K hag hK=>?_)
   go_simp
   simpa [encs,inc,Act.put] using hK
  ·exact ZF (enc:=inc) (px:=4) (yt:=13) [] l.Jd Tryz.underlying24 mj mj0 mj1 mj2 rfl (by decide) JD rfl rfl ⟨rfl,rfl,rfl,rfl⟩ ⟨rfl,rfl,rfl,rfl⟩ _ (by rfl) rfl (fun W h=>HT2.out.ext (hwy.trans (hS.trans h.ext))) rfl (fun a _=>Jt rfl) rfl rfl (in_one _) (by simpa using z3) (by simpa using z6)
 case hf =>
  intro f Z rows hinv hrows;have h1:=hrows 1 _ rfl (by intro q K hq;rcases q with _ | _ | _ | _ | _ | _ | q <;> simp only [List.getElem?_cons_zero,List.getElem?_cons_succ,List.getElem?_nil,Option.some.injEq,reduceCtorEq] at hq <;> subst hq <;> simp);have h3:=hrows 3 _ rfl (by intro q K hq;rcases q with _ | _ | _ | _ | _ | _ | q <;> simp only [List.getElem?_cons_zero,List.getElem?_cons_succ,List.getElem?_nil,Option.some.injEq,reduceCtorEq] at hq <;> subst hq <;> simp);have h5:=hrows 5 _ rfl (by intro q K hq;rcases q with _ | _ | _ | _ | _ | _ | q <;> simp only [List.getElem?_cons_zero,List.getElem?_cons_succ,List.getElem?_nil,Option.some.injEq,reduceCtorEq] at hq <;> subst hq <;> simp);have o1 : Jh 34 6 tkc Y.heap.size Z (f 1) ([] ++ l.Jc):=hinv.ok 1 _ h1;have o3 : Jh 57 5 tpc Y.heap.size Z (f 3) ([] ++ l.Jf):=hinv.ok 3 _ h3;have o5 : Jh 3 1 inc Y.heap.size Z (f 5) ([] ++ l.Jd):=hinv.ok 5 _ h5;rw [List.nil_append] at o1 o3 o5;have HZE:=hH (hS.trans hinv.fr.ext);have hS : Ext Y Z:=HZE.out;clear hinv hrows h1 h3 h5;simp only [XQ,if_true,if_false,Bool.false_eq_true,Act.put,Jm,Nat.zero_add,Nat.reduceAdd];generalize f 0 = v0 at *;generalize f 2 = v2 at *;generalize f 4 = v4 at *;generalize f 1 = v1 at *;generalize f 3 = v3 at *;generalize f 5 = v5 at *;obtain ⟨B1,d1,rfl⟩:=o1.form;obtain ⟨B3,d3,rfl⟩:=o3.form;obtain ⟨B5,d5,rfl⟩:=o5.form;have HO1:=hH o1;have HO3:=hH o3;have HO5:=hH o5;have hYZ:=hS.size;clear o1 o3 o5;(refine Ji Z (w.heap.size + 1) fun qn_0 fn_0 ln_0 Rn_0=>?_);(refine tkP 12 ?_);(refine oA 13 fun K hK=>?_;go_simp;refine hK.out _ _ (.inl (by kernel_rfl)) ?_;clear hK;(try simp only [Act.put,Jm]);refine Ju (by kernel_rfl) ?_ _);go_wp2_with fail;refine bodyPost_ret (v:=.agg #[.slice B1 l.Jc.length d1,.slice B3 l.Jf.length d3,.slice B5 l.Jd.length d5]) (by simp [results,Tryz.results43,go_sem, *]) rfl ⟨_,_,_,rfl,(Je : Ext w _),?_,?_,?_⟩
  ·exact ownA (Y.heap.size)
  ·exact ownA (Y.heap.size)
  ·exact ownA (Y.heap.size)

theorem law_copiedDenied (ver : Int) (ids : List Int) (s0 : Value) (w : World) (hr0 : RdL 1 inc w s0 ids) (hz : ids.length * 8 <= 140737488355328) :
  Calls Tryz.prog 44 #[.agg #[.int .i64 ver,s0]] w fun e w'=>∃ t0,e = .returned (.agg #[.int .i64 ver,t0]) /\ Ext w w' /\ Jh 3 1 inc w.heap.size w' t0 ids:=by
 have HT0:=hH hr0;obtain ⟨A0,c0,rfl,hc0,hm0⟩:=hr0.form;have HZ:=hH (And.intro (show ids.length <= maxLen by omega) hz);clear hr0 hz hc0 hm0;obtain ⟨m0,mj,mj0,mj1,mj2⟩:=info_parts info_it;go_enter Tryz.func44,Tryz.ntmps44;go_upto_region 1 with fail;(apply ZL (w0:=w) (g0:=w.heap.size) (g1:=w.heap.size + 1);(focus (exact rowA));(focus (exact rowA));(focus (exact Je));intro Y HY hzY Ra_0 Ra_1;(try simp only [Jm,World.size_alloc,size_set,World.heap_drewN,size_drew] at hzY Ra_0 Ra_1);have la_0:=Ra_0.out.size;have la_1:=Ra_1.out.size);have HK:=hH (fun w' (h : Ext Y w')=>(Row.ext h Ra_0.out).2.1);(refine Jw (fun w'=>Ext Y w') 7 (by kernel_rfl) ((Ext.refl _).drew) (fun hS=>?_);simp only [List.length_cons,List.length_nil]);(refine tkR 0 HK hS ?_;refine tkR 1 HK hS ?_;refine tkR 3 HK hS ?_;refine tkR 4 HK hS ?_)
 have hwy : Ext w Y:=by exact Je
 refine T_jobs' 2 (fun _=>False) Y.heap.size [⟨2,5,none,none,3,1,([] : List Int).length,encs inc []⟩,⟨5,8,some 0,none,3,1,([] ++ ids).length,encs inc ([] ++ ids)⟩] [false,false]
  (fun _=>none) rfl rfl (by kernel_rfl) (by kernel_rfl) (by kernel_rfl) (by kernel_rfl) ?hd ?hb ?hI ?hg ?hS ?hj ?hf
 case hd=>intro q J hq;rcases q with _ | _ | q <;> simp only [List.getElem?_cons_zero,List.getElem?_cons_succ,List.getElem?_nil,Option.some.injEq,reduceCtorEq] at hq <;> subst hq <;> simp
 case hb=>exact hS.size
 case hI=>exact Inv.none
 case hg=>intro q J hq hb;rcases q with _ | _ | q <;> simp only [List.getElem?_cons_zero,List.getElem?_cons_succ,List.getElem?_nil,Option.some.injEq,reduceCtorEq] at hq hb <;> simp at hb
 case hS=>exact fun W h=>hS.trans h.ext
 case hj =>
  intro q J hq hb;obtain ⟨z3,z6⟩:=HZ.out
  rcases q with _ | _ | q <;> simp only [List.getElem?_cons_zero,List.getElem?_cons_succ,List.getElem?_nil,Option.some.injEq,reduceCtorEq] at hq hb <;> subst hq
  ·refine Zu (enc:=inc) [] JD rfl rfl rfl rfl rfl (by simp [maxLen]) rfl (fun a _=>Jt rfl) (fun a W K hag hK=>?_)
   go_simp
   simpa [encs,inc,Act.put] using hK
  ·exact ZF (enc:=inc) (px:=0) (yt:=7) [] ids Tryz.underlying24 mj mj0 mj1 mj2 rfl (by decide) JD rfl rfl ⟨rfl,rfl,rfl,rfl⟩ ⟨rfl,rfl,rfl,rfl⟩ _ (by rfl) rfl (fun W h=>HT0.out.ext (hwy.trans (hS.trans h.ext))) rfl (fun a _=>Jt rfl) rfl rfl (in_one _) (by simpa using z3) (by simpa using z6)
 case hf =>
  intro f Z rows hinv hrows;have h1:=hrows 1 _ rfl (by intro q K hq;rcases q with _ | _ | q <;> simp only [List.getElem?_cons_zero,List.getElem?_cons_succ,List.getElem?_nil,Option.some.injEq,reduceCtorEq] at hq <;> subst hq <;> simp);have o1 : Jh 3 1 inc Y.heap.size Z (f 1) ([] ++ ids):=hinv.ok 1 _ h1;rw [List.nil_append] at o1;have HZE:=hH (hS.trans hinv.fr.ext);have hS : Ext Y Z:=HZE.out;clear hinv hrows h1;simp only [XQ,if_true,if_false,Bool.false_eq_true,Act.put,Jm,Nat.zero_add,Nat.reduceAdd];generalize f 0 = v0 at *;generalize f 1 = v1 at *;obtain ⟨B1,d1,rfl⟩:=o1.form;have HO1:=hH o1;have hYZ:=hS.size;clear o1;(refine Ji Z (w.heap.size + 1) fun qn_0 fn_0 ln_0 Rn_0=>?_);(refine tkP 6 ?_);(refine oA 7 fun K hK=>?_;go_simp;refine hK.out _ _ (.inl (by kernel_rfl)) ?_;clear hK;(try simp only [Act.put,Jm]);refine Ju (by kernel_rfl) ?_ _);go_wp2_with fail;refine bodyPost_ret (v:=.agg #[.int .i64 ver,.slice B1 ids.length d1]) (by simp [results,Tryz.results44,go_sem, *]) rfl ⟨_,rfl,(Je : Ext w _),?_⟩;exact ownA (Y.heap.size)
end Go.Proofs.YteojjbhadgkfgaaGreat

namespace Go.Proofs.YteojjbhadgkfgaaGreat
open Go Go.RowKit
set_option linter.unusedSimpArgs false
set_option linter.unusedVariables false
set_option maxRecDepth 100000

theorem mark_false (L : Array Bool) : ∀ (ns : List Nat) (k : Nat),mark L ns (List.replicate k false) = L
 | [],k=>by cases k <;> (unfold mark;rfl)
 | n :: ns,0=>by unfold mark;rfl
 | n :: ns,k + 1=>by
  rw [List.replicate_succ];unfold mark;simp only [Bool.false_eq_true,if_false];exact mark_false L ns k

def phaseOk (md : Region.Mode) (ops : Array Oper) (L : Array Bool) (nums : List Nat) (deps : Nat -> List Bool -> Bool) : Bool :=
 (bools (List.replicate nums.length false)).all fun cs=>cs.all id || !Xr md ops (mark L nums cs) || (!(Region.ready md ops (mark L nums cs)).isEmpty && (Region.ready md ops (mark L nums cs)).all fun i=>(List.range nums.length).any fun p=>nums[p]? == some i && (cs[p]? == some false && (deps p cs && (match ops[i]? with | some o=>o.guard.isNone | none=>false))))

section
variable {P : Program} {l : List Oper} {Q : Exit -> Act -> World -> Prop} {md : Region.Mode} {S : World -> Prop}
theorem T_phase {n fuel : Nat} {listed : Array Bool} {a0 : Act} {w0 : World} (m : Nat) (nums : List Nat) (deps : Nat -> List Bool -> Bool) (hm : nums.length = m) (hcl : Xr md l.toArray listed = true)
  (hok : phaseOk md l.toArray listed nums deps = true) (J : List Bool -> Act -> World -> Prop) (h0 : J (List.replicate m false) a0 w0) (hS : ∀ bs a w,bs.length = m -> J bs a w -> S w)
  (hj : ∀ (p i : Nat) (bs : List Bool) (a : Act) (w : World) (o : Oper),nums[p]? = some i -> bs.length = m -> bs[p]? = some false -> deps p bs = true -> J bs a w -> l[i]? = some o -> ∀ K : Act -> World -> Prop,Hid (∀ a' w',J (bs.set p true) a' w' -> K a' w') -> Oper.wp P o a w K (NoPanic Q))
  (hfin : ∀ a w,J (List.replicate m true) a w -> JF P md l.toArray (NoPanic Q) S n fuel (mark listed nums (List.replicate m true)) a w) :
  JF P md l.toArray (NoPanic Q) S n (fuel + m) listed a0 w0:=by
 have hmain : ∀ (d : Nat) (bs : List Bool) (a : Act) (w : World),(bs.filter (!·)).length = d -> bs.length = m -> Closed md l.toArray (mark listed nums bs) -> J bs a w ->
   JF P md l.toArray (NoPanic Q) S n (fuel + d) (mark listed nums bs) a w:=by
  intro d
  induction d with
  | zero =>
   intro bs a w hc hbl hclo hJ
   have hbs : bs = List.replicate m true:=by
    apply List.ext_getElem?;intro p
    by_cases hp : p < bs.length
    ·rw [List.getElem?_replicate,if_pos (by omega),List.getElem?_eq_getElem hp]
     cases hb : bs[p] with
     | true=>rfl
     | false =>
      exfalso
      have : false ∈ bs.filter (!·):=List.mem_filter.2 ⟨hb ▸ List.getElem_mem hp,rfl⟩;rw [List.eq_nil_of_length_eq_zero hc] at this
      cases this
    ·rw [List.getElem?_eq_none (by omega),List.getElem?_eq_none (by simp;omega)]
   subst hbs;exact hfin a w hJ
  | succ d ih =>
   intro bs a w hc hbl hclo hJ
   have hk:=List.all_eq_true.1 hok bs (bools_mem (List.replicate nums.length false) bs (by simp;omega) (fun p hp=>by
    rw [List.getElem?_replicate] at hp
    split at hp
    ·cases hp
    ·cases hp))
   have hnot : bs.all id = false:=by
    cases ha : bs.all id with
    | false=>rfl
    | true =>
     exfalso
     have : bs.filter (!·) = []:=by
      rw [List.filter_eq_nil_iff];intro b hb;have:=List.all_eq_true.1 ha b hb
      simp at this
      simp [this]
     rw [this] at hc
     simp at hc
   simp only [hnot,closedB_complete hclo,Bool.not_true,Bool.false_or,Bool.or_eq_true,Bool.and_eq_true,Bool.not_eq_true',List.isEmpty_eq_false_iff,Bool.false_eq_true,false_or] at hk;refine ⟨fun h=>absurd h hk.1,fun i hi=>?_⟩;have hjk:=List.all_eq_true.1 hk.2 i hi;obtain ⟨p,hp,hpj⟩:=List.any_eq_true.1 hjk;have hpl:=List.mem_range.1 hp;simp only [Bool.and_eq_true,beq_iff_eq] at hpj;obtain ⟨hnum,hbp,hdep,hgd⟩:=hpj
   cases ho : l.toArray[i]? with
   | none=>rw [ho] at hgd;simp at hgd
   | some o =>
    rw [ho] at hgd
    have hg : o.guard = none:=by simpa using hgd
    have hmk : (mark listed nums bs).setIfInBounds i true = mark listed nums (bs.set p true):=mark_at _ _ _ p i hnum (by omega)
    have hcnt : ((bs.set p true).filter (!·)).length = d:=by
     have hpb : p < bs.length:=by omega
     have hbe : bs[p] = false:=by
      rw [List.getElem?_eq_getElem hpb] at hbp
      simpa using hbp
     have e1 : bs = bs.take p ++ false :: bs.drop (p + 1):=by
      have e2:=List.drop_eq_getElem_cons hpb;rw [hbe] at e2;rw [<- e2,List.take_append_drop]
     have e3 : bs.set p true = bs.take p ++ true :: bs.drop (p + 1):=by
      rw [List.set_eq_take_append_cons_drop,if_pos hpb]
     rw [e3];rw [e1] at hc;simp only [List.filter_append,List.filter_cons,Bool.not_false,Bool.not_true,if_true,List.length_append,List.length_cons,Bool.false_eq_true,if_false] at hc ⊢
     omega
    have hclo' : Closed md l.toArray (mark listed nums (bs.set p true)):=by rw [<- hmk];exact Closed.set hclo hi
    refine wpOp_step ho fun K0 hK0=>?_;rw [if_pos (Jt hg)];refine hj p i bs a w o hnum hbl hbp hdep hJ (by simpa using ho) K0 (hH fun a' w' hJ'=>hK0 a' w' ⟨.inr (hS _ _ _ (by simpa using hbl) hJ'),?_⟩);rw [hmk];exact ih _ _ _ hcnt (by simpa using hbl) hclo' hJ'
 have hr : (List.replicate m false).filter (!·) = List.replicate m false:=by
  rw [List.filter_eq_self];intro b hb;rw [List.eq_of_mem_replicate hb]
  rfl
 have h:=hmain m (List.replicate m false) a0 w0 (by rw [hr];simp) (by simp) (by rw [mark_false];exact XU hcl) h0;rw [mark_false] at h;exact h
theorem T_phaseA {n fuel : Nat} {listed : Array Bool} {a0 : Act} {w0 : World} (m : Nat) (nums : List Nat) (deps : Nat -> List Bool -> Bool) (hm : nums.length = m) (hcl : Xr md l.toArray listed = true)
  (hok : phaseOk md l.toArray listed nums deps = true) (J : Act -> List Bool -> Act -> World -> Prop) (h0 : J a0 (List.replicate m false) a0 w0) (hS : ∀ bs a w,bs.length = m -> J a0 bs a w -> S w)
  (hj : ∀ (p i : Nat) (bs : List Bool) (a : Act) (w : World) (o : Oper),nums[p]? = some i -> bs.length = m -> bs[p]? = some false -> deps p bs = true -> J a0 bs a w -> l[i]? = some o -> ∀ K : Act -> World -> Prop,Hid (∀ a' w',J a0 (bs.set p true) a' w' -> K a' w') -> Oper.wp P o a w K (NoPanic Q))
  (hfin : ∀ a w,J a0 (List.replicate m true) a w -> JF P md l.toArray (NoPanic Q) S n fuel (mark listed nums (List.replicate m true)) a w) :
  JF P md l.toArray (NoPanic Q) S n (fuel + m) listed a0 w0:=T_phase m nums deps hm hcl hok (J a0) h0 hS hj hfin
end
end Go.Proofs.YteojjbhadgkfgaaGreat

namespace Go.Proofs.YteojjbhadgkfgaaGreat
set_option linter.unusedSimpArgs false
set_option linter.unusedVariables false
set_option maxRecDepth 100000
open Go Go.RowKit Lb

theorem law_copiedGate (g : Gt) (sa si : Value) (w : World) (hr : RdL 5 tpc w sa g.Jn) (hs : RdL 1 inc w si g.Jb.ids) (hza : g.Jn.length * 40 <= 140737488355328) (hzi : g.Jb.ids.length * 8 <= 140737488355328) :
  Calls Tryz.prog 45 #[.agg #[.int .i64 g.id,.int .i64 g.zone,.int .i64 g.seq,sa,.int .i64 g.Jb.Jk,si,.int .i64 g.left,.int .i64 g.JP]] w fun e w' =>
   ∃ ta ti,e = .returned (.agg #[.int .i64 g.id,.int .i64 g.zone,.int .i64 g.seq,ta,.int .i64 g.Jb.Jk,ti,.int .i64 g.left,.int .i64 g.JP]) /\ Ext w w' /\ Jh 57 5 tpc w.heap.size w' ta g.Jn /\ Jh 3 1 inc w.heap.size w' ti g.Jb.ids:=by
 obtain ⟨id,zone,seq,al,⟨ver,ids⟩,left,JP⟩:=g;simp only at hr hs hza hzi ⊢;have HC:=hH (fun w' (h : Ext w w')=>law_copiedDenied ver ids si w' (hs.ext h) hzi);have HT:=hH hr;obtain ⟨A0,c0,rfl,hc0,hm0⟩:=hr.form;obtain ⟨A1,c1,rfl,-,-⟩:=hs.form;have HZ:=hH (And.intro (show al.length <= maxLen by omega) hza);clear hr hs hza hzi hc0 hm0;obtain ⟨k0,kj,kj0,kj1,kj2⟩:=info_parts Xi;go_enter Tryz.func45,Tryz.ntmps45;go_upto_region 1 with fail;(apply ZL (w0:=w) (g0:=w.heap.size) (g1:=w.heap.size + 1);(focus (exact rowA));(focus (exact rowA));(focus (exact Je));intro Y HY hzY Ra_0 Ra_1;(try simp only [Jm,World.size_alloc,size_set,World.heap_drewN,size_drew] at hzY Ra_0 Ra_1);have la_0:=Ra_0.out.size;have la_1:=Ra_1.out.size);have HK:=hH (fun w' (h : Ext Y w')=>(Row.ext h Ra_0.out).2.1);(refine Jw (fun w'=>Ext Y w') 8 (by kernel_rfl) ((Ext.refl _).drew) (fun hS=>?_);simp only [List.length_cons,List.length_nil]);(refine tkR 1 HK hS ?_;refine tkR 2 HK hS ?_;refine tkR 4 HK hS ?_;refine tkR 5 HK hS ?_)
 have hwy : Ext w Y:=by exact Je
 refine oA 0 fun K hK=>?_;refine bs0_tp _ _ _ ?_;have hS0:=hS.alloc (.cells #[] 57);refine hK.out _ _ (.inr hS0) ?_;clear hK hS;generalize hY0 : Y.drew = Y0 at *;have o0 : Jh 57 5 tpc Y.heap.size (Y0.alloc (.cells #[] 57)) (.slice (some ⟨Y0.heap.size,0,none⟩) 0 0) ([] : List Tp):=Jh.made rfl (by rw [<- hY0];exact Nat.le_refl _);clear hY0;generalize Y0.alloc (.cells #[] 57) = Y1 at *;generalize (Value.slice (some ⟨Y0.heap.size,0,none⟩) 0 0) = v3 at *;simp only [Act.put,Jm];refine oA 3 fun K hK=>?_;refine Zc (enc:=tpc) (k:=5) _ (.tmp 3) (.tmp 5) 23 rfl Y.heap.size 57 k0 _ _ Tryz.underlying23 kj kj0 kj1 kj2 rfl (by decide) Jr v3 [] rfl o0 (.slice A0 al.length c0) al rfl (HT.out.ext (hwy.trans hS0)) (Xn _) (by simpa using HZ.out.1) (by simpa using HZ.out.2) hS0.size ?_;intro v6 Y2 o6 o2 o3;rw [List.nil_append] at o6;have hS : Ext Y Y2:=hS0.grown o2 (fun q hq=>(o0.lt q hq).1);refine hK.out _ _ (.inr hS) ?_;clear hK o2 o3 o0 hS0;simp only [Act.put,Jm];obtain ⟨C,d6,rfl⟩:=o6.form;have HO6:=hH o6;have hy2:=hS.size;clear o6;(refine tkP 7 ?_);(refine oA 6 fun K hK=>?_;go_simp);refine (HC.out _ (hwy.trans hS)).mono ?_;rintro e Z ⟨t0,rfl,h1,o1⟩;obtain ⟨B,d,rfl⟩:=o1.form;have hSZ:=hS.trans h1;have HE:=hH hSZ;have HO9:=hH (o1.lower hy2);have HO6Z:=hH (HO6.out.ext h1);clear hS h1 o1;go_wp2_with fail;have hS:=HE.out;refine hK.out _ _ (.inr hS) ?_;clear hK;(try simp only [Act.put,Jm]);have hYZ:=hS.size;(refine Ji Z w.heap.size fun qn_0 fn_0 ln_0 Rn_0=>?_;refine Ji Z (w.heap.size + 1) fun qn_1 fn_1 ln_1 Rn_1=>?_);((refine oA 8 fun K hK=>?_;go_simp;refine hK.out _ _ (.inl (by kernel_rfl)) ?_;clear hK;(try simp only [Act.put,Jm])));(refine tkP 9 ?_);((refine oA 10 fun K hK=>?_;go_simp;refine hK.out _ _ (.inl (by kernel_rfl)) ?_;clear hK;(try simp only [Act.put,Jm])));refine Ju (by kernel_rfl) ?_ _;go_wp2_with fail;refine bodyPost_ret (v:=.agg #[.int .i64 id,.int .i64 zone,.int .i64 seq,.slice C al.length d6,.int .i64 ver,.slice B ids.length d,.int .i64 left,.int .i64 JP]) (by simp [results,Tryz.results45,go_sem, *]) rfl ⟨_,_,rfl,(Je : Ext w _),?_,?_⟩
 ·exact ownA (Y.heap.size)
 ·exact ownA (Y.heap.size)
end Go.Proofs.YteojjbhadgkfgaaGreat
