/- Qf: parts of the proofs, laid together. -/
import Derived.Test.YteojjbhadgkfgaaGreatQa
import Derived.Test.YteojjbhadgkfgaaGreatQc
import Derived.Test.YteojjbhadgkfgaaGreatQe
/- Slices that are read, and where their rows may lie: what a reference hands back is what came, or new. -/
set_option maxHeartbeats 64000000
namespace Go.Proofs.YteojjbhadgkfgaaGreat
set_option linter.unusedSimpArgs false
set_option linter.unusedVariables false
set_option maxRecDepth 100000
open Go Go.RowKit Lb

section
variable {α : Type} [Inhabited α] {k b n : Nat} {P Q : Nat -> Prop} {enc : α -> Array Value} {w w' w0 : World} {v : Value} {l : List α}
def InP {α : Type} (P : Nat -> Prop) (v : Value) (l : List α) : Prop:=0 < l.length -> ∀ q,v.ownBlock = some q -> P q
def RdP (P : Nat -> Prop) (k : Nat) (enc : α -> Array Value) (w : World) (v : Value) (l : List α) : Prop:=RdL k enc w v l /\ InP P v l
abbrev InB {α : Type} (b : Nat) (v : Value) (l : List α) : Prop:=InP (fun q=>q < b) v l
abbrev RdO (b n : Nat) (k : Nat) (enc : α -> Array Value) (w : World) (v : Value) (l : List α) : Prop:=RdP (fun q=>q < b \/ n <= q) k enc w v l
theorem RdL.inB (h : RdL k enc w v l) (hb : w.heap.size <= b) : InB b v l:=by
 intro h0 q hq;obtain ⟨A,c,hv,-,-,h3⟩:=h;obtain ⟨b',o,hA,hb',-⟩:=h3 h0;rw [hv,hA] at hq
 simp [Value.ownBlock] at hq
 omega
omit [Inhabited α] in
theorem InP.nil : InP P (.slice none 0 0) ([] : List α):=fun h=>by simp at h
omit [Inhabited α] in
theorem InP.weak (h : InP P v l) (hPQ : ∀ q,P q -> Q q) : InP Q v l:=fun h0 q hq=>hPQ q (h h0 q hq)
theorem RdP.nil : RdP P k enc w (.slice none 0 0) ([] : List α):=⟨RdL.nil,InP.nil⟩
theorem RdO.nil : RdO b n k enc w (.slice none 0 0) ([] : List α):=RdP.nil
theorem RdL.oldP (h : RdL k enc w v l) (hb : InP P v l) : RdP (fun q=>P q \/ n <= q) k enc w v l:=⟨h,fun h0 q hq=>.inl (hb h0 q hq)⟩
theorem RdL.freshP (h : RdL k enc w v l) (hn : ∀ q,v.ownBlock = some q -> n <= q) : RdP (fun q=>P q \/ n <= q) k enc w v l:=⟨h,fun _ q hq=>.inr (hn q hq)⟩
theorem RdL.old (h : RdL k enc w v l) (hb : InB b v l) : RdO b n k enc w v l:=h.oldP hb
theorem RdP.rd (h : RdP P k enc w v l) : RdL k enc w v l:=h.1
theorem RdO.rd (h : RdO b n k enc w v l) : RdL k enc w v l:=h.1
theorem RdP.weak (h : RdP P k enc w v l) (hPQ : ∀ q,P q -> Q q) : RdP Q k enc w v l:=⟨h.1,h.2.weak hPQ⟩
theorem RdP.form (h : RdP P k enc w v l) : ∃ A c,v = .slice A l.length c:=by
 obtain ⟨A,c,hv,-⟩:=h.1;exact ⟨A,c,hv⟩
theorem RdO.form (h : RdO b n k enc w v l) : ∃ A c,v = .slice A l.length c:=RdP.form h
theorem RdP.ext (h : RdP P k enc w v l) (he : Ext w w') : RdP P k enc w' v l:=⟨h.1.ext he,h.2⟩
theorem RdO.ext (h : RdO b n k enc w v l) (he : Ext w w') : RdO b n k enc w' v l:=RdP.ext h he
theorem RdP.alloc (h : RdP P k enc w v l) (o : Obj) : RdP P k enc (w.alloc o) v l:=h.ext ((Ext.refl w).alloc o)
theorem RdO.alloc (h : RdO b n k enc w v l) (o : Obj) : RdO b n k enc (w.alloc o) v l:=RdP.alloc h o
theorem RdP.drew (h : RdP P k enc w v l) : RdP P k enc w.drew v l:=h
theorem RdO.drew (h : RdO b n k enc w v l) : RdO b n k enc w.drew v l:=h
theorem RdP.drewN (h : RdP P k enc w v l) (m : Nat) : RdP P k enc (w.drewN m) v l:=h
theorem RdO.drewN (h : RdO b n k enc w v l) (m : Nat) : RdO b n k enc (w.drewN m) v l:=h
theorem RdL.kept {row : Option Nat} (h : RdL k enc w v l) (hg : w.grownBy w' row) (hne : 0 < l.length -> ∀ q,row = some q -> v.ownBlock ≠ some q) : RdL k enc w' v l:=by
 obtain ⟨A,c,hv,h1,h2,h3⟩:=h;refine ⟨A,c,hv,h1,h2,fun hp=>?_⟩;obtain ⟨b',o,hA,hb',hc⟩:=h3 hp;refine ⟨b',o,hA,Nat.lt_of_lt_of_le hb' hg.size,fun j hj i u' hu=>?_⟩
 have hob : v.ownBlock = some b':=by rw [hv,hA];rfl
 rw [World.cell?_of_block (a:=⟨b',_,none⟩) (w:=w) (hg.block b' hb' (fun e=>hne hp b' e.symm hob))];exact hc j hj i u' hu
theorem RdP.kept {row : Option Nat} (h : RdP P k enc w v l) (hg : w.grownBy w' row) (hne : ∀ q,row = some q -> ¬ P q) : RdP P k enc w' v l :=
 ⟨h.1.kept hg (fun h0 q hq ho=>hne q hq (h.2 h0 q ho)),h.2⟩
theorem RdP.Jl {a : Addr} {u : Value} (ha : ¬ P a.block) (h : RdP P k enc w v l) : RdP P k enc (w.setCell a u) v l :=
 h.kept (row:=some a.block) ⟨rfl,rfl,rfl,by simp [World.setCell],fun k _ hk=>Below.heap_setCell _ _ _ _ (fun e=>hk (by rw [e]))⟩ (fun q e=>by injection e with e;subst e;exact ha)
theorem RdO.Jl {a : Addr} {u : Value} (ha : b <= a.block /\ a.block < n) (h : RdO b n k enc w v l) : RdO b n k enc (w.setCell a u) v l:=RdP.Jl (by omega) h
end

theorem ckTickets_of : ∀ {l : List Tk} {prev : Option Int},(∀ t ∈ l,JB t = 0) -> l.Pairwise (fun a b=>a.id < b.id) -> (∀ n,prev = some n -> ∀ t ∈ l,n < t.id) -> J5 prev l = 0
 | [],_,_,_,_=>rfl
 | x :: l,prev,h1,h2,h3=>by
  rw [Xb,if_neg (by simpa using h1 x List.mem_cons_self)]
  have hr : ZC prev x.id = false:=by
   unfold ZC
   cases prev with
   | none=>rfl
   | some n =>
    have:=h3 n rfl x List.mem_cons_self
    simp
    omega
  rw [hr];obtain ⟨h4,h5⟩:=List.pairwise_cons.1 h2;simp only [Bool.false_eq_true,if_false];exact ckTickets_of (fun t ht=>h1 t (List.mem_cons_of_mem _ ht)) h5 (fun n hn t ht=>by injection hn with hn;subst hn;exact h4 t ht)
theorem insTk_mem {t x : Tk} : ∀ {l : List Tk},x ∈ ZK t l ↔ x = t \/ x ∈ l
 | []=>by simp [ZK]
 | y :: l=>by
  unfold ZK
  split
  ·rw [List.mem_cons,insTk_mem,List.mem_cons]
   constructor
   ·rintro (h | h | h) <;> simp [h]
   ·rintro (h | h | h) <;> simp [h]
  ·simp
theorem insTk_len (t : Tk) : ∀ (l : List Tk),(ZK t l).length = l.length + 1
 | []=>rfl
 | y :: l=>by
  unfold ZK
  split
  ·simp [insTk_len t l]
  ·simp
theorem insTk_sorted {t : Tk} : ∀ {l : List Tk},l.Pairwise (fun a b=>a.id < b.id) -> (∀ x ∈ l,x.id ≠ t.id) -> (ZK t l).Pairwise (fun a b=>a.id < b.id)
 | [],_,_=>by simp [ZK]
 | y :: l,h,hn=>by
  obtain ⟨h1,h2⟩:=List.pairwise_cons.1 h;have hy:=hn y List.mem_cons_self;unfold ZK
  split
  ·rename_i hlt
   refine List.pairwise_cons.2 ⟨fun x hx=>?_,insTk_sorted h2 (fun x hx=>hn x (List.mem_cons_of_mem _ hx))⟩
   rcases insTk_mem.1 hx with rfl | hx
   ·exact hlt
   ·exact h1 x hx
  ·rename_i hlt
   refine List.pairwise_cons.2 ⟨fun x hx=>?_,h⟩
   rcases List.mem_cons.1 hx with rfl | hx
   ·omega
   ·have:=h1 x hx
    omega
theorem insTk_find {t x : Tk} {id : Int} (hne : id ≠ t.id) : ∀ {l : List Tk},JU (ZK t l) id = JU l id
 | []=>by
  unfold JU ZK
  simp
  exact fun h=>hne h.symm
 | y :: l=>by
  have ih:=insTk_find (x:=x) hne (l:=l);unfold ZK
  split
  ·unfold JU at ih ⊢
   rw [List.find?_cons,List.find?_cons,ih]
  ·unfold JU
   rw [List.find?_cons,show (t.id == id) = false by rw [beq_eq_false_iff_ne];exact fun h=>hne h.symm]
theorem ckTapAt_more {tks : List Tk} {t : Tk} (hn : ∀ x ∈ tks,x.id ≠ t.id) {Jf : List Tp} {vs : List Int} {p : Tp} {v : Int} (h : Zl tks Jf vs p v = 0) : Zl (ZK t tks) Jf vs p v = 0:=by
 unfold Zl at h ⊢
 by_cases h1 : Jv p = 0
 ·simp only [h1,ne_eq,not_true_eq_false,if_false] at h ⊢
  cases ht : JU tks p.ticket with
  | none=>rw [ht] at h;simp at h
  | some x =>
   rw [ht] at h;obtain ⟨hm,hid⟩:=ticketOf_mem ht;have hx:=hn x hm;rw [insTk_find (x:=x) (by omega),ht];exact h
 ·simp [h1] at h
theorem ckTaps_more {tks : List Tk} {t : Tk} (hn : ∀ x ∈ tks,x.id ≠ t.id) : ∀ (l : List Tp) (vl : List Int) (pre : List Tp) (pv : List Int),ZE tks pre pv l vl = 0 -> ZE (ZK t tks) pre pv l vl = 0
 | [],_,_,_,_=>by simp [ZE]
 | _ :: _,[],_,_,_=>by simp [ZE]
 | p :: l,v :: vl,pre,pv,h=>by
  unfold ZE at h ⊢
  by_cases h1 : Zl tks pre pv p v = 0
  ·rw [if_neg (by simpa using h1)] at h
   rw [if_neg (by simpa using ckTapAt_more hn h1)];exact ckTaps_more hn l vl _ _ h
  ·rw [if_pos h1] at h
   exact absurd h h1
theorem sellAll_ok {l s : Ld} {t : Tk} (h : sellAll l t = (s,0)) : Js l = 0 /\ Js s = 0 /\ s.Jf = l.Jf /\ s.Jc.length = l.Jc.length + 1:=by
 unfold sellAll at h
 by_cases hc : Js l = 0
 ·rw [if_neg (by simpa using hc)] at h
  unfold ZZ at h
  by_cases h1 : JB t = 0
  ·rw [if_neg (by simpa using h1)] at h
   cases h2 : l.Jc.any (fun x=>x.id == t.id) with
   | true=>simp [h2] at h
   | false =>
    simp only [h2,Bool.false_eq_true,if_false] at h
    by_cases h3 : l.Jc.length = 12
    ·simp [h3] at h
    ·rw [if_neg h3] at h
     simp only [Prod.mk.injEq,and_true] at h;subst h
     have hn : ∀ x ∈ l.Jc,x.id ≠ t.id:=by
      intro x hx;have:=List.any_eq_false.1 h2 x hx
      simpa using this
     obtain ⟨r1,r2,r3,r4,r5⟩:=J6.1 hc;refine ⟨hc,J6.2 ⟨?_,r2,r3,?_,ckTaps_more hn _ _ _ _ r5⟩,rfl,insTk_len t _⟩
     ·simp only
      rw [insTk_len]
      omega
     ·refine ckTickets_of (fun x hx=>?_) (insTk_sorted (XK r4).1 hn) (fun n hn=>by cases hn)
      rcases insTk_mem.1 hx with rfl | hx
      ·exact h1
      ·exact ZH r4 x hx
  ·rw [if_pos h1] at h
   simp only [Prod.mk.injEq] at h;exact absurd h.2 h1
 ·rw [if_pos hc] at h
  simp only [Prod.mk.injEq] at h;exact absurd h.2 hc

def insAt (t : Tk) (l : List Tk) (k : Nat) : List Tk:=l.take k ++ t :: l.drop k
theorem ZO (t : Tk) (l : List Tk) (k : Nat) (h : k <= l.length) : (insAt t l k).length = l.length + 1:=by
 unfold insAt
 simp
 omega
theorem insAt_all (t : Tk) (l : List Tk) : insAt t l l.length = l ++ [t]:=by simp [insAt]
theorem insAt_here (t : Tk) (l : List Tk) (k : Nat) (h : k <= l.length) : (insAt t l k)[k]'(by rw [ZO t l k h];omega) = t:=by
 unfold insAt;rw [List.getElem_append_right (by simp;omega)]
 simp [Nat.min_eq_left h]
theorem insAt_ahead (t : Tk) (l : List Tk) (k : Nat) (h : k <= l.length) (h0 : 0 < k) : (insAt t l k)[k - 1]'(by rw [ZO t l k h];omega) = l[k - 1]'(by omega):=by
 unfold insAt;rw [List.getElem_append_left (by simp;omega)]
 simp
theorem insAt_swap (t : Tk) (l : List Tk) (k : Nat) (h : k <= l.length) (h0 : 0 < k) : ((insAt t l k).set k (l[k - 1]'(by omega))).set (k - 1) t = insAt t l (k - 1):=by
 obtain ⟨m,rfl⟩ : ∃ m,k = m + 1:=⟨k - 1,by omega⟩;simp only [Nat.add_sub_cancel]
 have key : ∀ (A B : List Tk) (y : Tk),((A ++ [y] ++ t :: B).set (A.length + 1) y).set A.length t = A ++ t :: y :: B:=by
  intro A B y
  simp [List.set_append]
 have hA : (l.take m).length = m:=by rw [List.length_take];omega
 have h3:=key (l.take m) (l.drop (m + 1)) (l[m]'(by omega));rw [hA,<- List.take_succ_eq_append_getElem (show m < l.length by omega),<- List.drop_eq_getElem_cons (show m < l.length by omega)] at h3;exact h3
theorem insAt_end {t : Tk} {l : List Tk} (hs : l.Pairwise (fun a b=>a.id < b.id)) (hn : ∀ x ∈ l,x.id ≠ t.id) {k : Nat} (hk : k <= l.length) (hb : ∀ (i : Nat) (hi : i < l.length),k <= i -> t.id < l[i].id) (ha : k = 0 \/ ∃ h : k - 1 < l.length,l[k - 1].id <= t.id) : insAt t l k = ZK t l:=by
 rw [insTk_at t l hs]
 have hc : l.countP (fun x=>decide (x.id < t.id)) = k:=by
  rw [<- List.take_append_drop k l,List.countP_append]
  have h1 : (l.take k).countP (fun x=>decide (x.id < t.id)) = k:=by
   rw [List.countP_eq_length.2 (fun x hx=>?_),List.length_take,Nat.min_eq_left hk];obtain ⟨i,hi,rfl⟩:=List.mem_iff_getElem.1 hx;simp only [List.length_take,Nat.min_eq_left hk] at hi;rw [List.getElem_take]
   rcases ha with rfl | ⟨h,ha⟩
   ·omega
   ·have hne:=hn l[k - 1] (List.getElem_mem h)
    by_cases e : i = k - 1
    ·subst e
     simp
     omega
    ·have:=List.pairwise_iff_getElem.1 hs i (k - 1) (by omega) h (by omega)
     simp
     omega
  have h2 : (l.drop k).countP (fun x=>decide (x.id < t.id)) = 0:=by
   rw [List.countP_eq_zero];intro x hx;obtain ⟨i,hi,rfl⟩:=List.mem_iff_getElem.1 hx;simp only [List.length_drop] at hi;rw [List.getElem_drop];have:=hb (k + i) (by omega) (by omega)
   simp
   omega
  rw [h1,h2]
  rfl
 unfold insAt;rw [hc]
theorem Jh.put_tk {e : TypeId} {base g n c : Nat} {w : World} {l : List Tk} (h : Jh e 6 tkc base w (.slice (some ⟨g,0,none⟩) n c) l) (j : Nat) (hj : j < l.length) (x : Tk) :
  Jh e 6 tkc base ((((((w.setCell ⟨g,j * 6,none⟩ (.int .i64 x.id)).setCell ⟨g,j * 6 + 1,none⟩ (.int .i64 x.kind)).setCell ⟨g,j * 6 + 2,none⟩ (.int .i64 x.frm)).setCell ⟨g,j * 6 + 3,none⟩ (.int .i64 x.til)).setCell ⟨g,j * 6 + 4,none⟩ (.int .i64 x.JS)).setCell ⟨g,j * 6 + 5,none⟩ (.int .i64 x.rides)) (.slice (some ⟨g,0,none⟩) n c) (l.set j x):=by
 have h0:=h.JW JH j 0 hj (by omega) { l[j] with id:=x.id } (.int .i64 x.id) (by simp [tkc]);have h1:=h0.JW JH j 1 (by simpa using hj) (by omega) { l[j] with id:=x.id,kind:=x.kind } (.int .i64 x.kind) (by simp [tkc]);have h2:=h1.JW JH j 2 (by simpa using hj) (by omega) { l[j] with id:=x.id,kind:=x.kind,frm:=x.frm } (.int .i64 x.frm) (by simp [tkc]);have h3:=h2.JW JH j 3 (by simpa using hj) (by omega) { l[j] with id:=x.id,kind:=x.kind,frm:=x.frm,til:=x.til } (.int .i64 x.til) (by simp [tkc]);have h4:=h3.JW JH j 4 (by simpa using hj) (by omega) { l[j] with id:=x.id,kind:=x.kind,frm:=x.frm,til:=x.til,JS:=x.JS } (.int .i64 x.JS) (by simp [tkc]);have h5:=h4.JW JH j 5 (by simpa using hj) (by omega) x (.int .i64 x.rides) (by simp [tkc]);simp only [List.set_set,Nat.add_zero] at h5;exact h5

theorem ref_EnterOf (l : Ld) (s0 s1 s2 : Value) (p : Tp) (w : World) (hck : Js l = 0) (hr0 : RdL 6 tkc w s0 l.Jc) (hr1 : RdL 5 tpc w s1 l.Jf) (hr2 : RdL 1 inc w s2 l.Jd) (PB : Nat -> Prop) (hb0 : InP PB s0 l.Jc) :
  Calls Tryz.prog 63 #[.agg #[s0,s1,s2],.agg (tpc p)] w fun e w'=>∃ t0 t1 t2,e = .returned (.tuple #[.agg #[t0,t1,t2],.int .i64 (Jy l p).2.1,.int .i64 (Jy l p).2.2]) /\ Ext w w' /\ RdP (fun q=>PB q \/ w.heap.size <= q) 6 tkc w' t0 (Jy l p).1.Jc /\ RdP (fun q=>PB q \/ w.heap.size <= q) 5 tpc w' t1 (Jy l p).1.Jf /\ RdP (fun q=>PB q \/ w.heap.size <= q) 1 inc w' t2 (Jy l p).1.Jd:=by
 have hlen:=right_len hck;have h60:=(J6.1 hck).2.1;have h12:=(J6.1 hck).1;have htm:=right_times hck;have hzn:=right_zones hck;have HCT:=hH (fun (w' : World)=>ref_CheckTap p w');have HTA:=hH (fun w' (h : Ext w w')=>ref_TicketAt l.Jc p.ticket s0 w' (hr0.ext h));have HTW:=hH (fun w' (h : Ext w w')=>ref_isTwice l.Jf l.Jf.length p s1 w' (Nat.le_refl _) (hr1.ext h));have HMO:=hH (fun w' (h : Ext w w')=>ref_ManyOf l.Jf l.Jd s0 s1 s2 p.ticket l.Jf.length w' (Nat.le_refl _) hlen (by obtain ⟨A,c,hh,-⟩:=hr0.form;exact ⟨A,_,c,hh⟩) (hr1.ext h) (hr2.ext h));rw [List.take_length] at HTW;rw [ridesTo_all _ _ _ _ (Nat.le_refl _) (by omega)] at HMO;have HTR:=hH hr0;have HT1:=hH hr1;have HB0:=hH hb0;clear hb0;have HT2:=hH hr2;obtain ⟨A0,c0,rfl,-,-⟩:=hr0.form;obtain ⟨A,c,rfl,-,-⟩:=hr1.form;obtain ⟨A2,c2,rfl,-,-⟩:=hr2.form;clear hr0 hr1 hr2;have HLEN:=hH hlen
 have HX : Jy l p = if (Xw l.Jc l.Jf l.Jd p).2 ≠ 0 then (ld0,(Xw l.Jc l.Jf l.Jd p).1,(Xw l.Jc l.Jf l.Jd p).2) else if l.Jf.length = 60 then (ld0,0,2) else (⟨l.Jc,l.Jf ++ [p],l.Jd ++ [(Xw l.Jc l.Jf l.Jd p).1]⟩,(Xw l.Jc l.Jf l.Jd p).1,0):=rfl
 have HV : Xw l.Jc l.Jf l.Jd p = if Jv p ≠ 0 then (0,Jv p) else match JU l.Jc p.ticket with
  | none=>(0,5)
  | some t=>if l.Jf.any (JM p) = true then (0,6) else if Xa l.Jf p = true then (0,4) else judgeIn t l.Jf l.Jd p:=rfl
 have hix:=XA l.Jc p.ticket;generalize XI (fun t=>t.id == p.ticket) l.Jc = ix at *;generalize Xw l.Jc l.Jf l.Jd p = V at *;generalize Jy l p = X at *;have htp : tpc p = #[.int .i64 p.ticket,.int .i64 p.gate,.int .i64 p.seq,.int .i64 p.time,.int .i64 p.zone]:=rfl
 have hlate : Xa l.Jf p = decide (0 < l.Jf.length /\ p.time < lastInt l.Jf):=by
  unfold Xa lastInt
  cases hgl : l.Jf.getLast? with
  | none =>
   have : l.Jf = []:=by simpa using hgl
   simp [this]
  | some x =>
   have : 0 < l.Jf.length:=List.length_pos_of_mem (List.mem_of_getLast? hgl)
   simp [this]
 rw [htp] at HTW HCT ⊢
 by_cases hc : Jv p = 0
 case neg =>
  rw [if_pos hc] at HV;subst HV;rw [if_pos hc] at HX;subst HX
  have hcb : (Jv p != 0) = true:=by simpa using hc
  clear hlate hix hzn htm hlen;generalize Jv p = q at *;clear hc;go_enter Tryz.func63,Tryz.ntmps63;go_wp2_with fail;(refine gA (HCT.out _) fun w1 H1 hz1=>?_;refine Ji w1 w.heap.size fun q1_0 f1_0 l1_0 R1_0=>?_;refine Ji w1 (w.heap.size + 1) fun q1_1 f1_1 l1_1 R1_1=>?_;refine Ji w1 (w.heap.size + 1 + 1) fun q1_2 f1_2 l1_2 R1_2=>?_);go_wp2_with fail;(refine gA (HTA.out _ Je) fun w2 H2 hz2=>?_;refine Ji w2 w.heap.size fun q2_0 f2_0 l2_0 R2_0=>?_;refine Ji w2 (w.heap.size + 1) fun q2_1 f2_1 l2_1 R2_1=>?_;refine Ji w2 (w.heap.size + 1 + 1) fun q2_2 f2_2 l2_2 R2_2=>?_);go_wp2_with fail;go_wp2_with fail;refine bodyPost_ret (v:=.tuple #[.agg #[.slice none 0 0,.slice none 0 0,.slice none 0 0],.int .i64 0,.int .i64 q]) (by simp [results,Tryz.results63,go_sem, *]) rfl ⟨_,_,_,rfl,(Je : Ext w _),RdP.nil,RdP.nil,RdP.nil⟩
 rw [if_neg (by simpa using hc)] at HV;rw [hc] at HCT
 rcases hix with ⟨rfl,hno⟩ | ⟨k,hkl,rfl,hsome⟩
 ·rw [hno] at HV
  simp only at HV;subst HV;rw [if_pos (by decide)] at HX;subst HX;clear hlate hzn htm hlen hno;go_enter Tryz.func63,Tryz.ntmps63;go_wp2_with fail;(refine gA (HCT.out _) fun w1 H1 hz1=>?_;refine Ji w1 w.heap.size fun q1_0 f1_0 l1_0 R1_0=>?_;refine Ji w1 (w.heap.size + 1) fun q1_1 f1_1 l1_1 R1_1=>?_;refine Ji w1 (w.heap.size + 1 + 1) fun q1_2 f1_2 l1_2 R1_2=>?_);go_wp2_with fail;(refine gA (HTA.out _ Je) fun w2 H2 hz2=>?_;refine Ji w2 w.heap.size fun q2_0 f2_0 l2_0 R2_0=>?_;refine Ji w2 (w.heap.size + 1) fun q2_1 f2_1 l2_1 R2_1=>?_;refine Ji w2 (w.heap.size + 1 + 1) fun q2_2 f2_2 l2_2 R2_2=>?_);go_wp2_with fail;go_wp2_with fail;refine bodyPost_ret (v:=.tuple #[.agg #[.slice none 0 0,.slice none 0 0,.slice none 0 0],.int .i64 0,.int .i64 5]) (by simp [results,Tryz.results63,go_sem, *]) rfl ⟨_,_,_,rfl,(Je : Ext w _),RdP.nil,RdP.nil,RdP.nil⟩
 rw [hsome] at HV;simp only at HV
 have hk0 : ¬ (k : Int) < 0:=by omega
 have hkm : (k : Int) < (l.Jc.length : Int):=by omega
 cases hA : l.Jf.any (JM p)
 case true =>
  rw [hA] at HV HTW;rw [if_pos rfl] at HV;subst HV;rw [if_pos (by decide)] at HX;subst HX;clear hlate hzn htm hlen hsome hA;go_enter Tryz.func63,Tryz.ntmps63;go_wp2_with fail;(refine gA (HCT.out _) fun w1 H1 hz1=>?_;refine Ji w1 w.heap.size fun q1_0 f1_0 l1_0 R1_0=>?_;refine Ji w1 (w.heap.size + 1) fun q1_1 f1_1 l1_1 R1_1=>?_;refine Ji w1 (w.heap.size + 1 + 1) fun q1_2 f1_2 l1_2 R1_2=>?_);go_wp2_with fail;(refine gA (HTA.out _ Je) fun w2 H2 hz2=>?_;refine Ji w2 w.heap.size fun q2_0 f2_0 l2_0 R2_0=>?_;refine Ji w2 (w.heap.size + 1) fun q2_1 f2_1 l2_1 R2_1=>?_;refine Ji w2 (w.heap.size + 1 + 1) fun q2_2 f2_2 l2_2 R2_2=>?_);go_wp2_with fail;(refine gA (HTW.out _ Je) fun w3 H3 hz3=>?_;refine Ji w3 w.heap.size fun q3_0 f3_0 l3_0 R3_0=>?_;refine Ji w3 (w.heap.size + 1) fun q3_1 f3_1 l3_1 R3_1=>?_;refine Ji w3 (w.heap.size + 1 + 1) fun q3_2 f3_2 l3_2 R3_2=>?_);go_wp2_with fail;refine bodyPost_ret (v:=.tuple #[.agg #[.slice none 0 0,.slice none 0 0,.slice none 0 0],.int .i64 0,.int .i64 6]) (by simp [results,Tryz.results63,go_sem, *]) rfl ⟨_,_,_,rfl,(Je : Ext w _),RdP.nil,RdP.nil,RdP.nil⟩
 rw [hA] at HV HTW;rw [if_neg (by simp)] at HV
 have HJ:=hH (fun (w' : World)=>ref_JudgeOf_last l.Jc[k] (ZV l.Jf l.Jd p.ticket) ((ZV l.Jf l.Jd p.ticket).length : Nat) p w' (hzn _ (List.getElem_mem hkl)).1 (hzn _ (List.getElem_mem hkl)).2 (zone_ok hc) (fun x hx=>htm x (by
  rw [<- ridesTo_all l.Jf l.Jd p.ticket l.Jf.length (Nat.le_refl _) (by omega)] at hx
  exact List.mem_of_mem_take (ridesTo_mem hx))))
 rw [show judge l.Jc[k] (Zi (ZV l.Jf l.Jd p.ticket)) ((ZV l.Jf l.Jd p.ticket).length : Nat) p = judgeIn l.Jc[k] l.Jf l.Jd p from rfl,htp] at HJ;obtain ⟨T,hT⟩ : ∃ T,l.Jc[k] = T:=⟨_,rfl⟩;rw [hT] at HJ HV;have HTT:=hH hT;obtain ⟨T0,T1,T2,T3,T4,T5⟩:=T;rw [show tkc ⟨T0,T1,T2,T3,T4,T5⟩ = #[.int .i64 T0,.int .i64 T1,.int .i64 T2,.int .i64 T3,.int .i64 T4,.int .i64 T5] from rfl] at HJ;generalize judgeIn ⟨T0,T1,T2,T3,T4,T5⟩ l.Jf l.Jd p = J at *;obtain ⟨jv,je⟩:=J;generalize ZV l.Jf l.Jd p.ticket = R at *;clear hsome hzn htm hT hc hck htp;simp only at HJ HTT
 by_cases hn : l.Jf.length = 0
 ·have hng : decide (0 < l.Jf.length) = false:=decide_eq_false (by omega)
  have hng2 : decide (0 < (l.Jf.length : Int)) = false:=decide_eq_false (by omega);rw [hlate,decide_eq_false (by omega),if_neg (by simp)] at HV;subst HV
  have h6b : ((l.Jf.length : Int) == 60) = false:=by rw [beq_eq_false_iff_ne];omega
  have h6 : ¬ l.Jf.length = 60:=by omega
  clear hlate hlen hA;have HN:=hH hn;clear hn
  by_cases hje : je = 0
  case neg =>
   rw [if_pos hje] at HX;subst HX
   have hjb : (je != 0) = true:=by simpa using hje
   clear hje;go_enter Tryz.func63,Tryz.ntmps63;go_wp2_with fail;(refine gA (HCT.out _) fun w1 H1 hz1=>?_;refine Ji w1 w.heap.size fun q1_0 f1_0 l1_0 R1_0=>?_;refine Ji w1 (w.heap.size + 1) fun q1_1 f1_1 l1_1 R1_1=>?_;refine Ji w1 (w.heap.size + 1 + 1) fun q1_2 f1_2 l1_2 R1_2=>?_);go_wp2_with fail;(refine gA (HTA.out _ Je) fun w2 H2 hz2=>?_;refine Ji w2 w.heap.size fun q2_0 f2_0 l2_0 R2_0=>?_;refine Ji w2 (w.heap.size + 1) fun q2_1 f2_1 l2_1 R2_1=>?_;refine Ji w2 (w.heap.size + 1 + 1) fun q2_2 f2_2 l2_2 R2_2=>?_);go_wp2_with fail;(refine gA (HTW.out _ Je) fun w3 H3 hz3=>?_;refine Ji w3 w.heap.size fun q3_0 f3_0 l3_0 R3_0=>?_;refine Ji w3 (w.heap.size + 1) fun q3_1 f3_1 l3_1 R3_1=>?_;refine Ji w3 (w.heap.size + 1 + 1) fun q3_2 f3_2 l3_2 R3_2=>?_);go_wp2_with fail;(try (go_quiet (fail);go_wp2_with fail));(refine gA (HMO.out _ Je) fun w4 H4 hz4=>?_;refine Ji w4 w.heap.size fun q4_0 f4_0 l4_0 R4_0=>?_;refine Ji w4 (w.heap.size + 1) fun q4_1 f4_1 l4_1 R4_1=>?_;refine Ji w4 (w.heap.size + 1 + 1) fun q4_2 f4_2 l4_2 R4_2=>?_);go_upto_region 13 with fail;(apply Xj (w0:=w4) (g0:=w.heap.size) (g1:=w.heap.size + 1) (g2:=w.heap.size + 1 + 1);(focus (exact rowA));(focus (exact rowA));(focus (exact rowA));(focus (exact Je));intro W HW hzW Ra_0 Ra_1 Ra_2;(try simp only [Jm,World.size_alloc,size_set,World.heap_drewN,size_drew] at hzW Ra_0 Ra_1 Ra_2);have la_0:=Ra_0.out.size;have la_1:=Ra_1.out.size;have la_2:=Ra_2.out.size);obtain ⟨tb,tof,rfl,htb,g0,g1,g2,g3,g4,g5⟩:=(HTR.out.ext (Je : Ext w W)).XC rfl hkl;rw [HTT.out] at g0 g1 g2 g3 g4 g5;have HK:=hH (fun w' (h : Ext W w')=>And.intro (Row.ext h Ra_0.out).2.1 (And.intro (Row.ext h Ra_1.out).2.1 (And.intro (Row.ext h Ra_2.out).2.1 (And.intro ((h.cells _ _ htb).trans g0) (And.intro ((h.cells _ _ htb).trans g1) (And.intro ((h.cells _ _ htb).trans g2) (And.intro ((h.cells _ _ htb).trans g3) (And.intro ((h.cells _ _ htb).trans g4) (((h.cells _ _ htb).trans g5))))))))));(refine Jw (fun w'=>Ext W w') 13 (by kernel_rfl) ((Ext.refl _).drew) (fun hS=>?_);simp only [List.length_cons,List.length_nil]);(refine tkA 0 HK hS ?_;refine tkA 1 HK hS ?_;refine tkA 2 HK hS ?_;refine tkA 3 HK hS ?_;refine tkA 4 HK hS ?_;refine tkA 5 HK hS ?_;refine tkA 6 HK hS ?_;refine tkA 7 HK hS ?_);(refine oA 8 fun K hK=>?_;go_simp);refine (HJ.out _).mono ?_;rintro e w5 ⟨rfl,h5⟩;have H5:=hH h5;clear h5 hS
   (go_wp2_with fail;have hS : Ext W w5:=by exact Je);(refine hK.out _ _ (.inr hS) ?_;clear hK;(try simp only [Act.put,Jm]))
   ((refine oA 9 fun K hK=>?_;go_simp;refine hK.out _ _ (.inr hS) ?_;clear hK;(try simp only [Act.put,Jm])));(refine tkA 10 HK hS ?_;refine tkA 11 HK hS ?_;refine tkA 12 HK hS ?_);(refine oA 13 fun K hK=>?_;go_simp;refine hK.out _ _ (.inl (by kernel_rfl)) ?_;clear hK;(try simp only [Act.put,Jm]);refine Ju (by kernel_rfl) ?_ _);clear HK g0 g1 g2 g3 g4 g5;(refine Ji w5 w.heap.size fun qd_0 fd_0 ld_0 Rd_0=>?_;refine Ji w5 (w.heap.size + 1) fun qd_1 fd_1 ld_1 Rd_1=>?_;refine Ji w5 (w.heap.size + 1 + 1) fun qd_2 fd_2 ld_2 Rd_2=>?_);go_wp2_with fail;refine bodyPost_ret (v:=.tuple #[.agg #[.slice none 0 0,.slice none 0 0,.slice none 0 0],.int .i64 jv,.int .i64 je]) (by simp [results,Tryz.results63,go_sem, *]) rfl ⟨_,_,_,rfl,(Je : Ext w _),RdP.nil,RdP.nil,RdP.nil⟩
  subst hje;rw [if_neg (by simp)] at HX;rw [if_neg h6] at HX;clear h6;subst HX;go_enter Tryz.func63,Tryz.ntmps63;go_wp2_with fail;(refine gA (HCT.out _) fun w1 H1 hz1=>?_;refine Ji w1 w.heap.size fun q1_0 f1_0 l1_0 R1_0=>?_;refine Ji w1 (w.heap.size + 1) fun q1_1 f1_1 l1_1 R1_1=>?_;refine Ji w1 (w.heap.size + 1 + 1) fun q1_2 f1_2 l1_2 R1_2=>?_);go_wp2_with fail;(refine gA (HTA.out _ Je) fun w2 H2 hz2=>?_;refine Ji w2 w.heap.size fun q2_0 f2_0 l2_0 R2_0=>?_;refine Ji w2 (w.heap.size + 1) fun q2_1 f2_1 l2_1 R2_1=>?_;refine Ji w2 (w.heap.size + 1 + 1) fun q2_2 f2_2 l2_2 R2_2=>?_);go_wp2_with fail;(refine gA (HTW.out _ Je) fun w3 H3 hz3=>?_;refine Ji w3 w.heap.size fun q3_0 f3_0 l3_0 R3_0=>?_;refine Ji w3 (w.heap.size + 1) fun q3_1 f3_1 l3_1 R3_1=>?_;refine Ji w3 (w.heap.size + 1 + 1) fun q3_2 f3_2 l3_2 R3_2=>?_);go_wp2_with fail;(try (go_quiet (fail);go_wp2_with fail));(refine gA (HMO.out _ Je) fun w4 H4 hz4=>?_;refine Ji w4 w.heap.size fun q4_0 f4_0 l4_0 R4_0=>?_;refine Ji w4 (w.heap.size + 1) fun q4_1 f4_1 l4_1 R4_1=>?_;refine Ji w4 (w.heap.size + 1 + 1) fun q4_2 f4_2 l4_2 R4_2=>?_);go_upto_region 13 with fail;(apply Xj (w0:=w4) (g0:=w.heap.size) (g1:=w.heap.size + 1) (g2:=w.heap.size + 1 + 1);(focus (exact rowA));(focus (exact rowA));(focus (exact rowA));(focus (exact Je));intro W HW hzW Ra_0 Ra_1 Ra_2;(try simp only [Jm,World.size_alloc,size_set,World.heap_drewN,size_drew] at hzW Ra_0 Ra_1 Ra_2);have la_0:=Ra_0.out.size;have la_1:=Ra_1.out.size;have la_2:=Ra_2.out.size);obtain ⟨tb,tof,rfl,htb,g0,g1,g2,g3,g4,g5⟩:=(HTR.out.ext (Je : Ext w W)).XC rfl hkl;rw [HTT.out] at g0 g1 g2 g3 g4 g5;have HK:=hH (fun w' (h : Ext W w')=>And.intro (Row.ext h Ra_0.out).2.1 (And.intro (Row.ext h Ra_1.out).2.1 (And.intro (Row.ext h Ra_2.out).2.1 (And.intro ((h.cells _ _ htb).trans g0) (And.intro ((h.cells _ _ htb).trans g1) (And.intro ((h.cells _ _ htb).trans g2) (And.intro ((h.cells _ _ htb).trans g3) (And.intro ((h.cells _ _ htb).trans g4) (((h.cells _ _ htb).trans g5))))))))));(refine Jw (fun w'=>Ext W w') 13 (by kernel_rfl) ((Ext.refl _).drew) (fun hS=>?_);simp only [List.length_cons,List.length_nil]);(refine tkA 0 HK hS ?_;refine tkA 1 HK hS ?_;refine tkA 2 HK hS ?_;refine tkA 3 HK hS ?_;refine tkA 4 HK hS ?_;refine tkA 5 HK hS ?_;refine tkA 6 HK hS ?_;refine tkA 7 HK hS ?_);(refine oA 8 fun K hK=>?_;go_simp);refine (HJ.out _).mono ?_;rintro e w5 ⟨rfl,h5⟩;have H5:=hH h5;clear h5 hS
  (go_wp2_with fail;have hS : Ext W w5:=by exact Je);(refine hK.out _ _ (.inr hS) ?_;clear hK;(try simp only [Act.put,Jm]))
  ((refine oA 9 fun K hK=>?_;go_simp;refine hK.out _ _ (.inr hS) ?_;clear hK;(try simp only [Act.put,Jm])));(refine tkA 10 HK hS ?_;refine tkA 11 HK hS ?_;refine tkA 12 HK hS ?_);(refine oA 13 fun K hK=>?_;go_simp;refine hK.out _ _ (.inl (by kernel_rfl)) ?_;clear hK;(try simp only [Act.put,Jm]);refine Ju (by kernel_rfl) ?_ _);clear HK g0 g1 g2 g3 g4 g5;(refine Ji w5 w.heap.size fun qd_0 fd_0 ld_0 Rd_0=>?_;refine Ji w5 (w.heap.size + 1) fun qd_1 fd_1 ld_1 Rd_1=>?_;refine Ji w5 (w.heap.size + 1 + 1) fun qd_2 fd_2 ld_2 Rd_2=>?_);go_upto_region 18 with fail;(apply Xj (w0:=w5) (g0:=w.heap.size) (g1:=w.heap.size + 1) (g2:=w.heap.size + 1 + 1);(focus (exact rowA));(focus (exact rowA));(focus (exact rowA));(focus (exact Je));intro Y HY hzY Rb_0 Rb_1 Rb_2;(try simp only [Jm,World.size_alloc,size_set,World.heap_drewN,size_drew] at hzY Rb_0 Rb_1 Rb_2);have lb_0:=Rb_0.out.size;have lb_1:=Rb_1.out.size;have lb_2:=Rb_2.out.size);obtain ⟨i0,ji,ji0,ji1,ji2⟩:=info_parts Xi;obtain ⟨k0,kj,kj0,kj1,kj2⟩:=info_parts info_it;have HK:=hH (fun w' (h : Ext Y w')=>And.intro (Row.ext h Rb_0.out).2.1 ((Row.ext h Rb_1.out).2.1));(refine Jw (fun w'=>Ext Y w') 16 (by kernel_rfl) ((Ext.refl _).drew) (fun hS=>?_);simp only [List.length_cons,List.length_nil]);(refine tkR 0 HK hS ?_;refine tkR 1 HK hS ?_;refine tkR 3 HK hS ?_;refine tkR 4 HK hS ?_;refine tkR 6 HK hS ?_;refine tkR 10 HK hS ?_;refine tkR 11 HK hS ?_);(refine tkP 13 ?_;refine tkP 17 ?_;refine tkP 18 ?_)
  have hwy : Ext w Y:=by exact Je
  refine T_jobs' 8 (fun _=>False) 0 [⟨2,85,none,none,57,5,([] : List Tp).length,encs tpc []⟩,⟨7,90,none,none,57,5,[p].length,encs tpc [p]⟩,⟨5,88,some 0,none,57,5,([] ++ l.Jf).length,encs tpc ([] ++ l.Jf)⟩,⟨8,91,some 2,some 1,57,5,(([] ++ l.Jf) ++ [p]).length,encs tpc (([] ++ l.Jf) ++ [p])⟩,⟨9,92,none,none,3,1,([] : List Int).length,encs inc []⟩,⟨14,97,none,none,3,1,[jv].length,encs inc [jv]⟩,⟨12,95,some 4,none,3,1,([] ++ l.Jd).length,encs inc ([] ++ l.Jd)⟩,⟨15,98,some 6,some 5,3,1,(([] ++ l.Jd) ++ [jv]).length,encs inc (([] ++ l.Jd) ++ [jv])⟩] [false,false,false,false,false,false,false,false]
   (fun _=>none) rfl rfl (by kernel_rfl) (by kernel_rfl) (by kernel_rfl) (by kernel_rfl) ?hd ?hb ?hI ?hg ?hS ?hj ?hf
  case hd=>intro q J hq;rcases q with _ | _ | _ | _ | _ | _ | _ | _ | q <;> simp only [List.getElem?_cons_zero,List.getElem?_cons_succ,List.getElem?_nil,Option.some.injEq,reduceCtorEq] at hq <;> subst hq <;> simp
  case hb=>exact Nat.zero_le _
  case hI=>exact Inv.none
  case hg=>intro q J hq hb;rcases q with _ | _ | _ | _ | _ | _ | _ | _ | q <;> simp only [List.getElem?_cons_zero,List.getElem?_cons_succ,List.getElem?_nil,Option.some.injEq,reduceCtorEq] at hq hb <;> simp at hb
  case hS=>exact fun W h=>hS.trans h.ext
  case hj =>
   intro q J hq hb
   rcases q with _ | _ | _ | _ | _ | _ | _ | _ | q <;> simp only [List.getElem?_cons_zero,List.getElem?_cons_succ,List.getElem?_nil,Option.some.injEq,reduceCtorEq] at hq hb <;> subst hq
   ·refine Zu (enc:=tpc) [] Jr rfl rfl rfl rfl rfl (by simp [maxLen]) rfl (fun a _=>Jt rfl) (fun a W K hag hK=>bs0_tp a W K ?_)
    simpa [encs] using hK
   ·refine Zu (enc:=tpc) [p] Jr rfl rfl rfl rfl rfl (by simp [maxLen]) rfl (fun a _=>Jt rfl) (fun a W K hag hK=>bs1_tp p a W K ?_ ?_)
    ·rw [hag.eval (by rfl)];rfl
    ·simpa [encs] using hK
   ·exact ZF (enc:=tpc) (px:=0) (yt:=87) [] l.Jf Tryz.underlying23 ji ji0 ji1 ji2 rfl (by decide) Jr rfl rfl ⟨rfl,rfl,rfl,rfl⟩ ⟨rfl,rfl,rfl,rfl⟩ _ (by rfl) rfl (fun W h=>HT1.out.ext (hwy.trans (hS.trans h.ext))) rfl (fun a _=>Jt rfl) rfl rfl (Xn _) (by unfold maxLen;simp;omega) (by simp;omega)
   ·exact owes_app (enc:=tpc) (px:=2) (py:=1) ([] ++ l.Jf) [p] Tryz.underlying23 ji ji0 ji1 ji2 rfl (by decide) Jr rfl rfl rfl rfl ⟨rfl,rfl,rfl,rfl⟩ ⟨rfl,rfl,rfl,rfl⟩ ⟨rfl,rfl,rfl,rfl⟩ rfl (fun a _=>Jt rfl) rfl rfl (Xn [p]) (by unfold maxLen;simp;omega) (by simp;omega)
   ·refine Zu (enc:=inc) [] JD rfl rfl rfl rfl rfl (by simp [maxLen]) rfl (fun a _=>Jt rfl) (fun a W K hag hK=>?_)
    go_simp
    simpa [encs,inc,Act.put] using hK
   ·refine Zu (enc:=inc) [jv] JD rfl rfl rfl rfl rfl (by simp [maxLen]) rfl (fun a _=>Jt rfl) (fun a W K hag hK=>?_)
    have he : a.tmps[96]? = some (.int .i64 jv):=hag.tmp (by rfl);go_simp
    simpa [encs,inc,Act.put] using hK
   ·exact ZF (enc:=inc) (px:=4) (yt:=94) [] l.Jd Tryz.underlying24 kj kj0 kj1 kj2 rfl (by decide) JD rfl rfl ⟨rfl,rfl,rfl,rfl⟩ ⟨rfl,rfl,rfl,rfl⟩ _ (by rfl) rfl (fun W h=>HT2.out.ext (hwy.trans (hS.trans h.ext))) rfl (fun a _=>Jt rfl) rfl rfl (in_one _) (by have:=HLEN.out;unfold maxLen;simp;omega) (by have:=HLEN.out;simp;omega)
   ·exact owes_app (enc:=inc) (px:=6) (py:=5) ([] ++ l.Jd) [jv] Tryz.underlying24 kj kj0 kj1 kj2 rfl (by decide) JD rfl rfl rfl rfl ⟨rfl,rfl,rfl,rfl⟩ ⟨rfl,rfl,rfl,rfl⟩ ⟨rfl,rfl,rfl,rfl⟩ rfl (fun a _=>Jt rfl) rfl rfl (in_one [jv]) (by have:=HLEN.out;unfold maxLen;simp;omega) (by have:=HLEN.out;simp;omega)
  case hf =>
   intro f Z rows hinv hrows;have h3:=hrows 3 _ rfl (by intro q K hq;rcases q with _ | _ | _ | _ | _ | _ | _ | _ | q <;> simp only [List.getElem?_cons_zero,List.getElem?_cons_succ,List.getElem?_nil,Option.some.injEq,reduceCtorEq] at hq <;> subst hq <;> simp);have h7:=hrows 7 _ rfl (by intro q K hq;rcases q with _ | _ | _ | _ | _ | _ | _ | _ | q <;> simp only [List.getElem?_cons_zero,List.getElem?_cons_succ,List.getElem?_nil,Option.some.injEq,reduceCtorEq] at hq <;> subst hq <;> simp);have o3 : Jh 57 5 tpc 0 Z (f 3) (([] ++ l.Jf) ++ [p]):=hinv.ok 3 _ h3;have o7 : Jh 3 1 inc 0 Z (f 7) (([] ++ l.Jd) ++ [jv]):=hinv.ok 7 _ h7;have HZ:=hH (hS.trans hinv.fr.ext)
   have m3 : ∀ q,(f 3).ownBlock = some q -> w.heap.size <= q:=fun q h=>by
    rcases hinv.home 3 _ _ h3 h with h | h
    ·(try simp only [lSz] at h);omega
    ·exact absurd h id
   have n3 : (f 3).ownBlock ≠ some (w.heap.size + 1 + 1):=fun h=>by
    rcases hinv.home 3 _ _ h3 h with h | h
    ·simp at h;omega
    ·exact h
   have m7 : ∀ q,(f 7).ownBlock = some q -> w.heap.size <= q:=fun q h=>by
    rcases hinv.home 7 _ _ h7 h with h | h
    ·(try simp only [lSz] at h);omega
    ·exact absurd h id
   have n7 : (f 7).ownBlock ≠ some (w.heap.size + 1 + 1):=fun h=>by
    rcases hinv.home 7 _ _ h7 h with h | h
    ·simp at h;omega
    ·exact h
   have hS3:=hS.trans hinv.fr.ext;clear hinv hrows h3 h7 hS;have hS:=hS3;clear hS3;simp only [XQ,if_true,if_false,Bool.false_eq_true,Act.put,Jm,Nat.zero_add,Nat.reduceAdd];generalize f 3 = v3 at *;generalize f 7 = v7 at *;obtain ⟨B3,d3,rfl⟩:=o3.form;obtain ⟨B7,d7,rfl⟩:=o7.form;rw [show (([] ++ l.Jf) ++ [p] : List Tp).length = l.Jf.length + 1 by simp] at o3 n3 m3 ⊢;rw [show (([] ++ l.Jd) ++ [jv] : List Int).length = l.Jd.length + 1 by simp] at o7 n7 m7 ⊢;rw [List.nil_append] at o3 o7;have HO3:=hH o3;have HO7:=hH o7
   have HN3:=hH n3;have HM3:=hH m3
   have HN7:=hH n7;have HM7:=hH m7
   clear o3 o7 n3 n7 m3 m7;(refine Ji Z (w.heap.size + 1 + 1) fun qn_0 fn_0 ln_0 Rn_0=>?_);((refine oA 16 fun K hK=>?_;go_simp;refine hK.out _ _ (.inr hS) ?_;clear hK;(try simp only [Act.put,Jm])));((refine oA 19 fun K hK=>?_;go_simp;refine hK.out _ _ (.inl (by kernel_rfl)) ?_;clear hK;(try simp only [Act.put,Jm])));((refine oA 20 fun K hK=>?_;go_simp;refine hK.out _ _ (.inl (by kernel_rfl)) ?_;clear hK;(try simp only [Act.put,Jm])));clear hS;(refine oA 21 fun K hK=>?_;go_simp;refine hK.out _ _ (.inl (by kernel_rfl)) ?_;clear hK;(try simp only [Act.put,Jm]);refine Ju (by kernel_rfl) ?_ _);go_wp2_with fail;refine bodyPost_ret (v:=.tuple #[.agg #[.slice (some ⟨tb,tof,none⟩) l.Jc.length c0,.slice B3 (l.Jf.length + 1) d3,.slice B7 (l.Jd.length + 1) d7],.int .i64 jv,.int .i64 0]) (by simp [results,Tryz.results63,go_sem, *]) rfl ⟨_,_,_,rfl,(Je : Ext w _),(HTR.out.ext (Je : Ext w _)).oldP HB0.out,?_,?_⟩
   ·exact ((((HO3.out.put HN3.out _).put HN3.out _).put HN3.out _).rd Jr).freshP HM3.out
   ·exact ((((HO7.out.put HN7.out _).put HN7.out _).put HN7.out _).rd JD).freshP HM7.out
 obtain ⟨m,hm⟩ : ∃ m,l.Jf.length = m + 1:=⟨l.Jf.length - 1,by omega⟩;have hng : decide (0 < l.Jf.length) = true:=decide_eq_true (by omega);have hng2 : decide (0 < (l.Jf.length : Int)) = true:=decide_eq_true (by omega)
 have hml : m < l.Jf.length:=by omega
 have hw1 : IntKind.i64.wrap ((l.Jf.length : Int) - 1) = (m : Int):=by rw [IntWalk.i64_in _ (by omega)];omega
 have hm0 : 0 <= (m : Int):=by omega
 have hm1 : (m : Int) < (l.Jf.length : Int):=by omega
 obtain ⟨tb,tof,rfl,htb,-,-,-,c3,-⟩:=HT1.out.ZX rfl hml
 have hlast : lastInt l.Jf = l.Jf[m].time:=by
  unfold lastInt;rw [List.getLast?_eq_getElem?,show l.Jf.length - 1 = m by omega,List.getElem?_eq_getElem hml]
 rw [hlast] at hlate;generalize l.Jf[m].time = tl at *;clear hlast
 by_cases hlt : p.time < tl
 ·have hlb : decide (p.time < tl) = true:=decide_eq_true hlt
  rw [hlate,decide_eq_true ⟨by omega,hlt⟩,if_pos rfl] at HV;subst HV;rw [if_pos (by simp)] at HX;subst HX;clear hlate hlen hA hm HJ;go_enter Tryz.func63,Tryz.ntmps63;go_wp2_with fail;(refine gA (HCT.out _) fun w1 H1 hz1=>?_;refine Ji w1 w.heap.size fun q1_0 f1_0 l1_0 R1_0=>?_;refine Ji w1 (w.heap.size + 1) fun q1_1 f1_1 l1_1 R1_1=>?_;refine Ji w1 (w.heap.size + 1 + 1) fun q1_2 f1_2 l1_2 R1_2=>?_);go_wp2_with fail;(refine gA (HTA.out _ Je) fun w2 H2 hz2=>?_;refine Ji w2 w.heap.size fun q2_0 f2_0 l2_0 R2_0=>?_;refine Ji w2 (w.heap.size + 1) fun q2_1 f2_1 l2_1 R2_1=>?_;refine Ji w2 (w.heap.size + 1 + 1) fun q2_2 f2_2 l2_2 R2_2=>?_);go_wp2_with fail;(refine gA (HTW.out _ Je) fun w3 H3 hz3=>?_;refine Ji w3 w.heap.size fun q3_0 f3_0 l3_0 R3_0=>?_;refine Ji w3 (w.heap.size + 1) fun q3_1 f3_1 l3_1 R3_1=>?_;refine Ji w3 (w.heap.size + 1 + 1) fun q3_2 f3_2 l3_2 R3_2=>?_);have m3:=((Je : Ext w w3).cells _ _ htb).trans c3;go_wp2_with fail;(try (go_quiet (fail);go_wp2_with fail));go_wp2_with fail;refine bodyPost_ret (v:=.tuple #[.agg #[.slice none 0 0,.slice none 0 0,.slice none 0 0],.int .i64 0,.int .i64 4]) (by simp [results,Tryz.results63,go_sem, *]) rfl ⟨_,_,_,rfl,(Je : Ext w _),RdP.nil,RdP.nil,RdP.nil⟩
 have hlb : decide (p.time < tl) = false:=decide_eq_false hlt;rw [hlate,decide_eq_false (fun h=>hlt h.2),if_neg (by simp)] at HV;subst HV;clear hlate hlen hA;have HM:=hH hm;clear hm hn
 by_cases hje : je = 0
 case neg =>
  rw [if_pos hje] at HX;subst HX
  have hjb : (je != 0) = true:=by simpa using hje
  clear hje;go_enter Tryz.func63,Tryz.ntmps63;go_wp2_with fail;(refine gA (HCT.out _) fun w1 H1 hz1=>?_;refine Ji w1 w.heap.size fun q1_0 f1_0 l1_0 R1_0=>?_;refine Ji w1 (w.heap.size + 1) fun q1_1 f1_1 l1_1 R1_1=>?_;refine Ji w1 (w.heap.size + 1 + 1) fun q1_2 f1_2 l1_2 R1_2=>?_);go_wp2_with fail;(refine gA (HTA.out _ Je) fun w2 H2 hz2=>?_;refine Ji w2 w.heap.size fun q2_0 f2_0 l2_0 R2_0=>?_;refine Ji w2 (w.heap.size + 1) fun q2_1 f2_1 l2_1 R2_1=>?_;refine Ji w2 (w.heap.size + 1 + 1) fun q2_2 f2_2 l2_2 R2_2=>?_);go_wp2_with fail;(refine gA (HTW.out _ Je) fun w3 H3 hz3=>?_;refine Ji w3 w.heap.size fun q3_0 f3_0 l3_0 R3_0=>?_;refine Ji w3 (w.heap.size + 1) fun q3_1 f3_1 l3_1 R3_1=>?_;refine Ji w3 (w.heap.size + 1 + 1) fun q3_2 f3_2 l3_2 R3_2=>?_);have m3:=((Je : Ext w w3).cells _ _ htb).trans c3;go_wp2_with fail;(try (go_quiet (fail);go_wp2_with fail));(refine gA (HMO.out _ Je) fun w4 H4 hz4=>?_;refine Ji w4 w.heap.size fun q4_0 f4_0 l4_0 R4_0=>?_;refine Ji w4 (w.heap.size + 1) fun q4_1 f4_1 l4_1 R4_1=>?_;refine Ji w4 (w.heap.size + 1 + 1) fun q4_2 f4_2 l4_2 R4_2=>?_);go_upto_region 13 with fail;(apply Xj (w0:=w4) (g0:=w.heap.size) (g1:=w.heap.size + 1) (g2:=w.heap.size + 1 + 1);(focus (exact rowA));(focus (exact rowA));(focus (exact rowA));(focus (exact Je));intro W HW hzW Ra_0 Ra_1 Ra_2;(try simp only [Jm,World.size_alloc,size_set,World.heap_drewN,size_drew] at hzW Ra_0 Ra_1 Ra_2);have la_0:=Ra_0.out.size;have la_1:=Ra_1.out.size;have la_2:=Ra_2.out.size);obtain ⟨xb,xof,rfl,hxb,g0,g1,g2,g3,g4,g5⟩:=(HTR.out.ext (Je : Ext w W)).XC rfl hkl;rw [HTT.out] at g0 g1 g2 g3 g4 g5;have HK:=hH (fun w' (h : Ext W w')=>And.intro (Row.ext h Ra_0.out).2.1 (And.intro (Row.ext h Ra_1.out).2.1 (And.intro (Row.ext h Ra_2.out).2.1 (And.intro ((h.cells _ _ hxb).trans g0) (And.intro ((h.cells _ _ hxb).trans g1) (And.intro ((h.cells _ _ hxb).trans g2) (And.intro ((h.cells _ _ hxb).trans g3) (And.intro ((h.cells _ _ hxb).trans g4) (((h.cells _ _ hxb).trans g5))))))))));(refine Jw (fun w'=>Ext W w') 13 (by kernel_rfl) ((Ext.refl _).drew) (fun hS=>?_);simp only [List.length_cons,List.length_nil]);(refine tkA 0 HK hS ?_;refine tkA 1 HK hS ?_;refine tkA 2 HK hS ?_;refine tkA 3 HK hS ?_;refine tkA 4 HK hS ?_;refine tkA 5 HK hS ?_;refine tkA 6 HK hS ?_;refine tkA 7 HK hS ?_);(refine oA 8 fun K hK=>?_;go_simp);refine (HJ.out _).mono ?_;rintro e w5 ⟨rfl,h5⟩;have H5:=hH h5;clear h5 hS
  (go_wp2_with fail;have hS : Ext W w5:=by exact Je);(refine hK.out _ _ (.inr hS) ?_;clear hK;(try simp only [Act.put,Jm]))
  ((refine oA 9 fun K hK=>?_;go_simp;refine hK.out _ _ (.inr hS) ?_;clear hK;(try simp only [Act.put,Jm])));(refine tkA 10 HK hS ?_;refine tkA 11 HK hS ?_;refine tkA 12 HK hS ?_);(refine oA 13 fun K hK=>?_;go_simp;refine hK.out _ _ (.inl (by kernel_rfl)) ?_;clear hK;(try simp only [Act.put,Jm]);refine Ju (by kernel_rfl) ?_ _);clear HK g0 g1 g2 g3 g4 g5;(refine Ji w5 w.heap.size fun qd_0 fd_0 ld_0 Rd_0=>?_;refine Ji w5 (w.heap.size + 1) fun qd_1 fd_1 ld_1 Rd_1=>?_;refine Ji w5 (w.heap.size + 1 + 1) fun qd_2 fd_2 ld_2 Rd_2=>?_);go_wp2_with fail;refine bodyPost_ret (v:=.tuple #[.agg #[.slice none 0 0,.slice none 0 0,.slice none 0 0],.int .i64 jv,.int .i64 je]) (by simp [results,Tryz.results63,go_sem, *]) rfl ⟨_,_,_,rfl,(Je : Ext w _),RdP.nil,RdP.nil,RdP.nil⟩
 subst hje;rw [if_neg (by simp)] at HX
 by_cases h6 : l.Jf.length = 60
 case pos =>
  rw [if_pos h6] at HX;subst HX
  have h6b : ((l.Jf.length : Int) == 60) = true:=by rw [beq_iff_eq];omega
  clear h6;go_enter Tryz.func63,Tryz.ntmps63;go_wp2_with fail;(refine gA (HCT.out _) fun w1 H1 hz1=>?_;refine Ji w1 w.heap.size fun q1_0 f1_0 l1_0 R1_0=>?_;refine Ji w1 (w.heap.size + 1) fun q1_1 f1_1 l1_1 R1_1=>?_;refine Ji w1 (w.heap.size + 1 + 1) fun q1_2 f1_2 l1_2 R1_2=>?_);go_wp2_with fail;(refine gA (HTA.out _ Je) fun w2 H2 hz2=>?_;refine Ji w2 w.heap.size fun q2_0 f2_0 l2_0 R2_0=>?_;refine Ji w2 (w.heap.size + 1) fun q2_1 f2_1 l2_1 R2_1=>?_;refine Ji w2 (w.heap.size + 1 + 1) fun q2_2 f2_2 l2_2 R2_2=>?_);go_wp2_with fail;(refine gA (HTW.out _ Je) fun w3 H3 hz3=>?_;refine Ji w3 w.heap.size fun q3_0 f3_0 l3_0 R3_0=>?_;refine Ji w3 (w.heap.size + 1) fun q3_1 f3_1 l3_1 R3_1=>?_;refine Ji w3 (w.heap.size + 1 + 1) fun q3_2 f3_2 l3_2 R3_2=>?_);have m3:=((Je : Ext w w3).cells _ _ htb).trans c3;go_wp2_with fail;(try (go_quiet (fail);go_wp2_with fail));(refine gA (HMO.out _ Je) fun w4 H4 hz4=>?_;refine Ji w4 w.heap.size fun q4_0 f4_0 l4_0 R4_0=>?_;refine Ji w4 (w.heap.size + 1) fun q4_1 f4_1 l4_1 R4_1=>?_;refine Ji w4 (w.heap.size + 1 + 1) fun q4_2 f4_2 l4_2 R4_2=>?_);go_upto_region 13 with fail;(apply Xj (w0:=w4) (g0:=w.heap.size) (g1:=w.heap.size + 1) (g2:=w.heap.size + 1 + 1);(focus (exact rowA));(focus (exact rowA));(focus (exact rowA));(focus (exact Je));intro W HW hzW Ra_0 Ra_1 Ra_2;(try simp only [Jm,World.size_alloc,size_set,World.heap_drewN,size_drew] at hzW Ra_0 Ra_1 Ra_2);have la_0:=Ra_0.out.size;have la_1:=Ra_1.out.size;have la_2:=Ra_2.out.size);obtain ⟨xb,xof,rfl,hxb,g0,g1,g2,g3,g4,g5⟩:=(HTR.out.ext (Je : Ext w W)).XC rfl hkl;rw [HTT.out] at g0 g1 g2 g3 g4 g5;have HK:=hH (fun w' (h : Ext W w')=>And.intro (Row.ext h Ra_0.out).2.1 (And.intro (Row.ext h Ra_1.out).2.1 (And.intro (Row.ext h Ra_2.out).2.1 (And.intro ((h.cells _ _ hxb).trans g0) (And.intro ((h.cells _ _ hxb).trans g1) (And.intro ((h.cells _ _ hxb).trans g2) (And.intro ((h.cells _ _ hxb).trans g3) (And.intro ((h.cells _ _ hxb).trans g4) (((h.cells _ _ hxb).trans g5))))))))));(refine Jw (fun w'=>Ext W w') 13 (by kernel_rfl) ((Ext.refl _).drew) (fun hS=>?_);simp only [List.length_cons,List.length_nil]);(refine tkA 0 HK hS ?_;refine tkA 1 HK hS ?_;refine tkA 2 HK hS ?_;refine tkA 3 HK hS ?_;refine tkA 4 HK hS ?_;refine tkA 5 HK hS ?_;refine tkA 6 HK hS ?_;refine tkA 7 HK hS ?_);(refine oA 8 fun K hK=>?_;go_simp);refine (HJ.out _).mono ?_;rintro e w5 ⟨rfl,h5⟩;have H5:=hH h5;clear h5 hS
  (go_wp2_with fail;have hS : Ext W w5:=by exact Je);(refine hK.out _ _ (.inr hS) ?_;clear hK;(try simp only [Act.put,Jm]))
  ((refine oA 9 fun K hK=>?_;go_simp;refine hK.out _ _ (.inr hS) ?_;clear hK;(try simp only [Act.put,Jm])));(refine tkA 10 HK hS ?_;refine tkA 11 HK hS ?_;refine tkA 12 HK hS ?_);(refine oA 13 fun K hK=>?_;go_simp;refine hK.out _ _ (.inl (by kernel_rfl)) ?_;clear hK;(try simp only [Act.put,Jm]);refine Ju (by kernel_rfl) ?_ _);clear HK g0 g1 g2 g3 g4 g5;(refine Ji w5 w.heap.size fun qd_0 fd_0 ld_0 Rd_0=>?_;refine Ji w5 (w.heap.size + 1) fun qd_1 fd_1 ld_1 Rd_1=>?_;refine Ji w5 (w.heap.size + 1 + 1) fun qd_2 fd_2 ld_2 Rd_2=>?_);go_wp2_with fail;refine bodyPost_ret (v:=.tuple #[.agg #[.slice none 0 0,.slice none 0 0,.slice none 0 0],.int .i64 0,.int .i64 2]) (by simp [results,Tryz.results63,go_sem, *]) rfl ⟨_,_,_,rfl,(Je : Ext w _),RdP.nil,RdP.nil,RdP.nil⟩
 have h6b : ((l.Jf.length : Int) == 60) = false:=by rw [beq_eq_false_iff_ne];omega
 rw [if_neg h6] at HX;have H59:=hH h6;clear h6;subst HX;go_enter Tryz.func63,Tryz.ntmps63;go_wp2_with fail;(refine gA (HCT.out _) fun w1 H1 hz1=>?_;refine Ji w1 w.heap.size fun q1_0 f1_0 l1_0 R1_0=>?_;refine Ji w1 (w.heap.size + 1) fun q1_1 f1_1 l1_1 R1_1=>?_;refine Ji w1 (w.heap.size + 1 + 1) fun q1_2 f1_2 l1_2 R1_2=>?_);go_wp2_with fail;(refine gA (HTA.out _ Je) fun w2 H2 hz2=>?_;refine Ji w2 w.heap.size fun q2_0 f2_0 l2_0 R2_0=>?_;refine Ji w2 (w.heap.size + 1) fun q2_1 f2_1 l2_1 R2_1=>?_;refine Ji w2 (w.heap.size + 1 + 1) fun q2_2 f2_2 l2_2 R2_2=>?_);go_wp2_with fail;(refine gA (HTW.out _ Je) fun w3 H3 hz3=>?_;refine Ji w3 w.heap.size fun q3_0 f3_0 l3_0 R3_0=>?_;refine Ji w3 (w.heap.size + 1) fun q3_1 f3_1 l3_1 R3_1=>?_;refine Ji w3 (w.heap.size + 1 + 1) fun q3_2 f3_2 l3_2 R3_2=>?_);have m3:=((Je : Ext w w3).cells _ _ htb).trans c3;go_wp2_with fail;(try (go_quiet (fail);go_wp2_with fail));(refine gA (HMO.out _ Je) fun w4 H4 hz4=>?_;refine Ji w4 w.heap.size fun q4_0 f4_0 l4_0 R4_0=>?_;refine Ji w4 (w.heap.size + 1) fun q4_1 f4_1 l4_1 R4_1=>?_;refine Ji w4 (w.heap.size + 1 + 1) fun q4_2 f4_2 l4_2 R4_2=>?_);go_upto_region 13 with fail;(apply Xj (w0:=w4) (g0:=w.heap.size) (g1:=w.heap.size + 1) (g2:=w.heap.size + 1 + 1);(focus (exact rowA));(focus (exact rowA));(focus (exact rowA));(focus (exact Je));intro W HW hzW Ra_0 Ra_1 Ra_2;(try simp only [Jm,World.size_alloc,size_set,World.heap_drewN,size_drew] at hzW Ra_0 Ra_1 Ra_2);have la_0:=Ra_0.out.size;have la_1:=Ra_1.out.size;have la_2:=Ra_2.out.size);obtain ⟨xb,xof,rfl,hxb,g0,g1,g2,g3,g4,g5⟩:=(HTR.out.ext (Je : Ext w W)).XC rfl hkl;rw [HTT.out] at g0 g1 g2 g3 g4 g5;have HK:=hH (fun w' (h : Ext W w')=>And.intro (Row.ext h Ra_0.out).2.1 (And.intro (Row.ext h Ra_1.out).2.1 (And.intro (Row.ext h Ra_2.out).2.1 (And.intro ((h.cells _ _ hxb).trans g0) (And.intro ((h.cells _ _ hxb).trans g1) (And.intro ((h.cells _ _ hxb).trans g2) (And.intro ((h.cells _ _ hxb).trans g3) (And.intro ((h.cells _ _ hxb).trans g4) (((h.cells _ _ hxb).trans g5))))))))));(refine Jw (fun w'=>Ext W w') 13 (by kernel_rfl) ((Ext.refl _).drew) (fun hS=>?_);simp only [List.length_cons,List.length_nil]);(refine tkA 0 HK hS ?_;refine tkA 1 HK hS ?_;refine tkA 2 HK hS ?_;refine tkA 3 HK hS ?_;refine tkA 4 HK hS ?_;refine tkA 5 HK hS ?_;refine tkA 6 HK hS ?_;refine tkA 7 HK hS ?_);(refine oA 8 fun K hK=>?_;go_simp);refine (HJ.out _).mono ?_;rintro e w5 ⟨rfl,h5⟩;have H5:=hH h5;clear h5 hS
 (go_wp2_with fail;have hS : Ext W w5:=by exact Je);(refine hK.out _ _ (.inr hS) ?_;clear hK;(try simp only [Act.put,Jm]))
 ((refine oA 9 fun K hK=>?_;go_simp;refine hK.out _ _ (.inr hS) ?_;clear hK;(try simp only [Act.put,Jm])));(refine tkA 10 HK hS ?_;refine tkA 11 HK hS ?_;refine tkA 12 HK hS ?_);(refine oA 13 fun K hK=>?_;go_simp;refine hK.out _ _ (.inl (by kernel_rfl)) ?_;clear hK;(try simp only [Act.put,Jm]);refine Ju (by kernel_rfl) ?_ _);clear HK g0 g1 g2 g3 g4 g5;(refine Ji w5 w.heap.size fun qd_0 fd_0 ld_0 Rd_0=>?_;refine Ji w5 (w.heap.size + 1) fun qd_1 fd_1 ld_1 Rd_1=>?_;refine Ji w5 (w.heap.size + 1 + 1) fun qd_2 fd_2 ld_2 Rd_2=>?_);go_upto_region 18 with fail;(apply Xj (w0:=w5) (g0:=w.heap.size) (g1:=w.heap.size + 1) (g2:=w.heap.size + 1 + 1);(focus (exact rowA));(focus (exact rowA));(focus (exact rowA));(focus (exact Je));intro Y HY hzY Rb_0 Rb_1 Rb_2;(try simp only [Jm,World.size_alloc,size_set,World.heap_drewN,size_drew] at hzY Rb_0 Rb_1 Rb_2);have lb_0:=Rb_0.out.size;have lb_1:=Rb_1.out.size;have lb_2:=Rb_2.out.size);obtain ⟨i0,ji,ji0,ji1,ji2⟩:=info_parts Xi;obtain ⟨k0,kj,kj0,kj1,kj2⟩:=info_parts info_it;have HK:=hH (fun w' (h : Ext Y w')=>And.intro (Row.ext h Rb_0.out).2.1 ((Row.ext h Rb_1.out).2.1));(refine Jw (fun w'=>Ext Y w') 16 (by kernel_rfl) ((Ext.refl _).drew) (fun hS=>?_);simp only [List.length_cons,List.length_nil]);(refine tkR 0 HK hS ?_;refine tkR 1 HK hS ?_;refine tkR 3 HK hS ?_;refine tkR 4 HK hS ?_;refine tkR 6 HK hS ?_;refine tkR 10 HK hS ?_;refine tkR 11 HK hS ?_);(refine tkP 13 ?_;refine tkP 17 ?_;refine tkP 18 ?_)
 have hwy : Ext w Y:=by exact Je
 refine T_jobs' 8 (fun _=>False) 0 [⟨2,85,none,none,57,5,([] : List Tp).length,encs tpc []⟩,⟨7,90,none,none,57,5,[p].length,encs tpc [p]⟩,⟨5,88,some 0,none,57,5,([] ++ l.Jf).length,encs tpc ([] ++ l.Jf)⟩,⟨8,91,some 2,some 1,57,5,(([] ++ l.Jf) ++ [p]).length,encs tpc (([] ++ l.Jf) ++ [p])⟩,⟨9,92,none,none,3,1,([] : List Int).length,encs inc []⟩,⟨14,97,none,none,3,1,[jv].length,encs inc [jv]⟩,⟨12,95,some 4,none,3,1,([] ++ l.Jd).length,encs inc ([] ++ l.Jd)⟩,⟨15,98,some 6,some 5,3,1,(([] ++ l.Jd) ++ [jv]).length,encs inc (([] ++ l.Jd) ++ [jv])⟩] [false,false,false,false,false,false,false,false]
  (fun _=>none) rfl rfl (by kernel_rfl) (by kernel_rfl) (by kernel_rfl) (by kernel_rfl) ?hd ?hb ?hI ?hg ?hS ?hj ?hf
 case hd=>intro q J hq;rcases q with _ | _ | _ | _ | _ | _ | _ | _ | q <;> simp only [List.getElem?_cons_zero,List.getElem?_cons_succ,List.getElem?_nil,Option.some.injEq,reduceCtorEq] at hq <;> subst hq <;> simp
 case hb=>exact Nat.zero_le _
 case hI=>exact Inv.none
 case hg=>intro q J hq hb;rcases q with _ | _ | _ | _ | _ | _ | _ | _ | q <;> simp only [List.getElem?_cons_zero,List.getElem?_cons_succ,List.getElem?_nil,Option.some.injEq,reduceCtorEq] at hq hb <;> simp at hb
 case hS=>exact fun W h=>hS.trans h.ext
 case hj =>
  intro q J hq hb
  rcases q with _ | _ | _ | _ | _ | _ | _ | _ | q <;> simp only [List.getElem?_cons_zero,List.getElem?_cons_succ,List.getElem?_nil,Option.some.injEq,reduceCtorEq] at hq hb <;> subst hq
  ·refine Zu (enc:=tpc) [] Jr rfl rfl rfl rfl rfl (by simp [maxLen]) rfl (fun a _=>Jt rfl) (fun a W K hag hK=>bs0_tp a W K ?_)
   simpa [encs] using hK
  ·refine Zu (enc:=tpc) [p] Jr rfl rfl rfl rfl rfl (by simp [maxLen]) rfl (fun a _=>Jt rfl) (fun a W K hag hK=>bs1_tp p a W K ?_ ?_)
   ·rw [hag.eval (by rfl)];rfl
   ·simpa [encs] using hK
  ·exact ZF (enc:=tpc) (px:=0) (yt:=87) [] l.Jf Tryz.underlying23 ji ji0 ji1 ji2 rfl (by decide) Jr rfl rfl ⟨rfl,rfl,rfl,rfl⟩ ⟨rfl,rfl,rfl,rfl⟩ _ (by rfl) rfl (fun W h=>HT1.out.ext (hwy.trans (hS.trans h.ext))) rfl (fun a _=>Jt rfl) rfl rfl (Xn _) (by unfold maxLen;simp;omega) (by simp;omega)
  ·exact owes_app (enc:=tpc) (px:=2) (py:=1) ([] ++ l.Jf) [p] Tryz.underlying23 ji ji0 ji1 ji2 rfl (by decide) Jr rfl rfl rfl rfl ⟨rfl,rfl,rfl,rfl⟩ ⟨rfl,rfl,rfl,rfl⟩ ⟨rfl,rfl,rfl,rfl⟩ rfl (fun a _=>Jt rfl) rfl rfl (Xn [p]) (by unfold maxLen;simp;omega) (by simp;omega)
  ·refine Zu (enc:=inc) [] JD rfl rfl rfl rfl rfl (by simp [maxLen]) rfl (fun a _=>Jt rfl) (fun a W K hag hK=>?_)
   go_simp
   simpa [encs,inc,Act.put] using hK
  ·refine Zu (enc:=inc) [jv] JD rfl rfl rfl rfl rfl (by simp [maxLen]) rfl (fun a _=>Jt rfl) (fun a W K hag hK=>?_)
   have he : a.tmps[96]? = some (.int .i64 jv):=hag.tmp (by rfl);go_simp
   simpa [encs,inc,Act.put] using hK
  ·exact ZF (enc:=inc) (px:=4) (yt:=94) [] l.Jd Tryz.underlying24 kj kj0 kj1 kj2 rfl (by decide) JD rfl rfl ⟨rfl,rfl,rfl,rfl⟩ ⟨rfl,rfl,rfl,rfl⟩ _ (by rfl) rfl (fun W h=>HT2.out.ext (hwy.trans (hS.trans h.ext))) rfl (fun a _=>Jt rfl) rfl rfl (in_one _) (by have:=HLEN.out;unfold maxLen;simp;omega) (by have:=HLEN.out;simp;omega)
  ·exact owes_app (enc:=inc) (px:=6) (py:=5) ([] ++ l.Jd) [jv] Tryz.underlying24 kj kj0 kj1 kj2 rfl (by decide) JD rfl rfl rfl rfl ⟨rfl,rfl,rfl,rfl⟩ ⟨rfl,rfl,rfl,rfl⟩ ⟨rfl,rfl,rfl,rfl⟩ rfl (fun a _=>Jt rfl) rfl rfl (in_one [jv]) (by have:=HLEN.out;unfold maxLen;simp;omega) (by have:=HLEN.out;simp;omega)
 case hf =>
  intro f Z rows hinv hrows;have h3:=hrows 3 _ rfl (by intro q K hq;rcases q with _ | _ | _ | _ | _ | _ | _ | _ | q <;> simp only [List.getElem?_cons_zero,List.getElem?_cons_succ,List.getElem?_nil,Option.some.injEq,reduceCtorEq] at hq <;> subst hq <;> simp);have h7:=hrows 7 _ rfl (by intro q K hq;rcases q with _ | _ | _ | _ | _ | _ | _ | _ | q <;> simp only [List.getElem?_cons_zero,List.getElem?_cons_succ,List.getElem?_nil,Option.some.injEq,reduceCtorEq] at hq <;> subst hq <;> simp);have o3 : Jh 57 5 tpc 0 Z (f 3) (([] ++ l.Jf) ++ [p]):=hinv.ok 3 _ h3;have o7 : Jh 3 1 inc 0 Z (f 7) (([] ++ l.Jd) ++ [jv]):=hinv.ok 7 _ h7;have HZ:=hH (hS.trans hinv.fr.ext)
  have m3 : ∀ q,(f 3).ownBlock = some q -> w.heap.size <= q:=fun q h=>by
   rcases hinv.home 3 _ _ h3 h with h | h
   ·(try simp only [lSz] at h);omega
   ·exact absurd h id
  have n3 : (f 3).ownBlock ≠ some (w.heap.size + 1 + 1):=fun h=>by
   rcases hinv.home 3 _ _ h3 h with h | h
   ·simp at h;omega
   ·exact h
  have m7 : ∀ q,(f 7).ownBlock = some q -> w.heap.size <= q:=fun q h=>by
   rcases hinv.home 7 _ _ h7 h with h | h
   ·(try simp only [lSz] at h);omega
   ·exact absurd h id
  have n7 : (f 7).ownBlock ≠ some (w.heap.size + 1 + 1):=fun h=>by
   rcases hinv.home 7 _ _ h7 h with h | h
   ·simp at h;omega
   ·exact h
  have hS3:=hS.trans hinv.fr.ext;clear hinv hrows h3 h7 hS;have hS:=hS3;clear hS3;simp only [XQ,if_true,if_false,Bool.false_eq_true,Act.put,Jm,Nat.zero_add,Nat.reduceAdd];generalize f 3 = v3 at *;generalize f 7 = v7 at *;obtain ⟨B3,d3,rfl⟩:=o3.form;obtain ⟨B7,d7,rfl⟩:=o7.form;rw [show (([] ++ l.Jf) ++ [p] : List Tp).length = l.Jf.length + 1 by simp] at o3 n3 m3 ⊢;rw [show (([] ++ l.Jd) ++ [jv] : List Int).length = l.Jd.length + 1 by simp] at o7 n7 m7 ⊢;rw [List.nil_append] at o3 o7;have HO3:=hH o3;have HO7:=hH o7
  have HN3:=hH n3;have HM3:=hH m3
  have HN7:=hH n7;have HM7:=hH m7
  clear o3 o7 n3 n7 m3 m7;(refine Ji Z (w.heap.size + 1 + 1) fun qn_0 fn_0 ln_0 Rn_0=>?_);((refine oA 16 fun K hK=>?_;go_simp;refine hK.out _ _ (.inr hS) ?_;clear hK;(try simp only [Act.put,Jm])));((refine oA 19 fun K hK=>?_;go_simp;refine hK.out _ _ (.inl (by kernel_rfl)) ?_;clear hK;(try simp only [Act.put,Jm])));((refine oA 20 fun K hK=>?_;go_simp;refine hK.out _ _ (.inl (by kernel_rfl)) ?_;clear hK;(try simp only [Act.put,Jm])));clear hS;(refine oA 21 fun K hK=>?_;go_simp;refine hK.out _ _ (.inl (by kernel_rfl)) ?_;clear hK;(try simp only [Act.put,Jm]);refine Ju (by kernel_rfl) ?_ _);go_wp2_with fail;refine bodyPost_ret (v:=.tuple #[.agg #[.slice (some ⟨xb,xof,none⟩) l.Jc.length c0,.slice B3 (l.Jf.length + 1) d3,.slice B7 (l.Jd.length + 1) d7],.int .i64 jv,.int .i64 0]) (by simp [results,Tryz.results63,go_sem, *]) rfl ⟨_,_,_,rfl,(Je : Ext w _),(HTR.out.ext (Je : Ext w _)).oldP HB0.out,?_,?_⟩
  ·exact ((((HO3.out.put HN3.out _).put HN3.out _).put HN3.out _).rd Jr).freshP HM3.out
  ·exact ((((HO7.out.put HN7.out _).put HN7.out _).put HN7.out _).rd JD).freshP HM7.out
end Go.Proofs.YteojjbhadgkfgaaGreat
