/- Qh: parts of the proofs, laid together. -/
import Derived.Test.YteojjbhadgkfgaaGreatQg
import Derived.Test.YteojjbhadgkfgaaGreatQa
import Derived.Test.YteojjbhadgkfgaaGreatQb
import Derived.Test.YteojjbhadgkfgaaGreatQf
/- The document's order of taps: IsBefore; a tap moved to its place. -/
set_option maxHeartbeats 64000000
namespace Go.Proofs.YteojjbhadgkfgaaGreat
set_option linter.unusedSimpArgs false
set_option linter.unusedVariables false
set_option maxRecDepth 100000
open Go Go.RowKit Lb

def insP (p : Tp) (l : List Tp) (k : Nat) : List Tp:=l.take k ++ p :: l.drop k
theorem Xg (p : Tp) (l : List Tp) (k : Nat) (h : k <= l.length) : (insP p l k).length = l.length + 1:=by
 unfold insP
 simp
 omega
theorem insP_all (p : Tp) (l : List Tp) : insP p l l.length = l ++ [p]:=by simp [insP]
theorem insP_here (p : Tp) (l : List Tp) (k : Nat) (h : k <= l.length) : (insP p l k)[k]'(by rw [Xg p l k h];omega) = p:=by
 unfold insP;rw [List.getElem_append_right (by simp;omega)]
 simp [Nat.min_eq_left h]
theorem insP_ahead (p : Tp) (l : List Tp) (k : Nat) (h : k <= l.length) (h0 : 0 < k) : (insP p l k)[k - 1]'(by rw [Xg p l k h];omega) = l[k - 1]'(by omega):=by
 unfold insP;rw [List.getElem_append_left (by simp;omega)]
 simp
theorem insP_swap (p : Tp) (l : List Tp) (k : Nat) (h : k <= l.length) (h0 : 0 < k) : ((insP p l k).set k (l[k - 1]'(by omega))).set (k - 1) p = insP p l (k - 1):=by
 obtain ⟨m,rfl⟩ : ∃ m,k = m + 1:=⟨k - 1,by omega⟩;simp only [Nat.add_sub_cancel]
 have key : ∀ (A B : List Tp) (y : Tp),((A ++ [y] ++ p :: B).set (A.length + 1) y).set A.length p = A ++ p :: y :: B:=by
  intro A B y
  simp [List.set_append]
 have hA : (l.take m).length = m:=by rw [List.length_take];omega
 have h3:=key (l.take m) (l.drop (m + 1)) (l[m]'(by omega));rw [hA,<- List.take_succ_eq_append_getElem (show m < l.length by omega),<- List.drop_eq_getElem_cons (show m < l.length by omega)] at h3;exact h3
theorem insP_perm (p : Tp) (l : List Tp) (k : Nat) : (insP p l k).Perm (l ++ [p]):=by
 unfold insP;refine List.perm_middle.trans ?_;rw [List.take_append_drop];exact (List.perm_append_singleton p l).symm
theorem insP_end {p : Tp} {l m : List Tp} (hr : risesT l) (hp : (l ++ [p]).Perm m) (hm : ZR m) {k : Nat} (hk : k <= l.length) (hb : ∀ (i : Nat) (hi : i < l.length),k <= i -> XL p l[i] = true) (ha : k = 0 \/ ∃ h : k - 1 < l.length,XL p l[k - 1] = false) : insP p l k = sortT m:=by
 have hall : ZR (l ++ [p]):=apartT_perm hp.symm hm;refine sortT_is ((insP_perm p l k).trans hp) ?_ hm;unfold insP risesT
 have hr2 : risesT (l.take k ++ l.drop k):=by rw [List.take_append_drop];exact hr
 obtain ⟨r1,r2,r3⟩:=List.pairwise_append.1 hr2;refine List.pairwise_append.2 ⟨r1,List.pairwise_cons.2 ⟨fun y hy=>?_,r2⟩,fun x hx y hy=>?_⟩
 ·obtain ⟨i,hi,rfl⟩:=List.mem_iff_getElem.1 hy
  simp only [List.length_drop] at hi;rw [List.getElem_drop];exact hb (k + i) (by omega) (by omega)
 ·rcases List.mem_cons.1 hy with rfl | hy
  ·rcases ha with rfl | ⟨h,ha⟩
   ·simp at hx
   ·have hlast : XL l[k - 1] y = true:=by
     refine ltTp_total ?_ ha;have:=(List.pairwise_append.1 hall).2.2 l[k - 1] (List.getElem_mem h) y (by simp);rw [sameNo_comm];exact this
    obtain ⟨i,hi,rfl⟩:=List.mem_iff_getElem.1 hx;simp only [List.length_take] at hi;rw [List.getElem_take]
    by_cases e : i = k - 1
    ·subst e;exact hlast
    ·exact ltTp_trans (List.pairwise_iff_getElem.1 hr i (k - 1) (by omega) h (by omega)) hlast
  ·exact r3 x hx y hy
theorem Jh.put_tp {e : TypeId} {base g n c : Nat} {w : World} {l : List Tp} (h : Jh e 5 tpc base w (.slice (some ⟨g,0,none⟩) n c) l) (j : Nat) (hj : j < l.length) (x : Tp) :
  Jh e 5 tpc base (((((w.setCell ⟨g,j * 5,none⟩ (.int .i64 x.ticket)).setCell ⟨g,j * 5 + 1,none⟩ (.int .i64 x.gate)).setCell ⟨g,j * 5 + 2,none⟩ (.int .i64 x.seq)).setCell ⟨g,j * 5 + 3,none⟩ (.int .i64 x.time)).setCell ⟨g,j * 5 + 4,none⟩ (.int .i64 x.zone)) (.slice (some ⟨g,0,none⟩) n c) (l.set j x):=by
 have h0:=h.JW Jr j 0 hj (by omega) { l[j] with ticket:=x.ticket } (.int .i64 x.ticket) (by simp [tpc]);have h1:=h0.JW Jr j 1 (by simpa using hj) (by omega) { l[j] with ticket:=x.ticket,gate:=x.gate } (.int .i64 x.gate) (by simp [tpc]);have h2:=h1.JW Jr j 2 (by simpa using hj) (by omega) { l[j] with ticket:=x.ticket,gate:=x.gate,seq:=x.seq } (.int .i64 x.seq) (by simp [tpc]);have h3:=h2.JW Jr j 3 (by simpa using hj) (by omega) { l[j] with ticket:=x.ticket,gate:=x.gate,seq:=x.seq,time:=x.time } (.int .i64 x.time) (by simp [tpc]);have h4:=h3.JW Jr j 4 (by simpa using hj) (by omega) x (.int .i64 x.zone) (by simp [tpc]);simp only [List.set_set,Nat.add_zero] at h4;exact h4

theorem ref_IsBefore (x y : Tp) (w : World) :
  Calls Tryz.prog 157 #[.agg (tpc x),.agg (tpc y)] w fun e w'=>e = .returned (.bool (XL x y)) /\ Ext w w':=by
 rw [show tpc x = #[.int .i64 x.ticket,.int .i64 x.gate,.int .i64 x.seq,.int .i64 x.time,.int .i64 x.zone] from rfl,show tpc y = #[.int .i64 y.ticket,.int .i64 y.gate,.int .i64 y.seq,.int .i64 y.time,.int .i64 y.zone] from rfl];unfold XL
 by_cases h1 : x.time = y.time
 ·have h1b : (x.time != y.time) = false:=by simpa using h1
  have e1 : (decide (x.time < y.time) || (x.time == y.time && (decide (x.gate < y.gate) || (x.gate == y.gate && decide (x.seq < y.seq))))) = (decide (x.gate < y.gate) || (x.gate == y.gate && decide (x.seq < y.seq))):=by simp [h1]
  rw [e1]
  by_cases h2 : x.gate = y.gate
  ·have h2b : (x.gate != y.gate) = false:=by simpa using h2
   have e2 : (decide (x.gate < y.gate) || (x.gate == y.gate && decide (x.seq < y.seq))) = decide (x.seq < y.seq):=by simp [h2]
   rw [e2];generalize hz : decide (x.seq < y.seq) = z;clear h1 h2 e1 e2;go_enter Tryz.func157,Tryz.ntmps157;go_wp2_with fail;go_ret;exact ⟨Jq (by simp [*]),(Je : Ext w _)⟩
  ·have h2b : (x.gate != y.gate) = true:=by simpa using h2
   have e2 : (decide (x.gate < y.gate) || (x.gate == y.gate && decide (x.seq < y.seq))) = decide (x.gate < y.gate):=by simp [h2]
   rw [e2];generalize hz : decide (x.gate < y.gate) = z;clear h1 h2 e1 e2;go_enter Tryz.func157,Tryz.ntmps157;go_wp2_with fail;go_ret;exact ⟨Jq (by simp [*]),(Je : Ext w _)⟩
 ·have h1b : (x.time != y.time) = true:=by simpa using h1
  have e1 : (decide (x.time < y.time) || (x.time == y.time && (decide (x.gate < y.gate) || (x.gate == y.gate && decide (x.seq < y.seq))))) = decide (x.time < y.time):=by simp [h1]
  rw [e1];generalize hz : decide (x.time < y.time) = z;clear h1 e1;go_enter Tryz.func157,Tryz.ntmps157;go_wp2_with fail;go_ret;exact ⟨Jq (by simp [*]),(Je : Ext w _)⟩

theorem eachTap_first : ∀ {l : List Tp} {k : Nat} (hk : k < l.length),(∀ j (hj : j < l.length),j < k -> Jv l[j] = 0) -> Jv l[k] ≠ 0 -> Zo Jv l = Jv l[k]
 | p :: l,0,_,_,h=>by
  unfold Zo;rw [if_pos (by simpa using h)]
  rfl
 | p :: l,k + 1,hk,h1,h=>by
  unfold Zo;have h0:=h1 0 (by simp) (by omega);rw [if_neg (by simpa using h0)];have:=eachTap_first (l:=l) (k:=k) (by simpa using hk) (fun j hj hjk=>by have:=h1 (j + 1) (by simpa using hj) (by omega);simpa using this) (by simpa using h)
  simpa using this
theorem eachTap_none {l : List Tp} (h : ∀ j (hj : j < l.length),Jv l[j] = 0) : Zo Jv l = 0:=eachTap_ok.2 (fun x hx=>by
 obtain ⟨i,hi,rfl⟩:=List.mem_iff_getElem.1 hx
 exact h i hi)

theorem ref_OrderOf (l : List Tp) (v : Value) (w : World) (hr : RdL 5 tpc w v l) :
  Calls Tryz.prog 112 #[v] w fun e w'=>∃ s,e = .returned (.tuple #[s,.int .i64 (Ze l).2]) /\ Ext w w' /\ Jh 57 5 tpc w.heap.size w' s (Ze l).1:=by
 have HRd:=hH hr;have HTW:=hH (fun (k : Nat) (hk : k <= l.length) (p : Tp) (w' : World) (h : Ext w w')=>ref_isTwice l k p v w' hk (hr.ext h))
 have hres : Ze l = if 72 < l.length then ([],2) else if Zo Jv l ≠ 0 then ([],Zo Jv l) else if ZP [] l = true then ([],6) else (sortT l,0):=rfl
 generalize Ze l = res at *;obtain ⟨A,c,rfl,-,-⟩:=hr.form;clear hr
 by_cases h72 : 72 < l.length
 ·rw [if_pos h72] at hres
  subst hres
  have h72i : (72 : Int) < (l.length : Int):=by omega
  go_enter Tryz.func112,Tryz.ntmps112;go_wp2_with fail;refine bodyPost_ret (v:=.tuple #[.slice none 0 0,.int .i64 2]) (by simp [results,Tryz.results112,go_sem, *]) rfl ⟨_,rfl,(Je : Ext w _),Jh.nil⟩
 rw [if_neg h72] at hres
 have h72i : ¬ ((72 : Int) < (l.length : Int)):=by omega
 have h72l : l.length <= 72:=by omega
 have HRES:=hH hres;clear hres h72;obtain ⟨i0,ji,ji0,ji1,ji2⟩:=info_parts Xi;go_enter Tryz.func112,Tryz.ntmps112;go_wp2_with fail
 go_loopg [2,3,4,5] l.length (fun gg _ _ s4 _ wr=>∃ k : Nat,k <= l.length /\ l.length - k <= gg /\ s4 = .int .i64 k /\ Aside (Ext w wr) /\ Aside (∀ j (hj : j < l.length),j < k -> Jv l[j] = 0))
 case atStart=>exact ⟨0,Nat.zero_le _,by omega,rfl,Ext.refl _,fun j hj h=>by omega⟩
 case round =>
  obtain ⟨k,hk,hg,rfl,HE,HA⟩:=hrel;have HE2:=hH HE.out;have HA2:=hH HA.out;clear HE HA
  by_cases hlt : k < l.length
  ·have hlt' : (k : Int) < (l.length : Int):=by omega
   obtain ⟨b,o,rfl,hb,c0,c1,c2,c3,c4⟩:=(HRd.out.ext HE2.out).ZX rfl hlt;have HCT:=hH (fun (w' : World)=>ref_CheckTap l[k] w');have HEQ:=hH (show ∀ j (hj : j < l.length),j = k -> Jv l[j] = Jv l[k] from fun j hj e=>by subst e;rfl);have HF:=hH (eachTap_first hlt HA2.out);generalize hq : Jv l[k] = q at *;generalize l[k] = p at *;obtain ⟨p0,p1,p2,p3,p4⟩:=p;unfold tpc at HCT;simp only at c0 c1 c2 c3 c4;clear hq
   by_cases hq0 : q = 0
   ·subst hq0
    go_wp2_with fail;(refine gA (HCT.out _) fun w1 H1 hz1=>?_);go_wp2_with fail;go_roundg (l.length - (k + 1))
    case measure=>omega
    case rel =>
     refine ⟨k + 1,by omega,by omega,by go_num,(Je : Ext w _),fun j hj h=>?_⟩
     by_cases e : j = k
     ·exact HEQ.out j hj e
     ·exact HA2.out j hj (by omega)
   ·have hqb : (q != 0) = true:=by simpa using hq0
    have hres:=HRES.out;have hf:=HF.out hq0;rw [hf,if_pos hq0] at hres;subst hres;clear hf hq0;go_wp2_with fail;(refine gA (HCT.out _) fun w1 H1 hz1=>?_);go_wp2_with fail;refine bodyPost_ret (v:=.tuple #[.slice none 0 0,.int .i64 q]) (by simp [results,Tryz.results112,go_sem, *]) rfl ⟨_,rfl,(Je : Ext w _),Jh.nil⟩
  ·have hge : ¬ (k : Int) < (l.length : Int):=by omega
   have hres:=HRES.out;rw [eachTap_none (fun j hj=>HA2.out j hj (by omega)),if_neg (by simp)] at hres;have HRS:=hH hres;clear hres HRES HA2;obtain ⟨wo,rfl⟩ : ∃ wo : World,wo = wr:=⟨_,rfl⟩;go_wp2_with fail
   go_loopg [2,3,6,7,8] l.length (fun gg _ _ s6 s7 _ wr=>∃ (k : Nat) (B : Option Addr) (d : Nat),k <= l.length /\ l.length - k <= gg /\ s7 = .int .i64 k /\ s6 = .slice B k d /\ Aside (Ext w wr /\ Jh 57 5 tpc w.heap.size wr (.slice B k d) (sortT (l.take k))) /\ Aside (∀ j (hj : j < l.length),j < k -> (([] : List Tp) ++ l.take j).any (JM l[j]) = false))
   case atStart=>exact ⟨0,none,0,Nat.zero_le _,by omega,rfl,rfl,⟨HE2.out,(Jh.nil : Jh 57 5 tpc w.heap.size wo (.slice none 0 0) ([] : List Tp))⟩,fun j hj h=>by omega⟩
   case round =>
    clear hlt hge hk hg;obtain ⟨k,B,d,hk,hg,rfl,rfl,HV,HA⟩:=hrel;have HE:=hH HV.out.1;have HO:=hH HV.out.2;have HA2:=hH HA.out;clear HV HA HE2
    by_cases hlt : k < l.length
    ·have hlt' : (k : Int) < (l.length : Int):=by omega
     obtain ⟨b,o,rfl,hb,c0,c1,c2,c3,c4⟩:=(HRd.out.ext HE.out).ZX rfl hlt;have HTK:=hH (HTW.out k hk l[k]);have HAT:=hH (fun (h : (([] : List Tp) ++ l.take k).any (JM l[k]) = true)=>twiceF_at l [] k hlt HA2.out h)
     have HNX:=hH (show (([] : List Tp) ++ l.take k).any (JM l[k]) = false -> ∀ j (hj : j < l.length),j < k + 1 -> (([] : List Tp) ++ l.take j).any (JM l[j]) = false from fun h j hj hjk=>by
      by_cases e : j = k
      ·subst e;exact h
      ·exact HA2.out j hj (by omega))
     have HPM:=hH (show (sortT (l.take k) ++ [l[k]]).Perm (l.take (k + 1)) from by
      rw [List.take_succ_eq_append_getElem hlt]
      exact (sortT_perm _).append_right _)
     have hol : (sortT (l.take k)).length = k:=by rw [sortT_len,List.length_take];omega
     have HRI:=hH (fun (h : ZR (l.take (k + 1)))=>sortT_rises (l:=l.take k) (by
      rw [List.take_succ_eq_append_getElem hlt] at h
      exact (List.pairwise_append.1 h).1))
     have hn : (l.take k).any (JM l[k]) = (([] : List Tp) ++ l.take k).any (JM l[k]):=by simp
     rw [hn] at HTK;clear hn HA2;generalize hq : (([] : List Tp) ++ l.take k).any (JM l[k]) = q at *;generalize l[k] = p at *;generalize sortT (l.take k) = os at *;have HQ:=hH hq;have HOL:=hH hol;clear hq hol;have htp : tpc p = #[.int .i64 p.ticket,.int .i64 p.gate,.int .i64 p.seq,.int .i64 p.time,.int .i64 p.zone]:=rfl;rw [htp] at HTK
     cases q
     ·have hall:=HNX.out rfl
      have hap : ZR (l.take (k + 1)):=(twice_iff _).1 (twiceF_no _ [] (fun j hj=>by
       simp only [List.length_take] at hj;have:=hall j (by omega) (by omega);rw [List.getElem_take,List.take_take,Nat.min_eq_left (by omega)]
       exact this))
      have HEND:=hH (fun (j : Nat) (hj : j <= os.length)=>insP_end (HRI.out hap) HPM.out hap hj);have HALL:=hH hall;clear hall hap HAT HNX HRI HPM;go_wp2_with fail;(refine gA (HTK.out _ Je) fun w1 H1 hz1=>?_);have z0:=(H1.out.cells _ _ hb).trans c0;have z1:=(H1.out.cells _ _ hb).trans c1;have z2:=(H1.out.cells _ _ hb).trans c2;have z3:=(H1.out.cells _ _ hb).trans c3;have z4:=(H1.out.cells _ _ hb).trans c4
      go_wp2_with (at_builtin;go_loud (refine JC (enc:=tpc) (k:=5) _ rfl _ _ 23 rfl w.heap.size 57 i0 (.agg #[.int .i64 0,.int .i64 0,.int .i64 0,.int .i64 0,.int .i64 0]) 40 Tryz.underlying23 ji ji0 ji1 ji2 rfl (by decide) Jr _ os rfl (Jh.alloc _ (HO.out.ext H1.out)) _ [p] rfl (RdL.lit p rfl rfl) (Xn [p]) ?qd3 ?qd4 ?qd5 ?_))
      case qd3=>have:=HOL.out;unfold maxLen;simp;omega
      case qd4=>have:=HOL.out;simp;omega
      case qd5=>have:=HE.out.size;simp only [World.size_alloc];omega
      intro v2 w2 ho2 hg2 hn2;obtain ⟨g,d2,rfl,hgw,hg2s,hd2⟩:=ho2.slot (by simp);have HE2:=hH (Ext.grown (Je : Ext w _) hg2 (fun q hq=>(HO.out.lt q hq).1));rw [show (os ++ [p]).length = k + 1 by have:=HOL.out;simp;omega] at ho2 hd2 ⊢;have HO2:=hH ho2;clear ho2 hg2 hn2 z0 z1 z2 z3 z4 c0 c1 c2 c3 c4 hb hg2s
      have hwk : IntKind.i64.wrap ((k : Int) + 1 - 1) = (k : Int):=by rw [IntWalk.i64_in _ (by omega)];omega
      have hwk2 : IntKind.i64.wrap (((k + 1 : Nat) : Int) - 1) = (k : Int):=by rw [IntWalk.i64_in _ (by omega)];omega
      obtain ⟨w3,rfl⟩ : ∃ w3 : World,w3 = w2:=⟨_,rfl⟩;go_wp2_with fail
      go_loopg [8] k (fun gg s8 wr=>∃ j : Nat,j <= k /\ j <= gg /\ s8 = .int .i64 j /\ Aside (Ext w wr /\ Jh 57 5 tpc w.heap.size wr (.slice (some ⟨g,0,none⟩) (k + 1) d2) (insP p os j)) /\ Aside (∀ (i : Nat) (hi : i < os.length),j <= i -> XL p os[i] = true))
      case atStart=>exact ⟨k,Nat.le_refl _,Nat.le_refl _,by go_num,⟨HE2.out,by
       have h0:=HO2.out;rw [<- insP_all p os,HOL.out] at h0
       exact h0⟩,fun i hi hk=>absurd hi (by have:=HOL.out;omega)⟩
      case round =>
       clear HE2 HO2 HTK H1 HE HO;obtain ⟨j,hj,hgg,rfl,HW,HA⟩:=hrel;have HE:=hH HW.out.1;have HOW:=hH HW.out.2;have HA2:=hH HA.out;clear HW HA
       by_cases h0 : j = 0
       ·subst h0
        have HF:=hH (HEND.out 0 (Nat.zero_le _) HA2.out (.inl rfl));have hk0 : decide ((0 : Int) < ((0 : Nat) : Int)) = false:=rfl;go_wp2_with fail;(try (go_quiet (fail);go_wp2_with fail));go_roundg (l.length - (k + 1))
        case measure=>omega
        case rel =>
         refine ⟨k + 1,some ⟨g,0,none⟩,d2,by omega,by omega,by go_num,rfl,⟨(Je : Ext w _),?_⟩,HALL.out⟩;rw [<- HF.out];exact HOW.out.drewN _
       ·have hjd : decide (0 < j) = true:=decide_eq_true (by omega)
        have hjd2 : decide ((0 : Int) < (j : Int)) = true:=decide_eq_true (by omega);obtain ⟨m,hjm⟩ : ∃ m,j = m + 1:=⟨j - 1,by omega⟩
        have hwm : IntKind.i64.wrap ((j : Int) - 1) = (m : Int):=by rw [IntWalk.i64_in _ (by omega)];omega
        have hm0 : 0 <= (m : Int):=by omega
        have hj0 : 0 <= (j : Int):=by omega
        have hji : (j : Int) < (k : Int) + 1:=by omega
        have hmi : (m : Int) < (k : Int) + 1:=by omega
        have hml : m < os.length:=by have:=HOL.out;omega
        have hjl : j <= os.length:=by have:=HOL.out;omega
        have hmle : m <= k:=by omega
        have hgb : g < wr.heap.size:=by
         obtain ⟨g',c',hh,-,hg',-⟩:=HOW.out.slot (by rw [Xg _ _ _ hjl];omega)
         injection hh with hh
         injection hh with hh
         injection hh with hh
         omega
        obtain ⟨b,o,hA1,hb,a0,a1,a2,a3,a4⟩:=(HOW.out.rd Jr).ZX rfl (show j < (insP p os j).length by rw [Xg _ _ _ hjl];omega)
        injection hA1 with hA1
        injection hA1 with e1 e2 e3
        subst e1 e2;obtain ⟨b,o,hA1,hb,b0,b1,b2,b3,b4⟩:=(HOW.out.rd Jr).ZX rfl (show j - 1 < (insP p os j).length by rw [Xg _ _ _ hjl];omega)
        injection hA1 with hA1
        injection hA1 with e1 e2 e3
        subst e1 e2;rw [insP_here p os j hjl] at a0 a1 a2 a3 a4;rw [insP_ahead p os j hjl (by omega)] at b0 b1 b2 b3 b4;have hSW:=insP_swap p os j hjl (by omega)
        have hend : XL p os[m] = false -> insP p os j = sortT (l.take (k + 1)):=fun h=>HEND.out j hjl HA2.out (.inr ⟨by omega,by
         have e : j - 1 = m:=by omega
         simp only [e]
         exact h⟩)
        simp only [show j - 1 = m by omega] at b0 b1 b2 b3 b4 hSW;simp only [Nat.zero_add] at a0 a1 a2 a3 a4 b0 b1 b2 b3 b4;have hmono : ∀ (i : Nat) (hi : i < os.length),j <= i -> XL p os[i] = true:=HA2.out;have HIB:=hH (fun (w' : World)=>ref_IsBefore p os[m] w');generalize hy : os[m] = y at *;have HKM:=hH hjm;have hyt : tpc y = #[.int .i64 y.ticket,.int .i64 y.gate,.int .i64 y.seq,.int .i64 y.time,.int .i64 y.zone]:=rfl;rw [htp,hyt] at HIB;clear hyt;generalize hlt2 : XL p y = z at *;have HLT:=hH hlt2;have HY:=hH hy;have HSW:=hH hSW;have HEN:=hH hend;have HMN:=hH hmono;clear hlt2 hy hSW hend hmono HA2 HEND htp hjm;go_upto_region 17 with fail;have HK:=hH (fun w' (h : Ext wr w')=>And.intro ((h.cells _ _ hgb).trans a0) (And.intro ((h.cells _ _ hgb).trans a1) (And.intro ((h.cells _ _ hgb).trans a2) (And.intro ((h.cells _ _ hgb).trans a3) (And.intro ((h.cells _ _ hgb).trans a4) (And.intro ((h.cells _ _ hgb).trans b0) (And.intro ((h.cells _ _ hgb).trans b1) (And.intro ((h.cells _ _ hgb).trans b2) (And.intro ((h.cells _ _ hgb).trans b3) (((h.cells _ _ hgb).trans b4)))))))))));(refine Jw (fun w'=>Ext wr w') 13 (by kernel_rfl) ((Ext.refl _).drew) (fun hS=>?_);simp only [List.length_cons,List.length_nil]);(refine tkG 0 HK hS ?_;refine tkG 1 HK hS ?_;refine tkG 2 HK hS ?_;refine tkG 3 HK hS ?_;refine tkG 4 HK hS ?_;refine tkG 5 HK hS ?_;refine tkG 6 HK hS ?_;refine tkG 7 HK hS ?_;refine tkG 8 HK hS ?_;refine tkG 9 HK hS ?_;refine tkG 10 HK hS ?_;refine tkG 11 HK hS ?_);clear hS;refine T_onlyG (i:=12) rfl (by kernel_rfl) (by kernel_rfl) (fun K hK=>?_);go_simp;refine (HIB.out _).mono ?_;rintro e w8 ⟨rfl,h8⟩;have H8:=hH h8;clear h8
        (go_wp2_with fail;have hS : Ext wr w8:=by exact Je);(refine hK.out _ _ (.inr hS) ?_;clear hK;(try simp only [Act.put,Jm]))
        clear hS;refine T_onlyG (i:=13) rfl (by kernel_rfl) (by kernel_rfl) (fun K hK=>?_);go_simp;refine hK.out _ _ (.inl (by kernel_rfl)) ?_;clear hK;(try simp only [Act.put,Jm]);refine Ju (by kernel_rfl) ?_ _;clear HK
        have hE8 : Ext wr w8:=by exact Je
        have HOW8:=hH (HOW.out.ext hE8);have HE8:=hH hE8;have a0':=(hE8.cells _ _ hgb).trans a0;have a1':=(hE8.cells _ _ hgb).trans a1;have a2':=(hE8.cells _ _ hgb).trans a2;have a3':=(hE8.cells _ _ hgb).trans a3;have a4':=(hE8.cells _ _ hgb).trans a4;have b0':=(hE8.cells _ _ hgb).trans b0;have b1':=(hE8.cells _ _ hgb).trans b1;have b2':=(hE8.cells _ _ hgb).trans b2;have b3':=(hE8.cells _ _ hgb).trans b3;have b4':=(hE8.cells _ _ hgb).trans b4;clear hE8 a0 a1 a2 a3 a4 b0 b1 b2 b3 b4 HIB
        cases z
        ·go_wp2_with fail
         (try (go_quiet (fail);go_wp2_with fail));go_roundg (l.length - (k + 1))
         case measure=>omega
         case rel =>
          refine ⟨k + 1,some ⟨g,0,none⟩,d2,by omega,by omega,by go_num,rfl,⟨(Je : Ext w _),?_⟩,HALL.out⟩;rw [<- HEN.out trivial];exact HOW8.out
        ·have hfz : ∀ o,w8.frozen? ⟨g,o,none⟩ = false:=HOW8.out.unfrozen
         go_upto_region 19 with fail;(refine Jw (fun w'=>Fr (fun q=>q = g) w8 w') 17 (by kernel_rfl) (Fr.mk rfl rfl rfl (Nat.le_refl _) (fun _ _ _=>rfl)) (fun hS=>?_);simp only [List.length_cons,List.length_nil]);(refine tkP 0 ?_;refine tkP 1 ?_;refine tkP 2 ?_;refine tkP 3 ?_;refine tkP 4 ?_;refine tkP 5 ?_;refine tkP 6 ?_;refine tkP 7 ?_;refine tkP 8 ?_);(refine tkP 10 ?_;refine tkP 11 ?_;refine tkP 12 ?_);refine XD (i:=9) (j:=13) rfl rfl (by kernel_rfl) rfl rfl (fun K hK=>?_) (fun K hK=>?_)
         ·go_simp
          refine hK.out _ _ (.inr hS) ?_;clear hK;(try simp only [Act.put,Jm]);((refine oA 13 fun K hK=>?_;go_simp;refine hK.out _ _ (.inr hS) ?_;clear hK;(try simp only [Act.put,Jm])));((refine oA 14 fun K hK=>?_;go_simp;refine hK.out _ _ (.inr hS) ?_;clear hK;(try simp only [Act.put,Jm])));(refine oA 15 fun K hK=>?_;go_simp);have HFU0 : Fr (fun q=>q = g) w8 ((((((w8.setCell ⟨g,j * 5,none⟩ (.int .i64 y.ticket)).setCell ⟨g,j * 5 + 1,none⟩ (.int .i64 y.gate)).setCell ⟨g,j * 5 + 2,none⟩ (.int .i64 y.seq)).setCell ⟨g,j * 5 + 3,none⟩ (.int .i64 y.time)).setCell ⟨g,j * 5 + 4,none⟩ (.int .i64 y.zone)).drew):=Fr.drew (Fr.Jl rfl (Fr.Jl rfl (Fr.Jl rfl (Fr.Jl rfl (Fr.Jl rfl (Fr.refl _ _))))));have HOU0:=(HOW8.out.put_tp j (by rw [Xg _ _ _ hjl];omega) y).drew;refine hK.out _ _ (.inr HFU0) ?_;clear hK;(try simp only [Act.put,Jm]);generalize hU : (((((w8.setCell ⟨g,j * 5,none⟩ (.int .i64 y.ticket)).setCell ⟨g,j * 5 + 1,none⟩ (.int .i64 y.gate)).setCell ⟨g,j * 5 + 2,none⟩ (.int .i64 y.seq)).setCell ⟨g,j * 5 + 3,none⟩ (.int .i64 y.time)).setCell ⟨g,j * 5 + 4,none⟩ (.int .i64 y.zone)).drew = U at HFU0 HOU0 ⊢;clear hU;clear hS;have hS : Fr (fun q=>q = g) w8 U:=HFU0
          have hE8w : Ext w w8:=by exact Je
          have HEU:=hH (show Ext w U from Below.trans hE8w (Below.mono (HFU0.below (base:=w.heap.size) (Ext.size hE8w) (fun q hq=>by omega)) (Nat.le_refl _)));obtain ⟨bU,oU,hAU,hbU,u0',u1',u2',u3',u4'⟩:=(HOU0.rd Jr).ZX rfl (show m < ((insP p os j).set j y).length by rw [List.length_set,Xg _ _ _ hjl];omega)
          injection hAU with hAU
          injection hAU with e1 e2 e3
          subst e1 e2;simp only [Nat.zero_add] at u0' u1' u2' u3' u4';have hfu:=HOU0.unfrozen;have HOU:=hH HOU0;clear HFU0 HOU0 a0' a1' a2' a3' a4' b0' b1' b2' b3' b4' hfz hE8w;((refine oA 16 fun K hK=>?_;go_simp;refine hK.out _ _ (.inr hS) ?_;clear hK;(try simp only [Act.put,Jm])));(refine oA 17 fun K hK=>?_;go_simp;refine hK.out _ _ (.inl (by kernel_rfl)) ?_;clear hK;(try simp only [Act.put,Jm]);refine Ju (by kernel_rfl) ?_ _);go_wp2_with fail;go_roundg m
          case measure=>have:=HKM.out;omega
          case rel =>
           have hsw:=HOU.out.put_tp m (by rw [List.length_set,Xg _ _ _ hjl];omega) p;rw [HSW.out] at hsw;refine ⟨m,hmle,by have:=HKM.out;omega,by go_num,⟨?_,?_⟩,?_⟩
           ·have hgw2 : w.heap.size <= g:=hgw
            repeat (first | exact HEU.out | (refine Ext.drew ?_) | (refine Ext.Jl hgw2 ?_))
           ·exact hsw
           ·intro i hi hmi
            by_cases e : i = m
            ·subst e;rw [HY.out];exact HLT.out
            ·exact HMN.out i hi (by have:=HKM.out;omega)
         ·go_simp
          refine hK.out _ _ (.inr hS) ?_;clear hK;(try simp only [Act.put,Jm]);((refine oA 9 fun K hK=>?_;go_simp;refine hK.out _ _ (.inr hS) ?_;clear hK;(try simp only [Act.put,Jm])));((refine oA 14 fun K hK=>?_;go_simp;refine hK.out _ _ (.inr hS) ?_;clear hK;(try simp only [Act.put,Jm])));(refine oA 15 fun K hK=>?_;go_simp);have HFU0 : Fr (fun q=>q = g) w8 ((((((w8.setCell ⟨g,j * 5,none⟩ (.int .i64 y.ticket)).setCell ⟨g,j * 5 + 1,none⟩ (.int .i64 y.gate)).setCell ⟨g,j * 5 + 2,none⟩ (.int .i64 y.seq)).setCell ⟨g,j * 5 + 3,none⟩ (.int .i64 y.time)).setCell ⟨g,j * 5 + 4,none⟩ (.int .i64 y.zone)).drew):=Fr.drew (Fr.Jl rfl (Fr.Jl rfl (Fr.Jl rfl (Fr.Jl rfl (Fr.Jl rfl (Fr.refl _ _))))));have HOU0:=(HOW8.out.put_tp j (by rw [Xg _ _ _ hjl];omega) y).drew;refine hK.out _ _ (.inr HFU0) ?_;clear hK;(try simp only [Act.put,Jm]);generalize hU : (((((w8.setCell ⟨g,j * 5,none⟩ (.int .i64 y.ticket)).setCell ⟨g,j * 5 + 1,none⟩ (.int .i64 y.gate)).setCell ⟨g,j * 5 + 2,none⟩ (.int .i64 y.seq)).setCell ⟨g,j * 5 + 3,none⟩ (.int .i64 y.time)).setCell ⟨g,j * 5 + 4,none⟩ (.int .i64 y.zone)).drew = U at HFU0 HOU0 ⊢;clear hU;clear hS;have hS : Fr (fun q=>q = g) w8 U:=HFU0
          have hE8w : Ext w w8:=by exact Je
          have HEU:=hH (show Ext w U from Below.trans hE8w (Below.mono (HFU0.below (base:=w.heap.size) (Ext.size hE8w) (fun q hq=>by omega)) (Nat.le_refl _)));obtain ⟨bU,oU,hAU,hbU,u0',u1',u2',u3',u4'⟩:=(HOU0.rd Jr).ZX rfl (show m < ((insP p os j).set j y).length by rw [List.length_set,Xg _ _ _ hjl];omega)
          injection hAU with hAU
          injection hAU with e1 e2 e3
          subst e1 e2;simp only [Nat.zero_add] at u0' u1' u2' u3' u4';have hfu:=HOU0.unfrozen;have HOU:=hH HOU0;clear HFU0 HOU0 a0' a1' a2' a3' a4' b0' b1' b2' b3' b4' hfz hE8w;((refine oA 16 fun K hK=>?_;go_simp;refine hK.out _ _ (.inr hS) ?_;clear hK;(try simp only [Act.put,Jm])));(refine oA 17 fun K hK=>?_;go_simp;refine hK.out _ _ (.inl (by kernel_rfl)) ?_;clear hK;(try simp only [Act.put,Jm]);refine Ju (by kernel_rfl) ?_ _);go_wp2_with fail;go_roundg m
          case measure=>have:=HKM.out;omega
          case rel =>
           have hsw:=HOU.out.put_tp m (by rw [List.length_set,Xg _ _ _ hjl];omega) p;rw [HSW.out] at hsw;refine ⟨m,hmle,by have:=HKM.out;omega,by go_num,⟨?_,?_⟩,?_⟩
           ·have hgw2 : w.heap.size <= g:=hgw
            repeat (first | exact HEU.out | (refine Ext.drew ?_) | (refine Ext.Jl hgw2 ?_))
           ·exact hsw
           ·intro i hi hmi
            by_cases e : i = m
            ·subst e;rw [HY.out];exact HLT.out
            ·exact HMN.out i hi (by have:=HKM.out;omega)
     ·have hz : ZP [] l = true:=HAT.out rfl
      have hres:=HRS.out;rw [if_pos hz] at hres;subst hres;clear hz
      go_wp2_with (go_at_call 56;refine (HTK.out _ Je).mono ?_;rintro e w1 ⟨rfl,h1⟩;have H1:=hH h1;clear h1)
      refine bodyPost_ret (v:=.tuple #[.slice none 0 0,.int .i64 6]) (by simp [results,Tryz.results112,go_sem, *]) rfl ⟨_,rfl,(Je : Ext w _),Jh.nil⟩
    ·have hkl : k = l.length:=by omega
     subst hkl
     have hge : ¬ (l.length : Int) < (l.length : Int):=by omega
     have hnt : ZP [] l = false:=twiceF_no l [] (fun j hj=>HA2.out j hj hj);have hres:=HRS.out;rw [if_neg (by rw [hnt];simp)] at hres;subst hres;have hfin:=HO.out;rw [List.take_length] at hfin;have HFIN:=hH hfin;clear hnt hfin;go_wp2_with fail;refine bodyPost_ret (v:=.tuple #[.slice B l.length d,.int .i64 0]) (by simp [results,Tryz.results112,go_sem, *]) rfl ⟨_,rfl,(Je : Ext w _),HFIN.out⟩

def PSo (PB : Nat -> Prop) (gx : Nat) (so : Value) (q : Nat) : Prop:=(PB q \/ gx < q) /\ so.ownBlock ≠ some q
theorem intoF_step (x : Ld) (out : List Tp) (p : Tp) (l : List Tp) : Zx x out (p :: l) = if (Jy x p).2.2 = 2 then (ld0,[],2) else if (Jy x p).2.2 = 0 then Zx (Jy x p).1 out l else Zx x (out ++ [p]) l:=rfl

theorem ref_IntoOf (l : Ld) (more : List Tp) (s0 s1 s2 v : Value) (w : World) (hck : Js l = 0) (hr0 : RdL 6 tkc w s0 l.Jc) (hr1 : RdL 5 tpc w s1 l.Jf) (hr2 : RdL 1 inc w s2 l.Jd) (hr : RdL 5 tpc w v more) (PB : Nat -> Prop) (hb0 : InP PB s0 l.Jc) (hPB : ∀ q,PB q -> q < w.heap.size) :
  Calls Tryz.prog 65 #[.agg #[s0,s1,s2],v] w fun e w'=>∃ t0 t1 t2 so,e = .returned (.tuple #[.agg #[t0,t1,t2],so,.int .i64 (intoL l more).2.2]) /\ Ext w w' /\ RdP (fun q=>PB q \/ w.heap.size <= q) 6 tkc w' t0 (intoL l more).1.Jc /\ RdP (fun q=>PB q \/ w.heap.size <= q) 5 tpc w' t1 (intoL l more).1.Jf /\ RdP (fun q=>PB q \/ w.heap.size <= q) 1 inc w' t2 (intoL l more).1.Jd /\ Jh 57 5 tpc w.heap.size w' so (intoL l more).2.1:=by
 have h60:=(J6.1 hck).2.1;have HR0:=hH hr0;have HR1:=hH hr1;have HR:=hH hr;have HB0:=hH hb0;have HPB:=hH hPB;have HRB:=hH (right_bare hck);have HOR:=hH (fun (s : Value) (w' : World) (h : RdL 5 tpc w' s (l.Jf ++ more))=>ref_OrderOf (l.Jf ++ more) s w' h)
 have hres : intoL l more = if 12 < more.length then (ld0,[],2) else if (Ze (l.Jf ++ more)).2 ≠ 0 then (ld0,[],(Ze (l.Jf ++ more)).2) else Zx ⟨l.Jc,[],[]⟩ [] (Ze (l.Jf ++ more)).1:=rfl
 have hol : (Ze (l.Jf ++ more)).1.length <= 72:=by
  by_cases h : (Ze (l.Jf ++ more)).2 = 0
  ·rw [orderL_fst h,sortT_len]
   exact (orderL_ok.1 h).1
  ·rw [orderL_bad h]
   simp
 generalize intoL l more = R at *;generalize hall : l.Jf ++ more = all at *;have HALL:=hH hall;clear hall;generalize Ze all = O at *;obtain ⟨ol,oe⟩:=O;simp only at HOR hres hol;obtain ⟨A0,c0,rfl,-,-⟩:=hr0.form;obtain ⟨A1,c1,rfl,-,-⟩:=hr1.form;obtain ⟨A2,c2,rfl,-,-⟩:=hr2.form;obtain ⟨A3,c3,rfl,-,-⟩:=hr.form;have HOL:=hH hol;clear hr0 hr1 hr2 hr hck hol hb0 hPB
 by_cases hm : 12 < more.length
 ·rw [if_pos hm] at hres
  subst hres
  have hmi : (12 : Int) < (more.length : Int):=by omega
  go_enter Tryz.func65,Tryz.ntmps65;go_wp2_with fail;refine bodyPost_ret (v:=.tuple #[.agg #[.slice none 0 0,.slice none 0 0,.slice none 0 0],.slice none 0 0,.int .i64 2]) (by simp [results,Tryz.results65,go_sem, *]) rfl ⟨_,_,_,_,rfl,(Je : Ext w _),RdP.nil,RdP.nil,RdP.nil,Jh.nil⟩
 rw [if_neg hm] at hres
 have hmi : ¬ ((12 : Int) < (more.length : Int)):=by omega
 have hml : more.length <= 12:=by omega
 have HLN:=hH (show l.Jf.length + more.length <= 72 by omega);clear hm;obtain ⟨i0,ji,ji0,ji1,ji2⟩:=info_parts Xi
 by_cases hq : oe = 0
 case neg =>
  rw [if_pos hq] at hres;subst hres
  have hqb : (oe != 0) = true:=by simpa using hq
  clear hq;go_enter Tryz.func65,Tryz.ntmps65
  go_wp2_with (at_builtin;go_loud (refine JC (enc:=tpc) (k:=5) _ rfl _ _ 23 rfl (w.heap.size + 1 + 1) 57 i0 (.agg #[.int .i64 0,.int .i64 0,.int .i64 0,.int .i64 0,.int .i64 0]) 40 Tryz.underlying23 ji ji0 ji1 ji2 rfl (by decide) Jr _ ([] : List Tp) rfl (Jh.made (by simp only [World.size_alloc]) (by simp only [World.size_alloc];omega)) _ l.Jf rfl (HR1.out.ext Je) (Xn _) ?a1 ?a2 (by simp) ?_))
  case a1=>have:=HLN.out;unfold maxLen;simp;omega
  case a2=>have:=HLN.out;simp;omega
  intro v1 w1 ho1 hg1 hn1;obtain ⟨B1,d1,rfl⟩:=ho1.form;have hgs:=hg1.size;(try simp only [lSz] at hgs);have HG1:=hH hgs;clear hgs;have hE1 : Ext w w1:=Ext.grown Je hg1 (fun q hq=>by simp [Value.ownBlock] at hq;omega);have H1:=hH hE1;have HO1:=hH ho1;have HLO1:=hH (fun q hq=>(ho1.lt q hq).1);have hz1:=Ext.size hE1;have hq1 : ∀ q,q < w.heap.size + 1 + 1 -> ∀ cs,Row (((w.alloc (.cells #[.slice A0 l.Jc.length c0,.slice A1 l.Jf.length c1,.slice A2 l.Jd.length c2] 26)).alloc (.cells #[.slice none 0 0,.slice none 0 0,.slice none 0 0] 26)).alloc (.cells #[] 57)) q cs -> Row w1 q cs:=fun q hq cs h=>h.grown hg1 (by simp [Value.ownBlock];omega);have R1a:=hH (hq1 w.heap.size (by omega) _ (by exact rowA));have R1b:=hH (hq1 (w.heap.size + 1) (by omega) _ (by exact rowA));clear ho1 hE1 hg1 hn1 hq1;(refine Ji w1 w.heap.size fun q1_0 f1_0 l1_0 R1_0=>?_;refine Ji w1 (w.heap.size + 1) fun q1_1 f1_1 l1_1 R1_1=>?_)
  go_wp2_with (at_builtin;go_loud (refine JC (enc:=tpc) (k:=5) _ rfl _ _ 23 rfl (w.heap.size + 1 + 1) 57 i0 (.agg #[.int .i64 0,.int .i64 0,.int .i64 0,.int .i64 0,.int .i64 0]) 40 Tryz.underlying23 ji ji0 ji1 ji2 rfl (by decide) Jr _ l.Jf rfl HO1.out _ more rfl (HR.out.ext Je) (Xn _) ?b1 ?b2 (by have:=HG1.out;omega) ?_))
  case b1=>have:=HLN.out;unfold maxLen;omega
  case b2=>have:=HLN.out;omega
  intro v2 w2 ho2 hg2 hn2;rw [HALL.out] at ho2;obtain ⟨B2,d2,rfl⟩:=ho2.form;have H2:=hH (Ext.grown H1.out hg2 (fun q hq=>by have:=(HO1.out.lt q hq).1;omega));have HO2:=hH (ho2.rd Jr);have hlo1 : ∀ q,(Value.slice B1 l.Jf.length d1).ownBlock = some q -> w.heap.size + 1 + 1 <= q:=fun q hq=>HLO1.out q hq;have R2a:=hH (R1a.out.grown hg2 (fun e=>by have:=hlo1 _ e.symm;omega));have R2b:=hH (R1b.out.grown hg2 (fun e=>by have:=hlo1 _ e.symm;omega));clear ho2 hg2 hn2 hlo1;(refine Ji w2 w.heap.size fun q2_0 f2_0 l2_0 R2_0=>?_;refine Ji w2 (w.heap.size + 1) fun q2_1 f2_1 l2_1 R2_1=>?_);go_wp2_with fail;refine (HOR.out _ _ HO2.out).mono ?_;rintro e w3 ⟨so,rfl,h3,ho3⟩;obtain ⟨B3,d3,rfl⟩:=ho3.form;have hz3:=h3.size;(try simp only [lSz] at hz3);have H3:=hH h3;have HO3:=hH ho3;clear h3 ho3;(refine Ji w3 w.heap.size fun q3_0 f3_0 l3_0 R3_0=>?_;refine Ji w3 (w.heap.size + 1) fun q3_1 f3_1 l3_1 R3_1=>?_);go_wp2_with fail;refine bodyPost_ret (v:=.tuple #[.agg #[.slice none 0 0,.slice none 0 0,.slice none 0 0],.slice none 0 0,.int .i64 oe]) (by simp [results,Tryz.results65,go_sem, *]) rfl ⟨_,_,_,_,rfl,(Je : Ext w _),RdP.nil,RdP.nil,RdP.nil,Jh.nil⟩
 subst hq;rw [if_neg (by simp)] at hres;have HRES:=hH hres;clear hres;go_enter Tryz.func65,Tryz.ntmps65
 go_wp2_with (at_builtin;go_loud (refine JC (enc:=tpc) (k:=5) _ rfl _ _ 23 rfl (w.heap.size + 1 + 1) 57 i0 (.agg #[.int .i64 0,.int .i64 0,.int .i64 0,.int .i64 0,.int .i64 0]) 40 Tryz.underlying23 ji ji0 ji1 ji2 rfl (by decide) Jr _ ([] : List Tp) rfl (Jh.made (by simp only [World.size_alloc]) (by simp only [World.size_alloc];omega)) _ l.Jf rfl (HR1.out.ext Je) (Xn _) ?c1x ?c2x (by simp) ?_))
 case c1x=>have:=HLN.out;unfold maxLen;simp;omega
 case c2x=>have:=HLN.out;simp;omega
 intro v1 w1 ho1 hg1 hn1;obtain ⟨B1,d1,rfl⟩:=ho1.form;have hgs:=hg1.size;(try simp only [lSz] at hgs);have HG1:=hH hgs;clear hgs;have hE1 : Ext w w1:=Ext.grown Je hg1 (fun q hq=>by simp [Value.ownBlock] at hq;omega);have H1:=hH hE1;have HO1:=hH ho1;have HLO1:=hH (fun q hq=>(ho1.lt q hq).1);have hz1:=Ext.size hE1;have hq1 : ∀ q,q < w.heap.size + 1 + 1 -> ∀ cs,Row (((w.alloc (.cells #[.slice A0 l.Jc.length c0,.slice A1 l.Jf.length c1,.slice A2 l.Jd.length c2] 26)).alloc (.cells #[.slice none 0 0,.slice none 0 0,.slice none 0 0] 26)).alloc (.cells #[] 57)) q cs -> Row w1 q cs:=fun q hq cs h=>h.grown hg1 (by simp [Value.ownBlock];omega);have R1a:=hH (hq1 w.heap.size (by omega) _ (by exact rowA));have R1b:=hH (hq1 (w.heap.size + 1) (by omega) _ (by exact rowA));clear ho1 hE1 hg1 hn1 hq1;(refine Ji w1 w.heap.size fun q1_0 f1_0 l1_0 R1_0=>?_;refine Ji w1 (w.heap.size + 1) fun q1_1 f1_1 l1_1 R1_1=>?_)
 go_wp2_with (at_builtin;go_loud (refine JC (enc:=tpc) (k:=5) _ rfl _ _ 23 rfl (w.heap.size + 1 + 1) 57 i0 (.agg #[.int .i64 0,.int .i64 0,.int .i64 0,.int .i64 0,.int .i64 0]) 40 Tryz.underlying23 ji ji0 ji1 ji2 rfl (by decide) Jr _ l.Jf rfl HO1.out _ more rfl (HR.out.ext Je) (Xn _) ?d1x ?d2x (by have:=HG1.out;omega) ?_))
 case d1x=>have:=HLN.out;unfold maxLen;omega
 case d2x=>have:=HLN.out;omega
 intro v2 w2 ho2 hg2 hn2;rw [HALL.out] at ho2;obtain ⟨B2,d2,rfl⟩:=ho2.form;have H2:=hH (Ext.grown H1.out hg2 (fun q hq=>by have:=(HO1.out.lt q hq).1;omega));have HO2:=hH (ho2.rd Jr);have hlo1 : ∀ q,(Value.slice B1 l.Jf.length d1).ownBlock = some q -> w.heap.size + 1 + 1 <= q:=fun q hq=>HLO1.out q hq;have R2a:=hH (R1a.out.grown hg2 (fun e=>by have:=hlo1 _ e.symm;omega));have R2b:=hH (R1b.out.grown hg2 (fun e=>by have:=hlo1 _ e.symm;omega));clear ho2 hg2 hn2 hlo1;(refine Ji w2 w.heap.size fun q2_0 f2_0 l2_0 R2_0=>?_;refine Ji w2 (w.heap.size + 1) fun q2_1 f2_1 l2_1 R2_1=>?_);go_wp2_with fail;refine (HOR.out _ _ HO2.out).mono ?_;rintro e w3 ⟨so,rfl,h3,ho3⟩;obtain ⟨B3,d3,rfl⟩:=ho3.form;have hz3:=h3.size;(try simp only [lSz] at hz3);have H3:=hH h3;have HO3:=hH ho3;clear h3 ho3;(refine Ji w3 w.heap.size fun q3_0 f3_0 l3_0 R3_0=>?_;refine Ji w3 (w.heap.size + 1) fun q3_1 f3_1 l3_1 R3_1=>?_);go_wp2_with fail
 have hH3 : Ext w w3:=by exact Je
 have HH3:=hH hH3;have HRO:=hH (fun w' (h : Ext w3 w')=>(HO3.out.rd Jr).ext h)
 have hw2 : w.heap.size + 1 < w3.heap.size:=by have:=HG1.out;have:=Ext.size H2.out;have:=R3_1.out.1;omega
 clear hH3
 go_loopg [5,6,10,11,12,13,14] ol.length (fun gg _ _ s10 s11 _ _ _ wr=>∃ (k : Nat) (xk : Ld) (ok : List Tp) (t0 t1 t2 : Value) (Bo : Option Addr) (do' : Nat),k <= ol.length /\ ol.length - k <= gg /\ s11 = .int .i64 k /\ s10 = .slice Bo ok.length do' /\ Aside (Ext w3 wr /\ Row wr w3.heap.size #[t0,t1,t2]) /\ Aside (RdP (PSo PB w3.heap.size (.slice Bo ok.length do')) 6 tkc wr t0 xk.Jc /\ RdP (PSo PB w3.heap.size (.slice Bo ok.length do')) 5 tpc wr t1 xk.Jf /\ RdP (PSo PB w3.heap.size (.slice Bo ok.length do')) 1 inc wr t2 xk.Jd /\ Jh 57 5 tpc (w3.heap.size + 1) wr (.slice Bo ok.length do') ok) /\ Aside (Js xk = 0 /\ Zx xk ok (ol.drop k) = R /\ ok.length <= k))
 case atStart =>
  refine ⟨0,⟨l.Jc,[],[]⟩,[],.slice A0 l.Jc.length c0,.slice none 0 0,.slice none 0 0,none,0,Nat.zero_le _,by omega,rfl,rfl,⟨(Ext.refl _).alloc _,Row.newAt rfl⟩,⟨⟨HR0.out.ext Je,fun h0 q hq=>⟨.inl (HB0.out h0 q hq),by simp [Value.ownBlock]⟩⟩,RdP.nil,RdP.nil,Jh.nil⟩,HRB.out,?_,Nat.zero_le _⟩;rw [List.drop_zero];exact HRES.out.symm
 case round =>
  obtain ⟨k,xk,ok,t0,t1,t2,Bo,do',hk,hg,rfl,rfl,HV,HA,HB⟩:=hrel;have HE:=hH HV.out.1;have HRX:=hH HV.out.2;have hq0:=HA.out.1;have hq1:=HA.out.2.1;have hq2:=HA.out.2.2.1;have HOO:=hH HA.out.2.2.2;have HCK:=hH HB.out.1;have HIN:=hH HB.out.2.1;have HOK:=hH HB.out.2.2;clear HV HA HB;obtain ⟨D0,f0,rfl⟩:=hq0.form;obtain ⟨D1,f1,rfl⟩:=hq1.form;obtain ⟨D2,f2,rfl⟩:=hq2.form;have HQ0:=hH hq0;have HQ1:=hH hq1;have HQ2:=hH hq2;clear hq0 hq1 hq2;have hzr:=HE.out.size;have hgr:=HRX.out.1;have HRR:=hH (R3_1.out.ext HE.out);(refine Ji wr w3.heap.size fun qr_0 fr_0 lr_0 Rr_0=>?_;refine Ji wr (w.heap.size + 1) fun qr_1 fr_1 lr_1 Rr_1=>?_)
  by_cases hlt : k < ol.length
  ·have hlt' : (k : Int) < (ol.length : Int):=by omega
   have hkb : (k : Int) < 72:=by have:=HOL.out;omega
   obtain ⟨b,o,rfl,hb,p0,p1,p2,p3,p4⟩:=(HRO.out _ HE.out).ZX rfl hlt;have hin:=HIN.out;rw [List.drop_eq_getElem_cons hlt,intoF_step] at hin;have HIN2:=hH hin;have HTK:=hH (fun (W w' : World) (h : Ext wr w')=>ref_EnterOf xk (.slice D0 xk.Jc.length f0) (.slice D1 xk.Jf.length f1) (.slice D2 xk.Jd.length f2) ol[k] w' HCK.out (HQ0.out.rd.ext h) (HQ1.out.rd.ext h) (HQ2.out.rd.ext h) (fun q=>PSo PB w3.heap.size (.slice Bo ok.length do') q /\ q < wr.heap.size) (fun h0 q hq=>⟨HQ0.out.2 h0 q hq,HQ0.out.rd.inB (Nat.le_refl _) h0 q hq⟩));have HER:=hH (fun (h : (Jy xk ol[k]).2.2 = 0)=>enterL_ok HCK.out h);clear hin HIN;generalize ol[k] = p at *;generalize Jy xk p = E at *;obtain ⟨E1,E2,E3⟩:=E;simp only at HTK HER;obtain ⟨pa,pb,pc,pd,pe⟩:=p;unfold tpc at HTK;simp only at p0 p1 p2 p3 p4;generalize hPS : PSo PB w3.heap.size (.slice Bo ok.length do') = PS at *;have HPS:=hH hPS;clear hPS;go_upto_region 11 with fail
   go_cut [12,13,14] (fun s12 s13 s14 wx=>∃ g5 u0 u1 u2,s12 = .pointer (some ⟨g5,0,none⟩) /\ s13 = .int .i64 E2 /\ s14 = .int .i64 E3 /\ Aside (Ext wr wx /\ wr.heap.size <= g5 /\ Row wx g5 #[u0,u1,u2]) /\ Aside (RdP (fun q=>(PS q /\ q < wr.heap.size) \/ g5 < q \/ (wr.heap.size <= q /\ q < g5)) 6 tkc wx u0 E1.Jc /\ RdP (fun q=>(PS q /\ q < wr.heap.size) \/ g5 < q \/ (wr.heap.size <= q /\ q < g5)) 5 tpc wx u1 E1.Jf /\ RdP (fun q=>(PS q /\ q < wr.heap.size) \/ g5 < q \/ (wr.heap.size <= q /\ q < g5)) 1 inc wx u2 E1.Jd))
   case first =>
    have HRR3:=hH HRX.out;(apply wp_gen1 (w0:=wr) (g0:=w3.heap.size);(focus (exact rowA));(focus (exact Je));intro W HW hzW Ra_0;(try simp only [Jm,World.size_alloc,size_set,World.heap_drewN,size_drew] at hzW Ra_0);have la_0:=Ra_0.out.size)
    have hbw : b < W.heap.size:=by omega
    have p0':=(HW.out.cells _ _ hb).trans p0;have p1':=(HW.out.cells _ _ hb).trans p1;have p2':=(HW.out.cells _ _ hb).trans p2;have p3':=(HW.out.cells _ _ hb).trans p3;have p4':=(HW.out.cells _ _ hb).trans p4;clear p0 p1 p2 p3 p4;have HK:=hH (fun w' (h : Ext W w')=>And.intro (Row.ext h Ra_0.out).2.1 (And.intro ((h.cells _ _ hbw).trans p0') (And.intro ((h.cells _ _ hbw).trans p1') (And.intro ((h.cells _ _ hbw).trans p2') (And.intro ((h.cells _ _ hbw).trans p3') (((h.cells _ _ hbw).trans p4')))))));(refine Jw (fun w'=>Ext W w') 13 (by kernel_rfl) ((Ext.refl _).drew) (fun hS=>?_);simp only [List.length_cons,List.length_nil]);(refine tkA 0 HK hS ?_;refine tkA 1 HK hS ?_;refine tkA 2 HK hS ?_;refine tkA 3 HK hS ?_;refine tkA 4 HK hS ?_);refine XD (i:=5) (j:=10) rfl rfl (by kernel_rfl) rfl rfl (fun K hK=>?_) (fun K hK=>?_)
    ·go_simp
     refine (HTK.out W _ Je).mono ?_;rintro e w6 ⟨u0,u1,u2,rfl,h1,ha,hb1,hc⟩;obtain ⟨A6a,c6a,rfl⟩:=RdP.form ha;obtain ⟨A6b,c6b,rfl⟩:=RdP.form hb1;obtain ⟨A6c,c6c,rfl⟩:=RdP.form hc;have H6:=hH h1;have hz6:=h1.size;clear h1;(try simp only [lSz] at hz6 ha hb1 hc);have HA6:=hH ha;have HB6:=hH hb1;have HC6:=hH hc;have hla : InB w6.heap.size (.slice A6a E1.Jc.length c6a) E1.Jc:=ha.rd.inB (Nat.le_refl _);have hlb : InB w6.heap.size (.slice A6b E1.Jf.length c6b) E1.Jf:=hb1.rd.inB (Nat.le_refl _);have hlc : InB w6.heap.size (.slice A6c E1.Jd.length c6c) E1.Jd:=hc.rd.inB (Nat.le_refl _);have HLA:=hH hla;have HLB:=hH hlb;have HLC:=hH hlc;clear ha hb1 hc hla hlb hlc;clear hS
     have hS : Ext W w6:=by exact Je
     go_wp2_with fail;(refine hK.out _ _ (.inr hS) ?_;clear hK);(try simp only [Act.put,Jm]);(refine tkP 6 ?_;refine tkP 7 ?_;refine tkP 8 ?_;refine tkP 9 ?_);clear hS;refine oA 10 fun K hK=>?_;go_simp;refine hK.out _ _ (.inr (Je : Ext W _)) ?_;clear hK;(try simp only [Act.put,Jm]);refine oA 11 fun K hK=>?_;go_simp;refine hK.out _ _ (.inr (Je : Ext W _)) ?_;clear hK;(try simp only [Act.put,Jm]);refine oA 12 fun K hK=>?_;go_simp;refine hK.out _ _ (.inr (Je : Ext W _)) ?_;clear hK;(try simp only [Act.put,Jm]);(refine oA 13 fun K hK=>?_;go_simp;refine hK.out _ _ (.inl (by kernel_rfl)) ?_;clear hK;(try simp only [Act.put,Jm]);refine Ju (by kernel_rfl) ?_ _);clear HK;go_wp2_with fail;go_meet
     case rel =>
      refine ⟨_,.slice A6a E1.Jc.length c6a,.slice A6b E1.Jf.length c6b,.slice A6c E1.Jd.length c6c,rfl,rfl,rfl,⟨(Je : Ext wr _),by omega,Row.newAt rfl⟩,?_,?_,?_⟩
      ·exact ⟨HA6.out.rd.ext ((Ext.refl _).alloc _),fun h0 q hq=>by
        have h1:=HA6.out.2 h0 q hq;have h2:=HLA.out h0 q hq
        rcases h1 with h1 | h1
        ·exact .inl h1
        ·right;right;exact ⟨by omega,h2⟩⟩
      ·exact ⟨HB6.out.rd.ext ((Ext.refl _).alloc _),fun h0 q hq=>by
        have h1:=HB6.out.2 h0 q hq;have h2:=HLB.out h0 q hq
        rcases h1 with h1 | h1
        ·exact .inl h1
        ·right;right;exact ⟨by omega,h2⟩⟩
      ·exact ⟨HC6.out.rd.ext ((Ext.refl _).alloc _),fun h0 q hq=>by
        have h1:=HC6.out.2 h0 q hq;have h2:=HLC.out h0 q hq
        rcases h1 with h1 | h1
        ·exact .inl h1
        ·right;right;exact ⟨by omega,h2⟩⟩
    ·go_simp
     refine hK.out _ _ (.inr (Je : Ext W _)) ?_;clear hK;(try simp only [Act.put,Jm]);(refine oA 5 fun K hK=>?_;go_simp);refine (HTK.out W _ Je).mono ?_;rintro e w6 ⟨u0,u1,u2,rfl,h1,ha,hb1,hc⟩;obtain ⟨A6a,c6a,rfl⟩:=RdP.form ha;obtain ⟨A6b,c6b,rfl⟩:=RdP.form hb1;obtain ⟨A6c,c6c,rfl⟩:=RdP.form hc;have H6:=hH h1;have hz6:=h1.size;clear h1;(try simp only [lSz] at hz6 ha hb1 hc);have HA6:=hH ha;have HB6:=hH hb1;have HC6:=hH hc;clear ha hb1 hc;clear hS
     have hS : Ext W w6:=by exact Je
     go_wp2_with fail;(refine hK.out _ _ (.inr hS) ?_;clear hK);(try simp only [Act.put,Jm]);(refine tkP 6 ?_;refine tkP 7 ?_;refine tkP 8 ?_;refine tkP 9 ?_);clear hS;(refine Ji w6 W.heap.size fun qn_0 fn_0 ln_0 Rn_0=>?_);refine oA 11 fun K hK=>?_;go_simp;refine hK.out _ _ (.inr (Je : Ext W _)) ?_;clear hK;(try simp only [Act.put,Jm]);refine oA 12 fun K hK=>?_;go_simp;refine hK.out _ _ (.inr (Je : Ext W _)) ?_;clear hK;(try simp only [Act.put,Jm]);(refine oA 13 fun K hK=>?_;go_simp;refine hK.out _ _ (.inl (by kernel_rfl)) ?_;clear hK;(try simp only [Act.put,Jm]);refine Ju (by kernel_rfl) ?_ _);clear HK;go_wp2_with fail;go_meet
     case rel =>
      have hne : ∀ o : Nat,¬ ((PS (⟨W.heap.size,o,none⟩ : Addr).block /\ (⟨W.heap.size,o,none⟩ : Addr).block < wr.heap.size) \/ W.heap.size + 1 <= (⟨W.heap.size,o,none⟩ : Addr).block):=fun o h=>by
       simp only at h
       rcases h with ⟨-,h⟩ | h <;> omega
      have hwk : ∀ q,((PS q /\ q < wr.heap.size) \/ W.heap.size + 1 <= q) -> ((PS q /\ q < wr.heap.size) \/ W.heap.size < q \/ (wr.heap.size <= q /\ q < W.heap.size)):=fun q h=>by
       rcases h with h | h
       ·exact .inl h
       ·right;left;omega
      refine ⟨_,.slice A6a E1.Jc.length c6a,.slice A6b E1.Jf.length c6b,.slice A6c E1.Jd.length c6c,rfl,rfl,rfl,⟨(Je : Ext wr _),by omega,?_⟩,?_,?_,?_⟩
      ·have:=(((Rn_0.out).J4 (i:=0) (u:=.slice A6a E1.Jc.length c6a)).J4 (i:=1) (u:=.slice A6b E1.Jf.length c6b)).J4 (i:=2) (u:=.slice A6c E1.Jd.length c6c)
       simpa using this
      ·exact (RdP.Jl (hne _) (RdP.Jl (hne _) (RdP.Jl (hne _) HA6.out))).weak hwk
      ·exact (RdP.Jl (hne _) (RdP.Jl (hne _) (RdP.Jl (hne _) HB6.out))).weak hwk
      ·exact (RdP.Jl (hne _) (RdP.Jl (hne _) (RdP.Jl (hne _) HC6.out))).weak hwk
   case rest =>
    obtain ⟨g5,u0,u1,u2,rfl,rfl,rfl,HW,HA⟩:=hcut;obtain ⟨w4,rfl⟩ : ∃ w4 : World,w4 = wc:=⟨_,rfl⟩;have H4:=hH HW.out.1;have hg5:=HW.out.2.1;have R5:=hH HW.out.2.2;have ha:=HA.out.1;have hb1:=HA.out.2.1;have hc:=HA.out.2.2;obtain ⟨G0,y0,rfl⟩:=RdP.form ha;obtain ⟨G1,y1,rfl⟩:=RdP.form hb1;obtain ⟨G2,y2,rfl⟩:=RdP.form hc;have HA4:=hH ha;have HB4:=hH hb1;have HC4:=hH hc;clear HW HA HTK ha hb1 hc qr_0 fr_0 lr_0 qr_1 fr_1 lr_1;have hz4:=H4.out.size;have RX:=hH (HRX.out.ext H4.out);have RR:=hH (HRR.out.ext H4.out)
    have hPSn : ¬ PS w3.heap.size:=by
     rw [<- HPS.out];rintro ⟨h | h,-⟩
     ·have:=HPB.out _ h;omega
     ·omega
    have HPSN:=hH hPSn;clear hPSn;(refine Ji w4 w3.heap.size fun q4_0 f4_0 l4_0 R4_0=>?_;refine Ji w4 (w.heap.size + 1) fun q4_1 f4_1 l4_1 R4_1=>?_;refine Ji w4 g5 fun q4_2 f4_2 l4_2 R4_2=>?_);have hin:=HIN2.out
    by_cases h2 : E3 = 2
    ·subst h2
     rw [if_pos rfl] at hin;subst hin;go_wp2_with fail;refine bodyPost_ret (v:=.tuple #[.agg #[.slice none 0 0,.slice none 0 0,.slice none 0 0],.slice none 0 0,.int .i64 2]) (by simp [results,Tryz.results65,go_sem, *]) rfl ⟨_,_,_,_,rfl,(Je : Ext w _),RdP.nil,RdP.nil,RdP.nil,Jh.nil⟩
    ·have h2b : (E3 == 2) = false:=by simpa using h2
     simp only [h2,if_false] at hin
     by_cases h0 : E3 = 0
     ·subst h0
      simp only [if_true] at hin;have HIN3:=hH hin;have her:=HER.out rfl;have HEA:=hH her.1;clear hin h2 her HER;go_wp2_with fail;go_roundg (ol.length - (k + 1))
      case measure=>omega
      case rel =>
       have hne : ¬ ((PS w3.heap.size /\ w3.heap.size < wr.heap.size) \/ g5 < w3.heap.size \/ (wr.heap.size <= w3.heap.size /\ w3.heap.size < g5)):=by
        rintro (⟨h,-⟩ | h | ⟨h,-⟩)
        ·exact HPSN.out h
        ·omega
        ·omega
       have hwk : ∀ q,((PS q /\ q < wr.heap.size) \/ g5 < q \/ (wr.heap.size <= q /\ q < g5)) -> PS q:=fun q h=>by
        have hso : wr.heap.size <= q -> PS q:=fun hq=>by
         rw [<- HPS.out];refine ⟨.inr (by omega),fun e=>?_⟩;have:=(HOO.out.lt q e).2
         omega
        rcases h with ⟨h,-⟩ | h | ⟨h,-⟩
        ·exact h
        ·exact hso (by omega)
        ·exact hso h
       refine ⟨k + 1,E1,ok,.slice G0 E1.Jc.length y0,.slice G1 E1.Jf.length y1,.slice G2 E1.Jd.length y2,Bo,do',by omega,by omega,by go_num,rfl,⟨?_,?_⟩,⟨?_,?_,?_,?_⟩,HEA.out,HIN3.out,Nat.le_succ_of_le HOK.out⟩
       ·have hle : w3.heap.size <= w3.heap.size:=Nat.le_refl _
        exact Ext.Jl hle (Ext.Jl hle (Ext.Jl hle (HE.out.trans H4.out)))
       ·have:=(((R4_0.out).J4 (i:=0) (u:=.slice G0 E1.Jc.length y0)).J4 (i:=1) (u:=.slice G1 E1.Jf.length y1)).J4 (i:=2) (u:=.slice G2 E1.Jd.length y2)
        simpa using this
       ·rw [HPS.out]
        exact (RdP.Jl (by exact hne) (RdP.Jl (by exact hne) (RdP.Jl (by exact hne) HA4.out))).weak hwk
       ·rw [HPS.out]
        exact (RdP.Jl (by exact hne) (RdP.Jl (by exact hne) (RdP.Jl (by exact hne) HB4.out))).weak hwk
       ·rw [HPS.out]
        exact (RdP.Jl (by exact hne) (RdP.Jl (by exact hne) (RdP.Jl (by exact hne) HC4.out))).weak hwk
       ·have hlt1 : w3.heap.size < w3.heap.size + 1:=Nat.lt_succ_self _
        exact Jh.Jl hlt1 (Jh.Jl hlt1 (Jh.Jl hlt1 (HOO.out.ext H4.out)))
     ·have h0b : (E3 == 0) = false:=by simpa using h0
      simp only [h0,if_false] at hin;have HIN3:=hH hin;have z0:=(H4.out.cells _ _ hb).trans p0;have z1:=(H4.out.cells _ _ hb).trans p1;have z2:=(H4.out.cells _ _ hb).trans p2;have z3:=(H4.out.cells _ _ hb).trans p3;have z4:=(H4.out.cells _ _ hb).trans p4;clear hin h2 h0 HER p0 p1 p2 p3 p4
      go_wp2_with (at_builtin;go_loud (refine JC (enc:=tpc) (k:=5) _ rfl _ _ 23 rfl (w3.heap.size + 1) 57 i0 (.agg #[.int .i64 0,.int .i64 0,.int .i64 0,.int .i64 0,.int .i64 0]) 40 Tryz.underlying23 ji ji0 ji1 ji2 rfl (by decide) Jr _ ok rfl (Jh.alloc _ (HOO.out.ext H4.out)) _ [(⟨pa,pb,pc,pd,pe⟩ : Tp)] rfl (RdL.lit (⟨pa,pb,pc,pd,pe⟩ : Tp) rfl rfl) (Xn _) ?e1x ?e2x (by simp only [World.size_alloc];omega) ?_))
      case e1x=>have:=HOK.out;have:=HOL.out;unfold maxLen;simp;omega
      case e2x=>have:=HOK.out;have:=HOL.out;simp;omega
      intro v7 w7 ho7 hg7 hn7;obtain ⟨B7,d7,rfl⟩:=ho7.form;have HO7:=hH ho7;have HG7:=hH hg7;have HN7:=hH hn7;clear ho7 hg7 hn7 z0 z1 z2 z3 z4;go_wp2_with fail;go_roundg (ol.length - (k + 1))
      case measure=>omega
      case rel =>
       have hbase : ∀ q,(Value.slice Bo ok.length do').ownBlock = some q -> w3.heap.size + 1 <= q:=fun q hq=>(HOO.out.lt q hq).1
       have hPSb : ∀ q,(Value.slice Bo ok.length do').ownBlock = some q -> ¬ PS q:=fun q hq h=>by
        rw [<- HPS.out] at h;exact h.2 hq
       have hwk : ∀ q,PS q -> q < wr.heap.size -> PSo PB w3.heap.size (.slice B7 (ok ++ [(⟨pa,pb,pc,pd,pe⟩ : Tp)]).length d7) q:=fun q h hl=>by
        rw [<- HPS.out] at h;refine ⟨h.1,fun e=>?_⟩
        rcases HN7.out with h7 | h7
        ·rw [h7] at e;exact h.2 e
        ·rw [h7] at e
         simp only [World.size_alloc,Option.some.injEq] at e
         omega
       refine ⟨k + 1,xk,ok ++ [⟨pa,pb,pc,pd,pe⟩],.slice D0 xk.Jc.length f0,.slice D1 xk.Jf.length f1,.slice D2 xk.Jd.length f2,B7,d7,by omega,by omega,by go_num,by simp,⟨?_,?_⟩,⟨?_,?_,?_,HO7.out⟩,HCK.out,HIN3.out,by have:=HOK.out;simp;omega⟩
       ·exact Ext.grown ((HE.out.trans H4.out).alloc _) HG7.out (fun q hq=>by have:=hbase q hq;omega)
       ·exact (RX.out.alloc).grown HG7.out (fun e=>by have:=hbase _ e.symm;omega)
       ·exact ⟨((HQ0.out.ext H4.out).alloc _ |>.kept HG7.out hPSb).rd,fun h0 q hq=>hwk q (HQ0.out.2 h0 q hq) (HQ0.out.rd.inB (Nat.le_refl _) h0 q hq)⟩
       ·exact ⟨((HQ1.out.ext H4.out).alloc _ |>.kept HG7.out hPSb).rd,fun h0 q hq=>hwk q (HQ1.out.2 h0 q hq) (HQ1.out.rd.inB (Nat.le_refl _) h0 q hq)⟩
       ·exact ⟨((HQ2.out.ext H4.out).alloc _ |>.kept HG7.out hPSb).rd,fun h0 q hq=>hwk q (HQ2.out.2 h0 q hq) (HQ2.out.rd.inB (Nat.le_refl _) h0 q hq)⟩
  ·have hge : ¬ (k : Int) < (ol.length : Int):=by omega
   have hR2 : R = (xk,ok,0):=by
    rw [<- HIN.out,List.drop_of_length_le (by omega)]
    rfl
   subst hR2
   have hpw : ¬ PSo PB w3.heap.size (.slice Bo ok.length do') (w.heap.size + 1):=fun h=>by
    rcases h.1 with h | h
    ·have:=HPB.out _ h;omega
    ·omega
   have hps : ∀ q,PSo PB w3.heap.size (.slice Bo ok.length do') q -> PB q \/ w.heap.size <= q:=fun q h=>by
    rcases h.1 with h | h
    ·exact .inl h
    ·right;omega
   go_wp2_with fail;refine bodyPost_ret (v:=.tuple #[.agg #[.slice D0 xk.Jc.length f0,.slice D1 xk.Jf.length f1,.slice D2 xk.Jd.length f2],.slice Bo ok.length do',.int .i64 0]) (by simp [results,Tryz.results65,go_sem, *]) rfl ⟨_,_,_,_,rfl,(Je : Ext w _),?_,?_,?_,?_⟩
   ·exact (RdP.Jl (by exact hpw) (RdP.Jl (by exact hpw) (RdP.Jl (by exact hpw) HQ0.out))).weak hps
   ·exact (RdP.Jl (by exact hpw) (RdP.Jl (by exact hpw) (RdP.Jl (by exact hpw) HQ1.out))).weak hps
   ·exact (RdP.Jl (by exact hpw) (RdP.Jl (by exact hpw) (RdP.Jl (by exact hpw) HQ2.out))).weak hps
   ·have hlt1 : w.heap.size + 1 < w3.heap.size + 1:=by omega
    exact (Jh.Jl hlt1 (Jh.Jl hlt1 (Jh.Jl hlt1 HOO.out))).lower (by omega)
end Go.Proofs.YteojjbhadgkfgaaGreat
