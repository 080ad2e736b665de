/- Qb: parts of the proofs, laid together. -/
import Derived.Test.YteojjbhadgkfgaaGreatQa
/- Ledgers: rides of beginnings; what comes of a tap at a place: the plain side. -/
set_option maxHeartbeats 64000000
namespace Lb
set_option linter.unusedVariables false
set_option maxRecDepth 100000
set_option linter.unusedSimpArgs false

def JG (Jf : List Tp) (vs : List Int) (id : Int) (k : Nat) : List Tp:=ZV (Jf.take k) (vs.take k) id
theorem XR (Jf : List Tp) (vs : List Int) (id : Int) : JG Jf vs id 0 = []:=by simp [JG,ZV]
theorem ridesTo_succ (Jf : List Tp) (vs : List Int) (id : Int) (k : Nat) (h1 : k < Jf.length) (h2 : k < vs.length) :
  JG Jf vs id (k + 1) = if Jf[k].ticket == id && vs[k] == 1 then JG Jf vs id k ++ [Jf[k]] else JG Jf vs id k:=by
 unfold JG ZV;rw [List.take_succ_eq_append_getElem h1,List.take_succ_eq_append_getElem h2,List.zip_append (by simp;omega)];simp only [List.zip_cons_cons,List.zip_nil_right,List.filter_append,List.map_append,List.filter_cons,List.filter_nil,isRide]
 split
 ·rename_i h
  simp only [Bool.and_eq_true,beq_iff_eq] at h
  simp [h]
 ·rename_i h
  simp only [Bool.and_eq_true,beq_iff_eq,not_and] at h
  simpa using h
theorem ridesTo_all (Jf : List Tp) (vs : List Int) (id : Int) (k : Nat) (h1 : Jf.length <= k) (h2 : vs.length <= k) : JG Jf vs id k = ZV Jf vs id:=by
 unfold JG;rw [List.take_of_length_le h1,List.take_of_length_le h2]
theorem ridesTo_mem {Jf : List Tp} {vs : List Int} {id : Int} {k : Nat} {x : Tp} (h : x ∈ JG Jf vs id k) : x ∈ Jf.take k:=by
 unfold JG ZV at h;obtain ⟨y,hy,rfl⟩:=List.mem_map.1 h;exact (List.of_mem_zip (List.mem_filter.1 hy).1).1
theorem ridesTo_len (Jf : List Tp) (vs : List Int) (id : Int) (k : Nat) : (JG Jf vs id k).length <= k:=by
 unfold JG ZV;rw [List.length_map];refine Nat.le_trans (List.length_filter_le _ _) ?_;rw [List.length_zip]
 simp
 omega
def ZN (l : List Tp) : List Tp:=l.getLast?.toList
theorem lastRide_snoc (l : List Tp) (p : Tp) : ZN (l ++ [p]) = [p]:=by simp [ZN]
theorem lastTime_last (l : List Tp) : Zi (ZN l) = Zi l:=by
 unfold Zi ZN
 cases l.getLast? <;> simp
theorem lastRide_mem {l : List Tp} {x : Tp} (h : x ∈ ZN l) : x ∈ l:=by
 unfold ZN at h;rw [Option.mem_toList] at h;exact List.mem_of_getLast? h
def tapAt (tks : List Tk) (Jf : List Tp) (vs : List Int) (i : Nat) (p : Tp) : Int × Int :=
 if Jv p ≠ 0 then (0,Jv p)
 else match JU tks p.ticket with
  | none=>(0,5)
  | some t=>if (Jf.take i).any (JM p) then (0,6)
   else if i < vs.length /\ vs[i]! ≠ 1 /\ vs[i]! ≠ 2 then (0,7)
   else if Xa (Jf.take i) p then (0,4)
   else judge t (Zi (JG Jf vs p.ticket i)) (JG Jf vs p.ticket i).length p
theorem ckTapAt_of {tks : List Tk} {Jf : List Tp} {vs : List Int} {i : Nat} (hi : i < vs.length) (hlen : Jf.length = vs.length) :
  Zl tks (Jf.take i) (vs.take i) (Jf[i]'(by omega)) vs[i] = if (tapAt tks Jf vs i (Jf[i]'(by omega))).1 = 0 then (tapAt tks Jf vs i (Jf[i]'(by omega))).2 else if (tapAt tks Jf vs i (Jf[i]'(by omega))).1 ≠ vs[i] then 4 else 0:=by
 generalize hp : Jf[i]'(by omega) = p
 have hv : vs[i]! = vs[i]:=by simp [hi]
 unfold Zl tapAt
 by_cases h1 : Jv p = 0
 ·simp only [h1,ne_eq,not_true_eq_false,if_false]
  cases ht : JU tks p.ticket with
  | none=>simp
  | some t =>
   simp only [hv,hi,true_and]
   cases h2 : (Jf.take i).any (JM p) with
   | true=>simp
   | false =>
    simp only [Bool.false_eq_true,if_false]
    by_cases h3 : vs[i] ≠ 1 /\ vs[i] ≠ 2
    ·rw [if_pos h3,if_pos h3]
     simp
    ·rw [if_neg h3,if_neg h3]
     cases h4 : Xa (Jf.take i) p with
     | true=>simp
     | false =>
      simp only [Bool.false_eq_true,if_false];have hj:=judge_cases t (Zi (JG Jf vs p.ticket i)) (JG Jf vs p.ticket i).length p;rw [if_neg (show ¬ (judge t (Zi (JG Jf vs p.ticket i)) (JG Jf vs p.ticket i).length p).1 = 0 by omega)]
      rfl
 ·simp [h1]
end Lb

namespace Go.Proofs.YteojjbhadgkfgaaGreat
set_option linter.unusedSimpArgs false
set_option linter.unusedVariables false
set_option maxRecDepth 100000
open Go Go.RowKit Lb

theorem RdL.XC {w : World} {v : Value} {l : List Tk} (h : RdL 6 tkc w v l) {A : Option Addr} {n c : Nat} (hv : v = .slice A n c) {k : Nat} (hk : k < l.length) : ∃ b o,A = some ⟨b,o,none⟩ /\ b < w.heap.size /\
  w.cell? ⟨b,o + k * 6,none⟩ = some (.int .i64 l[k].id) /\ w.cell? ⟨b,o + k * 6 + 1,none⟩ = some (.int .i64 l[k].kind) /\ w.cell? ⟨b,o + k * 6 + 2,none⟩ = some (.int .i64 l[k].frm) /\ w.cell? ⟨b,o + k * 6 + 3,none⟩ = some (.int .i64 l[k].til) /\ w.cell? ⟨b,o + k * 6 + 4,none⟩ = some (.int .i64 l[k].JS) /\ w.cell? ⟨b,o + k * 6 + 5,none⟩ = some (.int .i64 l[k].rides):=by
 obtain ⟨b,o,c',hv',hb,hc⟩:=h.at_ hk;rw [hv] at hv'
 injection hv' with ha
 exact ⟨b,o,ha,hb,hc 0 _ rfl,hc 1 _ rfl,hc 2 _ rfl,hc 3 _ rfl,hc 4 _ rfl,hc 5 _ rfl⟩

theorem find_one (x : Tk) (id : Int) (g : Nat) (w : World) (hr : Row w g #[.int .i64 id]) :
  Calls Tryz.prog 178 #[.agg (tkc x),.pointer (some ⟨g,0,none⟩)] w fun e w'=>e = .returned (.bool (x.id == id)) /\ Ext w w':=by
 obtain ⟨x0,x1,x2,x3,x4,x5⟩:=x;unfold tkc
 apply Row.use hr;intro q f l R
 clear hr;go_enter Tryz.func178,Tryz.ntmps178
 go_wp2
 all_goals
  go_ret;refine ⟨Jq ?_,?_⟩
  ·simp_all
  ·exact Je

theorem ledger_Find (l : List Tk) (id : Int) (v : Value) (w : World) (hr : RdL 6 tkc w v l) :
  Calls Tryz.prog 153 #[v,.int .i64 id] w fun e w'=>e = .returned (.int .i64 (XI (fun t=>t.id == id) l)) /\ Ext w w':=by
 have HC:=hH (fun (w' : World) (b : Nat) (h : Ext w w') (hb : Row w' b #[.int .i64 id])=>IndexFunc_tk (fun t=>t.id == id) 178 #[.pointer (some ⟨b,0,none⟩)] (fun args w=>by simp [go_sem]) l v w' (hr.ext h) (fun W x hE=>find_one x id b W (hb.ext hE)));obtain ⟨A,c,rfl,-,-⟩:=hr.form;generalize XI (fun t : Tk=>t.id == id) l = r at *;clear hr;go_enter Tryz.func153,Tryz.ntmps153;go_wp2_with fail;refine (HC.out _ _ Je (Row.newAt rfl)).mono ?_;rintro e w1 ⟨rfl,h1⟩;have H1:=hH h1;clear h1;go_wp2_with fail;go_ret;refine ⟨rfl,?_⟩;exact Je

theorem ixBy_cons {α : Type} (p : α -> Bool) (l : List α) (k : Nat) (h : k < l.length) (hn : ∀ j (hj : j < l.length),j < k -> p l[j] = false) (hp : p l[k] = true) : XI p l = k:=by
 unfold XI;have : l.findIdx? p = some k:=List.findIdx?_eq_some_iff_getElem.2 ⟨h,hp,fun j hj=>by simpa using hn j (by omega) hj⟩;rw [this]
theorem ixBy_none {α : Type} (p : α -> Bool) (l : List α) (hn : ∀ j (hj : j < l.length),p l[j] = false) : XI p l = -1:=by
 unfold XI
 have : l.findIdx? p = none:=by
  rw [List.findIdx?_eq_none_iff];intro x hx;obtain ⟨j,hj,rfl⟩:=List.mem_iff_getElem.1 hx;exact hn j hj
 rw [this]

theorem ref_TicketAt (l : List Tk) (id : Int) (v : Value) (w : World) (hr : RdL 6 tkc w v l) :
  Calls Tryz.prog 30 #[v,.int .i64 id] w fun e w'=>e = .returned (.int .i64 (XI (fun t=>t.id == id) l)) /\ Ext w w':=by
 obtain ⟨A,c,rfl,hmc,hmm⟩:=hr.form
 have hm : l.length <= 9223372036854775807:=by unfold maxLen at hmm;omega
 have HRd:=hH hr;generalize hR : XI (fun t : Tk=>t.id == id) l = r;have HR:=hH hR;clear hr hmc hmm hR;go_enter Tryz.func30,Tryz.ntmps30;go_wp2_with fail
 go_loopg [5] l.length (fun gg s5 wr=>∃ k : Nat,k <= l.length /\ l.length - k <= gg /\ s5 = .int .i64 k /\ Aside (Ext w wr) /\ Aside (∀ j (hj : j < l.length),j < k -> (l[j].id == id) = false))
 case atStart=>exact ⟨0,by omega,by omega,rfl,Ext.refl _,fun j _ hj=>by omega⟩
 case round =>
  obtain ⟨k,hk,hg,rfl,HE,HA⟩:=hrel;have HE2:=hH HE.out;have HA2:=hH HA.out;clear HE HA
  by_cases hlt : k < l.length
  ·have hlt' : (k : Int) < (l.length : Int):=by omega
   obtain ⟨b,o,rfl,hb,c0,-,-,-,-,-⟩:=(HRd.out.ext HE2.out).XC rfl hlt
   by_cases hx : l[k].id = id
   ·have hxb : (l[k].id == id) = true:=by simpa using hx
    have hQ:=ixBy_cons (fun t : Tk=>t.id == id) l k hlt (fun j hj h=>HA2.out j hj h) hxb;rw [HR.out] at hQ;subst hQ;clear hx HA2;generalize l[k].id = x at *;go_wp2_with fail;(try (go_quiet (fail);go_wp2_with fail));go_ret;exact ⟨rfl,(Je : Ext w _)⟩
   ·have hxb : (l[k].id == id) = false:=by simpa using hx
    have HA3:=hH (show ∀ j (hj : j < l.length),j < k + 1 -> (l[j].id == id) = false from fun j hj h=>by
     by_cases hjk : j = k
     ·subst hjk;exact hxb
     ·exact HA2.out j hj (by omega))
    clear HA2 hx;generalize l[k].id = x at *;go_wp2_with fail;(try (go_quiet (fail);go_wp2_with fail));go_roundg (l.length - (k + 1))
    case measure=>omega
    case rel=>exact ⟨k + 1,by omega,by omega,by go_num,(Je : Ext w _),HA3.out⟩
  ·have hge : ¬ (k : Int) < (l.length : Int):=by omega
   have hQ:=ixBy_none (fun t : Tk=>t.id == id) l (fun j hj=>HA2.out j hj (by omega));rw [HR.out] at hQ;subst hQ;clear HA2;go_wp2_with fail;go_ret;exact ⟨rfl,HE2.out⟩
def prevK (l : List Tk) (k : Nat) : Option Int:=if k = 0 then none else (l[k - 1]?).map (·.id)
theorem prevK_succ (l : List Tk) (k : Nat) (h : k < l.length) : prevK l (k + 1) = some l[k].id:=by simp [prevK,h]
theorem Xb (prev : Option Int) (t : Tk) (l : List Tk) : J5 prev (t :: l) = if JB t ≠ 0 then JB t else if ZC prev t.id = true then 4 else J5 (some t.id) l:=rfl

theorem ledger_tickets (l : List Tk) (v : Value) (w : World) (hr : RdL 6 tkc w v l) :
  Calls Tryz.prog 113 #[v] w fun e w'=>e = .returned (.int .i64 (J5 none l)) /\ Ext w w':=by
 obtain ⟨A,c,rfl,hmc,hmm⟩:=hr.form
 have hm : l.length <= 9223372036854775807:=by unfold maxLen at hmm;omega
 have HRd:=hH hr;generalize hR : J5 none l = r;have HR:=hH hR;clear hr hmc hmm hR;go_enter Tryz.func113,Tryz.ntmps113;go_wp2_with fail
 go_loopg [3,4,5,8] l.length (fun gg _ _ _ s8 wr=>∃ k : Nat,k <= l.length /\ l.length - k <= gg /\ s8 = .int .i64 k /\ Aside (Ext w wr) /\ Aside (J5 (prevK l k) (l.drop k) = r))
 case atStart=>exact ⟨0,by omega,by omega,rfl,Ext.refl _,HR.out⟩
 case round =>
  obtain ⟨k,hk,hg,rfl,HE,HA⟩:=hrel;have HE2:=hH HE.out;have hA:=HA.out;clear HE HA
  by_cases hlt : k < l.length
  ·have hlt' : (k : Int) < (l.length : Int):=by omega
   obtain ⟨b,o,rfl,hb,c0,c1,c2',c3,c4,c5⟩:=(HRd.out.ext HE2.out).XC rfl hlt;rw [List.drop_eq_getElem_cons hlt,Xb] at hA;have HRC:=hH (fun w=>ticket_Check l[k] w)
   have hpv : 0 < k -> ∃ y : Int,prevK l k = some y /\ ∀ W,Ext wr W -> W.cell? ⟨b,o + (k - 1) * 6,none⟩ = some (.int .i64 y):=by
    intro h0
    have hk1 : k - 1 < l.length:=by omega
    refine ⟨l[k - 1].id,by unfold prevK;rw [if_neg (by omega),List.getElem?_eq_getElem hk1];rfl,fun W hW=>?_⟩;obtain ⟨b',o',hAA,_,d0,_⟩:=((HRd.out.ext HE2.out).ext hW).XC rfl hk1
    injection hAA with hAA
    injection hAA with e1 e2
    subst e1 e2;exact d0
   have HPV:=hH hpv
   have hk0 : k = 0 -> prevK l k = none:=fun h=>by subst h;rfl
   rw [<- prevK_succ l k hlt] at hA;clear hpv;generalize hp : l[k] = p at *;clear hp;obtain ⟨x0,x1,x2,x3,x4,x5⟩:=p;simp only at c0 c1 c2' c3 c4 c5 hA;unfold tkc at HRC;generalize JB ⟨x0,x1,x2,x3,x4,x5⟩ = q at HRC hA
   by_cases hq0 : q = 0
   ·rw [if_neg (by simpa using hq0)] at hA
    subst hq0
    by_cases hz : k = 0
    ·rw [hk0 hz,if_neg (by simp [ZC])] at hA
     subst hz;simp only [Nat.zero_mul,Nat.add_zero] at c0 c1 c2' c3 c4 c5;have HA2:=hH hA;clear hA hk0 HPV;go_wp2_with fail;(refine gA (HRC.out _) fun w1 H1 hz1=>?_;refine Ji w1 wr.heap.size fun q1_0 f1_0 l1_0 R1_0=>?_);go_wp2_with fail;go_quiet (fail);go_wp2_with fail;go_roundg (l.length - (0 + 1))
     case measure=>omega
     case rel=>exact ⟨0 + 1,by omega,by omega,by go_num,(Je : Ext w _),HA2.out⟩
    ·obtain ⟨y,hy,hyc⟩:=HPV.out (by omega)
     have hkn : 0 < k:=by omega
     have hkd : decide (0 < k) = true:=by simpa using hkn
     have hw1 : IntKind.i64.wrap ((k : Int) - 1) = ((k - 1 : Nat) : Int):=by rw [IntWalk.i64_in _ (by omega)];omega
     have hk1 : ((k - 1 : Nat) : Int) < (l.length : Int):=by omega
     have hk2 : k - 1 < l.length:=by omega
     rw [hy] at hA;have HYC:=hH hyc;clear hy hyc HPV hk0
     by_cases e3 : x0 <= y
     ·have e3b : decide (x0 <= y) = true:=by simpa using e3
      rw [if_pos (by simpa [ZC] using e3)] at hA;subst hA;clear e3;go_wp2_with fail;(refine gA (HRC.out _) fun w1 H1 hz1=>?_;refine Ji w1 wr.heap.size fun q1_0 f1_0 l1_0 R1_0=>?_);have f2:=HYC.out w1 Je;go_wp2_with fail;go_quiet (fail);go_wp2_with fail;go_ret;exact ⟨rfl,(Je : Ext w _)⟩
     ·have e3b : decide (x0 <= y) = false:=by simpa using e3
      rw [if_neg (by simpa [ZC] using e3)] at hA;have HA2:=hH hA;clear hA e3;go_wp2_with fail;(refine gA (HRC.out _) fun w1 H1 hz1=>?_;refine Ji w1 wr.heap.size fun q1_0 f1_0 l1_0 R1_0=>?_);have f2:=HYC.out w1 Je;go_wp2_with fail;go_quiet (fail);go_wp2_with fail;go_roundg (l.length - (k + 1))
      case measure=>omega
      case rel=>exact ⟨k + 1,by omega,by omega,by go_num,(Je : Ext w _),HA2.out⟩
   ·have hqb : (q != 0) = true:=by simpa using hq0
    rw [if_pos hq0] at hA;subst hA;clear hq0 hk0 HPV;go_wp2_with fail;(refine gA (HRC.out _) fun w1 H1 hz1=>?_;refine Ji w1 wr.heap.size fun q1_0 f1_0 l1_0 R1_0=>?_);go_wp2_with fail;go_ret;exact ⟨rfl,(Je : Ext w _)⟩
  ·have hge : ¬ (k : Int) < (l.length : Int):=by omega
   have hkl : k = l.length:=by omega
   rw [hkl,List.drop_length] at hA;have hr0 : r = 0:=hA.symm;subst hr0;clear hA hkl;go_wp2_with fail;go_ret;exact ⟨rfl,HE2.out⟩

theorem RdL.ZX {w : World} {v : Value} {l : List Tp} (h : RdL 5 tpc w v l) {A : Option Addr} {n c : Nat} (hv : v = .slice A n c) {k : Nat} (hk : k < l.length) : ∃ b o,A = some ⟨b,o,none⟩ /\ b < w.heap.size /\
  w.cell? ⟨b,o + k * 5,none⟩ = some (.int .i64 l[k].ticket) /\ w.cell? ⟨b,o + k * 5 + 1,none⟩ = some (.int .i64 l[k].gate) /\ w.cell? ⟨b,o + k * 5 + 2,none⟩ = some (.int .i64 l[k].seq) /\ w.cell? ⟨b,o + k * 5 + 3,none⟩ = some (.int .i64 l[k].time) /\ w.cell? ⟨b,o + k * 5 + 4,none⟩ = some (.int .i64 l[k].zone):=by
 subst hv;obtain ⟨b,o,c',hv,hb,hc⟩:=h.at_ hk
 injection hv with hA
 exact ⟨b,o,hA,hb,hc 0 _ rfl,hc 1 _ rfl,hc 2 _ rfl,hc 3 _ rfl,hc 4 _ rfl⟩
theorem RdL.num_at {w : World} {v : Value} {l : List Int} (h : RdL 1 inc w v l) {A : Option Addr} {n c : Nat} (hv : v = .slice A n c) {j : Nat} (hj : j < l.length) : ∃ b o,A = some ⟨b,o,none⟩ /\ b < w.heap.size /\ w.cell? ⟨b,o + j,none⟩ = some (.int .i64 l[j]):=by
 subst hv;obtain ⟨b,o,c',hv,hb,hc⟩:=h.at_ hj
 injection hv with hA
 have:=hc 0 _ rfl;rw [Nat.mul_one,Nat.add_zero] at this;exact ⟨b,o,hA,hb,this⟩

theorem ledger_rides (Jf : List Tp) (vs : List Int) (s0 s1 s2 : Value) (id : Int) (m : Nat) (w : World) (hmt : m <= Jf.length) (hlen : Jf.length = vs.length) (h0 : ∃ A n c,s0 = .slice A n c) (hr : RdL 5 tpc w s1 Jf) (hs : RdL 1 inc w s2 vs) :
  Calls Tryz.prog 159 #[.agg #[s0,s1,s2],.int .i64 id,.int .i64 m] w fun e w'=>∃ s,e = .returned (.tuple #[s,.int .i64 ((JG Jf vs id m).length : Nat)]) /\ Ext w w' /\ RdL 5 tpc w' s (ZN (JG Jf vs id m)):=by
 obtain ⟨A0,n0,c0,rfl⟩:=h0;obtain ⟨A,c,rfl,hmc,hmm⟩:=hr.form;obtain ⟨A2,c2,rfl,hmc2,hmm2⟩:=hs.form
 have hm : Jf.length <= 9223372036854775807:=by unfold maxLen at hmm;omega
 have hmc' : (m : Int) <= (c : Int):=by omega
 have hm0 : (0 : Int) <= (m : Int):=by omega
 have HRd:=hH hr;have HSd:=hH hs;have HLEN:=hH hlen;clear hlen;have hvl : vs.length <= c2:=hmc2;clear hr hs hmm hmm2 hmc2;go_enter Tryz.func159,Tryz.ntmps159;go_wp2_with fail
 go_loopg [8,9,10,11,17] m (fun gg s8 s9 _ _ s17 wr=>∃ (k : Nat) (A8 : Option Addr) (c8 : Nat),k <= m /\ m - k <= gg /\ s8 = .slice A8 (ZN (JG Jf vs id k)).length c8 /\ s9 = .int .i64 ((JG Jf vs id k).length : Nat) /\ s17 = .int .i64 k /\ Aside (Ext w wr /\ Row wr w.heap.size #[.slice A0 n0 c0,.slice A Jf.length c,.slice A2 vs.length c2] /\ RdL 5 tpc wr (.slice A8 (ZN (JG Jf vs id k)).length c8) (ZN (JG Jf vs id k))))
 case atStart =>
  refine ⟨0,none,0,by omega,by omega,?_,?_,rfl,(Ext.refl _).alloc _,Row.newAt rfl,?_⟩
  ·rw [XR];rfl
  ·rw [XR];rfl
  ·rw [XR];exact RdL.nil
 case round =>
  obtain ⟨k,A8,c8,hk,hg,rfl,rfl,rfl,HV⟩:=hrel;have HE:=hH HV.out.1;have HR0:=hH HV.out.2.1;have H8:=hH HV.out.2.2;clear HV;(refine Ji wr w.heap.size fun qr_0 fr_0 lr_0 Rr_0=>?_)
  by_cases hlt : k < m
  ·have hlt' : (k : Int) < (m : Int):=by omega
   have hkt : k < Jf.length:=by omega
   have hkv : k < vs.length:=by have:=HLEN.out;omega
   have hkv' : (k : Int) < (vs.length : Int):=by omega
   obtain ⟨b,o,rfl,hb,d0,d1,d2,d3,d4⟩:=(HRd.out.ext HE.out).ZX rfl hkt;obtain ⟨b2,o2,rfl,hb2,f0⟩:=(HSd.out.ext HE.out).num_at rfl hkv;have hsu:=ridesTo_succ Jf vs id k hkt hkv;have hle:=ridesTo_len Jf vs id k;generalize hR : JG Jf vs id k = R at *;generalize hR2 : JG Jf vs id (k + 1) = R2 at *
   have hws : IntKind.i64.wrap ((R.length : Int) + 1) = ((R.length + 1 : Nat) : Int):=by rw [IntWalk.i64_in _ (by omega)];omega
   have HR2:=hH hR2;clear hR hR2;generalize Jf[k] = p at *;generalize vs[k] = y at *;obtain ⟨x0,x1,x2,x3,x4⟩:=p;simp only at d0 d1 d2 d3 d4 hsu
   by_cases hx : x0 = id
   ·have hxb : (x0 == id) = true:=by simpa using hx
    by_cases hy : y = 1
    ·have hyb : (y == 1) = true:=by simpa using hy
     rw [hxb,hyb] at hsu;have HSU:=hH (show R2 = R ++ [⟨x0,x1,x2,x3,x4⟩] from hsu);clear hsu hx hy;go_wp2_with fail;(try (go_quiet (fail);go_wp2_with fail));go_roundg (m - (k + 1))
     case measure=>omega
     case rel =>
      refine ⟨k + 1,some ⟨wr.heap.size + 1,0,none⟩,1,by omega,by omega,?_,?_,by go_num,⟨(Je : Ext w _),by exact rowA,?_⟩⟩
      ·rw [HR2.out,HSU.out,lastRide_snoc];rfl
      ·rw [HR2.out,HSU.out];simp
      ·rw [HR2.out,HSU.out,lastRide_snoc]
       exact RdL.lit (enc:=tpc) ⟨x0,x1,x2,x3,x4⟩ (by simp) rfl
    ·have hyb : (y == 1) = false:=by simpa using hy
     rw [hxb,hyb] at hsu;have HSU:=hH (show R2 = R from hsu);clear hsu hx hy;go_wp2_with fail;(try (go_quiet (fail);go_wp2_with fail));go_roundg (m - (k + 1))
     case measure=>omega
     case rel=>exact ⟨k + 1,_,_,by omega,by omega,by rw [HR2.out,HSU.out],by rw [HR2.out,HSU.out],by go_num,⟨(Je : Ext w _),by exact rowA,by rw [HR2.out,HSU.out];exact H8.out.ext Je⟩⟩
   ·have hxb : (x0 == id) = false:=by simpa using hx
    rw [hxb] at hsu;have HSU:=hH (show R2 = R from hsu);clear hsu hx;go_wp2_with fail;(try (go_quiet (fail);go_wp2_with fail));go_roundg (m - (k + 1))
    case measure=>omega
    case rel=>exact ⟨k + 1,_,_,by omega,by omega,by rw [HR2.out,HSU.out],by rw [HR2.out,HSU.out],by go_num,⟨(Je : Ext w _),by exact rowA,by rw [HR2.out,HSU.out];exact H8.out.ext Je⟩⟩
  ·have hge : ¬ (k : Int) < (m : Int):=by omega
   have hkm : k = m:=by omega
   subst hkm;go_wp2_with fail;refine bodyPost_ret (v:=.tuple #[.slice A8 (ZN (JG Jf vs id k)).length c8,.int .i64 ((JG Jf vs id k).length : Nat)]) (by simp [results,Tryz.results159,go_sem, *]) rfl ⟨_,rfl,HE.out,H8.out⟩

def lastInt (l : List Tp) : Int:=match l.getLast? with
 | none=>-1
 | some x=>x.time
theorem lastInt_snoc (l : List Tp) (p : Tp) : lastInt (l ++ [p]) = p.time:=by simp [lastInt]

theorem ref_ManyOf (Jf : List Tp) (vs : List Int) (s0 s1 s2 : Value) (id : Int) (m : Nat) (w : World) (hmt : m <= Jf.length) (hlen : Jf.length = vs.length) (h0 : ∃ A n c,s0 = .slice A n c) (hr : RdL 5 tpc w s1 Jf) (hs : RdL 1 inc w s2 vs) :
  Calls Tryz.prog 108 #[.agg #[s0,s1,s2],.int .i64 id,.int .i64 m] w fun e w'=>e = .returned (.tuple #[.int .i64 ((JG Jf vs id m).length : Nat),.int .i64 (lastInt (JG Jf vs id m))]) /\ Ext w w':=by
 obtain ⟨A0,n0,c0,rfl⟩:=h0;obtain ⟨A,c,rfl,hmc,hmm⟩:=hr.form;obtain ⟨A2,c2,rfl,hmc2,hmm2⟩:=hs.form
 have hm : Jf.length <= 9223372036854775807:=by unfold maxLen at hmm;omega
 have HRd:=hH hr;have HSd:=hH hs;have HLEN:=hH hlen;clear hlen;clear hr hs hmm hmm2 hmc2 hmc;go_enter Tryz.func108,Tryz.ntmps108;go_wp2_with fail
 go_loopg [8,9,10] m (fun gg s8 s9 s10 wr=>∃ (k : Nat),k <= m /\ m - k <= gg /\ s8 = .int .i64 ((JG Jf vs id k).length : Nat) /\ s9 = .int .i64 (lastInt (JG Jf vs id k)) /\ s10 = .int .i64 k /\ Aside (Ext w wr /\ Row wr w.heap.size #[.slice A0 n0 c0,.slice A Jf.length c,.slice A2 vs.length c2]))
 case atStart =>
  refine ⟨0,by omega,by omega,?_,?_,rfl,(Ext.refl _).alloc _,Row.newAt rfl⟩
  ·rw [XR];rfl
  ·rw [XR];rfl
 case round =>
  obtain ⟨k,hk,hg,rfl,rfl,rfl,HV⟩:=hrel;have HE:=hH HV.out.1;have HR0:=hH HV.out.2;clear HV;(refine Ji wr w.heap.size fun qr_0 fr_0 lr_0 Rr_0=>?_)
  by_cases hlt : k < m
  ·have hlt' : (k : Int) < (m : Int):=by omega
   have hkt : k < Jf.length:=by omega
   have hkt' : (k : Int) < (Jf.length : Int):=by omega
   have hkv : k < vs.length:=by have:=HLEN.out;omega
   have hkv' : (k : Int) < (vs.length : Int):=by omega
   obtain ⟨b,o,rfl,hb,d0,-,-,d3,-⟩:=(HRd.out.ext HE.out).ZX rfl hkt;obtain ⟨b2,o2,rfl,hb2,f0⟩:=(HSd.out.ext HE.out).num_at rfl hkv;have hsu:=ridesTo_succ Jf vs id k hkt hkv;have hle:=ridesTo_len Jf vs id k;generalize hR : JG Jf vs id k = R at *;generalize hR2 : JG Jf vs id (k + 1) = R2 at *
   have hws : IntKind.i64.wrap ((R.length : Int) + 1) = ((R.length + 1 : Nat) : Int):=by rw [IntWalk.i64_in _ (by omega)];omega
   have HR2:=hH hR2;clear hR hR2;generalize Jf[k] = p at *;generalize vs[k] = y at *;obtain ⟨x0,x1,x2,x3,x4⟩:=p;simp only at d0 d3 hsu
   by_cases hx : x0 = id
   ·have hxb : (x0 == id) = true:=by simpa using hx
    by_cases hy : y = 1
    ·have hyb : (y == 1) = true:=by simpa using hy
     rw [hxb,hyb] at hsu;have HSU:=hH (show R2 = R ++ [⟨x0,x1,x2,x3,x4⟩] from hsu);clear hsu hx hy;go_wp2_with fail;(try (go_quiet (fail);go_wp2_with fail));go_roundg (m - (k + 1))
     case measure=>omega
     case rel =>
      refine ⟨k + 1,by omega,by omega,?_,?_,by go_num,⟨(Je : Ext w _),by exact rowA⟩⟩
      ·rw [HR2.out,HSU.out];simp
      ·rw [HR2.out,HSU.out,lastInt_snoc]
    ·have hyb : (y == 1) = false:=by simpa using hy
     rw [hxb,hyb] at hsu;have HSU:=hH (show R2 = R from hsu);clear hsu hx hy;go_wp2_with fail;(try (go_quiet (fail);go_wp2_with fail));go_roundg (m - (k + 1))
     case measure=>omega
     case rel=>exact ⟨k + 1,by omega,by omega,by rw [HR2.out,HSU.out],by rw [HR2.out,HSU.out],by go_num,⟨(Je : Ext w _),by exact rowA⟩⟩
   ·have hxb : (x0 == id) = false:=by simpa using hx
    rw [hxb] at hsu;have HSU:=hH (show R2 = R from hsu);clear hsu hx;go_wp2_with fail;(try (go_quiet (fail);go_wp2_with fail));go_roundg (m - (k + 1))
    case measure=>omega
    case rel=>exact ⟨k + 1,by omega,by omega,by rw [HR2.out,HSU.out],by rw [HR2.out,HSU.out],by go_num,⟨(Je : Ext w _),by exact rowA⟩⟩
  ·have hge : ¬ (k : Int) < (m : Int):=by omega
   have hkm : k = m:=by omega
   subst hkm;go_wp2_with fail;go_ret2;exact ⟨rfl,HE.out⟩

theorem XA (tks : List Tk) (id : Int) : (XI (fun t=>t.id == id) tks = -1 /\ JU tks id = none) \/ ∃ (k : Nat) (hk : k < tks.length),XI (fun t=>t.id == id) tks = k /\ JU tks id = some tks[k]:=by
 unfold XI JU
 cases hf : tks.findIdx? (fun t=>t.id == id) with
 | none =>
  left
  rw [List.findIdx?_eq_none_iff] at hf;refine ⟨rfl,?_⟩;rw [List.find?_eq_none];intro x hx
  simpa using hf x hx
 | some k =>
  right
  rw [List.findIdx?_eq_some_iff_getElem] at hf;obtain ⟨h3,h4,h5⟩:=hf;refine ⟨k,h3,rfl,?_⟩;rw [List.find?_eq_some_iff_getElem];exact ⟨h4,k,h3,rfl,fun j hj=>by simpa using h5 j hj⟩
theorem late_take (Jf : List Tp) (p : Tp) (i : Nat) (h0 : 0 < i) (hi : i <= Jf.length) : Xa (Jf.take i) p = decide (p.time < (Jf[i - 1]'(by omega)).time):=by
 unfold Xa
 have : (Jf.take i).getLast? = some (Jf[i - 1]'(by omega)):=by
  rw [List.getLast?_eq_getElem?,List.length_take,Nat.min_eq_left hi,List.getElem?_take_of_lt (by omega),List.getElem?_eq_getElem (by omega)]
 rw [this]
theorem late_zero (Jf : List Tp) (p : Tp) : Xa (Jf.take 0) p = false:=by simp [Xa]

theorem tap_one (x p : Tp) (g : Nat) (w : World) (hr : Row w g (tpc p)) :
  Calls Tryz.prog 158 #[.agg (tpc x),.pointer (some ⟨g,0,none⟩)] w fun e w'=>e = .returned (.bool (JM p x)) /\ Ext w w':=by
 obtain ⟨x0,x1,x2,x3,x4⟩:=x;obtain ⟨p0,p1,p2,p3,p4⟩:=p;unfold tpc at hr;unfold tpc JM
 apply Row.use hr;intro q f l R
 clear hr
 simp only
 by_cases h : x1 = p1
 ·have hb : (x1 == p1) = true:=by simpa using h
  rw [hb,Bool.true_and];clear h;go_enter Tryz.func158,Tryz.ntmps158
  go_wp2
  all_goals
   go_ret;exact ⟨Jq (by simp_all),(Je : Ext w _)⟩
 ·have hb : (x1 == p1) = false:=by simpa using h
  rw [hb,Bool.false_and];clear h;go_enter Tryz.func158,Tryz.ntmps158
  go_wp2
  all_goals
   go_ret;exact ⟨Jq (by simp_all),(Je : Ext w _)⟩

theorem ledger_tap (tks : List Tk) (Jf : List Tp) (vs : List Int) (s0 s1 s2 : Value) (i : Nat) (p : Tp) (w : World) (hit : i <= Jf.length) (hlen : Jf.length = vs.length) (htk : ∀ t ∈ tks,0 <= t.JS /\ t.JS < 16) (htm : ∀ x ∈ Jf.take i,0 <= x.time /\ x.time <= 9999) (hr0 : RdL 6 tkc w s0 tks) (hr1 : RdL 5 tpc w s1 Jf) (hr2 : RdL 1 inc w s2 vs) :
  Calls Tryz.prog 114 #[.agg #[s0,s1,s2],.int .i64 i,.agg (tpc p)] w fun e w'=>e = .returned (.tuple #[.int .i64 (tapAt tks Jf vs i p).1,.int .i64 (tapAt tks Jf vs i p).2]) /\ Ext w w':=by
 have HCK:=hH (fun (w' : World)=>rule_Check p w');have HF:=hH (fun w' (h : Ext w w')=>ledger_Find tks p.ticket s0 w' (hr0.ext h));obtain ⟨A0,c0,rfl,-,-⟩:=hr0.form;obtain ⟨A,c,rfl,hmc,hmm⟩:=hr1.form;obtain ⟨A2,c2,rfl,hmc2,hmm2⟩:=hr2.form
 have hm : Jf.length <= 9223372036854775807:=by unfold maxLen at hmm;omega
 have hic : (i : Int) <= (c : Int):=by omega
 have hi0 : (0 : Int) <= (i : Int):=by omega
 have HC:=hH (fun (w' : World) (b : Nat) (h : Ext w w') (hb : Row w' b (tpc p))=>Xl (JM p) 158 #[.pointer (some ⟨b,0,none⟩)] (fun args w=>by simp [go_sem]) (Jf.take i) (.slice A i c) w' ((hr1.ext h).take i hit) (fun W x hE=>tap_one x p b W (hb.ext hE)));have HRD:=hH (fun w' (h : Ext w w')=>ledger_rides Jf vs (.slice A0 tks.length c0) (.slice A Jf.length c) (.slice A2 vs.length c2) p.ticket i w' hit hlen ⟨_,_,_,rfl⟩ (hr1.ext h) (hr2.ext h));have HRW:=hH (fun (t : Tk) (ht : t ∈ tks) (v : Value) (n : Int) (w' : World) (hz : Jv p = 0) (h : RdL 5 tpc w' v (ZN (JG Jf vs p.ticket i)))=>rule_Raw t (ZN (JG Jf vs p.ticket i)) n p v w' h (htk t ht).1 (htk t ht).2 (by unfold Jv at hz;cases hh : Zk p.zone <;> simp [hh] at hz ⊢;split at hz <;> simp at hz) (by unfold Jv at hz;cases hh : within p.time 0 9999 <;> simp [hh] at hz;simp [within] at hh;exact hh.1) (by unfold Jv at hz;cases hh : within p.time 0 9999 <;> simp [hh] at hz;simp [within] at hh;exact hh.2) (fun x hx=>htm x (ridesTo_mem (lastRide_mem hx))))
 have hres : tapAt tks Jf vs i p = if Jv p ≠ 0 then (0,Jv p)
  else match JU tks p.ticket with
   | none=>(0,5)
   | some t=>if (Jf.take i).any (JM p) then (0,6)
    else if decide (i < vs.length /\ vs[i]! ≠ 1 /\ vs[i]! ≠ 2) = true then (0,7)
    else if Xa (Jf.take i) p then (0,4)
    else judge t (Zi (JG Jf vs p.ticket i)) (JG Jf vs p.ticket i).length p:=by
  simp only [decide_eq_true_eq]
  rfl
 have hix:=XA tks p.ticket;have HTR:=hH hr0;have HRd:=hH hr1;have HSd:=hH hr2;have HLEN:=hH hlen;generalize hvb : decide (i < vs.length /\ vs[i]! ≠ 1 /\ vs[i]! ≠ 2) = vb at *;have HVB:=hH hvb;generalize hlate : Xa (Jf.take i) p = lt at *;have HLT:=hH hlate;generalize (Jf.take i).any (JM p) = z at *;generalize tapAt tks Jf vs i p = res at *;have hll:=lastTime_last (JG Jf vs p.ticket i);simp only [hll] at HRW;generalize JG Jf vs p.ticket i = R at *;generalize Jv p = q at *;generalize XI (fun t=>t.id == p.ticket) tks = ix at *;clear hr0 hr1 hr2 hlen hmm hmm2 hmc2 htk htm hvb hlate hll;unfold tpc at HCK HRW HC;unfold tkc at HRW;unfold tpc
 by_cases hq0 : q = 0
 ·subst hq0
  rw [if_neg (by simp)] at hres
  rcases hix with ⟨rfl,hto⟩ | ⟨k,hk,rfl,hto⟩
  ·rw [hto] at hres
   simp only at hres;subst hres;clear hto HC HRD HRW;go_enter Tryz.func114,Tryz.ntmps114;go_wp2_with fail;(refine gA (HCK.out _) fun w1 H1 hz1=>?_;refine Ji w1 w.heap.size fun q1_0 f1_0 l1_0 R1_0=>?_;refine Ji w1 (w.heap.size + 1) fun q1_1 f1_1 l1_1 R1_1=>?_);go_wp2_with fail;(refine gA (HF.out _ Je) fun w2 H2 hz2=>?_;refine Ji w2 w.heap.size fun q2_0 f2_0 l2_0 R2_0=>?_;refine Ji w2 (w.heap.size + 1) fun q2_1 f2_1 l2_1 R2_1=>?_);go_wp2_with fail;go_ret2;exact ⟨rfl,(Je : Ext w _)⟩
  ·rw [hto] at hres
   simp only at hres
   have hkn : ¬ ((k : Int) < 0):=by omega
   have hkd : decide ((k : Int) < 0) = false:=by simp
   have hk' : (k : Int) < (tks.length : Int):=by omega
   have HRWt:=hH (HRW.out tks[k] (List.getElem_mem hk));clear hto HRW
   cases z
   ·simp only [Bool.false_eq_true,if_false] at hres
    have HRES:=hH hres;clear hres;go_enter Tryz.func114,Tryz.ntmps114;go_wp2_with fail;(refine gA (HCK.out _) fun w1 H1 hz1=>?_;refine Ji w1 w.heap.size fun q1_0 f1_0 l1_0 R1_0=>?_;refine Ji w1 (w.heap.size + 1) fun q1_1 f1_1 l1_1 R1_1=>?_);go_wp2_with fail;(refine gA (HF.out _ Je) fun w2 H2 hz2=>?_;refine Ji w2 w.heap.size fun q2_0 f2_0 l2_0 R2_0=>?_;refine Ji w2 (w.heap.size + 1) fun q2_1 f2_1 l2_1 R2_1=>?_);go_wp2_with fail;(refine gA (HC.out _ (w.heap.size + 1) Je R2_1.out) fun w3 H3 hz3=>?_;refine Ji w3 w.heap.size fun q3_0 f3_0 l3_0 R3_0=>?_;refine Ji w3 (w.heap.size + 1) fun q3_1 f3_1 l3_1 R3_1=>?_);go_upto_region 9 with fail
    go_cut [32] (fun s32 wx=>s32 = .bool vb /\ Aside (Ext w3 wx))
    case first =>
     have hvb:=HVB.out
     by_cases hi : i < vs.length
     ·have hi' : (i : Int) < (vs.length : Int):=by omega
      obtain ⟨b2,o2,rfl,hb2,f0⟩:=(HSd.out.ext (Je : Ext w w3)).num_at rfl hi;rw [show vs[i]! = vs[i] by simp [hi]] at hvb;generalize vs[i] = y at *
      by_cases h1 : y = 1
      ·have h1b : (y != 1) = false:=by simpa using h1
       have hv : vb = false:=by rw [<- hvb];simp [h1]
       subst hv;clear h1 hvb HVB;go_wp2_with fail;go_meet
       case rel=>exact ⟨rfl,Ext.refl _⟩
      ·have h1b : (y != 1) = true:=by simpa using h1
       by_cases h2 : y = 2
       ·have h2b : (y != 2) = false:=by simpa using h2
        have hv : vb = false:=by rw [<- hvb];simp [h2]
        subst hv;clear h1 h2 hvb HVB;go_wp2_with fail;go_meet
        case rel=>exact ⟨rfl,Ext.refl _⟩
       ·have h2b : (y != 2) = true:=by simpa using h2
        have hv : vb = true:=by rw [<- hvb];simp [h1,h2,hi]
        subst hv;clear h1 h2 hvb HVB;go_wp2_with fail;go_meet
        case rel=>exact ⟨rfl,Ext.refl _⟩
     ·have hige : ¬ (i : Int) < (vs.length : Int):=by omega
      have hv : vb = false:=by rw [<- hvb];simp [hi]
      subst hv;clear hvb HVB;go_wp2_with fail;go_meet
      case rel=>exact ⟨rfl,Ext.refl _⟩
    case rest =>
     obtain ⟨rfl,HW⟩:=hcut;obtain ⟨w4,rfl⟩ : ∃ w4 : World,w4 = wc:=⟨_,rfl⟩;have H4:=hH HW.out;clear HW HVB;(refine Ji w4 w.heap.size fun q4_0 f4_0 l4_0 R4_0=>?_;refine Ji w4 (w.heap.size + 1) fun q4_1 f4_1 l4_1 R4_1=>?_)
     cases vb
     ·have hres:=HRES.out
      rw [if_neg (by simp)] at hres;have HRES2:=hH hres;clear HRES hres;go_upto_region 11 with fail
      go_cut [54] (fun s54 wx=>s54 = .bool lt /\ Aside (Ext w4 wx))
      case first =>
       by_cases hz : i = 0
       ·have hv : lt = false:=by rw [<- HLT.out,hz];exact late_zero Jf p
        subst hv;subst hz;go_wp2_with fail;go_quiet (fail);go_wp2_with fail;go_meet
        case rel=>exact ⟨rfl,(Je : Ext w4 _)⟩
       ·have h0 : 0 < i:=by omega
        have hid : decide (0 < i) = true:=by simpa using h0
        have hw1 : IntKind.i64.wrap ((i : Int) - 1) = ((i - 1 : Nat) : Int):=by rw [IntWalk.i64_in _ (by omega)];omega
        have hk1 : ((i - 1 : Nat) : Int) < (Jf.length : Int):=by omega
        have hk2 : i - 1 < Jf.length:=by omega
        obtain ⟨b2,o2,rfl,hb2,-,-,-,f3,-⟩:=(HRd.out.ext (Je : Ext w w4)).ZX rfl hk2;have hv:=late_take Jf p i h0 hit;rw [HLT.out] at hv;generalize (Jf[i - 1]).time = y at *
        by_cases hy : p.time < y
        ·have hyd : decide (p.time < y) = true:=by simpa using hy
         rw [hyd] at hv;subst hv;clear hy;go_wp2_with fail;go_quiet (fail);go_wp2_with fail;go_meet
         case rel=>exact ⟨rfl,(Je : Ext w4 _)⟩
        ·have hyd : decide (p.time < y) = false:=by simpa using hy
         rw [hyd] at hv;subst hv;clear hy;go_wp2_with fail;go_quiet (fail);go_wp2_with fail;go_meet
         case rel=>exact ⟨rfl,(Je : Ext w4 _)⟩
      case rest =>
       obtain ⟨rfl,HW⟩:=hcut;obtain ⟨w5,rfl⟩ : ∃ w5 : World,w5 = wc:=⟨_,rfl⟩;have H5:=hH HW.out;clear HW HLT;(refine Ji w5 w.heap.size fun q5_0 f5_0 l5_0 R5_0=>?_;refine Ji w5 (w.heap.size + 1) fun q5_1 f5_1 l5_1 R5_1=>?_)
       cases lt
       ·have hres:=HRES2.out
        rw [if_neg (by simp)] at hres;subst hres;clear HRES2;go_wp2_with fail;refine (HRD.out _ Je).mono ?_;rintro e w6 ⟨s6,rfl,h6,hr6⟩;have H6:=hH h6;have HR6:=hH hr6;clear h6 hr6;(refine Ji w6 w.heap.size fun q6_0 f6_0 l6_0 R6_0=>?_;refine Ji w6 (w.heap.size + 1) fun q6_1 f6_1 l6_1 R6_1=>?_);go_wp2_with fail;obtain ⟨tb,tof,rfl,htb,g0,g1,g2,g3,g4,g5⟩:=(HTR.out.ext (Je : Ext w w6)).XC rfl hk;generalize htq : tks[k] = t at *;have HTQ:=hH htq;clear htq;obtain ⟨t0,t1,t2,t3,t4,t5⟩:=t;simp only at g0 g1 g2 g3 g4 g5 HRWt;have HKp:=hH (fun w' (h : Ext w6 w')=>(show (∀ o,w'.cell? ⟨w.heap.size,o,none⟩ = (#[.slice (some ⟨tb,tof,none⟩) tks.length c0,.slice A Jf.length c,.slice A2 vs.length c2] : Array Value)[o]?) /\ (∀ o,w'.cell? ⟨w.heap.size + 1,o,none⟩ = (#[.int .i64 p.ticket,.int .i64 p.gate,.int .i64 p.seq,.int .i64 p.time,.int .i64 p.zone] : Array Value)[o]?) /\ w'.cell? ⟨tb,tof + k * 6,none⟩ = some (.int .i64 t0) /\ w'.cell? ⟨tb,tof + k * 6 + 1,none⟩ = some (.int .i64 t1) /\ w'.cell? ⟨tb,tof + k * 6 + 2,none⟩ = some (.int .i64 t2) /\ w'.cell? ⟨tb,tof + k * 6 + 3,none⟩ = some (.int .i64 t3) /\ w'.cell? ⟨tb,tof + k * 6 + 4,none⟩ = some (.int .i64 t4) /\ w'.cell? ⟨tb,tof + k * 6 + 5,none⟩ = some (.int .i64 t5) from ⟨(Row.ext h R6_0.out).2.1,(Row.ext h R6_1.out).2.1,(h.cells _ _ htb).trans g0,(h.cells _ _ htb).trans g1,(h.cells _ _ htb).trans g2,(h.cells _ _ htb).trans g3,(h.cells _ _ htb).trans g4,(h.cells _ _ htb).trans g5⟩));refine Jw (fun w'=>(∀ o,w'.cell? ⟨w.heap.size,o,none⟩ = (#[.slice (some ⟨tb,tof,none⟩) tks.length c0,.slice A Jf.length c,.slice A2 vs.length c2] : Array Value)[o]?) /\ (∀ o,w'.cell? ⟨w.heap.size + 1,o,none⟩ = (#[.int .i64 p.ticket,.int .i64 p.gate,.int .i64 p.seq,.int .i64 p.time,.int .i64 p.zone] : Array Value)[o]?) /\ w'.cell? ⟨tb,tof + k * 6,none⟩ = some (.int .i64 t0) /\ w'.cell? ⟨tb,tof + k * 6 + 1,none⟩ = some (.int .i64 t1) /\ w'.cell? ⟨tb,tof + k * 6 + 2,none⟩ = some (.int .i64 t2) /\ w'.cell? ⟨tb,tof + k * 6 + 3,none⟩ = some (.int .i64 t3) /\ w'.cell? ⟨tb,tof + k * 6 + 4,none⟩ = some (.int .i64 t4) /\ w'.cell? ⟨tb,tof + k * 6 + 5,none⟩ = some (.int .i64 t5)) 12 (by kernel_rfl) (HKp.out _ ((Ext.refl _).drew)) (fun hS=>?_);simp only [List.length_cons,List.length_nil];(refine tkS 0 hS ?_;refine tkS 1 hS ?_;refine tkS 2 hS ?_;refine tkS 3 hS ?_;refine tkS 4 hS ?_;refine tkS 5 hS ?_;refine tkS 6 hS ?_;refine tkS 7 hS ?_);clear hS;refine oA 8 fun K hK=>?_;go_simp;refine (HRWt.out _ _ _ (by simp) (HR6.out.ext Je)).mono ?_;rintro e w7 ⟨rfl,h7⟩;have H7:=hH h7;clear h7;go_wp2_with fail;have hS:=HKp.out w7 Je;refine hK.out _ _ (.inr hS) ?_;clear hK;(try simp only [Act.put,Jm]);(refine tkS 9 hS ?_;refine tkS 10 hS ?_);refine oA 11 fun K hK=>?_;go_simp;refine hK.out _ _ (.inr hS) ?_;clear hK hS;(try simp only [Act.put,Jm]);refine oA 12 fun K hK=>?_;go_simp
        refine hK.out _ _ (.inl (by kernel_rfl)) ?_;clear hK;(try simp only [Act.put,Jm]);refine Ju (by kernel_rfl) ?_ _;go_wp2_with fail;go_ret2;exact ⟨by rw [HTQ.out];rfl,(Je : Ext w _)⟩
       ·have hres:=HRES2.out
        rw [if_pos rfl] at hres;subst hres;clear HRES2;go_wp2_with fail;go_ret2;exact ⟨rfl,(Je : Ext w _)⟩
     ·have hres:=HRES.out
      rw [if_pos rfl] at hres;subst hres;clear HRES;go_wp2_with fail;go_ret2;exact ⟨rfl,(Je : Ext w _)⟩
   ·simp only [if_true] at hres
    subst hres;clear HRD HRWt;go_enter Tryz.func114,Tryz.ntmps114;go_wp2_with fail;(refine gA (HCK.out _) fun w1 H1 hz1=>?_;refine Ji w1 w.heap.size fun q1_0 f1_0 l1_0 R1_0=>?_;refine Ji w1 (w.heap.size + 1) fun q1_1 f1_1 l1_1 R1_1=>?_);go_wp2_with fail;(refine gA (HF.out _ Je) fun w2 H2 hz2=>?_;refine Ji w2 w.heap.size fun q2_0 f2_0 l2_0 R2_0=>?_;refine Ji w2 (w.heap.size + 1) fun q2_1 f2_1 l2_1 R2_1=>?_);go_wp2_with fail;(refine gA (HC.out _ (w.heap.size + 1) Je R2_1.out) fun w3 H3 hz3=>?_;refine Ji w3 w.heap.size fun q3_0 f3_0 l3_0 R3_0=>?_;refine Ji w3 (w.heap.size + 1) fun q3_1 f3_1 l3_1 R3_1=>?_);go_wp2_with fail;go_ret2;exact ⟨rfl,(Je : Ext w _)⟩
 ·rw [if_pos hq0] at hres
  have hqb : (q != 0) = true:=by simpa using hq0
  subst hres;clear hq0 hix HC HRD HRW HF;go_enter Tryz.func114,Tryz.ntmps114;go_wp2_with fail;(refine gA (HCK.out _) fun w1 H1 hz1=>?_;refine Ji w1 w.heap.size fun q1_0 f1_0 l1_0 R1_0=>?_;refine Ji w1 (w.heap.size + 1) fun q1_1 f1_1 l1_1 R1_1=>?_);go_wp2_with fail;go_ret2;exact ⟨rfl,(Je : Ext w _)⟩

theorem time_ok {p : Tp} (h : Jv p = 0) : 0 <= p.time /\ p.time <= 9999:=by
 unfold Jv at h
 cases hh : within p.time 0 9999 with
 | true=>simpa [within] using hh
 | false=>simp [hh] at h
theorem zones_in {t : Tk} (h : JB t = 0) : 0 <= t.JS /\ t.JS < 16:=by
 unfold JB at h
 cases hw : within t.JS 1 15 with
 | true=>simp [within] at hw;omega
 | false=>simp [hw] at h
theorem ZH : ∀ {l : List Tk} {prev : Option Int},J5 prev l = 0 -> ∀ t ∈ l,JB t = 0
 | [],_,_=>by simp
 | x :: l,prev,h=>by
  rw [Xb] at h
  by_cases h1 : JB x = 0
  ·rw [if_neg (by simpa using h1)] at h
   by_cases h2 : ZC prev x.id = true
   ·rw [if_pos h2] at h;simp at h
   ·rw [if_neg h2] at h
    intro t ht
    rcases List.mem_cons.1 ht with rfl | ht
    ·exact h1
    ·exact ZH h t ht
  ·rw [if_pos h1] at h;exact absurd h h1
theorem tapAt_zero {tks : List Tk} {Jf : List Tp} {vs : List Int} {i : Nat} {p : Tp} (h : (tapAt tks Jf vs i p).1 = 0) : (tapAt tks Jf vs i p).2 ≠ 0:=by
 unfold tapAt at h ⊢
 by_cases h1 : Jv p = 0
 ·simp only [h1,ne_eq,not_true_eq_false,if_false] at h ⊢
  cases ht : JU tks p.ticket with
  | none=>simp
  | some t =>
   simp only [ht] at h ⊢
   split
   ·simp
   ·rename_i h2
    rw [if_neg h2] at h
    split
    ·simp
    ·rename_i h3
     rw [if_neg h3] at h
     split
     ·simp
     ·rename_i h4
      rw [if_neg h4] at h;have:=judge_cases t (Zi (JG Jf vs p.ticket i)) (JG Jf vs p.ticket i).length p
      omega
 ·simp [h1]
theorem ckTapAt_tap {tks : List Tk} {pre : List Tp} {pv : List Int} {p : Tp} {v : Int} (h : Zl tks pre pv p v = 0) : Jv p = 0:=by
 unfold Zl at h
 by_cases h1 : Jv p = 0
 ·exact h1
 ·rw [if_pos h1] at h;exact absurd h h1
theorem ckTaps_step (tks : List Tk) (Jf : List Tp) (vs : List Int) (k : Nat) (h1 : k < Jf.length) (h2 : k < vs.length) :
  ZE tks (Jf.take k) (vs.take k) (Jf.drop k) (vs.drop k) = if Zl tks (Jf.take k) (vs.take k) Jf[k] vs[k] ≠ 0 then Zl tks (Jf.take k) (vs.take k) Jf[k] vs[k] else ZE tks (Jf.take (k + 1)) (vs.take (k + 1)) (Jf.drop (k + 1)) (vs.drop (k + 1)):=by
 rw [List.drop_eq_getElem_cons h1,List.drop_eq_getElem_cons h2,List.take_succ_eq_append_getElem h1,List.take_succ_eq_append_getElem h2]
 rfl

theorem ledger_Check (tks : List Tk) (Jf : List Tp) (vs : List Int) (s0 s1 s2 : Value) (w : World) (hr0 : RdL 6 tkc w s0 tks) (hr1 : RdL 5 tpc w s1 Jf) (hr2 : RdL 1 inc w s2 vs) :
  Calls Tryz.prog 69 #[.agg #[s0,s1,s2]] w fun e w'=>e = .returned (.int .i64 (Js ⟨tks,Jf,vs⟩)) /\ Ext w w':=by
 have HTK:=hH (fun w' (h : Ext w w')=>ledger_tickets tks s0 w' (hr0.ext h));have HTP:=hH (fun (i : Nat) (p : Tp) (w' : World) (h : Ext w w') (hit : i <= Jf.length) (hlen : Jf.length = vs.length) (htk : ∀ t ∈ tks,0 <= t.JS /\ t.JS < 16) (htm : ∀ x ∈ Jf.take i,0 <= x.time /\ x.time <= 9999)=>ledger_tap tks Jf vs s0 s1 s2 i p w' hit hlen htk htm (hr0.ext h) (hr1.ext h) (hr2.ext h));have HRd:=hH hr1;have HSd:=hH hr2;obtain ⟨A0,c0,rfl,hmc0,hmm0⟩:=hr0.form;obtain ⟨A,c,rfl,hmc,hmm⟩:=hr1.form;obtain ⟨A2,c2,rfl,hmc2,hmm2⟩:=hr2.form
 have hm : Jf.length <= 9223372036854775807:=by unfold maxLen at hmm;omega
 have hm0 : tks.length <= 9223372036854775807:=by unfold maxLen at hmm0;omega
 have hm2 : vs.length <= 9223372036854775807:=by unfold maxLen at hmm2;omega
 have hres : Js ⟨tks,Jf,vs⟩ = if 12 < tks.length \/ 60 < Jf.length \/ Jf.length ≠ vs.length then 2 else if J5 none tks ≠ 0 then J5 none tks else ZE tks [] [] Jf vs:=rfl
 generalize Js ⟨tks,Jf,vs⟩ = res at *;clear hr0 hr1 hr2 hmm0 hmm hmm2 hmc hmc2 hmc0
 by_cases h12 : 12 < tks.length
 ·have hd : decide ((12 : Int) < (tks.length : Int)) = true:=decide_eq_true (by omega)
  rw [if_pos (.inl h12)] at hres;subst hres;clear h12 HTK HTP;go_enter Tryz.func69,Tryz.ntmps69;go_wp2_with fail;go_ret;exact ⟨rfl,(Je : Ext w _)⟩
 have hd : decide ((12 : Int) < (tks.length : Int)) = false:=decide_eq_false (by omega)
 by_cases h60 : 60 < Jf.length
 ·have hd2 : decide ((60 : Int) < (Jf.length : Int)) = true:=decide_eq_true (by omega)
  rw [if_pos (.inr (.inl h60))] at hres;subst hres;clear HTK HTP;go_enter Tryz.func69,Tryz.ntmps69;go_wp2_with fail;go_ret;exact ⟨rfl,(Je : Ext w _)⟩
 have hd2 : decide ((60 : Int) < (Jf.length : Int)) = false:=decide_eq_false (by omega)
 by_cases hl : Jf.length = vs.length
 case neg =>
  have hd3 : ((Jf.length : Int) != (vs.length : Int)) = true:=by
   have : (Jf.length : Int) ≠ (vs.length : Int):=by omega
   simpa using this
  rw [if_pos (.inr (.inr hl))] at hres;subst hres;clear HTK HTP hl;go_enter Tryz.func69,Tryz.ntmps69;go_wp2_with fail;go_ret;exact ⟨rfl,(Je : Ext w _)⟩
 have hd3 : ((Jf.length : Int) != (vs.length : Int)) = false:=by
  have : (Jf.length : Int) = (vs.length : Int):=by omega
  simpa using this
 rw [if_neg (by omega)] at hres;have HL:=hH hl;clear hl
 by_cases ht : J5 none tks = 0
 case neg =>
  have hqb : (J5 none tks != 0) = true:=by simpa using ht
  rw [if_pos ht] at hres;subst hres;generalize J5 none tks = q at *;clear HTP ht;go_enter Tryz.func69,Tryz.ntmps69;go_wp2_with fail;(refine gA (HTK.out _ Je) fun w1 H1 hz1=>?_;refine Ji w1 w.heap.size fun q1_0 f1_0 l1_0 R1_0=>?_);go_wp2_with fail;go_ret;exact ⟨rfl,(Je : Ext w _)⟩
 rw [if_neg (by simpa using ht)] at hres;have htz : ∀ t ∈ tks,0 <= t.JS /\ t.JS < 16:=fun t h=>zones_in (ZH ht t h);have HTZ:=hH htz;have HRES:=hH hres;rw [ht] at HTK;clear htz hres ht;go_enter Tryz.func69,Tryz.ntmps69;go_wp2_with fail;(refine gA (HTK.out _ Je) fun w1 H1 hz1=>?_;refine Ji w1 w.heap.size fun q1_0 f1_0 l1_0 R1_0=>?_);go_wp2_with fail
 go_loopg [4,5,6,7,36] Jf.length (fun gg _ _ _ _ s36 wr=>∃ k : Nat,k <= Jf.length /\ Jf.length - k <= gg /\ s36 = .int .i64 k /\ Aside (Ext w wr /\ Row wr w.heap.size #[.slice A0 tks.length c0,.slice A Jf.length c,.slice A2 vs.length c2]) /\ Aside (ZE tks (Jf.take k) (vs.take k) (Jf.drop k) (vs.drop k) = res /\ ∀ x ∈ Jf.take k,0 <= x.time /\ x.time <= 9999))
 case atStart=>exact ⟨0,by omega,by omega,rfl,⟨(Je : Ext w _),by exact rowA⟩,by simpa using HRES.out.symm,by simp⟩
 case round =>
  obtain ⟨k,hk,hg,rfl,HV,HA⟩:=hrel;have HE:=hH HV.out.1;have HR0:=hH HV.out.2;obtain ⟨hA,hT⟩:=HA.out;clear HV HA;(refine Ji wr w.heap.size fun qr_0 fr_0 lr_0 Rr_0=>?_)
  by_cases hlt : k < Jf.length
  ·have hlt' : (k : Int) < (Jf.length : Int):=by omega
   have hkv : k < vs.length:=by have:=HL.out;omega
   have hkv' : (k : Int) < (vs.length : Int):=by omega
   obtain ⟨b,o,rfl,hb,d0,d1,d2,d3,d4⟩:=(HRd.out.ext HE.out).ZX rfl hlt;have hc:=ckTapAt_of (tks:=tks) hkv HL.out;rw [ckTaps_step tks Jf vs k hlt hkv] at hA;have hz:=@tapAt_zero tks Jf vs k Jf[k]
   have hnx : Zl tks (Jf.take k) (vs.take k) Jf[k] vs[k] = 0 -> ∀ x ∈ Jf.take (k + 1),0 <= x.time /\ x.time <= 9999:=by
    intro h x hx;rw [List.take_succ_eq_append_getElem hlt] at hx
    rcases List.mem_append.1 hx with hx | hx
    ·exact hT x hx
    ·rw [List.mem_singleton.1 hx]
     exact time_ok (ckTapAt_tap h)
   have HCALL:=hH (fun w' (h : Ext w w')=>HTP.out k Jf[k] w' h hk HL.out HTZ.out hT);obtain ⟨vb,vo,hA2,hvb,f0⟩ : ∃ vb vo,A2 = some ⟨vb,vo,none⟩ /\ vb < wr.heap.size /\ wr.cell? ⟨vb,vo + k,none⟩ = some (.int .i64 vs[k]):=(HSd.out.ext HE.out).num_at rfl hkv;subst hA2;have hvc : ∀ W,Ext wr W -> W.cell? ⟨vb,vo + k,none⟩ = some (.int .i64 vs[k]):=fun W h=>(h.cells _ _ hvb).trans f0;have HVC:=hH hvc;clear hvc f0 hT;generalize Zl tks (Jf.take k) (vs.take k) Jf[k] vs[k] = ca at *;generalize tapAt tks Jf vs k Jf[k] = va at *;generalize Jf[k] = p at *;generalize vs[k] = y at *;obtain ⟨v,e⟩:=va;unfold tpc at HCALL;simp only at hc hz HCALL
   by_cases hv0 : v = 0
   ·have hvb0 : (v == 0) = true:=by simpa using hv0
    have he:=hz hv0;rw [if_pos hv0] at hc;rw [if_pos (by rw [hc];exact he),hc] at hA;subst hA;clear hc hz he hv0 hnx;go_wp2_with fail;(refine gA (HCALL.out _ Je) fun w2 H2 hz2=>?_;refine Ji w2 w.heap.size fun q2_0 f2_0 l2_0 R2_0=>?_);go_wp2_with fail;go_ret;exact ⟨rfl,(Je : Ext w _)⟩
   ·have hvb0 : (v == 0) = false:=by simpa using hv0
    rw [if_neg hv0] at hc
    by_cases hvy : v = y
    ·have hvy1 : (v != y) = false:=by simpa using hvy
     rw [if_neg (by simpa using hvy)] at hc;rw [if_neg (by simpa using hc)] at hA;have HA2:=hH hA;have HNX:=hH (hnx hc);clear hc hz hv0 hvy hnx hA;go_wp2_with fail;(refine gA (HCALL.out _ Je) fun w2 H2 hz2=>?_;refine Ji w2 w.heap.size fun q2_0 f2_0 l2_0 R2_0=>?_);have f1:=HVC.out w2 Je;go_wp2_with fail;go_roundg (Jf.length - (k + 1))
     case measure=>omega
     case rel=>exact ⟨k + 1,by omega,by omega,by go_num,⟨(Je : Ext w _),R2_0.out⟩,HA2.out,HNX.out⟩
    ·have hvy1 : (v != y) = true:=by simpa using hvy
     rw [if_pos hvy] at hc;rw [if_pos (by rw [hc];decide),hc] at hA;subst hA;clear hc hz hv0 hvy hnx;go_wp2_with fail;(refine gA (HCALL.out _ Je) fun w2 H2 hz2=>?_;refine Ji w2 w.heap.size fun q2_0 f2_0 l2_0 R2_0=>?_);have f1:=HVC.out w2 Je;go_wp2_with fail;go_ret;exact ⟨rfl,(Je : Ext w _)⟩
  ·have hge : ¬ (k : Int) < (Jf.length : Int):=by omega
   have hkl : k = Jf.length:=by omega
   rw [hkl,List.drop_length] at hA
   have hr0 : res = 0:=by rw [<- hA];cases (vs.drop Jf.length) <;> rfl
   subst hr0;clear hA hkl;go_wp2_with fail;go_ret;exact ⟨rfl,HE.out⟩

theorem any_take_succ (f : Tp -> Bool) (l : List Tp) (k : Nat) (h : k < l.length) : (l.take (k + 1)).any f = ((l.take k).any f || f l[k]):=by
 rw [List.take_succ_eq_append_getElem h,List.any_append,List.any_cons,List.any_nil,Bool.or_false]
theorem any_take_true (f : Tp -> Bool) (l : List Tp) (k m : Nat) (h : k < l.length) (hm : k < m) (hf : f l[k] = true) : (l.take m).any f = true:=by
 rw [List.any_eq_true];refine ⟨l[k],?_,hf⟩;rw [List.mem_take_iff_getElem];exact ⟨k,by omega,rfl⟩

theorem ref_isTwice (l : List Tp) (m : Nat) (p : Tp) (v : Value) (w : World) (hm : m <= l.length) (hr : RdL 5 tpc w v l) :
  Calls Tryz.prog 56 #[v,.int .i64 m,.agg (tpc p)] w fun e w'=>e = .returned (.bool ((l.take m).any (JM p))) /\ Ext w w':=by
 obtain ⟨A,c,rfl,hmc,hmm⟩:=hr.form
 have hml : l.length <= 9223372036854775807:=by unfold maxLen at hmm;omega
 have HRd:=hH hr;generalize hR : (l.take m).any (JM p) = r;have HR:=hH hR;clear hr hmm hmc hR;unfold tpc;go_enter Tryz.func56,Tryz.ntmps56;go_wp2_with fail
 go_loopg [7] m (fun gg s7 wr=>∃ k : Nat,k <= m /\ m - k <= gg /\ s7 = .int .i64 k /\ Aside (Ext w wr /\ Row wr w.heap.size #[.int .i64 p.ticket,.int .i64 p.gate,.int .i64 p.seq,.int .i64 p.time,.int .i64 p.zone]) /\ Aside ((l.take k).any (JM p) = false))
 case atStart=>exact ⟨0,by omega,by omega,rfl,⟨(Je : Ext w _),Row.newAt rfl⟩,(show (l.take 0).any (JM p) = false by simp)⟩
 case round =>
  obtain ⟨k,hk,hg,rfl,HV,HA⟩:=hrel;have HE:=hH HV.out.1;have HR0:=hH HV.out.2;have HA2:=hH HA.out;clear HV HA;(refine Ji wr w.heap.size fun qr_0 fr_0 lr_0 Rr_0=>?_)
  by_cases hlt : k < m
  ·have hlt' : (k : Int) < (m : Int):=by omega
   have hkl : k < l.length:=by omega
   have hkl' : (k : Int) < (l.length : Int):=by omega
   obtain ⟨b,o,rfl,hb,-,d1,d2,-,-⟩:=(HRd.out.ext HE.out).ZX rfl hkl;have hsu:=any_take_succ (JM p) l k hkl;rw [HA2.out,Bool.false_or] at hsu;have hyes:=any_take_true (JM p) l k m hkl hlt;rw [HR.out] at hyes;have hsn : JM p l[k] = (l[k].gate == p.gate && l[k].seq == p.seq):=rfl;rw [hsn] at hsu hyes;generalize l[k].gate = x1 at *;generalize l[k].seq = x2 at *;clear hsn
   by_cases h1 : x1 = p.gate
   ·have h1b : (x1 == p.gate) = true:=by simpa using h1
    by_cases h2 : x2 = p.seq
    ·have h2b : (x2 == p.seq) = true:=by simpa using h2
     have hr1 : r = true:=hyes (by rw [h1b,h2b];rfl);subst hr1;clear hyes hsu h1 h2;go_wp2_with fail;(try (go_quiet (fail);go_wp2_with fail));go_ret;exact ⟨rfl,(Je : Ext w _)⟩
    ·have h2b : (x2 == p.seq) = false:=by simpa using h2
     rw [h1b,h2b] at hsu;have HSU:=hH hsu;clear hyes hsu h1 h2;go_wp2_with fail;(try (go_quiet (fail);go_wp2_with fail));go_roundg (m - (k + 1))
     case measure=>omega
     case rel=>exact ⟨k + 1,by omega,by omega,by go_num,⟨(Je : Ext w _),by exact rowA⟩,HSU.out⟩
   ·have h1b : (x1 == p.gate) = false:=by simpa using h1
    rw [h1b] at hsu;have HSU:=hH hsu;clear hyes hsu h1;go_wp2_with fail;(try (go_quiet (fail);go_wp2_with fail));go_roundg (m - (k + 1))
    case measure=>omega
    case rel=>exact ⟨k + 1,by omega,by omega,by go_num,⟨(Je : Ext w _),by exact rowA⟩,HSU.out⟩
  ·have hge : ¬ (k : Int) < (m : Int):=by omega
   have hkm : k = m:=by omega
   have hr0 : r = false:=by rw [<- HR.out,<- hkm];exact HA2.out
   subst hr0;go_wp2_with fail;go_ret;exact ⟨rfl,HE.out⟩

theorem ref_JudgeOf_last (t : Tk) (R : List Tp) (rides : Int) (p : Tp) (w : World) (h0 : 0 <= t.JS) (h1 : t.JS < 16) (hz : Zk p.zone = true) (hw : ∀ x ∈ R,0 <= x.time /\ x.time <= 9999) :
  Calls Tryz.prog 109 #[.agg (tkc t),.int .i64 (lastInt R),.int .i64 rides,.agg (tpc p)] w fun e w'=>e = .returned (.tuple #[.int .i64 (judge t (Zi R) rides p).1,.int .i64 (judge t (Zi R) rides p).2]) /\ Ext w w':=by
 unfold lastInt Zi
 cases hl : R.getLast? with
 | none=>exact ref_JudgeOf_none t rides p w h0 h1 hz
 | some x =>
  have:=hw x (List.mem_of_getLast? hl);exact ref_JudgeOf_some t x.time rides p w h0 h1 hz this.1 this.2
theorem zone_ok {p : Tp} (hz : Jv p = 0) : Zk p.zone = true:=by
 unfold Jv at hz;cases hh : Zk p.zone <;> simp [hh] at hz ⊢;split at hz <;> simp at hz
theorem ckTapAt_eq (tks : List Tk) (Jf : List Tp) (vs : List Int) (k : Nat) (p : Tp) (y : Int) : Zl tks (Jf.take k) (vs.take k) p y = if Jv p ≠ 0 then Jv p
  else match JU tks p.ticket with
   | none=>5
   | some t=>if (Jf.take k).any (JM p) = true then 6 else if within y 1 2 = false then 7 else if Xa (Jf.take k) p = true then 4 else if (judge t (Zi (JG Jf vs p.ticket k)) (JG Jf vs p.ticket k).length p).1 ≠ y then 4 else 0:=by
 have hw : (y ≠ 1 /\ y ≠ 2) ↔ within y 1 2 = false:=by
  simp only [within,Bool.and_eq_false_iff,decide_eq_false_iff_not]
  omega
 unfold Zl judgeIn;simp only [hw]
 rfl

theorem ref_CheckLedger (tks : List Tk) (Jf : List Tp) (vs : List Int) (s0 s1 s2 : Value) (w : World) (hr0 : RdL 6 tkc w s0 tks) (hr1 : RdL 5 tpc w s1 Jf) (hr2 : RdL 1 inc w s2 vs) :
  Calls Tryz.prog 53 #[.agg #[s0,s1,s2]] w fun e w'=>e = .returned (.int .i64 (Js ⟨tks,Jf,vs⟩)) /\ Ext w w':=by
 have HCKT:=hH (fun (t : Tk) (w' : World)=>ref_CheckTicket t w');have HCT:=hH (fun (p : Tp) (w' : World)=>ref_CheckTap p w');have HTA:=hH (fun (id : Int) (w' : World) (h : Ext w w')=>ref_TicketAt tks id s0 w' (hr0.ext h));have HTW:=hH (fun (m : Nat) (p : Tp) (w' : World) (h : Ext w w') (hm : m <= Jf.length)=>ref_isTwice Jf m p s1 w' hm (hr1.ext h));have HBW:=hH (fun (y : Int) (w' : World)=>JA y 1 2 w');have HMO:=hH (fun (id : Int) (m : Nat) (w' : World) (h : Ext w w') (hm : m <= Jf.length) (hlen : Jf.length = vs.length) (h0 : ∃ A n c,s0 = .slice A n c)=>ref_ManyOf Jf vs s0 s1 s2 id m w' hm hlen h0 (hr1.ext h) (hr2.ext h));have HTR:=hH hr0;have HRd:=hH hr1;have HSd:=hH hr2;obtain ⟨A0,c0,rfl,hmc0,hmm0⟩:=hr0.form;obtain ⟨A,c,rfl,hmc,hmm⟩:=hr1.form;obtain ⟨A2,c2,rfl,hmc2,hmm2⟩:=hr2.form
 have hm : Jf.length <= 9223372036854775807:=by unfold maxLen at hmm;omega
 have hm0 : tks.length <= 9223372036854775807:=by unfold maxLen at hmm0;omega
 have hm2 : vs.length <= 9223372036854775807:=by unfold maxLen at hmm2;omega
 have hres : Js ⟨tks,Jf,vs⟩ = if 12 < tks.length \/ 60 < Jf.length \/ Jf.length ≠ vs.length then 2 else if J5 none tks ≠ 0 then J5 none tks else ZE tks [] [] Jf vs:=rfl
 generalize Js ⟨tks,Jf,vs⟩ = res at *;clear hr0 hr1 hr2 hmm0 hmm hmm2 hmc hmc2 hmc0
 by_cases h12 : 12 < tks.length
 ·have hd : decide ((12 : Int) < (tks.length : Int)) = true:=decide_eq_true (by omega)
  rw [if_pos (.inl h12)] at hres;subst hres;clear h12 HTA HTW HMO HCT HCKT HBW;go_enter Tryz.func53,Tryz.ntmps53;go_wp2_with fail;go_ret;exact ⟨rfl,(Je : Ext w _)⟩
 have hd : decide ((12 : Int) < (tks.length : Int)) = false:=decide_eq_false (by omega)
 by_cases h60 : 60 < Jf.length
 ·have hd2 : decide ((60 : Int) < (Jf.length : Int)) = true:=decide_eq_true (by omega)
  rw [if_pos (.inr (.inl h60))] at hres;subst hres;clear HTA HTW HMO HCT HCKT HBW;go_enter Tryz.func53,Tryz.ntmps53;go_wp2_with fail;go_ret;exact ⟨rfl,(Je : Ext w _)⟩
 have hd2 : decide ((60 : Int) < (Jf.length : Int)) = false:=decide_eq_false (by omega)
 by_cases hl : Jf.length = vs.length
 case neg =>
  have hd3 : ((Jf.length : Int) != (vs.length : Int)) = true:=by
   have : (Jf.length : Int) ≠ (vs.length : Int):=by omega
   simpa using this
  rw [if_pos (.inr (.inr hl))] at hres;subst hres;clear HTA HTW HMO HCT HCKT HBW hl;go_enter Tryz.func53,Tryz.ntmps53;go_wp2_with fail;go_ret;exact ⟨rfl,(Je : Ext w _)⟩
 have hd3 : ((Jf.length : Int) != (vs.length : Int)) = false:=by
  have : (Jf.length : Int) = (vs.length : Int):=by omega
  simpa using this
 rw [if_neg (by omega)] at hres;have HL:=hH hl;clear hl;generalize hct : J5 none tks = ct at *;have HCTS:=hH hct;have HRES:=hH hres;clear hct hres;go_enter Tryz.func53,Tryz.ntmps53;go_wp2_with fail
 go_loopg [3,4] tks.length (fun gg s3 _ wr=>∃ k : Nat,k <= tks.length /\ tks.length - k <= gg /\ s3 = .int .i64 k /\ Aside (Ext w wr /\ Row wr w.heap.size #[.slice A0 tks.length c0,.slice A Jf.length c,.slice A2 vs.length c2]) /\ Aside (J5 (prevK tks k) (tks.drop k) = ct))
 case atStart=>exact ⟨0,by omega,by omega,rfl,⟨(Je : Ext w _),Row.newAt rfl⟩,HCTS.out⟩
 case round =>
  obtain ⟨k,hk,hg,rfl,HV,HA⟩:=hrel;have HE:=hH HV.out.1;have HR0:=hH HV.out.2;have hA:=HA.out;clear HV HA;(refine Ji wr w.heap.size fun qr_0 fr_0 lr_0 Rr_0=>?_)
  by_cases hlt : k < tks.length
  ·have hlt' : (k : Int) < (tks.length : Int):=by omega
   obtain ⟨b,o,rfl,hb,c0',c1,c2',c3,c4,c5⟩:=(HTR.out.ext HE.out).XC rfl hlt;rw [List.drop_eq_getElem_cons hlt,Xb] at hA;have HRC:=hH (fun w=>HCKT.out tks[k] w)
   have hpv : 0 < k -> ∃ y : Int,prevK tks k = some y /\ ∀ W,Ext wr W -> W.cell? ⟨b,o + (k - 1) * 6,none⟩ = some (.int .i64 y):=by
    intro h0
    have hk1 : k - 1 < tks.length:=by omega
    refine ⟨tks[k - 1].id,by unfold prevK;rw [if_neg (by omega),List.getElem?_eq_getElem hk1];rfl,fun W hW=>?_⟩;obtain ⟨b',o',hAA,_,d0,_⟩:=((HTR.out.ext HE.out).ext hW).XC rfl hk1
    injection hAA with hAA
    injection hAA with e1 e2
    subst e1 e2;exact d0
   have HPV:=hH hpv
   have hk0 : k = 0 -> prevK tks k = none:=fun h=>by subst h;rfl
   rw [<- prevK_succ tks k hlt] at hA;have hxc : ∀ W,Ext wr W -> W.cell? ⟨b,o + k * 6,none⟩ = some (.int .i64 tks[k].id):=fun W h=>(h.cells _ _ hb).trans c0';have HXC:=hH hxc;clear hpv hxc;generalize hp : tks[k] = p at *;clear hp;obtain ⟨x0,x1,x2,x3,x4,x5⟩:=p;simp only at c0' c1 c2' c3 c4 c5 hA HXC;unfold tkc at HRC;generalize JB ⟨x0,x1,x2,x3,x4,x5⟩ = q at HRC hA
   by_cases hq0 : q = 0
   ·rw [if_neg (by simpa using hq0)] at hA
    subst hq0
    by_cases hz : k = 0
    ·rw [hk0 hz,if_neg (by simp [ZC])] at hA
     subst hz;simp only [Nat.zero_mul,Nat.add_zero] at c0' c1 c2' c3 c4 c5;have HA2:=hH hA;clear hA hk0 HPV HXC;go_wp2_with fail;(refine gA (HRC.out _) fun w1 H1 hz1=>?_;refine Ji w1 w.heap.size fun q1_0 f1_0 l1_0 R1_0=>?_);go_wp2_with fail;go_quiet (fail);go_wp2_with fail;go_roundg (tks.length - (0 + 1))
     case measure=>omega
     case rel=>exact ⟨0 + 1,by omega,by omega,by go_num,⟨(Je : Ext w _),by exact rowA⟩,HA2.out⟩
    ·obtain ⟨y,hy,hyc⟩:=HPV.out (by omega)
     have hkn : 0 < k:=by omega
     have hkd : decide (0 < k) = true:=by simpa using hkn
     have hw1 : IntKind.i64.wrap ((k : Int) - 1) = ((k - 1 : Nat) : Int):=by rw [IntWalk.i64_in _ (by omega)];omega
     have hk1 : ((k - 1 : Nat) : Int) < (tks.length : Int):=by omega
     have hk2 : k - 1 < tks.length:=by omega
     rw [hy] at hA;have HYC:=hH hyc;clear hy hyc HPV hk0
     by_cases e3 : x0 <= y
     ·have e3b : decide (x0 <= y) = true:=by simpa using e3
      rw [if_pos (by simpa [ZC] using e3)] at hA;subst hA;have hres:=HRES.out;rw [if_pos (by decide)] at hres;subst hres;clear e3;go_wp2_with fail;(refine gA (HRC.out _) fun w1 H1 hz1=>?_;refine Ji w1 w.heap.size fun q1_0 f1_0 l1_0 R1_0=>?_);have f2:=HYC.out w1 Je;have f3:=HXC.out w1 Je;go_wp2_with fail;go_quiet (fail);go_wp2_with fail;go_ret;exact ⟨rfl,(Je : Ext w _)⟩
     ·have e3b : decide (x0 <= y) = false:=by simpa using e3
      rw [if_neg (by simpa [ZC] using e3)] at hA;have HA2:=hH hA;clear hA e3;go_wp2_with fail;(refine gA (HRC.out _) fun w1 H1 hz1=>?_;refine Ji w1 w.heap.size fun q1_0 f1_0 l1_0 R1_0=>?_);have f2:=HYC.out w1 Je;have f3:=HXC.out w1 Je;go_wp2_with fail;go_quiet (fail);go_wp2_with fail;go_roundg (tks.length - (k + 1))
      case measure=>omega
      case rel=>exact ⟨k + 1,by omega,by omega,by go_num,⟨(Je : Ext w _),by exact rowA⟩,HA2.out⟩
   ·have hqb : (q != 0) = true:=by simpa using hq0
    rw [if_pos hq0] at hA;subst hA;have hres:=HRES.out;rw [if_pos hq0] at hres;subst hres;clear hq0 hk0 HPV HXC;go_wp2_with fail;(refine gA (HRC.out _) fun w1 H1 hz1=>?_;refine Ji w1 w.heap.size fun q1_0 f1_0 l1_0 R1_0=>?_);go_wp2_with fail;go_ret;exact ⟨rfl,(Je : Ext w _)⟩
  ·have hge : ¬ (k : Int) < (tks.length : Int):=by omega
   have hkl : k = tks.length:=by omega
   rw [hkl,List.drop_length] at hA;have hr0 : ct = 0:=hA.symm;subst hr0;have hres:=HRES.out;rw [if_neg (by simp)] at hres;have HRES2:=hH hres;have HTZ:=hH (fun (t : Tk) (h : t ∈ tks)=>zones_in (ZH HCTS.out t h));clear hA hkl hres HRES HCTS HCKT;obtain ⟨wo,rfl⟩ : ∃ wo : World,wo = wr:=⟨_,rfl⟩;go_wp2_with fail
   go_loopg [5,6,7,8,9,10,11,12] Jf.length (fun gg s5 _ _ _ _ _ _ _ wr=>∃ k : Nat,k <= Jf.length /\ Jf.length - k <= gg /\ s5 = .int .i64 k /\ Aside (Ext w wr /\ Row wr w.heap.size #[.slice A0 tks.length c0,.slice A Jf.length c,.slice A2 vs.length c2]) /\ Aside (ZE tks (Jf.take k) (vs.take k) (Jf.drop k) (vs.drop k) = res /\ ∀ x ∈ Jf.take k,0 <= x.time /\ x.time <= 9999))
   case atStart=>exact ⟨0,by omega,by omega,rfl,⟨(Je : Ext w _),by exact rowA⟩,by simpa using HRES2.out.symm,by simp⟩
   case round =>
    obtain ⟨k,hk,hg,rfl,HV,HA⟩:=hrel;have HE2:=hH (And.intro trivial HV.out.1);have HE3:=hH HV.out.1;have HR02:=hH HV.out.2;obtain ⟨hA,hT⟩:=HA.out;clear HV HA HE HR0 HE2;clear qr_0 fr_0 lr_0 Rr_0;(refine Ji wr w.heap.size fun qs_0 fs_0 ls_0 Rs_0=>?_)
    by_cases hlt : k < Jf.length
    ·have hlt' : (k : Int) < (Jf.length : Int):=by omega
     have hkv : k < vs.length:=by have:=HL.out;omega
     have hkv' : (k : Int) < (vs.length : Int):=by omega
     obtain ⟨b,o,rfl,hb,d0,d1,d2,d3,d4⟩:=(HRd.out.ext HE3.out).ZX rfl hlt;have hca:=ckTapAt_eq tks Jf vs k Jf[k] vs[k];rw [ckTaps_step tks Jf vs k hlt hkv] at hA;generalize Zl tks (Jf.take k) (vs.take k) Jf[k] vs[k] = ca at *
     have hnx : Jv Jf[k] = 0 -> ∀ x ∈ Jf.take (k + 1),0 <= x.time /\ x.time <= 9999:=by
      intro h x hx;rw [List.take_succ_eq_append_getElem hlt] at hx
      rcases List.mem_append.1 hx with hx | hx
      ·exact hT x hx
      ·rw [List.mem_singleton.1 hx]
       exact time_ok h
     have HNX:=hH hnx;have HTT:=hH hT;obtain ⟨vb,vo,hA2,hvb,f0⟩ : ∃ vb vo,A2 = some ⟨vb,vo,none⟩ /\ vb < wr.heap.size /\ wr.cell? ⟨vb,vo + k,none⟩ = some (.int .i64 vs[k]):=(HSd.out.ext HE3.out).num_at rfl hkv;subst hA2;have HVC:=hH (fun (W : World) (h : Ext wr W)=>(h.cells _ _ hvb).trans f0);have HZO:=hH (@zone_ok Jf[k]);have HLT:=hH (late_take Jf Jf[k] k)
     have hlz : k = 0 -> Xa (Jf.take k) Jf[k] = false:=by
      intro h;have h0:=late_zero Jf Jf[k];rw [show Jf.take k = Jf.take 0 by rw [h]];exact h0
     have HLZ:=hH hlz;clear hlz;have hix:=XA tks Jf[k].ticket;have HTA2:=hH (fun w' (h : Ext w w')=>HTA.out Jf[k].ticket w' h);have HTW2:=hH (fun w' (h : Ext w w')=>HTW.out k Jf[k] w' h hk);have HCT2:=hH (fun (w' : World)=>HCT.out Jf[k] w');have HMO2:=hH (fun w' (h : Ext w w')=>HMO.out Jf[k].ticket k w' h hk HL.out ⟨_,_,_,rfl⟩);clear hnx hT f0;generalize Xa (Jf.take k) Jf[k] = lt at *;generalize (Jf.take k).any (JM Jf[k]) = z at *;have hRm : ∀ x ∈ JG Jf vs Jf[k].ticket k,0 <= x.time /\ x.time <= 9999:=fun x hx=>HTT.out x (ridesTo_mem hx);generalize JG Jf vs Jf[k].ticket k = R at *;have HRM:=hH hRm;clear hRm HTT;generalize hne : ZE tks (Jf.take (k + 1)) (vs.take (k + 1)) (Jf.drop (k + 1)) (vs.drop (k + 1)) = nx at *;have HNE:=hH hne;clear hne;have HBW2:=hH (fun (w' : World)=>HBW.out vs[k] w');clear HBW HTA HTW HCT HMO;generalize Jf[k] = p at *;generalize vs[k] = y at *;generalize within y 1 2 = wb at *;obtain ⟨x0,x1,x2,x3,x4⟩:=p;simp only at d0 d1 d2 d3 d4 HTA2 HMO2 hix hca HLT;unfold tpc at HCT2 HTW2;generalize hck : Jv ⟨x0,x1,x2,x3,x4⟩ = q at *;have HCKQ:=hH hck;clear hck;generalize XI (fun t=>t.id == x0) tks = ix at *;go_wp2_with fail;(refine gA (HCT2.out _) fun w2 H2 hz2=>?_;refine Ji w2 w.heap.size fun q2_0 f2_0 l2_0 R2_0=>?_;refine Ji w2 wr.heap.size fun q2_1 f2_1 l2_1 R2_1=>?_)
     by_cases hq : q = 0
     ·subst hq
      rw [if_neg (by simp)] at hca;go_wp2_with fail;(refine gA (HTA2.out _ Je) fun w3 H3 hz3=>?_;refine Ji w3 w.heap.size fun q3_0 f3_0 l3_0 R3_0=>?_;refine Ji w3 wr.heap.size fun q3_1 f3_1 l3_1 R3_1=>?_)
      rcases hix with ⟨rfl,hto⟩ | ⟨j,hj,rfl,hto⟩
      ·rw [hto] at hca
       simp only at hca;rw [hca,if_pos (by decide)] at hA;subst hA;clear hto hca;go_wp2_with fail;go_ret;exact ⟨rfl,(Je : Ext w _)⟩
      ·rw [hto] at hca
       simp only at hca
       have hjn : ¬ ((j : Int) < 0):=by omega
       have hjd : decide ((j : Int) < 0) = false:=by simp
       have hj' : (j : Int) < (tks.length : Int):=by omega
       clear hto;go_wp2_with fail;(refine gA (HTW2.out _ Je) fun w4 H4 hz4=>?_;refine Ji w4 w.heap.size fun q4_0 f4_0 l4_0 R4_0=>?_;refine Ji w4 wr.heap.size fun q4_1 f4_1 l4_1 R4_1=>?_);have f4:=HVC.out w4 Je
       cases z
       ·simp only [Bool.false_eq_true,if_false] at hca
        go_wp2_with fail;refine gB (HBW2.out _) ?_
        cases wb
        ·simp only [if_true] at hca
         rw [hca,if_pos (by decide)] at hA;subst hA;clear hca;go_wp2_with fail;go_ret;exact ⟨rfl,(Je : Ext w _)⟩
        ·simp only [Bool.true_eq_false,if_false] at hca
         have HCA:=hH hca;have HAA:=hH hA;clear hca hA;go_upto_region 25 with fail
         go_cut [115] (fun s115 wx=>s115 = .bool lt /\ Aside (Ext w4 wx))
         case first =>
          by_cases hz : k = 0
          ·have hv : lt = false:=HLZ.out hz
           subst hv;subst hz;go_wp2_with fail;go_quiet (fail);go_wp2_with fail;go_meet
           case rel=>exact ⟨rfl,(Je : Ext w4 _)⟩
          ·have h0 : 0 < k:=by omega
           have hid : decide (0 < k) = true:=by simpa using h0
           have hw1 : IntKind.i64.wrap ((k : Int) - 1) = ((k - 1 : Nat) : Int):=by rw [IntWalk.i64_in _ (by omega)];omega
           have hk1 : ((k - 1 : Nat) : Int) < (Jf.length : Int):=by omega
           have hk2 : k - 1 < Jf.length:=by omega
           obtain ⟨b9,o9,hAA9,hb9,-,-,-,f3,-⟩:=(HRd.out.ext (Je : Ext w w4)).ZX rfl hk2
           injection hAA9 with hAA9
           injection hAA9 with e1 e2
           subst e1 e2;have hv:=HLT.out h0 hk;generalize (Jf[k - 1]).time = y9 at *
           by_cases hy : x3 < y9
           ·have hyd : decide (x3 < y9) = true:=by simpa using hy
            rw [hyd] at hv;subst hv;clear hy;go_wp2_with fail;go_quiet (fail);go_wp2_with fail;go_meet
            case rel=>exact ⟨rfl,(Je : Ext w4 _)⟩
           ·have hyd : decide (x3 < y9) = false:=by simpa using hy
            rw [hyd] at hv;subst hv;clear hy;go_wp2_with fail;go_quiet (fail);go_wp2_with fail;go_meet
            case rel=>exact ⟨rfl,(Je : Ext w4 _)⟩
         case rest =>
          obtain ⟨rfl,HW⟩:=hcut;obtain ⟨w5,rfl⟩ : ∃ w5 : World,w5 = wc:=⟨_,rfl⟩;have H5:=hH HW.out;clear HW HLT HLZ;(refine Ji w5 w.heap.size fun q5_0 f5_0 l5_0 R5_0=>?_;refine Ji w5 wr.heap.size fun q5_1 f5_1 l5_1 R5_1=>?_);have hca:=HCA.out;have hA:=HAA.out
          cases lt
          ·simp only [Bool.false_eq_true,if_false] at hca
           have HCA2:=hH hca;clear hca hA HCA;go_wp2_with fail;(refine gA (HMO2.out _ Je) fun w6 H6 hz6=>?_;refine Ji w6 w.heap.size fun q6_0 f6_0 l6_0 R6_0=>?_;refine Ji w6 wr.heap.size fun q6_1 f6_1 l6_1 R6_1=>?_);go_wp2_with fail;have HJ:=hH (fun (w' : World)=>ref_JudgeOf_last tks[j] R (R.length : Nat) ⟨x0,x1,x2,x3,x4⟩ w' (HTZ.out _ (List.getElem_mem hj)).1 (HTZ.out _ (List.getElem_mem hj)).2 (HZO.out trivial) HRM.out);obtain ⟨tb,tof,rfl,htb,g0,g1,g2,g3,g4,g5⟩:=(HTR.out.ext (Je : Ext w w6)).XC rfl hj;generalize htq : tks[j] = t at *;clear htq;obtain ⟨t0,t1,t2,t3,t4,t5⟩:=t;simp only at g0 g1 g2 g3 g4 g5;unfold tkc tpc at HJ;simp only at HJ;generalize judge ⟨t0,t1,t2,t3,t4,t5⟩ (Zi R) (R.length : Nat) ⟨x0,x1,x2,x3,x4⟩ = J at *;have HKp:=hH (fun w' (h : Ext w6 w')=>(show (∀ oo,w'.cell? ⟨w.heap.size,oo,none⟩ = (#[.slice (some ⟨tb,tof,none⟩) tks.length c0,.slice (some ⟨b,o,none⟩) Jf.length c,.slice (some ⟨vb,vo,none⟩) vs.length c2] : Array Value)[oo]?) /\ (∀ oo,w'.cell? ⟨wr.heap.size,oo,none⟩ = (#[.int .i64 x0,.int .i64 x1,.int .i64 x2,.int .i64 x3,.int .i64 x4] : Array Value)[oo]?) /\ w'.cell? ⟨tb,tof + j * 6,none⟩ = some (.int .i64 t0) /\ w'.cell? ⟨tb,tof + j * 6 + 1,none⟩ = some (.int .i64 t1) /\ w'.cell? ⟨tb,tof + j * 6 + 2,none⟩ = some (.int .i64 t2) /\ w'.cell? ⟨tb,tof + j * 6 + 3,none⟩ = some (.int .i64 t3) /\ w'.cell? ⟨tb,tof + j * 6 + 4,none⟩ = some (.int .i64 t4) /\ w'.cell? ⟨tb,tof + j * 6 + 5,none⟩ = some (.int .i64 t5) from ⟨(Row.ext h R6_0.out).2.1,(Row.ext h R6_1.out).2.1,(h.cells _ _ htb).trans g0,(h.cells _ _ htb).trans g1,(h.cells _ _ htb).trans g2,(h.cells _ _ htb).trans g3,(h.cells _ _ htb).trans g4,(h.cells _ _ htb).trans g5⟩));refine Jw (fun w'=>(∀ oo,w'.cell? ⟨w.heap.size,oo,none⟩ = (#[.slice (some ⟨tb,tof,none⟩) tks.length c0,.slice (some ⟨b,o,none⟩) Jf.length c,.slice (some ⟨vb,vo,none⟩) vs.length c2] : Array Value)[oo]?) /\ (∀ oo,w'.cell? ⟨wr.heap.size,oo,none⟩ = (#[.int .i64 x0,.int .i64 x1,.int .i64 x2,.int .i64 x3,.int .i64 x4] : Array Value)[oo]?) /\ w'.cell? ⟨tb,tof + j * 6,none⟩ = some (.int .i64 t0) /\ w'.cell? ⟨tb,tof + j * 6 + 1,none⟩ = some (.int .i64 t1) /\ w'.cell? ⟨tb,tof + j * 6 + 2,none⟩ = some (.int .i64 t2) /\ w'.cell? ⟨tb,tof + j * 6 + 3,none⟩ = some (.int .i64 t3) /\ w'.cell? ⟨tb,tof + j * 6 + 4,none⟩ = some (.int .i64 t4) /\ w'.cell? ⟨tb,tof + j * 6 + 5,none⟩ = some (.int .i64 t5)) 13 (by kernel_rfl) (HKp.out _ ((Ext.refl _).drew)) (fun hS=>?_);simp only [List.length_cons,List.length_nil];(refine tkS 0 hS ?_;refine tkS 1 hS ?_;refine tkS 2 hS ?_;refine tkS 3 hS ?_;refine tkS 4 hS ?_;refine tkS 5 hS ?_;refine tkS 6 hS ?_;refine tkS 7 hS ?_);clear hS;refine oA 8 fun K hK=>?_;go_simp;refine gA (HJ.out _) fun w7 H7 hz7=>?_;go_wp2_with fail;have hS:=HKp.out w7 Je;refine hK.out _ _ (.inr hS) ?_;clear hK;(try simp only [Act.put,Jm])
           (refine tkS 9 hS ?_;refine tkS 10 hS ?_;refine tkS 11 hS ?_);refine oA 12 fun K hK=>?_;go_simp;refine hK.out _ _ (.inr hS) ?_;clear hK hS;(try simp only [Act.put,Jm]);refine oA 13 fun K hK=>?_;go_simp;refine hK.out _ _ (.inl (by kernel_rfl)) ?_;clear hK;(try simp only [Act.put,Jm]);refine Ju (by kernel_rfl) ?_ _;(refine Ji w7 w.heap.size fun q7_0 f7_0 l7_0 R7_0=>?_);have f7:=HVC.out w7 Je;have hca:=HCA2.out;have hA:=HAA.out
           by_cases hJ : J.1 = y
           ·have hJb : (J.1 != y) = false:=by simpa using hJ
            rw [if_neg (by simpa using hJ)] at hca;rw [hca,if_neg (by simp)] at hA;have HA3:=hH hA;clear hca hA hJ;go_wp2_with fail;go_roundg (Jf.length - (k + 1))
            case measure=>omega
            case rel=>exact ⟨k + 1,by omega,by omega,by go_num,⟨(Je : Ext w _),R7_0.out⟩,HNE.out.trans HA3.out,HNX.out trivial⟩
           ·have hJb : (J.1 != y) = true:=by simpa using hJ
            rw [if_pos hJ] at hca;rw [hca,if_pos (by decide)] at hA;subst hA;clear hca hJ;go_wp2_with fail;go_ret;exact ⟨rfl,(Je : Ext w _)⟩
          ·simp only [if_true] at hca
           rw [hca,if_pos (by decide)] at hA;subst hA;clear hca;go_wp2_with fail;go_ret;exact ⟨rfl,(Je : Ext w _)⟩
       ·simp only [if_true] at hca
        rw [hca,if_pos (by decide)] at hA;subst hA;clear hca;go_wp2_with fail;go_ret;exact ⟨rfl,(Je : Ext w _)⟩
     ·have hqb : (q != 0) = true:=by simpa using hq
      rw [if_pos hq] at hca;rw [hca,if_pos hq] at hA;subst hA;clear hca hq;go_wp2_with fail;go_ret;exact ⟨rfl,(Je : Ext w _)⟩
    ·have hge : ¬ (k : Int) < (Jf.length : Int):=by omega
     have hkl : k = Jf.length:=by omega
     rw [hkl,List.drop_length] at hA
     have hr0 : res = 0:=by rw [<- hA];cases (vs.drop Jf.length) <;> rfl
     subst hr0;clear hA hkl;go_wp2_with fail;go_ret;exact ⟨rfl,HE3.out⟩

structure JL (base : Nat) (w : World) (t0 t1 t2 : Value) (l : Ld) : Prop where
 tk : Jh 34 6 tkc base w t0 l.Jc
 tp : Jh 57 5 tpc base w t1 l.Jf
 vd : Jh 3 1 inc base w t2 l.Jd
 d01 : ∀ q,t0.ownBlock = some q -> t1.ownBlock ≠ some q
 d02 : ∀ q,t0.ownBlock = some q -> t2.ownBlock ≠ some q
 d12 : ∀ q,t1.ownBlock = some q -> t2.ownBlock ≠ some q
theorem JL.rest {base base2 : Nat} {w w' : World} {t0 t1 t2 : Value} {l : Ld} (h : JL base w t0 t1 t2 l) (h0 : Jh 34 6 tkc base2 w' t0 l.Jc) (h1 : Jh 57 5 tpc base2 w' t1 l.Jf) (h2 : Jh 3 1 inc base2 w' t2 l.Jd) : JL base2 w' t0 t1 t2 l:=⟨h0,h1,h2,h.d01,h.d02,h.d12⟩
theorem JL.ext {base : Nat} {w w' : World} {t0 t1 t2 : Value} {l : Ld} (h : JL base w t0 t1 t2 l) (he : Ext w w') : JL base w' t0 t1 t2 l:=h.rest (h.tk.ext he) (h.tp.ext he) (h.vd.ext he)
theorem JL.alloc {base : Nat} {w : World} {t0 t1 t2 : Value} {l : Ld} (h : JL base w t0 t1 t2 l) (o : Obj) : JL base (w.alloc o) t0 t1 t2 l:=h.ext ((Ext.refl w).alloc o)
theorem JL.lower {base b2 : Nat} {w : World} {t0 t1 t2 : Value} {l : Ld} (h : JL base w t0 t1 t2 l) (hb : b2 <= base) : JL b2 w t0 t1 t2 l:=h.rest (h.tk.lower hb) (h.tp.lower hb) (h.vd.lower hb)
theorem JL.nil {base : Nat} {w : World} : JL base w (.slice none 0 0) (.slice none 0 0) (.slice none 0 0) ld0:=⟨Jh.nil,Jh.nil,Jh.nil,fun q h=>(by simp [Value.ownBlock] at h),fun q h=>(by simp [Value.ownBlock] at h),fun q h=>(by simp [Value.ownBlock] at h)⟩
theorem JL.Jl {base : Nat} {w : World} {t0 t1 t2 : Value} {l : Ld} {a : Addr} {u : Value} (ha : a.block < base) (h : JL base w t0 t1 t2 l) : JL base (w.setCell a u) t0 t1 t2 l:=h.rest (h.tk.set ha u) (h.tp.set ha u) (h.vd.set ha u)
theorem JL.put {base : Nat} {w : World} {t0 t1 t2 : Value} {l : Ld} {a : Addr} (h : JL base w t0 t1 t2 l) (h0 : t0.ownBlock ≠ some a.block) (h1 : t1.ownBlock ≠ some a.block) (h2 : t2.ownBlock ≠ some a.block) (u : Value) : JL base (w.setCell a u) t0 t1 t2 l:=h.rest (h.tk.put h0 u) (h.tp.put h1 u) (h.vd.put h2 u)

def fitsL (l : Ld) : Prop:=l.Jc.length * 48 <= 140737488355328 /\ l.Jf.length * 40 <= 140737488355328 /\ l.Jd.length * 8 <= 140737488355328

theorem ledger_Own (l : Ld) (s0 s1 s2 : Value) (w : World) (hr0 : RdL 6 tkc w s0 l.Jc) (hr1 : RdL 5 tpc w s1 l.Jf) (hr2 : RdL 1 inc w s2 l.Jd) (hz : fitsL l) :
  Calls Tryz.prog 143 #[.agg #[s0,s1,s2]] w fun e w'=>∃ t0 t1 t2,e = .returned (.agg #[t0,t1,t2]) /\ Ext w w' /\ JL w.heap.size w' t0 t1 t2 l:=by
 have HC0:=hH (fun w' (h : Ext w w')=>Clone_tk l.Jc s0 w' (hr0.ext h) hz.1);have HC1:=hH (fun w' (h : Ext w w')=>Clone_tp l.Jf s1 w' (hr1.ext h) hz.2.1);have HC2:=hH (fun w' (h : Ext w w')=>Clone_it l.Jd s2 w' (hr2.ext h) hz.2.2);obtain ⟨A0,c0,rfl,-,-⟩:=hr0.form;obtain ⟨A,c,rfl,-,-⟩:=hr1.form;obtain ⟨A2,c2,rfl,-,-⟩:=hr2.form;clear hr0 hr1 hr2;go_enter Tryz.func143,Tryz.ntmps143;go_upto_region 1 with fail;(apply ZL (w0:=w) (g0:=w.heap.size) (g1:=w.heap.size + 1);(focus (exact rowA));(focus (exact rowA));(focus (exact Je));intro W HW hzW Ra_0 Ra_1;(try simp only [Jm,World.size_alloc,size_set,World.heap_drewN,size_drew] at hzW Ra_0 Ra_1);have la_0:=Ra_0.out.size;have la_1:=Ra_1.out.size);have HK:=hH (fun w' (h : Ext W w')=>(Row.ext h Ra_0.out).2.1);(refine Jw (fun w'=>Ext W w') 10 (by kernel_rfl) ((Ext.refl _).drew) (fun hS=>?_);simp only [List.length_cons,List.length_nil]);(refine tkA 0 HK hS ?_;refine tkA 1 HK hS ?_;refine tkA 3 HK hS ?_;refine tkA 4 HK hS ?_;refine tkA 6 HK hS ?_;refine tkA 7 HK hS ?_);(refine oA 2 fun K hK=>?_;go_simp);refine (HC0.out _ Je).mono ?_;rintro e w1 ⟨v1,rfl,h1,ho1⟩;obtain ⟨B1,d1,rfl⟩:=ho1.form;have hz1:=h1.size;have H1:=hH h1;(try simp only [lSz] at hz1 ho1);have HO1:=hH ho1;clear h1 ho1 hS;go_wp2_with fail
 have hS : Ext W w1:=by exact Je
 refine hK.out _ _ (.inr hS) ?_;clear hK;(try simp only [Act.put,Jm]);(refine oA 5 fun K hK=>?_;go_simp);refine (HC1.out _ Je).mono ?_;rintro e w2 ⟨v2,rfl,h2,ho2⟩;obtain ⟨B2,d2,rfl⟩:=ho2.form;have hz2:=h2.size;have H2:=hH h2;have HO2:=hH ho2;clear h2 ho2 hS;go_wp2_with fail
 have hS : Ext W w2:=by exact Je
 refine hK.out _ _ (.inr hS) ?_;clear hK;(try simp only [Act.put,Jm]);(refine oA 8 fun K hK=>?_;go_simp);refine (HC2.out _ Je).mono ?_;rintro e w3 ⟨v3,rfl,h3,ho3⟩;obtain ⟨B3,d3,rfl⟩:=ho3.form;have hz3:=h3.size;have H3:=hH h3;have HO3:=hH ho3;clear h3 ho3 hS;go_wp2_with fail
 have hS : Ext W w3:=by exact Je
 refine hK.out _ _ (.inr hS) ?_;clear hK;(try simp only [Act.put,Jm]);((refine oA 9 fun K hK=>?_;go_simp;refine hK.out _ _ (.inr hS) ?_;clear hK;(try simp only [Act.put,Jm])));(refine Ji w3 (w.heap.size + 1) fun q3_0 f3_0 l3_0 R3_0=>?_);(refine oA 10 fun K hK=>?_;go_simp;refine hK.out _ _ (.inl (by kernel_rfl)) ?_;clear hK;(try simp only [Act.put,Jm]);refine Ju (by kernel_rfl) ?_ _);go_wp2_with fail;refine bodyPost_ret (v:=.agg #[.slice B1 l.Jc.length d1,.slice B2 l.Jf.length d2,.slice B3 l.Jd.length d3]) (by simp [results,Tryz.results143,go_sem, *]) rfl ⟨_,_,_,rfl,(Je : Ext w _),?_⟩
 have k1 : Jh 34 6 tkc W.heap.size w3 (.slice B1 l.Jc.length d1) l.Jc:=by exact ownA (W.heap.size)
 have k2 : Jh 57 5 tpc W.heap.size w3 (.slice B2 l.Jf.length d2) l.Jf:=by exact ownA (w1.heap.size)
 have k3 : Jh 3 1 inc W.heap.size w3 (.slice B3 l.Jd.length d3) l.Jd:=by exact ownA (w2.heap.size)
 have k : JL W.heap.size w3 (.slice B1 l.Jc.length d1) (.slice B2 l.Jf.length d2) (.slice B3 l.Jd.length d3) l:=by
  refine ⟨k1,k2,k3,fun q a b=>?_,fun q a b=>?_,fun q a b=>?_⟩
  ·have:=HO1.out.lt q a;have:=HO2.out.lt q b;omega
  ·have:=HO1.out.lt q a;have:=HO3.out.lt q b;omega
  ·have:=HO2.out.lt q a;have:=HO3.out.lt q b;omega
 clear k1 k2 k3;refine JL.lower (base:=W.heap.size) ?_ (by omega)
 repeat (first | exact k | (apply JL.Jl;focus (simp <;> omega)))


theorem right_len {l : Ld} (h : Js l = 0) : l.Jf.length = l.Jd.length:=(J6.1 h).2.2.1

end Go.Proofs.YteojjbhadgkfgaaGreat
