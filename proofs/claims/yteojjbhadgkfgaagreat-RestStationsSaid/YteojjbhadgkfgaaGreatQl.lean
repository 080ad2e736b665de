/- Ql: parts of the proofs, laid together. -/
import Derived.BigRegion
import Derived.Deep.RegionHeld3
import Derived.Test.YteojjbhadgkfgaaGreatQa
import Derived.Test.YteojjbhadgkfgaaGreatQk
import Derived.Test.YteojjbhadgkfgaaGreatQe
/- Gates that are alone: the plain side. -/
set_option maxHeartbeats 64000000
namespace Lb
set_option linter.unusedVariables false
set_option maxRecDepth 100000
set_option linter.unusedSimpArgs false
set_option linter.unnecessarySimpa false

def follows : Option Tp -> Tp -> Bool
 | none,_=>true
 | some x,p=>decide (x.time <= p.time) && p.seq == x.seq + 1
def Zn (id zone : Int) : Option Tp -> List Tp -> Int
 | _,[]=>0
 | prev,p :: l=>if Jv p ≠ 0 then Jv p else if p.gate ≠ id \/ p.zone ≠ zone \/ follows prev p = false then 4 else Zn id zone (some p) l
theorem XT (id zone : Int) (prev : Option Tp) (p : Tp) (l : List Tp) : Zn id zone prev (p :: l) = if Jv p ≠ 0 then Jv p else if p.gate ≠ id \/ p.zone ≠ zone \/ follows prev p = false then 4 else Zn id zone (some p) l:=rfl
def ZQ (l : List Tp) (seq : Int) : Bool:=match l.getLast? with
 | none=>true
 | some x=>x.seq == seq
def aloneE (g : Gt) : Int:=if Zn g.id g.zone none g.Jn ≠ 0 then Zn g.id g.zone none g.Jn else if ZQ g.Jn g.seq = false then 4 else 0
def J7 (g : Gt) : Int :=
 if within g.id 0 2 = false \/ within g.seq 0 99 = false then 3
 else if Zk g.zone = false then 9
 else if 12 < g.Jn.length then 2
 else if aloneE g ≠ 0 then aloneE g
 else if Z9 g.Jb ≠ 0 then Z9 g.Jb
 else if within g.left 0 9 = false \/ within g.JP 0 10099 = false then 3 else 0
def early (l : List Tp) (time : Int) : Bool:=match l.getLast? with
 | none=>false
 | some x=>decide (time < x.time)
def Xo (g : Gt) (id : Int) : Bool:=g.Jn.any (fun p=>p.ticket == id)
def tapE (g : Gt) (t : Tk) (time : Int) : Int :=
 if within time 0 9999 = false then 3
 else if early g.Jn time = true then 4
 else if g.Jb.ids.contains t.id = true then 11
 else if g.JP < time then 8
 else if place t time g.zone ≠ 0 then place t time g.zone
 else if g.left = 0 \/ t.kind ≠ 2 /\ Xo g t.id = true then 10
 else if g.Jn.length = 12 \/ g.seq = 99 then 2 else 0
def Zp (g : Gt) (t : Tk) (time : Int) : Tp:=⟨t.id,g.id,g.seq + 1,time,g.zone⟩
def ZJ (g : Gt) (t : Tk) (time : Int) : Gt:=⟨g.id,g.zone,g.seq + 1,g.Jn ++ [Zp g t time],g.Jb,g.left - 1,g.JP⟩
def Xh (g : Gt) (t : Tk) (time : Int) : Gt × Tp × Int:=if tapE g t time ≠ 0 then (gt0,tp0,tapE g t time) else (ZJ g t time,Zp g t time,0)
def synced (g : Gt) (d : Dn) (time : Int) : Gt:=⟨g.id,g.zone,g.seq,[],pickD g.Jb d,9,time + 100⟩
theorem ckTap_ok {p : Tp} : Jv p = 0 ↔ within p.ticket 1 9999 = true /\ within p.gate 0 2 = true /\ within p.seq 1 99 = true /\ within p.time 0 9999 = true /\ Zk p.zone = true:=by
 unfold Jv
 cases h1 : within p.ticket 1 9999 <;> cases h2 : within p.gate 0 2 <;> cases h3 : within p.seq 1 99 <;> cases h4 : within p.time 0 9999 <;> cases h5 : Zk p.zone <;> simp
theorem ckAlone_snoc (id zone : Int) (p : Tp) : ∀ (l : List Tp) (prev : Option Tp),Zn id zone prev (l ++ [p]) = if Zn id zone prev l ≠ 0 then Zn id zone prev l else if Jv p ≠ 0 then Jv p else if p.gate ≠ id \/ p.zone ≠ zone \/ follows ((l.getLast?).or prev) p = false then 4 else 0
 | [],prev=>by
  show (if Jv p ≠ 0 then Jv p else if p.gate ≠ id \/ p.zone ≠ zone \/ follows prev p = false then 4 else 0) = (if (0 : Int) ≠ 0 then 0 else if Jv p ≠ 0 then Jv p else if p.gate ≠ id \/ p.zone ≠ zone \/ follows prev p = false then 4 else 0)
  rw [if_neg (show ¬ ((0 : Int) ≠ 0) by decide)]
 | x :: l,prev=>by
  have ih:=ckAlone_snoc id zone p l (some x)
  have hgl : ((x :: l).getLast?).or prev = (l.getLast?).or (some x):=by
   cases l with
   | nil=>rfl
   | cons y l=>rw [List.getLast?_cons_cons];cases hl : (y :: l).getLast? with
    | none=>simp at hl
    | some z=>rfl
  rw [List.cons_append,XT,XT,ih,hgl]
  by_cases h1 : Jv x = 0
  ·by_cases h2 : x.gate ≠ id \/ x.zone ≠ zone \/ follows prev x = false
   ·simp only [h1,ne_eq,not_true_eq_false,if_false,if_pos h2]
    rfl
   ·simp only [h1,ne_eq,not_true_eq_false,if_false,if_neg h2]
  ·simp only [h1,ne_eq,not_false_eq_true,if_true]
theorem alone_mem {id zone : Int} : ∀ {l : List Tp} {prev : Option Tp},Zn id zone prev l = 0 -> ∀ p ∈ l,Jv p = 0 /\ p.gate = id /\ p.zone = zone
 | [],_,_=>by simp
 | x :: l,prev,h=>by
  rw [XT] at h
  by_cases h1 : Jv x = 0
  ·rw [if_neg (by simpa using h1)] at h
   by_cases h2 : x.gate ≠ id \/ x.zone ≠ zone \/ follows prev x = false
   ·rw [if_pos h2] at h;simp at h
   ·rw [if_neg h2] at h
    intro p hp
    rcases List.mem_cons.1 hp with rfl | hp
    ·exact ⟨h1,Classical.byContradiction fun e=>h2 (.inl e),Classical.byContradiction fun e=>h2 (.inr (.inl e))⟩
    ·exact alone_mem h p hp
  ·rw [if_pos h1] at h;exact absurd h h1
structure RightG (g : Gt) : Prop where
 id : within g.id 0 2 = true
 seq : within g.seq 0 99 = true
 zone : Zk g.zone = true
 len : g.Jn.length <= 12
 Jn : Zn g.id g.zone none g.Jn = 0
 last : ZQ g.Jn g.seq = true
 Jb : Z9 g.Jb = 0
 left : within g.left 0 9 = true
 JP : within g.JP 0 10099 = true
theorem Zh {g : Gt} : J7 g = 0 ↔ RightG g:=by
 unfold J7 aloneE
 constructor
 ·intro h
  by_cases h1 : within g.id 0 2 = false \/ within g.seq 0 99 = false
  ·rw [if_pos h1] at h;simp at h
  rw [if_neg h1] at h
  by_cases h2 : Zk g.zone = false
  ·rw [if_pos h2] at h;simp at h
  rw [if_neg h2] at h
  by_cases h3 : 12 < g.Jn.length
  ·rw [if_pos h3] at h;simp at h
  rw [if_neg h3] at h
  by_cases h4' : Zn g.id g.zone none g.Jn ≠ 0
  ·rw [if_pos h4'] at h
   rw [if_pos h4'] at h;exact absurd h h4'
  have h4:=Classical.byContradiction h4'
  by_cases h5 : ZQ g.Jn g.seq = false
  ·rw [if_neg h4',if_pos h5] at h
   simp at h
  rw [if_neg h4',if_neg h5,if_neg (by decide)] at h
  by_cases h6' : Z9 g.Jb ≠ 0
  ·rw [if_pos h6'] at h;exact absurd h h6'
  rw [if_neg h6'] at h;have h6:=Classical.byContradiction h6'
  by_cases h7 : within g.left 0 9 = false \/ within g.JP 0 10099 = false
  ·rw [if_pos h7] at h;simp at h
  simp only [not_or,Bool.not_eq_false] at h1 h2 h5 h7;exact ⟨h1.1,h1.2,h2,by omega,h4,h5,h6,h7.1,h7.2⟩
 ·rintro ⟨h1,h2,h3,h4,h5,h6,h7,h8,h9⟩
  have : ¬ 12 < g.Jn.length:=by omega
  simp [h1,h2,h3,this,h5,h6,h7,h8,h9]
theorem tapped_right {g : Gt} {t : Tk} {time : Int} (hg : J7 g = 0) (ht : JB t = 0) (h : tapE g t time = 0) : J7 (ZJ g t time) = 0 /\ 0 < g.left /\ time <= g.JP /\ within time 0 9999 = true /\ g.Jb.ids.contains t.id = false /\ (t.kind ≠ 2 -> Xo g t.id = false) /\ g.Jn.length ≠ 12 /\ g.seq ≠ 99:=by
 have r:=Zh.1 hg;unfold tapE at h
 by_cases h1 : within time 0 9999 = false
 ·rw [if_pos h1] at h;simp at h
 rw [if_neg h1] at h
 by_cases h2 : early g.Jn time = true
 ·rw [if_pos h2] at h;simp at h
 rw [if_neg h2] at h
 by_cases h3 : g.Jb.ids.contains t.id = true
 ·rw [if_pos h3] at h;simp at h
 rw [if_neg h3] at h
 by_cases h4 : g.JP < time
 ·rw [if_pos h4] at h;simp at h
 rw [if_neg h4] at h
 by_cases h5' : place t time g.zone ≠ 0
 ·rw [if_pos h5'] at h;exact absurd h h5'
 have h5 : place t time g.zone = 0:=Classical.byContradiction h5';rw [if_neg h5'] at h
 by_cases h6 : g.left = 0 \/ t.kind ≠ 2 /\ Xo g t.id = true
 ·rw [if_pos h6] at h;simp at h
 rw [if_neg h6] at h
 by_cases h7 : g.Jn.length = 12 \/ g.seq = 99
 ·rw [if_pos h7] at h;simp at h
 have b1:=r.id;have b2:=r.seq;have b3:=r.left
 have h1' : within time 0 9999 = true:=by simpa using h1
 simp [within] at b1 b2 b3
 have hid : within t.id 1 9999 = true:=by
  unfold JB at ht
  cases hw : within t.id 1 9999 with
  | true=>rfl
  | false=>simp [hw] at ht
 have hleft : 0 < g.left:=by omega
 refine ⟨Zh.2 ⟨r.id,?_,r.zone,?_,?_,?_,r.Jb,?_,r.JP⟩,hleft,by omega,h1',by simpa using h3,fun hk=>?_,by omega,by omega⟩
 ·show within (g.seq + 1) 0 99 = true
  simp only [within,Bool.and_eq_true,decide_eq_true_eq];omega
 ·have:=r.len;simp [ZJ];omega
 ·show Zn g.id g.zone none (g.Jn ++ [Zp g t time]) = 0
  rw [ckAlone_snoc,if_neg (by simpa using r.Jn)];have hp : Jv (Zp g t time) = 0:=ckTap_ok.2 ⟨hid,r.id,(show within (g.seq + 1) 1 99 = true by simp only [within,Bool.and_eq_true,decide_eq_true_eq];omega),h1',r.zone⟩;rw [if_neg (by simpa using hp),if_neg];simp only [Zp,ne_eq,not_true_eq_false,false_or,Option.or_none,Bool.not_eq_false];unfold early at h2;have hl:=r.last;unfold ZQ at hl
  cases hgl : g.Jn.getLast? with
  | none=>rfl
  | some x =>
   simp only [hgl] at h2 hl;simp only [beq_iff_eq,decide_eq_true_eq] at hl h2
   simp [follows]
   omega
 ·simp [ZQ,ZJ,Zp]
 ·show within (g.left - 1) 0 9 = true
  simp only [within,Bool.and_eq_true,decide_eq_true_eq];omega
 ·cases htw : Xo g t.id with
  | false=>rfl
  | true=>exact absurd (.inr ⟨hk,htw⟩) h6
end Lb

namespace Go.Proofs.YteojjbhadgkfgaaGreat
set_option linter.unusedSimpArgs false
set_option linter.unusedVariables false
set_option maxRecDepth 100000
open Go Go.RowKit Lb

def gta (g : Gt) (sa si : Value) : Array Value:=#[.int .i64 g.id,.int .i64 g.zone,.int .i64 g.seq,sa,.int .i64 g.Jb.Jk,si,.int .i64 g.left,.int .i64 g.JP]
def prevT (l : List Tp) (k : Nat) : Option Tp:=if k = 0 then none else l[k - 1]?
theorem prevT_succ (l : List Tp) (k : Nat) (h : k < l.length) : prevT l (k + 1) = some l[k]:=by simp [prevT,h]
theorem RdL.tp_at {w : World} {v : Value} {l : List Tp} (h : RdL 5 tpc w v l) {A : Option Addr} {n c : Nat} (hv : v = .slice A n c) {k : Nat} (hk : k < l.length) : ∃ b o,A = some ⟨b,o,none⟩ /\ b < w.heap.size /\
  w.cell? ⟨b,o + k * 5,none⟩ = some (.int .i64 l[k].ticket) /\ w.cell? ⟨b,o + k * 5 + 1,none⟩ = some (.int .i64 l[k].gate) /\ w.cell? ⟨b,o + k * 5 + 2,none⟩ = some (.int .i64 l[k].seq) /\ w.cell? ⟨b,o + k * 5 + 3,none⟩ = some (.int .i64 l[k].time) /\ w.cell? ⟨b,o + k * 5 + 4,none⟩ = some (.int .i64 l[k].zone):=by
 subst hv;obtain ⟨b,o,c',hv,hb,hc⟩:=h.at_ hk
 injection hv with hA
 exact ⟨b,o,hA,hb,hc 0 _ rfl,hc 1 _ rfl,hc 2 _ rfl,hc 3 _ rfl,hc 4 _ rfl⟩
theorem gate_within (n a b : Int) (w : World) :
  Calls Tryz.prog 120 #[.int .i64 n,.int .i64 a,.int .i64 b] w fun e w'=>e = .returned (.bool (within n a b)) /\ w = w':=by
 go_enter Tryz.func120,Tryz.ntmps120
 go_wp2
 all_goals
  go_ret;exact ⟨Jq (by simp [within, *] <;> omega),rfl⟩

theorem gate_alone (g : Gt) (sa si : Value) (w : World) (hr : RdL 5 tpc w sa g.Jn) (hs : ∃ A n c,si = .slice A n c) :
  Calls Tryz.prog 123 #[.agg (gta g sa si)] w fun e w'=>e = .returned (.int .i64 (aloneE g)) /\ Ext w w':=by
 obtain ⟨A,c,rfl,hmc,hmm⟩:=hr.form;obtain ⟨A2,n2,c2,rfl⟩:=hs;obtain ⟨gid,zone,seq,l,⟨ver,ids⟩,left,JP⟩:=g;unfold aloneE gta;simp only at hr hmc hmm ⊢
 have hm : l.length <= 9223372036854775807:=by unfold maxLen at hmm;omega
 generalize hR : Zn gid zone none l = r;generalize hS : (if r ≠ 0 then r else if ZQ l seq = false then (4 : Int) else 0) = res;have HRd:=hH hr;have HR:=hH hR;have HS:=hH hS;clear hr hmc hmm hR hS;go_enter Tryz.func123,Tryz.ntmps123;go_wp2_with fail
 go_loopg [2,4,5,6,13] l.length (fun gg _ _ _ _ s13 wr=>∃ k : Nat,k <= l.length /\ l.length - k <= gg /\ s13 = .int .i64 k /\ Aside (Ext w wr /\ Row wr w.heap.size #[.int .i64 gid,.int .i64 zone,.int .i64 seq,.slice A l.length c,.int .i64 ver,.slice A2 n2 c2,.int .i64 left,.int .i64 JP]) /\ Aside (Zn gid zone (prevT l k) (l.drop k) = r /\ ∀ x,prevT l k = some x -> Jv x = 0))
 case atStart=>exact ⟨0,by omega,by omega,rfl,⟨(Ext.refl _).alloc _,Row.newAt rfl⟩,HR.out,fun x h=>by simp [prevT] at h⟩
 case round =>
  obtain ⟨k,hk,hg,rfl,HE,HA⟩:=hrel;have hq:=HE.out.2.2.1;have hfz:=HE.out.2.2.2;have hlt2:=HE.out.2.1
  by_cases hlt : k < l.length
  ·have hlt' : (k : Int) < (l.length : Int):=by omega
   obtain ⟨b,o,rfl,hb,c0,c1,c2',c3,c4⟩:=(HRd.out.ext HE.out.1).tp_at rfl hlt;obtain ⟨hA,hP⟩:=HA.out;rw [List.drop_eq_getElem_cons hlt,XT] at hA;have hn:=prevT_succ l k hlt;rw [<- hn] at hA;have HRC:=hH (fun w=>rule_Check l[k] w)
   have hpv : 0 < k -> ∃ x,prevT l k = some x /\ ∀ W,Ext wr W -> W.cell? ⟨b,o + (k - 1) * 5 + 2,none⟩ = some (.int .i64 x.seq) /\ W.cell? ⟨b,o + (k - 1) * 5 + 3,none⟩ = some (.int .i64 x.time):=by
    intro h0
    have hk1 : k - 1 < l.length:=by omega
    refine ⟨l[k - 1],by unfold prevT;rw [if_neg (by omega),List.getElem?_eq_getElem hk1],fun W hW=>?_⟩;obtain ⟨b',o',hAA,_,_,_,d2,d3,_⟩:=((HRd.out.ext HE.out.1).ext hW).tp_at rfl hk1
    injection hAA with hAA
    injection hAA with e1 e2
    subst e1 e2;exact ⟨d2,d3⟩
   have HPV:=hH hpv;have HE2:=hH HE.out.1;have HRW:=hH HE.out.2
   have hk0 : k = 0 -> prevT l k = none:=fun h=>by subst h;rfl
   have hP2:=hH hP;have HN:=hH hn;clear HE HA hP hpv hn;generalize hp : l[k] = p at *;clear hp;obtain ⟨x0,x1,x2,x3,x4⟩:=p;simp only at c0 c1 c2' c3 c4;unfold tpc at HRC;generalize hck : Jv ⟨x0,x1,x2,x3,x4⟩ = q at HRC hA
   by_cases hq0 : q = 0
   ·rw [if_neg (by simpa using hq0)] at hA
    subst hq0;have HCK:=hH hck;clear hck
    by_cases e1 : x1 = gid
    ·have e1b : (x1 != gid) = false:=by simpa using e1
     by_cases e2 : x4 = zone
     ·have e2b : (x4 != zone) = false:=by simpa using e2
      by_cases hz : k = 0
      ·rw [hk0 hz,if_neg (by simp [e1,e2,follows])] at hA
       subst hz;simp only [Nat.zero_mul,Nat.add_zero] at c0 c1 c2' c3 c4;have HA2:=hH hA;clear hA hk0 e1 e2 hP2 HPV;go_wp2_with fail;(refine gA (HRC.out _) fun w1 H1 hz1=>?_;refine Ji w1 w.heap.size fun q1_0 f1_0 l1_0 R1_0=>?_;refine Ji w1 wr.heap.size fun q1_1 f1_1 l1_1 R1_1=>?_);go_wp2_with fail;go_quiet (fail);go_wp2_with fail;go_roundg (l.length - (0 + 1))
       case measure=>omega
       case rel=>exact ⟨0 + 1,by omega,by omega,by go_num,⟨(Je : Ext w _),R1_0.out.drewN⟩,HA2.out,fun y hy=>by rw [HN.out] at hy;injection hy with hy;subst hy;exact HCK.out⟩
      ·obtain ⟨y,hy,hyc⟩:=HPV.out (by omega)
       have hyk:=hP2.out y hy
       have hys : y.seq <= 99 /\ 1 <= y.seq:=by
        have:=(ckTap_ok.1 hyk).2.2.1
        simp [within] at this
        omega
       have hws : IntKind.i64.wrap (y.seq + 1) = y.seq + 1:=IntWalk.i64_in _ (by omega)
       have hkn : 0 < k:=by omega
       have hkd : decide (0 < k) = true:=by simpa using hkn
       have hw1 : IntKind.i64.wrap ((k : Int) - 1) = ((k - 1 : Nat) : Int):=by rw [IntWalk.i64_in _ (by omega)];omega
       have hk1 : ((k - 1 : Nat) : Int) < (l.length : Int):=by omega
       have hk2 : k - 1 < l.length:=by omega
       rw [hy] at hA;have HYC:=hH hyc;clear hyk hy hyc HPV hP2 hk0;obtain ⟨y0,y1,y2,y3,y4⟩:=y;simp only at hys hws HYC
       by_cases e3 : y3 <= x3
       ·have e3b : decide (x3 < y3) = false:=by simpa using e3
        by_cases e4 : x2 = y2 + 1
        ·have e4b : (x2 != y2 + 1) = false:=by simpa using e4
         rw [if_neg (by simp [e1,e2,e3,e4,follows])] at hA;have HA2:=hH hA;clear hA e1 e2 e3 e4;go_wp2_with fail;(refine gA (HRC.out _) fun w1 H1 hz1=>?_;refine Ji w1 w.heap.size fun q1_0 f1_0 l1_0 R1_0=>?_;refine Ji w1 wr.heap.size fun q1_1 f1_1 l1_1 R1_1=>?_);obtain ⟨f2,f3⟩:=HYC.out w1 Je;go_wp2_with fail;go_quiet (fail);go_wp2_with fail;go_roundg (l.length - (k + 1))
         case measure=>omega
         case rel=>exact ⟨k + 1,by omega,by omega,by go_num,⟨(Je : Ext w _),R1_0.out.drewN⟩,HA2.out,fun y hy=>by rw [HN.out] at hy;injection hy with hy;subst hy;exact HCK.out⟩
        ·have e4b : (x2 != y2 + 1) = true:=by simpa using e4
         have HQ:=hH (show res = 4 by rw [if_pos (by simp [follows,e4])] at hA;rw [<- HS.out,<- hA];simp);clear hA e1 e2 e3 e4;go_wp2_with fail;(refine gA (HRC.out _) fun w1 H1 hz1=>?_;refine Ji w1 w.heap.size fun q1_0 f1_0 l1_0 R1_0=>?_;refine Ji w1 wr.heap.size fun q1_1 f1_1 l1_1 R1_1=>?_);obtain ⟨f2,f3⟩:=HYC.out w1 Je;go_wp2_with fail;go_quiet (fail);go_wp2_with fail;go_ret;refine ⟨Jo (by rw [HQ.out]),?_⟩;exact Je
       ·have e3b : decide (x3 < y3) = true:=by simpa using e3
        have HQ:=hH (show res = 4 by rw [if_pos (by simp [follows,e3])] at hA;rw [<- HS.out,<- hA];simp);clear hA e1 e2 e3;go_wp2_with fail;(refine gA (HRC.out _) fun w1 H1 hz1=>?_;refine Ji w1 w.heap.size fun q1_0 f1_0 l1_0 R1_0=>?_;refine Ji w1 wr.heap.size fun q1_1 f1_1 l1_1 R1_1=>?_);obtain ⟨f2,f3⟩:=HYC.out w1 Je;go_wp2_with fail;go_quiet (fail);go_wp2_with fail;go_ret;refine ⟨Jo (by rw [HQ.out]),?_⟩;exact Je
     ·have e2b : (x4 != zone) = true:=by simpa using e2
      have HQ:=hH (show res = 4 by rw [if_pos (by simp [e2])] at hA;rw [<- HS.out,<- hA];simp);clear hA e1 e2 hk0 hP2 HPV;go_wp2_with fail;(refine gA (HRC.out _) fun w1 H1 hz1=>?_;refine Ji w1 w.heap.size fun q1_0 f1_0 l1_0 R1_0=>?_;refine Ji w1 wr.heap.size fun q1_1 f1_1 l1_1 R1_1=>?_);go_wp2_with fail;go_quiet (fail);go_wp2_with fail;go_ret;refine ⟨Jo (by rw [HQ.out]),?_⟩;exact Je
    ·have e1b : (x1 != gid) = true:=by simpa using e1
     have HQ:=hH (show res = 4 by rw [if_pos (by simp [e1])] at hA;rw [<- HS.out,<- hA];simp);clear hA e1 hk0 hP2 HPV;go_wp2_with fail;(refine gA (HRC.out _) fun w1 H1 hz1=>?_;refine Ji w1 w.heap.size fun q1_0 f1_0 l1_0 R1_0=>?_;refine Ji w1 wr.heap.size fun q1_1 f1_1 l1_1 R1_1=>?_);go_wp2_with fail;go_quiet (fail);go_wp2_with fail;go_ret;refine ⟨Jo (by rw [HQ.out]),?_⟩;exact Je
   ·have hqb : (q != 0) = true:=by simpa using hq0
    have HQ:=hH (show res = q by rw [if_pos hq0] at hA;rw [<- HS.out,<- hA,if_pos hq0]);clear hA hq0 hck hk0 hP2 HPV;go_wp2_with fail;(refine gA (HRC.out _) fun w1 H1 hz1=>?_;refine Ji w1 w.heap.size fun q1_0 f1_0 l1_0 R1_0=>?_;refine Ji w1 wr.heap.size fun q1_1 f1_1 l1_1 R1_1=>?_);go_wp2_with fail;go_ret;refine ⟨Jo (by rw [HQ.out]),?_⟩;exact Je
  ·have hkl : k = l.length:=by omega
   have hge : ¬ (k : Int) < (l.length : Int):=by omega
   have hA:=HA.out.1;rw [hkl,List.drop_length] at hA;simp only [Zn] at hA;have HE2:=hH HE.out.1;have HRW:=hH HE.out.2;have HZ:=hH (show (if ZQ l seq = false then (4 : Int) else 0) = res by rw [<- HS.out,<- hA];simp);clear HE HA hA hkl
   by_cases hl0 : l = []
   ·have hz : l.length = 0:=by rw [hl0];rfl
    have HQ:=hH (show res = 0 by rw [<- HZ.out,hl0];rfl)
    have hn0 : decide (0 < l.length) = false:=by rw [hz];rfl
    clear hl0 HZ;go_wp2_with fail;go_quiet (fail);go_wp2_with fail;go_ret;refine ⟨Jo (by rw [HQ.out]),?_⟩;exact Je
   ·have hlp : 0 < l.length:=List.length_pos_iff.2 hl0
    have hn0 : decide (0 < l.length) = true:=by simpa using hlp
    have hll : l.length - 1 < l.length:=by omega
    obtain ⟨b,o,rfl,hb,c0,c1,c2',c3,c4⟩:=(HRd.out.ext HE2.out).tp_at rfl hll
    have hw1 : IntKind.i64.wrap ((l.length : Int) - 1) = ((l.length - 1 : Nat) : Int):=by rw [IntWalk.i64_in _ (by omega)];omega
    have hk1 : ((l.length - 1 : Nat) : Int) < (l.length : Int):=by omega
    have hlast : ZQ l seq = (l[l.length - 1].seq == seq):=by
     unfold ZQ;rw [List.getLast?_eq_getElem?,List.getElem?_eq_getElem hll]
    rw [hlast] at HZ;clear c0 c1 c3 c4 hl0 hlast;generalize l[l.length - 1].seq = y at *
    by_cases hy : y = seq
    ·have hyb : (y != seq) = false:=by simpa using hy
     have HQ:=hH (show res = 0 by rw [<- HZ.out];simp [hy]);clear hy HZ;go_wp2_with fail;go_quiet (fail);go_wp2_with fail;go_ret;refine ⟨Jo (by rw [HQ.out]),?_⟩;exact Je
    ·have hyb : (y != seq) = true:=by simpa using hy
     have HQ:=hH (show res = 4 by rw [<- HZ.out];simp [hy]);clear hy HZ;go_wp2_with fail;go_quiet (fail);go_wp2_with fail;go_ret;refine ⟨Jo (by rw [HQ.out]),?_⟩;exact Je

theorem gate_Check (g : Gt) (sa si : Value) (w : World) (hr : RdL 5 tpc w sa g.Jn) (hs : RdL 1 inc w si g.Jb.ids) :
  Calls Tryz.prog 76 #[.agg (gta g sa si)] w fun e w'=>e = .returned (.int .i64 (J7 g)) /\ Ext w w':=by
 have HAL:=hH (fun w' (h : Ext w w')=>gate_alone g sa si w' (hr.ext h) (by obtain ⟨A,c,h,-,-⟩:=hs.form;exact ⟨_,_,_,h⟩));have HDN:=hH (fun w' (h : Ext w w')=>denied_Check g.Jb si w' (hs.ext h));have HW1:=hH (fun w=>gate_within g.id 0 2 w);have HW2:=hH (fun w=>gate_within g.seq 0 99 w);have HW4:=hH (fun w=>gate_within g.left 0 9 w);have HW5:=hH (fun w=>gate_within g.JP 0 10099 w);have HZN:=hH (fun w=>rule_Zone g.zone w)
 have hE : J7 g = if within g.id 0 2 = false \/ within g.seq 0 99 = false then 3 else if Zk g.zone = false then 9 else if 12 < g.Jn.length then 2 else if aloneE g ≠ 0 then aloneE g else if Z9 g.Jb ≠ 0 then Z9 g.Jb else if within g.left 0 9 = false \/ within g.JP 0 10099 = false then 3 else 0:=rfl
 obtain ⟨A,c,rfl,hmc,hmm⟩:=hr.form;obtain ⟨A2,c2,rfl,-,-⟩:=hs.form
 have hm : g.Jn.length <= 9223372036854775807:=by unfold maxLen at hmm;omega
 unfold gta at HAL ⊢;generalize within g.id 0 2 = z1 at *;generalize within g.seq 0 99 = z2 at *;generalize Zk g.zone = z3 at *;generalize aloneE g = a at *;generalize Z9 g.Jb = d at *;generalize within g.left 0 9 = z4 at *;generalize within g.JP 0 10099 = z5 at *;clear hr hs hmc hmm
 cases z1
 ·have HQ:=hH (show J7 g = 3 by rw [hE];simp [*])
  clear hE;go_enter Tryz.func76,Tryz.ntmps76;go_wp2_with fail;refine gB (HW1.out _) ?_;go_wp2_with fail;go_ret;refine ⟨Jo (by rw [HQ.out]),?_⟩;exact Je
 ·cases z2
  ·have HQ:=hH (show J7 g = 3 by rw [hE];simp [*])
   clear hE;go_enter Tryz.func76,Tryz.ntmps76;go_wp2_with fail;refine gB (HW1.out _) ?_;go_wp2_with fail;refine gB (HW2.out _) ?_;go_wp2_with fail;go_ret;refine ⟨Jo (by rw [HQ.out]),?_⟩;exact Je
  ·cases z3
   ·have HQ:=hH (show J7 g = 9 by rw [hE];simp [*])
    clear hE;go_enter Tryz.func76,Tryz.ntmps76;go_wp2_with fail;refine gB (HW1.out _) ?_;go_wp2_with fail;refine gB (HW2.out _) ?_;go_wp2_with fail;(refine gA (HZN.out _) fun w1 H1 hz1=>?_;refine Ji w1 w.heap.size fun q1_0 f1_0 l1_0 R1_0=>?_);go_wp2_with fail;go_ret;refine ⟨Jo (by rw [HQ.out]),?_⟩;exact Je
   ·by_cases hl : 12 < g.Jn.length
    ·have hl' : (12 : Int) < (g.Jn.length : Int):=by omega
     have HQ:=hH (show J7 g = 2 by rw [hE];simp [hl]);clear hE hl;go_enter Tryz.func76,Tryz.ntmps76;go_wp2_with fail;refine gB (HW1.out _) ?_;go_wp2_with fail;refine gB (HW2.out _) ?_;go_wp2_with fail;(refine gA (HZN.out _) fun w1 H1 hz1=>?_;refine Ji w1 w.heap.size fun q1_0 f1_0 l1_0 R1_0=>?_);go_wp2_with fail;go_ret;refine ⟨Jo (by rw [HQ.out]),?_⟩;exact Je
    ·have hl' : ¬ (12 : Int) < (g.Jn.length : Int):=by omega
     by_cases ha : a = 0
     ·by_cases hd : d = 0
      ·subst ha hd
       cases z4
       ·have HQ:=hH (show J7 g = 3 by rw [hE];simp [hl])
        clear hE hl;go_enter Tryz.func76,Tryz.ntmps76;go_wp2_with fail;refine gB (HW1.out _) ?_;go_wp2_with fail;refine gB (HW2.out _) ?_;go_wp2_with fail;(refine gA (HZN.out _) fun w1 H1 hz1=>?_;refine Ji w1 w.heap.size fun q1_0 f1_0 l1_0 R1_0=>?_);go_wp2_with fail;(refine gA (HAL.out _ Je) fun w2 H2 hz2=>?_;refine Ji w2 w.heap.size fun q2_0 f2_0 l2_0 R2_0=>?_);go_wp2_with fail;(refine gA (HDN.out _ Je) fun w3 H3 hz3=>?_;refine Ji w3 w.heap.size fun q3_0 f3_0 l3_0 R3_0=>?_);go_wp2_with fail;refine gB (HW4.out _) ?_;go_wp2_with fail;go_ret;refine ⟨Jo (by rw [HQ.out]),?_⟩;exact Je
       ·cases z5
        ·have HQ:=hH (show J7 g = 3 by rw [hE];simp [hl])
         clear hE hl;go_enter Tryz.func76,Tryz.ntmps76;go_wp2_with fail;refine gB (HW1.out _) ?_;go_wp2_with fail;refine gB (HW2.out _) ?_;go_wp2_with fail;(refine gA (HZN.out _) fun w1 H1 hz1=>?_;refine Ji w1 w.heap.size fun q1_0 f1_0 l1_0 R1_0=>?_);go_wp2_with fail;(refine gA (HAL.out _ Je) fun w2 H2 hz2=>?_;refine Ji w2 w.heap.size fun q2_0 f2_0 l2_0 R2_0=>?_);go_wp2_with fail;(refine gA (HDN.out _ Je) fun w3 H3 hz3=>?_;refine Ji w3 w.heap.size fun q3_0 f3_0 l3_0 R3_0=>?_);go_wp2_with fail;refine gB (HW4.out _) ?_;go_wp2_with fail;refine gB (HW5.out _) ?_;go_wp2_with fail;go_ret;refine ⟨Jo (by rw [HQ.out]),?_⟩;exact Je
        ·have HQ:=hH (show J7 g = 0 by rw [hE];simp [hl])
         clear hE hl;go_enter Tryz.func76,Tryz.ntmps76;go_wp2_with fail;refine gB (HW1.out _) ?_;go_wp2_with fail;refine gB (HW2.out _) ?_;go_wp2_with fail;(refine gA (HZN.out _) fun w1 H1 hz1=>?_;refine Ji w1 w.heap.size fun q1_0 f1_0 l1_0 R1_0=>?_);go_wp2_with fail;(refine gA (HAL.out _ Je) fun w2 H2 hz2=>?_;refine Ji w2 w.heap.size fun q2_0 f2_0 l2_0 R2_0=>?_);go_wp2_with fail;(refine gA (HDN.out _ Je) fun w3 H3 hz3=>?_;refine Ji w3 w.heap.size fun q3_0 f3_0 l3_0 R3_0=>?_);go_wp2_with fail;refine gB (HW4.out _) ?_;go_wp2_with fail;refine gB (HW5.out _) ?_;go_wp2_with fail;go_ret;refine ⟨Jo (by rw [HQ.out]),?_⟩;exact Je
      ·subst ha
       have hdb : (d != 0) = true:=by simpa using hd
       have HQ:=hH (show J7 g = d by rw [hE];simp [hl,hd]);clear hE hl hd;go_enter Tryz.func76,Tryz.ntmps76;go_wp2_with fail;refine gB (HW1.out _) ?_;go_wp2_with fail;refine gB (HW2.out _) ?_;go_wp2_with fail;(refine gA (HZN.out _) fun w1 H1 hz1=>?_;refine Ji w1 w.heap.size fun q1_0 f1_0 l1_0 R1_0=>?_);go_wp2_with fail;(refine gA (HAL.out _ Je) fun w2 H2 hz2=>?_;refine Ji w2 w.heap.size fun q2_0 f2_0 l2_0 R2_0=>?_);go_wp2_with fail;(refine gA (HDN.out _ Je) fun w3 H3 hz3=>?_;refine Ji w3 w.heap.size fun q3_0 f3_0 l3_0 R3_0=>?_);go_wp2_with fail;go_ret;refine ⟨Jo (by rw [HQ.out]),?_⟩;exact Je
     ·have hab : (a != 0) = true:=by simpa using ha
      have HQ:=hH (show J7 g = a by rw [hE];simp [hl,ha]);clear hE hl ha;go_enter Tryz.func76,Tryz.ntmps76;go_wp2_with fail;refine gB (HW1.out _) ?_;go_wp2_with fail;refine gB (HW2.out _) ?_;go_wp2_with fail;(refine gA (HZN.out _) fun w1 H1 hz1=>?_;refine Ji w1 w.heap.size fun q1_0 f1_0 l1_0 R1_0=>?_);go_wp2_with fail;(refine gA (HAL.out _ Je) fun w2 H2 hz2=>?_;refine Ji w2 w.heap.size fun q2_0 f2_0 l2_0 R2_0=>?_);go_wp2_with fail;go_ret;refine ⟨Jo (by rw [HQ.out]),?_⟩;exact Je

theorem gate_Own (g : Gt) (sa si : Value) (w : World) (hr : RdL 5 tpc w sa g.Jn) (hs : RdL 1 inc w si g.Jb.ids) (ha : g.Jn.length <= 100) (hd : g.Jb.ids.length <= 100) :
  Calls Tryz.prog 125 #[.agg (gta g sa si)] w fun e w'=>∃ sa' si',e = .returned (.agg (gta g sa' si')) /\ Ext w w' /\ Jh 57 5 tpc w.heap.size w' sa' g.Jn /\ Jh 3 1 inc w.heap.size w' si' g.Jb.ids /\ (∀ q,sa'.ownBlock = some q -> si'.ownBlock ≠ some q):=by
 have HC:=hH (fun w' (h : Ext w w')=>Clone_tp g.Jn sa w' (hr.ext h) (by omega));have HD:=hH (fun w' (h : Ext w w')=>denied_Own g.Jb si w' (hs.ext h) (by omega));obtain ⟨A,c,rfl,-,-⟩:=hr.form;obtain ⟨A2,c2,rfl,-,-⟩:=hs.form;unfold gta;clear hr hs;go_enter Tryz.func125,Tryz.ntmps125;go_wp2_with fail
 go_region_with (first
  | (go_at_call 130;refine (HC.out _ Je).mono ?_;rintro e wa ⟨va,rfl,ha,hoa⟩;obtain ⟨Aa,ca,rfl⟩:=hoa.form;have hza:=ha.size;have HA:=hH ha;(try simp only [lSz] at hza);(try simp only [lSz] at hoa);have HOA:=hH hoa;clear ha hoa;(refine Ji wa w.heap.size fun qa_0 fa_0 la_0 Ra_0=>?_;refine Ji wa (w.heap.size + 1) fun qa_1 fa_1 la_1 Ra_1=>?_))
  | (go_at_call 144;refine (HD.out _ Je).mono ?_;rintro e wb ⟨vb,rfl,hb,hob⟩;obtain ⟨Ab,cb,rfl⟩:=hob.form;have hzb:=hb.size;have HB:=hH hb;(try simp only [lSz] at hzb);(try simp only [lSz] at hob);have HOB:=hH hob;clear hb hob;(refine Ji wb w.heap.size fun qb_0 fb_0 lb_0 Rb_0=>?_;refine Ji wb (w.heap.size + 1) fun qb_1 fb_1 lb_1 Rb_1=>?_)))
 all_goals
  go_wp2_with fail;refine bodyPost_ret (v:=.agg #[.int .i64 g.id,.int .i64 g.zone,.int .i64 g.seq,.slice Aa g.Jn.length ca,.int .i64 g.Jb.Jk,.slice Ab g.Jb.ids.length cb,.int .i64 g.left,.int .i64 g.JP]) (by simp [results,Tryz.results125,go_sem, *]) rfl ⟨_,_,rfl,?_,?_,?_,?_⟩
  ·exact Je
  ·first | ((refine Jh.lower (base:=w.heap.size + 1 + 1) ?_ (by omega);repeat (first | (with_reducible assumption) | (with_reducible exact Hid.out ‹Hid (Jh _ _ _ _ _ _ _)›) | (with_reducible apply Jh.Jl;focus (simp <;> omega)) | (with_reducible refine Jh.put ?_ (by assumption) _) | (with_reducible apply Jh.alloc) | (with_reducible apply Jh.drew) | (with_reducible apply Jh.drewN) | (with_reducible refine Jh.ext ?_ (Hid.out ‹Hid (Ext _ _)›))));done) | ((refine Jh.lower (base:=wb.heap.size) ?_ (by omega);repeat (first | (with_reducible assumption) | (with_reducible exact Hid.out ‹Hid (Jh _ _ _ _ _ _ _)›) | (with_reducible apply Jh.Jl;focus (simp <;> omega)) | (with_reducible refine Jh.put ?_ (by assumption) _) | (with_reducible apply Jh.alloc) | (with_reducible apply Jh.drew) | (with_reducible apply Jh.drewN) | (with_reducible refine Jh.ext ?_ (Hid.out ‹Hid (Ext _ _)›))));done)
  ·first | ((refine Jh.lower (base:=w.heap.size + 1 + 1) ?_ (by omega);repeat (first | (with_reducible assumption) | (with_reducible exact Hid.out ‹Hid (Jh _ _ _ _ _ _ _)›) | (with_reducible apply Jh.Jl;focus (simp <;> omega)) | (with_reducible refine Jh.put ?_ (by assumption) _) | (with_reducible apply Jh.alloc) | (with_reducible apply Jh.drew) | (with_reducible apply Jh.drewN) | (with_reducible refine Jh.ext ?_ (Hid.out ‹Hid (Ext _ _)›))));done) | ((refine Jh.lower (base:=wa.heap.size) ?_ (by omega);repeat (first | (with_reducible assumption) | (with_reducible exact Hid.out ‹Hid (Jh _ _ _ _ _ _ _)›) | (with_reducible apply Jh.Jl;focus (simp <;> omega)) | (with_reducible refine Jh.put ?_ (by assumption) _) | (with_reducible apply Jh.alloc) | (with_reducible apply Jh.drew) | (with_reducible apply Jh.drewN) | (with_reducible refine Jh.ext ?_ (Hid.out ‹Hid (Ext _ _)›))));done)
  ·intro q h1 h2
   have ha:=HOA.out.lt q h1;have hb:=HOB.out.lt q h2
   omega

theorem early_nil (time : Int) : Lb.early [] time = false:=rfl
theorem early_last {l : List Tp} (h : l.length - 1 < l.length) (time : Int) : Lb.early l time = decide (time < l[l.length - 1].time):=by
 unfold Lb.early;rw [List.getLast?_eq_getElem?,List.getElem?_eq_getElem h]
theorem keeper_early (g : Gt) (sa si : Value) (time : Int) (b0 : Nat) (w : World) (hr : RdL 5 tpc w sa g.Jn) (hg : Row w b0 (gta g sa si)) :
  Calls Tryz.prog 162 #[.pointer (some ⟨b0,0,none⟩),.int .i64 time] w fun e w'=>e = .returned (.bool (Lb.early g.Jn time)) /\ Ext w w':=by
 obtain ⟨A,c,rfl,hmc,hmm⟩:=hr.form
 have hm : g.Jn.length <= 9223372036854775807:=by unfold maxLen at hmm;omega
 have hq:=hg.2.1;have hlt:=hg.1;unfold gta at hq;have HR:=hH hr;clear hg hr hmc hmm
 by_cases hl0 : g.Jn = []
 ·rw [hl0]
  have hz : g.Jn.length = 0:=by rw [hl0];rfl
  rw [early_nil]
  have hn0 : decide (0 < g.Jn.length) = false:=by rw [hz];rfl
  clear hl0;go_enter Tryz.func162,Tryz.ntmps162;go_wp2_with fail
  try (go_quiet (fail);go_wp2_with fail)
  go_ret;refine ⟨Jq (by simp),?_⟩;exact Je
 ·have hlp : 0 < g.Jn.length:=List.length_pos_iff.2 hl0
  have hn0 : decide (0 < g.Jn.length) = true:=by simpa using hlp
  have hll : g.Jn.length - 1 < g.Jn.length:=by omega
  obtain ⟨b,o,rfl,hb,-,-,-,c3,-⟩:=HR.out.tp_at rfl hll
  have hw1 : IntKind.i64.wrap ((g.Jn.length : Int) - 1) = ((g.Jn.length - 1 : Nat) : Int):=by rw [IntWalk.i64_in _ (by omega)];omega
  have hk1 : ((g.Jn.length - 1 : Nat) : Int) < (g.Jn.length : Int):=by omega
  rw [early_last hll];clear hl0;generalize g.Jn[g.Jn.length - 1].time = y at *
  have hd : decide (time < y) = true \/ decide (time < y) = false:=by cases decide (time < y) <;> simp
  rcases hd with hd | hd
  all_goals
   rw [hd];go_enter Tryz.func162,Tryz.ntmps162;go_wp2_with fail
   try (go_quiet (fail);go_wp2_with fail)
   go_ret;refine ⟨Jq (by simp_all),?_⟩;exact Je

theorem spent_one (x : Tp) (t : Tk) (g : Nat) (w : World) (hr : Row w g (tkc t)) :
  Calls Tryz.prog 181 #[.agg (tpc x),.pointer (some ⟨g,0,none⟩)] w fun e w'=>e = .returned (.bool (x.ticket == t.id)) /\ Ext w w':=by
 obtain ⟨x0,x1,x2,x3,x4⟩:=x;obtain ⟨t0,t1,t2,t3,t4,t5⟩:=t;unfold tpc;unfold tkc at hr
 apply Row.use hr;intro q f l R
 clear hr;go_enter Tryz.func181,Tryz.ntmps181
 go_wp2
 all_goals
  go_ret;refine ⟨Jq ?_,?_⟩
  ·simp_all
  ·exact Je

theorem keeper_spent (g : Gt) (sa si : Value) (t : Tk) (b0 : Nat) (w : World) (hr : RdL 5 tpc w sa g.Jn) (hg : Row w b0 (gta g sa si)) :
  Calls Tryz.prog 164 #[.pointer (some ⟨b0,0,none⟩),.agg (tkc t)] w fun e w'=>e = .returned (.bool (g.left == 0 || (t.kind != 2 && Xo g t.id))) /\ Ext w w':=by
 have HC:=hH (fun (w' : World) (b : Nat) (h : Ext w w') (hb : Row w' b (tkc t))=>Xl (fun p=>p.ticket == t.id) 181 #[.pointer (some ⟨b,0,none⟩)] (fun args w=>by simp [go_sem]) g.Jn sa w' (hr.ext h) (fun W x hE=>spent_one x t b W (hb.ext hE)));have htw : g.Jn.any (fun p=>p.ticket == t.id) = Xo g t.id:=rfl;rw [htw] at HC;generalize Xo g t.id = z at HC ⊢;obtain ⟨A,c,rfl,-,-⟩:=hr.form;obtain ⟨t0,t1,t2,t3,t4,t5⟩:=t;have hq:=hg.2.1;have hlt:=hg.1;have HG:=hH hg;unfold gta at hq HG;unfold tkc at HC ⊢
 simp only
 have hlt1 : b0 < w.heap.size + 1:=by omega
 generalize g.left = left at *;clear hr hg htw;go_enter Tryz.func164,Tryz.ntmps164;go_wp2_with fail;refine (HC.out _ _ Je (Row.newAt rfl)).mono ?_;rintro e w1 ⟨rfl,h1⟩;have H1:=hH h1;clear h1;(refine Ji w1 b0 fun q1_0 f1_0 l1_0 R1_0=>?_;refine Ji w1 w.heap.size fun q1_1 f1_1 l1_1 R1_1=>?_)
 have hb1 : (left == 0) = true \/ (left == 0) = false:=by cases (left == 0) <;> simp
 have hb2 : (t1 != 2) = true \/ (t1 != 2) = false:=by cases (t1 != 2) <;> simp
 rcases hb1 with hb1 | hb1 <;> rcases hb2 with hb2 | hb2 <;> cases z
 all_goals
  go_wp2_with fail;go_ret;refine ⟨Jq (by simp_all),?_⟩;exact Je

theorem own_ne {v u : Value} {b n : Nat} (h : v.ownBlock = u.ownBlock \/ v.ownBlock = some n) (hu : u.ownBlock ≠ some b) (hb : b < n) : v.ownBlock ≠ some b:=by
 rcases h with h | h
 ·rw [h];exact hu
 ·rw [h];intro e;injection e with e;omega
theorem taps_one (l : List Tp) : ∀ u ∈ encs tpc l,u.oneCell' = true:=by
 intro u hu;obtain ⟨x,-,hx⟩:=List.mem_flatMap.1 hu
 simp [tpc] at hx
 (rcases hx with rfl | rfl | rfl | rfl | rfl) <;> rfl
theorem zones_ok' {t : Tk} (h : JB t = 0) : 0 <= t.JS /\ t.JS < 16:=by
 unfold JB at h
 cases hw : within t.JS 1 15 with
 | true=>simp [within] at hw;omega
 | false=>simp [hw] at h
theorem gta_tapped (g : Gt) (t : Tk) (time : Int) (sa' si : Value) : gta (ZJ g t time) sa' si = #[.int .i64 g.id,.int .i64 g.zone,.int .i64 (g.seq + 1),sa',.int .i64 g.Jb.Jk,si,.int .i64 (g.left - 1),.int .i64 g.JP]:=rfl

theorem keeper_tap (g : Gt) (sa si : Value) (t : Tk) (time : Int) (b0 base : Nat) (w : World) (hgr : J7 g = 0) (htk : JB t = 0) (hoa : Jh 57 5 tpc base w sa g.Jn) (hoi : Jh 3 1 inc base w si g.Jb.ids)
  (hdis : ∀ q,sa.ownBlock = some q -> si.ownBlock ≠ some q) (hna : sa.ownBlock ≠ some b0) (hni : si.ownBlock ≠ some b0) (hb : base <= b0) (hg : Row w b0 (gta g sa si)) :
  Calls Tryz.prog 126 #[.pointer (some ⟨b0,0,none⟩),.agg (tkc t),.int .i64 time] w fun e w'=>e = .returned (.int .i64 (tapE g t time)) /\ Below base w w' /\
   (tapE g t time = 0 -> ∃ sa',Row w' b0 (gta (ZJ g t time) sa' si) /\ Jh 57 5 tpc base w' sa' (ZJ g t time).Jn /\ Jh 3 1 inc base w' si g.Jb.ids):=by
 have r:=Zh.1 hgr
 have hE : tapE g t time = if within time 0 9999 = false then 3 else if Lb.early g.Jn time = true then 4 else if g.Jb.ids.contains t.id = true then 11 else if g.JP < time then 8 else if place t time g.zone ≠ 0 then place t time g.zone else if g.left = 0 \/ t.kind ≠ 2 /\ Xo g t.id = true then 10 else if g.Jn.length = 12 \/ g.seq = 99 then 2 else 0:=rfl
 have hz:=zones_ok' htk;have HW:=hH (fun w=>gate_within time 0 9999 w);have HEA:=hH (fun w' (h : Ext w w')=>keeper_early g sa si time b0 w' ((hoa.rd Jr).ext h) (hg.ext h));have HCO:=hH (fun w' (h : Ext w w')=>slices_Contains_int g.Jb.ids t.id si w' ((hoi.rd JD).ext h));have HPL:=hH (fun (w' : World)=>rule_Place t time g.zone w' hz.1 hz.2 r.zone);have HSP:=hH (fun w' (h : Ext w w')=>keeper_spent g sa si t b0 w' ((hoa.rd Jr).ext h) (hg.ext h))
 have hany : g.Jb.ids.any (fun x=>t.id == x) = g.Jb.ids.contains t.id:=by rw [List.contains_eq_any_beq]
 rw [hany] at HCO
 have hspd : (g.left == 0 || (t.kind != 2 && Xo g t.id)) = decide (g.left = 0 \/ t.kind ≠ 2 /\ Xo g t.id = true):=by
  rw [Bool.eq_iff_iff]
  simp
 rw [hspd] at HSP;generalize hz1 : within time 0 9999 = z1 at *;generalize Lb.early g.Jn time = z2 at *;generalize g.Jb.ids.contains t.id = z3 at *;generalize place t time g.zone = pl at *;generalize hz6 : decide (g.left = 0 \/ t.kind ≠ 2 /\ Xo g t.id = true) = z6 at *
 have hE6 : (g.left = 0 \/ t.kind ≠ 2 /\ Xo g t.id = true) ↔ z6 = true:=by rw [<- hz6,decide_eq_true_eq]
 have hbw : base <= w.heap.size:=Nat.le_trans hb (Nat.le_of_lt hg.1);have b2:=r.seq;have b3:=r.left;have hlen:=r.len;simp only [within,Bool.and_eq_true,decide_eq_true_eq] at b2 b3;have hq:=hg.2.1;have hlt:=hg.1;have hf:=hg.2.2;have HGR:=hH hg;have HOA:=hH hoa;have HOI:=hH hoi;obtain ⟨A,c,rfl⟩:=hoa.form;obtain ⟨A2,c2,rfl⟩:=hoi.form;obtain ⟨i0,ji,ji0,ji1,ji2⟩:=info_parts Xi
 have hlt1 : b0 < w.heap.size + 1:=by omega
 rw [show tkc t = #[.int .i64 t.id,.int .i64 t.kind,.int .i64 t.frm,.int .i64 t.til,.int .i64 t.JS,.int .i64 t.rides] from rfl] at HSP HPL ⊢;unfold gta at hq HGR;clear hg hoa hoi hgr htk hspd hz hany r;go_enter Tryz.func126,Tryz.ntmps126;go_wp2_with fail;refine gB (HW.out _) ?_
 cases z1
 ·have HQ:=hH (show tapE g t time = 3 by rw [hE];simp)
  clear hE hE6;go_wp2_with fail;go_ret;refine ⟨Jo (by rw [HQ.out]),Below.mono (Je : Ext w _) hbw,fun h=>?_⟩;rw [HQ.out] at h
  simp at h
 ·go_wp2_with fail
  (refine gA (HEA.out _ Je) fun w1 H1 hz1=>?_;refine Ji w1 b0 fun q1_0 f1_0 l1_0 R1_0=>?_;refine Ji w1 w.heap.size fun q1_1 f1_1 l1_1 R1_1=>?_)
  cases z2
  rotate_left
  ·have HQ:=hH (show tapE g t time = 4 by rw [hE];simp)
   clear hE hE6;go_wp2_with fail;go_ret;refine ⟨Jo (by rw [HQ.out]),Below.mono (Je : Ext w _) hbw,fun h=>?_⟩;rw [HQ.out] at h
   simp at h
  ·go_wp2_with fail
   go_quiet ((go_at_call 88;exact Calls.quiet_of_same ((HCO.out _ Je).mono (fun e w' h=>⟨h.1,h.2.symm⟩))))
   cases z3
   rotate_left
   ·have HQ:=hH (show tapE g t time = 11 by rw [hE];simp)
    clear hE hE6;go_wp2_with fail;go_ret;refine ⟨Jo (by rw [HQ.out]),Below.mono (Je : Ext w _) hbw,fun h=>?_⟩;rw [HQ.out] at h
    simp at h
   ·by_cases hu : g.JP < time
    ·have HQ:=hH (show tapE g t time = 8 by rw [hE];simp [hu])
     clear hE hE6;go_wp2_with fail;go_ret;refine ⟨Jo (by rw [HQ.out]),Below.mono (Je : Ext w _) hbw,fun h=>?_⟩;rw [HQ.out] at h
     simp at h
    ·have hu2 : ¬ g.JP < time:=hu
     go_wp2_with fail
     by_cases hp : pl = 0
     rotate_left
     ·have hpb : (pl != 0) = true:=by simpa using hp
      have HQ:=hH (show tapE g t time = pl by rw [hE,if_neg (by simp),if_neg (by simp),if_neg (by simp),if_neg (show ¬ g.JP < time by omega),if_pos hp]);have HP0:=hH hp;clear hE hE6 hp
      go_region_with ((go_at_call 163;(refine gA (HPL.out _) fun w2 H2 hz2=>?_;refine Ji w2 b0 fun q2_0 f2_0 l2_0 R2_0=>?_;refine Ji w2 w.heap.size fun q2_1 f2_1 l2_1 R2_1=>?_)))
      all_goals
       go_wp2_with fail;go_ret;refine ⟨Jo (by rw [HQ.out]),Below.mono (Je : Ext w _) hbw,fun h=>?_⟩;rw [HQ.out] at h;exact absurd h HP0.out
     ·subst hp
      go_region_with ((go_at_call 163;(refine gA (HPL.out _) fun w2 H2 hz2=>?_;refine Ji w2 b0 fun q2_0 f2_0 l2_0 R2_0=>?_;refine Ji w2 w.heap.size fun q2_1 f2_1 l2_1 R2_1=>?_)))
      all_goals
       go_wp2_with fail;(refine gA (HSP.out _ Je) fun w3 H3 hz3=>?_;refine Ji w3 b0 fun q3_0 f3_0 l3_0 R3_0=>?_;refine Ji w3 w.heap.size fun q3_1 f3_1 l3_1 R3_1=>?_)
       cases z6
       rotate_left
       ·have HQ:=hH (show tapE g t time = 10 by rw [hE,if_neg (by simp),if_neg (by simp),if_neg (by simp),if_neg (show ¬ g.JP < time by omega),if_neg (by simp),if_pos (hE6.2 rfl)])
        clear hE hE6;go_wp2_with fail;go_ret;refine ⟨Jo (by rw [HQ.out]),Below.mono (Je : Ext w _) hbw,fun h=>?_⟩;rw [HQ.out] at h
        simp at h
       ·have h6 : ¬ (g.left = 0 \/ t.kind ≠ 2 /\ Xo g t.id = true):=fun h=>by have:=hE6.1 h;cases this
        have h6l : 0 < g.left:=by
         have : g.left ≠ 0:=fun h=>h6 (.inl h)
         omega
        by_cases hl : g.Jn.length = 12
        ·have hlb : ((g.Jn.length : Int) == 12) = true:=by rw [hl];rfl
         have HQ:=hH (show tapE g t time = 2 by rw [hE,if_neg (by simp),if_neg (by simp),if_neg (by simp),if_neg (show ¬ g.JP < time by omega),if_neg (by simp),if_neg h6,if_pos (.inl hl)]);clear hE hE6 h6;go_wp2_with fail;go_ret;refine ⟨Jo (by rw [HQ.out]),Below.mono (Je : Ext w _) hbw,fun h=>?_⟩;rw [HQ.out] at h
         simp at h
        ·have hlb : ((g.Jn.length : Int) == 12) = false:=by rw [beq_eq_false_iff_ne];omega
         by_cases hs : g.seq = 99
         ·have hsb : (g.seq == 99) = true:=by rw [hs];rfl
          have HQ:=hH (show tapE g t time = 2 by rw [hE,if_neg (by simp),if_neg (by simp),if_neg (by simp),if_neg (show ¬ g.JP < time by omega),if_neg (by simp),if_neg h6,if_pos (.inr hs)]);clear hE hE6 h6;go_wp2_with fail;go_ret;refine ⟨Jo (by rw [HQ.out]),Below.mono (Je : Ext w _) hbw,fun h=>?_⟩;rw [HQ.out] at h
          simp at h
         ·have hsb : (g.seq == 99) = false:=by rw [beq_eq_false_iff_ne];omega
          have HQ:=hH (show tapE g t time = 0 by rw [hE,if_neg (by simp),if_neg (by simp),if_neg (by simp),if_neg (show ¬ g.JP < time by omega),if_neg (by simp),if_neg h6,if_neg (by omega)]);have hw1 : IntKind.i64.wrap (g.seq + 1) = g.seq + 1:=IntWalk.i64_in _ (by omega);have hw2 : IntKind.i64.wrap (g.left - 1) = g.left - 1:=IntWalk.i64_in _ (by omega)
          have hE3 : Ext w w3:=by exact Je
          have HE3:=hH hE3;clear hE hE6 h6 hE3;go_wp2_with fail;have hr0:=((R3_0.out.J4 (i:=2) (u:=.int .i64 (g.seq + 1))).J4 (i:=6) (u:=.int .i64 (g.left - 1)));have hr1:=Row.far (p:=⟨b0,6,none⟩) (u:=.int .i64 (g.left - 1)) (show w.heap.size ≠ b0 by omega) (Row.far (p:=⟨b0,2,none⟩) (u:=.int .i64 (g.seq + 1)) (show w.heap.size ≠ b0 by omega) R3_1.out);simp only [Jm] at hr0;have HR0:=hH hr0;have HR1:=hH hr1;clear hr0 hr1;have hoW:=Jh.put (a:=⟨b0,6,none⟩) (Jh.put (a:=⟨b0,2,none⟩) (HOA.out.ext HE3.out) hna (.int .i64 (g.seq + 1))) hna (.int .i64 (g.left - 1));have hiW:=Jh.put (a:=⟨b0,6,none⟩) (Jh.put (a:=⟨b0,2,none⟩) (HOI.out.ext HE3.out) hni (.int .i64 (g.seq + 1))) hni (.int .i64 (g.left - 1));have hBW:=Below.setCell (p:=⟨b0,6,none⟩) (Below.setCell (p:=⟨b0,2,none⟩) (Below.mono HE3.out hbw) hb (.int .i64 (g.seq + 1))) hb (.int .i64 (g.left - 1));generalize (w3.setCell ⟨b0,2,none⟩ (.int .i64 (g.seq + 1))).setCell ⟨b0,6,none⟩ (.int .i64 (g.left - 1)) = W at *;have hsz:=Below.size hBW;have HoW:=hH hoW;have HiW:=hH hiW;have HBW:=hH hBW;have hlW:=HR0.out.1;have hlW1:=HR1.out.1;clear hoW hiW hBW;refine Jw (fun w'=>(∀ o,w'.cell? ⟨b0,o,none⟩ = (#[.int .i64 g.id,.int .i64 g.zone,.int .i64 (g.seq + 1),.slice A g.Jn.length c,.int .i64 g.Jb.Jk,.slice A2 g.Jb.ids.length c2,.int .i64 (g.left - 1),.int .i64 g.JP] : Array Value)[o]?) /\ (∀ o,w'.cell? ⟨w.heap.size,o,none⟩ = (#[.int .i64 t.id,.int .i64 t.kind,.int .i64 t.frm,.int .i64 t.til,.int .i64 t.JS,.int .i64 t.rides] : Array Value)[o]?)) 30 (by kernel_rfl) ⟨fun o=>HR0.out.2.1 o,fun o=>HR1.out.2.1 o⟩ (fun hS=>?_);simp only [List.length_cons,List.length_nil];(refine tkS 0 hS ?_;refine tkS 1 hS ?_;refine tkS 2 hS ?_;refine tkS 3 hS ?_;refine tkS 4 hS ?_;refine tkS 5 hS ?_;refine tkS 6 hS ?_;refine tkS 7 hS ?_;refine tkS 8 hS ?_;refine tkS 9 hS ?_;refine tkS 10 hS ?_;refine tkS 11 hS ?_;refine tkS 12 hS ?_;refine tkS 13 hS ?_;refine tkS 14 hS ?_;refine tkS 15 hS ?_;refine tkS 16 hS ?_;refine tkS 17 hS ?_;refine tkS 18 hS ?_;refine tkS 19 hS ?_;refine tkS 20 hS ?_;refine tkS 21 hS ?_;refine tkS 22 hS ?_;refine tkS 23 hS ?_;refine tkS 24 hS ?_);refine oA 25 fun K hK=>?_;go_simp;refine hK.out _ _ (.inr ⟨fun o=>HR0.out.drew.alloc.2.1 o,fun o=>HR1.out.drew.alloc.2.1 o⟩) ?_;clear hK hS;(try simp only [Act.put,Jm]);refine oA 26 fun K hK=>?_;refine Zc (enc:=tpc) (k:=5) _ (.tmp 91) (.tmp 111) 23 rfl base 57 i0 (.agg #[.int .i64 0,.int .i64 0,.int .i64 0,.int .i64 0,.int .i64 0]) 40 Tryz.underlying23 ji ji0 ji1 ji2 rfl (by decide) Jr (.slice A g.Jn.length c) g.Jn rfl (Jh.alloc _ (Jh.drew HoW.out)) (.slice (some ⟨W.heap.size,0,none⟩) 1 1) [Zp g t time] rfl (RdL.lit (enc:=tpc) (Zp g t time) rfl rfl) (taps_one _) (by unfold maxLen;simp;omega) (by simp;omega) (by simp;omega) ?_
          intro v' w' ho' hg' hn';obtain ⟨A',c',rfl⟩:=ho'.form;have hr':=Row.grown (HR0.out.drew.alloc) hg' (fun h=>hna h.symm);have hB':=Below.grown (Below.alloc (Below.drew HBW.out) (by simp;omega) _) hg' (by simp;omega) (fun q hq=>(HOA.out.lt q hq).1);have hI':=Jh.kept' (Jh.alloc _ (Jh.drew HiW.out)) hg' hdis;have hr1':=Row.grown (HR1.out.drew.alloc) hg' (fun h=>by have:=(HOA.out.lt _ h.symm).2;omega);have hv' : (Value.slice A' (g.Jn ++ [Zp g t time]).length c').ownBlock ≠ some b0:=own_ne hn' hna (by simp;omega);have HR':=hH hr';have HR1':=hH hr1';have HB':=hH hB';have HO':=hH ho';have HI':=hH hI';have HV':=hH hv';have hq':=hr'.2.1;have hf':=hr'.2.2;have hlt':=hr'.1;clear hr' hr1' hB' hI' hv' hg' hn' ho';refine hK.out _ _ (.inr ⟨fun o=>HR'.out.2.1 o,fun o=>HR1'.out.2.1 o⟩) ?_;clear hK;have hS:=And.intro (fun o=>HR'.out.2.1 o) (fun o=>HR1'.out.2.1 o);(try simp only [Act.put,Jm]);(refine tkS 27 hS ?_;refine tkS 28 hS ?_;refine tkS 29 hS ?_);clear hS;refine oA 30 fun K hK=>?_;go_simp;refine hK.out _ _ (.inl (by kernel_rfl)) ?_;clear hK;refine Ju (by kernel_rfl) ?_ _
          all_goals
           go_wp2_with fail;go_ret;refine ⟨Jo (by rw [HQ.out]),HB'.out.setCell hb _,fun _=>⟨_,?_,HO'.out.put HV'.out _,HI'.out.put hni _⟩⟩;rw [gta_tapped];have:=HR'.out.J4 (i:=3) (u:=.slice A' (g.Jn ++ [Zp g t time]).length c')
           simpa using this

theorem gate_Raw (g : Gt) (sa si : Value) (t : Tk) (time : Int) (w : World) (hgr : J7 g = 0) (htk : JB t = 0) (hr : RdL 5 tpc w sa g.Jn) (hs : RdL 1 inc w si g.Jb.ids) :
  Calls Tryz.prog 79 #[.agg (gta g sa si),.agg (tkc t),.int .i64 time] w fun e w'=>∃ sa' si',e = .returned (.tuple #[.agg (gta (Xh g t time).1 sa' si'),.agg (tpc (Xh g t time).2.1),.int .i64 (Xh g t time).2.2]) /\ Ext w w' /\
   Jh 57 5 tpc w.heap.size w' sa' (Xh g t time).1.Jn /\ Jh 3 1 inc w.heap.size w' si' (Xh g t time).1.Jb.ids:=by
 have r:=Zh.1 hgr;have hl12:=r.len;have hd12:=((XM g.Jb).1 r.Jb).2.1;have HOwn:=hH (fun w' (h : Ext w w')=>gate_Own g sa si w' (hr.ext h) (hs.ext h) (by omega) (by omega));have HT:=hH (fun (sa' si' : Value) (b0 base : Nat) (w' : World)=>keeper_tap g sa' si' t time b0 base w' hgr htk);obtain ⟨A,c,rfl,-,-⟩:=hr.form;obtain ⟨A2,c2,rfl,-,-⟩:=hs.form
 have hres : Xh g t time = if tapE g t time ≠ 0 then (gt0,tp0,tapE g t time) else (ZJ g t time,Zp g t time,0):=rfl
 have hlast : (ZJ g t time).Jn[(ZJ g t time).Jn.length - 1]? = some (Zp g t time):=by simp [ZJ]
 have hlpos : 0 < (ZJ g t time).Jn.length:=by simp [ZJ]
 have hlm : (ZJ g t time).Jn.length <= 13:=by simp [ZJ];omega
 have hden : (ZJ g t time).Jb.ids = g.Jb.ids:=rfl;generalize ZJ g t time = G at *;generalize Zp g t time = X at *;generalize tapE g t time = E at *;rw [hres];clear hr hs hgr htk hres r hl12 hd12;unfold gta at HOwn ⊢;rw [show tkc t = #[.int .i64 t.id,.int .i64 t.kind,.int .i64 t.frm,.int .i64 t.til,.int .i64 t.JS,.int .i64 t.rides] from rfl] at HT ⊢;rw [show tpc (if E ≠ 0 then (gt0,tp0,E) else (G,X,0)).2.1 = #[.int .i64 (if E ≠ 0 then (gt0,tp0,E) else (G,X,0)).2.1.ticket,.int .i64 (if E ≠ 0 then (gt0,tp0,E) else (G,X,0)).2.1.gate,.int .i64 (if E ≠ 0 then (gt0,tp0,E) else (G,X,0)).2.1.seq,.int .i64 (if E ≠ 0 then (gt0,tp0,E) else (G,X,0)).2.1.time,.int .i64 (if E ≠ 0 then (gt0,tp0,E) else (G,X,0)).2.1.zone] from rfl];go_enter Tryz.func79,Tryz.ntmps79;go_wp2_with fail;refine (HOwn.out _ Je).mono ?_;rintro e w1 ⟨sa1,si1,rfl,h1,ho1,hi1,hdis⟩;obtain ⟨A1,c1,rfl⟩:=ho1.form;obtain ⟨B1,d1,rfl⟩:=hi1.form;have hz1:=h1.size;have H1:=hH h1;(try simp only [lSz] at hz1 ho1 hi1);have HO1:=hH ho1;have HI1:=hH hi1;have HD1:=hH hdis;clear h1 ho1 hi1 hdis;(refine Ji w1 w.heap.size fun q1_0 f1_0 l1_0 R1_0=>?_;refine Ji w1 (w.heap.size + 1) fun q1_1 f1_1 l1_1 R1_1=>?_;refine Ji w1 (w.heap.size + 1 + 1) fun q1_2 f1_2 l1_2 R1_2=>?_;refine Ji w1 (w.heap.size + 1 + 1 + 1) fun q1_3 f1_3 l1_3 R1_3=>?_);go_wp2_with fail
 have hna : (Value.slice A1 g.Jn.length c1).ownBlock ≠ some w1.heap.size:=fun h=>by have:=(HO1.out.lt _ h).2;omega
 have hni : (Value.slice B1 g.Jb.ids.length d1).ownBlock ≠ some w1.heap.size:=fun h=>by have:=(HI1.out.lt _ h).2;omega
 refine (HT.out (.slice A1 g.Jn.length c1) (.slice B1 g.Jb.ids.length d1) w1.heap.size (w.heap.size + 1 + 1 + 1 + 1) _ (HO1.out.alloc _) (HI1.out.alloc _) HD1.out hna hni (by omega) (Row.newAt rfl)).mono ?_;rintro e w2 ⟨rfl,hB,hP⟩;have hr0 : Row w2 w.heap.size _:=(Row.alloc R1_0.out).below hB (by omega);have hr1 : Row w2 (w.heap.size + 1) _:=(Row.alloc R1_1.out).below hB (by omega);have hr2 : Row w2 (w.heap.size + 1 + 1) _:=(Row.alloc R1_2.out).below hB (by omega);have hr3 : Row w2 (w.heap.size + 1 + 1 + 1) _:=(Row.alloc R1_3.out).below hB (by omega)
 have hB2 : Ext w w2:=by
  have : Ext w w1:=by exact Je
  exact Below.trans (this.alloc _) (Below.mono hB (by omega))
 have HE2:=hH hB2;have hq0:=hr0.2.1;have hq1:=hr1.2.1;have hq2:=hr2.2.1;have hq3:=hr3.2.1;have hf2:=hr2.2.2;have hf3:=hr3.2.2;have hlt2:=hr3.1;have HR2:=hH hr2;have HR3:=hH hr3;clear hB hB2 hr0 hr1 hr2 hr3
 by_cases h0 : E = 0
 ·subst h0
  obtain ⟨sa2,hrow2,ho2,hi2⟩:=hP rfl;obtain ⟨A3,c3,rfl⟩:=ho2.form
  have hll : G.Jn.length - 1 < G.Jn.length:=by omega
  obtain ⟨b,oo,rfl,hb,k0,k1,k2,k3,k4⟩:=(ho2.rd Jr).tp_at rfl hll;rw [List.getElem?_eq_getElem hll] at hlast
  injection hlast with hlast
  rw [hlast] at k0 k1 k2 k3 k4;have HO2:=hH ho2;have HI2:=hH (show Jh 3 1 inc _ _ _ G.Jb.ids by rw [hden];exact hi2);clear hden;have hqb:=hrow2.2.1;have hltb:=hrow2.1;have HRB:=hH hrow2;unfold gta at hqb HRB;clear hP hrow2 ho2 hi2 hlast
  have hw1 : IntKind.i64.wrap ((G.Jn.length : Int) - 1) = ((G.Jn.length - 1 : Nat) : Int):=by rw [IntWalk.i64_in _ (by omega)];omega
  have hk1 : ((G.Jn.length - 1 : Nat) : Int) < (G.Jn.length : Int):=by omega
  have hk0 : (0 : Int) <= ((G.Jn.length - 1 : Nat) : Int):=by omega
  simp only [ne_eq,not_true_eq_false,if_false];go_wp2_with fail;have hbb:=(HO2.out.lt b rfl).1
  have hb1 : w.heap.size + 1 + 1 ≠ b:=by omega
  have hb2 : w.heap.size + 1 + 1 + 1 ≠ b:=by omega
  refine Jw (fun w'=>(∀ o,w'.cell? ⟨w1.heap.size,o,none⟩ = (#[.int .i64 G.id,.int .i64 G.zone,.int .i64 G.seq,.slice (some ⟨b,oo,none⟩) G.Jn.length c3,.int .i64 G.Jb.Jk,.slice B1 g.Jb.ids.length d1,.int .i64 G.left,.int .i64 G.JP] : Array Value)[o]?) /\ w'.cell? ⟨b,oo + (G.Jn.length - 1) * 5,none⟩ = some (.int .i64 X.ticket) /\ w'.cell? ⟨b,oo + (G.Jn.length - 1) * 5 + 1,none⟩ = some (.int .i64 X.gate) /\ w'.cell? ⟨b,oo + (G.Jn.length - 1) * 5 + 2,none⟩ = some (.int .i64 X.seq) /\ w'.cell? ⟨b,oo + (G.Jn.length - 1) * 5 + 3,none⟩ = some (.int .i64 X.time) /\ w'.cell? ⟨b,oo + (G.Jn.length - 1) * 5 + 4,none⟩ = some (.int .i64 X.zone)) 19 (by kernel_rfl) ⟨hqb,k0,k1,k2,k3,k4⟩ (fun hS=>?_);simp only [List.length_cons,List.length_nil];(refine tkS 0 hS ?_;refine tkS 1 hS ?_;refine tkS 2 hS ?_;refine tkS 3 hS ?_;refine tkS 4 hS ?_;refine tkS 5 hS ?_;refine tkS 6 hS ?_;refine tkS 7 hS ?_;refine tkS 8 hS ?_;refine tkS 9 hS ?_;refine tkS 10 hS ?_;refine tkS 11 hS ?_;refine tkS 12 hS ?_;refine tkS 13 hS ?_;refine tkS 14 hS ?_;refine tkS 15 hS ?_;refine tkS 16 hS ?_;refine tkS 17 hS ?_);clear hS;refine oA 18 fun K hK=>?_;go_simp;refine hK.out _ _ (.inr ⟨(show Row _ w1.heap.size _ from ?_).2.1,?_,?_,?_,?_,?_⟩) ?_
  ·exact rowA
  ·go_keep
  ·go_keep
  ·go_keep
  ·go_keep
  ·go_keep
  clear hK;(try simp only [Act.put,Jm]);refine oA 19 fun K hK=>?_;go_simp;refine hK.out _ _ (.inl (by kernel_rfl)) ?_;clear hK;(try simp only [Act.put,Jm]);refine oA 20 fun K hK=>?_;go_simp;refine hK.out _ _ (.inl (by kernel_rfl)) ?_;clear hK;refine Ju (by kernel_rfl) ?_ _;go_wp2_with fail;refine bodyPost_ret (v:=.tuple #[.agg #[.int .i64 G.id,.int .i64 G.zone,.int .i64 G.seq,.slice (some ⟨b,oo,none⟩) G.Jn.length c3,.int .i64 G.Jb.Jk,.slice B1 g.Jb.ids.length d1,.int .i64 G.left,.int .i64 G.JP],.agg #[.int .i64 X.ticket,.int .i64 X.gate,.int .i64 X.seq,.int .i64 X.time,.int .i64 X.zone],.int .i64 0]) (by simp [results,Tryz.results79,go_sem, *]) rfl ⟨_,_,rfl,?_,?_,?_⟩
  ·exact Je
  ·exact ownA (w.heap.size + 1 + 1 + 1 + 1)
  ·exact ownA (w.heap.size + 1 + 1 + 1 + 1)
 ·have hb0 : (E != 0) = true:=by simpa using h0
  clear hP;simp only [ne_eq,h0,not_false_eq_true,if_true];go_wp2_with fail;refine bodyPost_ret (v:=.tuple #[.agg #[.int .i64 0,.int .i64 0,.int .i64 0,.slice none 0 0,.int .i64 0,.slice none 0 0,.int .i64 0,.int .i64 0],.agg #[.int .i64 0,.int .i64 0,.int .i64 0,.int .i64 0,.int .i64 0],.int .i64 E]) (by simp [results,Tryz.results79,go_sem, *]) rfl ⟨_,_,rfl,?_,Jh.nil,Jh.nil⟩;exact Je

theorem gate_Told (g : Gt) (sa si : Value) (d : Dn) (sd : Value) (time : Int) (w : World) (hgr : J7 g = 0) (hd : Z9 d = 0) (ht : within time 0 9999 = true) (hr : RdL 5 tpc w sa g.Jn) (hs : RdL 1 inc w si g.Jb.ids) (hsd : RdL 1 inc w sd d.ids) :
  Calls Tryz.prog 121 #[.agg (gta g sa si),.agg #[.int .i64 d.Jk,sd],.int .i64 time] w fun e w'=>∃ sl si',e = .returned (.tuple #[.agg (gta (synced g d time) (.slice none 0 0) si'),sl]) /\ Ext w w' /\
   Jh 57 5 tpc w.heap.size w' sl g.Jn /\ Jh 3 1 inc w.heap.size w' si' (synced g d time).Jb.ids:=by
 have r:=Zh.1 hgr;have hl12:=r.len;have hd12:=((XM g.Jb).1 r.Jb).2.1;have hd13:=((XM d).1 hd).2.1;have HOwn:=hH (fun w' (h : Ext w w')=>gate_Own g sa si w' (hr.ext h) (hs.ext h) (by omega) (by omega));have HP:=hH (fun w' (h : Ext w w')=>denied_Pick g.Jb d si sd w' (hs.ext h) (hsd.ext h) (by omega) (by omega));obtain ⟨A,c,rfl,-,-⟩:=hr.form;obtain ⟨A2,c2,rfl,-,-⟩:=hs.form;obtain ⟨A3,c3,rfl,-,-⟩:=hsd.form;have hw1 : IntKind.i64.wrap (time + 100) = time + 100:=IntWalk.i64_in _ (by simp [within] at ht;omega);have hsy : synced g d time = ⟨g.id,g.zone,g.seq,[],pickD g.Jb d,9,time + 100⟩:=rfl;generalize pickD g.Jb d = pk at *;rw [hsy];clear hr hs hsd hgr hd r hl12 hd12 hd13 hsy ht;unfold gta at HOwn ⊢
 simp only
 go_enter Tryz.func121,Tryz.ntmps121;go_wp2_with fail;refine (HOwn.out _ Je).mono ?_;rintro e w1 ⟨sa1,si1,rfl,h1,ho1,hi1,hdis⟩;obtain ⟨A1,c1,rfl⟩:=ho1.form;obtain ⟨B1,d1,rfl⟩:=hi1.form;have hz1:=h1.size;have H1:=hH h1;(try simp only [lSz] at hz1 ho1 hi1);have HO1:=hH ho1;clear h1 ho1 hi1 hdis;(refine Ji w1 w.heap.size fun q1_0 f1_0 l1_0 R1_0=>?_;refine Ji w1 (w.heap.size + 1) fun q1_1 f1_1 l1_1 R1_1=>?_;refine Ji w1 (w.heap.size + 1 + 1) fun q1_2 f1_2 l1_2 R1_2=>?_);go_wp2_with fail;refine (HP.out _ Je).mono ?_;rintro e w2 ⟨s2,rfl,h2,ho2⟩;obtain ⟨B2,d2,rfl⟩:=ho2.form;have hz2:=h2.size;(try simp only [lSz] at ho2);have H2:=hH h2;have HO2:=hH ho2;clear h2 ho2;(try simp only [lSz] at hz2);(refine Ji w2 (w.heap.size + 1 + 1) fun q2_0 f2_0 l2_0 R2_0=>?_;refine Ji w2 w1.heap.size fun q2_1 f2_1 l2_1 R2_1=>?_)
 have hna : (Value.slice A1 g.Jn.length c1).ownBlock ≠ some w1.heap.size:=fun h=>by have:=(HO1.out.lt _ h).2;omega
 have hnb : (Value.slice B2 pk.ids.length d2).ownBlock ≠ some w1.heap.size:=fun h=>by have:=(HO2.out.lt _ h).1;omega
 go_wp2_with fail;refine bodyPost_ret (v:=.tuple #[.agg #[.int .i64 g.id,.int .i64 g.zone,.int .i64 g.seq,.slice none 0 0,.int .i64 pk.Jk,.slice B2 pk.ids.length d2,.int .i64 9,.int .i64 (time + 100)],.slice A1 g.Jn.length c1]) (by simp [results,Tryz.results121,go_sem, *]) rfl ⟨_,_,rfl,?_,?_,?_⟩
 ·exact Je
 ·exact ownA (w.heap.size + 1 + 1 + 1)
 ·exact ownA (w1.heap.size + 1)


theorem ref_CheckGate (g : Gt) (sa si : Value) (w : World) (hr : RdL 5 tpc w sa g.Jn) (hs : RdL 1 inc w si g.Jb.ids) :
  Calls Tryz.prog 55 #[.agg (gta g sa si)] w fun e w'=>e = .returned (.int .i64 (J7 g)) /\ Ext w w':=by
 have HDN:=hH (fun w' (h : Ext w w')=>ref_CheckDenied g.Jb si w' (hs.ext h));obtain ⟨A,c,rfl,hmc,hmm⟩:=hr.form;obtain ⟨A2,c2,rfl,-,-⟩:=hs.form;obtain ⟨gid,zone,seq,l,⟨ver,ids⟩,left,JP⟩:=g;simp only at hr hs hmc hmm HDN
 have hm : l.length <= 9223372036854775807:=by unfold maxLen at hmm;omega
 have HW1:=hH (fun w=>JA gid 0 2 w);have HW2:=hH (fun w=>JA seq 0 99 w);have HW4:=hH (fun w=>JA left 0 9 w);have HW5:=hH (fun w=>JA JP 0 10099 w);have HZN:=hH (fun w=>ref_IsZone zone w)
 have hE : J7 ⟨gid,zone,seq,l,⟨ver,ids⟩,left,JP⟩ = if within gid 0 2 = false \/ within seq 0 99 = false then 3 else if Zk zone = false then 9 else if 12 < l.length then 2 else if Zn gid zone none l ≠ 0 then Zn gid zone none l else if ZQ l seq = false then 4 else if Z9 ⟨ver,ids⟩ ≠ 0 then Z9 ⟨ver,ids⟩ else if within left 0 9 = false \/ within JP 0 10099 = false then 3 else 0:=by
  unfold J7 aloneE
  simp only
  by_cases h1 : Zn gid zone none l = 0
  ·cases h2 : ZQ l seq <;> simp [h1]
  ·simp [h1]
 generalize hX : J7 ⟨gid,zone,seq,l,⟨ver,ids⟩,left,JP⟩ = res at *;clear hX;unfold gta
 simp only
 generalize within gid 0 2 = z1 at *;generalize within seq 0 99 = z2 at *;generalize Zk zone = z3 at *;generalize Z9 ⟨ver,ids⟩ = d at *;generalize within left 0 9 = z4 at *;generalize within JP 0 10099 = z5 at *;generalize hR : Zn gid zone none l = r at *;have HRd:=hH hr;have HR:=hH hR;clear hr hs hmc hmm hR
 cases z1
 ·have HQ:=hH (show res = 3 by rw [hE];simp)
  clear hE;go_enter Tryz.func55,Tryz.ntmps55;go_wp2_with fail;refine gB (HW1.out _) ?_;go_wp2_with fail;go_ret;refine ⟨Jo (by rw [HQ.out]),?_⟩;exact Je
 cases z2
 ·have HQ:=hH (show res = 3 by rw [hE];simp)
  clear hE;go_enter Tryz.func55,Tryz.ntmps55;go_wp2_with fail;refine gB (HW1.out _) ?_;go_wp2_with fail;refine gB (HW2.out _) ?_;go_wp2_with fail;go_ret;refine ⟨Jo (by rw [HQ.out]),?_⟩;exact Je
 cases z3
 ·have HQ:=hH (show res = 9 by rw [hE];simp)
  clear hE;go_enter Tryz.func55,Tryz.ntmps55;go_wp2_with fail;refine gB (HW1.out _) ?_;go_wp2_with fail;refine gB (HW2.out _) ?_;go_wp2_with fail;refine gB (HZN.out _) ?_;go_wp2_with fail;go_ret;refine ⟨Jo (by rw [HQ.out]),?_⟩;exact Je
 by_cases hl : 12 < l.length
 ·have hl' : (12 : Int) < (l.length : Int):=by omega
  have HQ:=hH (show res = 2 by rw [hE];simp [hl]);clear hE hl;go_enter Tryz.func55,Tryz.ntmps55;go_wp2_with fail;refine gB (HW1.out _) ?_;go_wp2_with fail;refine gB (HW2.out _) ?_;go_wp2_with fail;refine gB (HZN.out _) ?_;go_wp2_with fail;go_ret;refine ⟨Jo (by rw [HQ.out]),?_⟩;exact Je
 have hl' : ¬ (12 : Int) < (l.length : Int):=by omega
 have HS:=hH (show (if r ≠ 0 then r else if ZQ l seq = false then (4 : Int) else if d ≠ 0 then d else if z4 = false \/ z5 = false then 3 else 0) = res by rw [hE];simp [hl]);clear hE hl;go_enter Tryz.func55,Tryz.ntmps55;go_wp2_with fail;refine gB (HW1.out _) ?_;go_wp2_with fail;refine gB (HW2.out _) ?_;go_wp2_with fail;refine gB (HZN.out _) ?_;go_wp2_with fail;clear hl'
 go_loopg [2,3,4,5] l.length (fun gg _ s3 _ _ wr=>∃ k : Nat,k <= l.length /\ l.length - k <= gg /\ s3 = .int .i64 k /\ Aside (Ext w wr /\ Row wr w.heap.size #[.int .i64 gid,.int .i64 zone,.int .i64 seq,.slice A l.length c,.int .i64 ver,.slice A2 ids.length c2,.int .i64 left,.int .i64 JP]) /\ Aside (Zn gid zone (prevT l k) (l.drop k) = r /\ ∀ x,prevT l k = some x -> Jv x = 0))
 case atStart=>exact ⟨0,by omega,by omega,rfl,⟨(Ext.refl _).alloc _,Row.newAt rfl⟩,HR.out,fun x h=>by simp [prevT] at h⟩
 case round =>
  obtain ⟨k,hk,hg,rfl,HE,HA⟩:=hrel;have hq:=HE.out.2.2.1;have hfz:=HE.out.2.2.2;have hlt2:=HE.out.2.1
  by_cases hlt : k < l.length
  ·have hlt' : (k : Int) < (l.length : Int):=by omega
   obtain ⟨b,o,rfl,hb,c0,c1,c2',c3,c4⟩:=(HRd.out.ext HE.out.1).tp_at rfl hlt;obtain ⟨hA,hP⟩:=HA.out;rw [List.drop_eq_getElem_cons hlt,XT] at hA;have hn:=prevT_succ l k hlt;rw [<- hn] at hA;have HRC:=hH (fun w=>ref_CheckTap l[k] w)
   have hpv : 0 < k -> ∃ x,prevT l k = some x /\ ∀ W,Ext wr W -> W.cell? ⟨b,o + (k - 1) * 5 + 2,none⟩ = some (.int .i64 x.seq) /\ W.cell? ⟨b,o + (k - 1) * 5 + 3,none⟩ = some (.int .i64 x.time):=by
    intro h0
    have hk1 : k - 1 < l.length:=by omega
    refine ⟨l[k - 1],by unfold prevT;rw [if_neg (by omega),List.getElem?_eq_getElem hk1],fun W hW=>?_⟩;obtain ⟨b',o',hAA,_,_,_,d2,d3,_⟩:=((HRd.out.ext HE.out.1).ext hW).tp_at rfl hk1
    injection hAA with hAA
    injection hAA with e1 e2
    subst e1 e2;exact ⟨d2,d3⟩
   have HPV:=hH hpv;have HE2:=hH HE.out.1;have HRW:=hH HE.out.2
   have hk0 : k = 0 -> prevT l k = none:=fun h=>by subst h;rfl
   have hP2:=hH hP;have HN:=hH hn;clear HE HA hP hpv hn;generalize hp : l[k] = p at *;clear hp;obtain ⟨x0,x1,x2,x3,x4⟩:=p;simp only at c0 c1 c2' c3 c4;unfold tpc at HRC;generalize hck : Jv ⟨x0,x1,x2,x3,x4⟩ = q at HRC hA
   by_cases hq0 : q = 0
   ·rw [if_neg (by simpa using hq0)] at hA
    subst hq0;have HCK:=hH hck;clear hck
    by_cases e1 : x1 = gid
    ·have e1b : (x1 != gid) = false:=by simpa using e1
     by_cases e2 : x4 = zone
     ·have e2b : (x4 != zone) = false:=by simpa using e2
      by_cases hz : k = 0
      ·rw [hk0 hz,if_neg (by simp [e1,e2,follows])] at hA
       subst hz;simp only [Nat.zero_mul,Nat.add_zero] at c0 c1 c2' c3 c4;have HA2:=hH hA;clear hA hk0 e1 e2 hP2 HPV;go_wp2_with fail;(refine gA (HRC.out _) fun w1 H1 hz1=>?_;refine Ji w1 w.heap.size fun q1_0 f1_0 l1_0 R1_0=>?_;refine Ji w1 wr.heap.size fun q1_1 f1_1 l1_1 R1_1=>?_);go_wp2_with fail;go_quiet (fail);go_wp2_with fail;go_roundg (l.length - (0 + 1))
       case measure=>omega
       case rel=>exact ⟨0 + 1,by omega,by omega,by go_num,⟨(Je : Ext w _),R1_0.out.drewN⟩,HA2.out,fun y hy=>by rw [HN.out] at hy;injection hy with hy;subst hy;exact HCK.out⟩
      ·obtain ⟨y,hy,hyc⟩:=HPV.out (by omega)
       have hyk:=hP2.out y hy
       have hys : y.seq <= 99 /\ 1 <= y.seq:=by
        have:=(ckTap_ok.1 hyk).2.2.1
        simp [within] at this
        omega
       
       have hkn : 0 < k:=by omega
       have hkd : decide (0 < k) = true:=by simpa using hkn
       have hw1 : IntKind.i64.wrap ((k : Int) - 1) = ((k - 1 : Nat) : Int):=by rw [IntWalk.i64_in _ (by omega)];omega
       have hk1 : ((k - 1 : Nat) : Int) < (l.length : Int):=by omega
       have hk2 : k - 1 < l.length:=by omega
       rw [hy] at hA;have HYC:=hH hyc;clear hyk hy hyc HPV hP2 hk0;obtain ⟨y0,y1,y2,y3,y4⟩:=y;simp only at hys HYC;have hx2:=(ckTap_ok.1 HCK.out).2.2.1;simp only [within,Bool.and_eq_true,decide_eq_true_eq] at hx2;have hws : IntKind.i64.wrap (x2 - 1) = x2 - 1:=IntWalk.i64_in _ (by omega)
       by_cases e3 : y3 <= x3
       ·have e3b : decide (x3 < y3) = false:=by simpa using e3
        by_cases e4 : x2 = y2 + 1
        ·have e4b : (x2 - 1 != y2) = false:=by simp;omega
         rw [if_neg (by simp [e1,e2,e3,e4,follows])] at hA;have HA2:=hH hA;clear hA e1 e2 e3 e4 hx2;go_wp2_with fail;(refine gA (HRC.out _) fun w1 H1 hz1=>?_;refine Ji w1 w.heap.size fun q1_0 f1_0 l1_0 R1_0=>?_;refine Ji w1 wr.heap.size fun q1_1 f1_1 l1_1 R1_1=>?_);obtain ⟨f2,f3⟩:=HYC.out w1 Je;go_wp2_with fail;go_quiet (fail);go_wp2_with fail;go_roundg (l.length - (k + 1))
         case measure=>omega
         case rel=>exact ⟨k + 1,by omega,by omega,by go_num,⟨(Je : Ext w _),R1_0.out.drewN⟩,HA2.out,fun y hy=>by rw [HN.out] at hy;injection hy with hy;subst hy;exact HCK.out⟩
        ·have e4b : (x2 - 1 != y2) = true:=by simp;omega
         have HQ:=hH (show res = 4 by rw [if_pos (by simp [follows,e4])] at hA;rw [<- HS.out,<- hA];simp);clear hA e1 e2 e3 e4 hx2;go_wp2_with fail;(refine gA (HRC.out _) fun w1 H1 hz1=>?_;refine Ji w1 w.heap.size fun q1_0 f1_0 l1_0 R1_0=>?_;refine Ji w1 wr.heap.size fun q1_1 f1_1 l1_1 R1_1=>?_);obtain ⟨f2,f3⟩:=HYC.out w1 Je;go_wp2_with fail;go_quiet (fail);go_wp2_with fail;go_ret;refine ⟨Jo (by rw [HQ.out]),?_⟩;exact Je
       ·have e3b : decide (x3 < y3) = true:=by simpa using e3
        have HQ:=hH (show res = 4 by rw [if_pos (by simp [follows,e3])] at hA;rw [<- HS.out,<- hA];simp);clear hA e1 e2 e3 hx2;go_wp2_with fail;(refine gA (HRC.out _) fun w1 H1 hz1=>?_;refine Ji w1 w.heap.size fun q1_0 f1_0 l1_0 R1_0=>?_;refine Ji w1 wr.heap.size fun q1_1 f1_1 l1_1 R1_1=>?_);obtain ⟨f2,f3⟩:=HYC.out w1 Je;go_wp2_with fail;go_quiet (fail);go_wp2_with fail;go_ret;refine ⟨Jo (by rw [HQ.out]),?_⟩;exact Je
     ·have e2b : (x4 != zone) = true:=by simpa using e2
      have HQ:=hH (show res = 4 by rw [if_pos (by simp [e2])] at hA;rw [<- HS.out,<- hA];simp);clear hA e1 e2 hk0 hP2 HPV;go_wp2_with fail;(refine gA (HRC.out _) fun w1 H1 hz1=>?_;refine Ji w1 w.heap.size fun q1_0 f1_0 l1_0 R1_0=>?_;refine Ji w1 wr.heap.size fun q1_1 f1_1 l1_1 R1_1=>?_);go_wp2_with fail;go_quiet (fail);go_wp2_with fail;go_ret;refine ⟨Jo (by rw [HQ.out]),?_⟩;exact Je
    ·have e1b : (x1 != gid) = true:=by simpa using e1
     have HQ:=hH (show res = 4 by rw [if_pos (by simp [e1])] at hA;rw [<- HS.out,<- hA];simp);clear hA e1 hk0 hP2 HPV;go_wp2_with fail;(refine gA (HRC.out _) fun w1 H1 hz1=>?_;refine Ji w1 w.heap.size fun q1_0 f1_0 l1_0 R1_0=>?_;refine Ji w1 wr.heap.size fun q1_1 f1_1 l1_1 R1_1=>?_);go_wp2_with fail;go_quiet (fail);go_wp2_with fail;go_ret;refine ⟨Jo (by rw [HQ.out]),?_⟩;exact Je
   ·have hqb : (q != 0) = true:=by simpa using hq0
    have HQ:=hH (show res = q by rw [if_pos hq0] at hA;rw [<- HS.out,<- hA,if_pos hq0]);clear hA hq0 hck hk0 hP2 HPV;go_wp2_with fail;(refine gA (HRC.out _) fun w1 H1 hz1=>?_;refine Ji w1 w.heap.size fun q1_0 f1_0 l1_0 R1_0=>?_;refine Ji w1 wr.heap.size fun q1_1 f1_1 l1_1 R1_1=>?_);go_wp2_with fail;go_ret;refine ⟨Jo (by rw [HQ.out]),?_⟩;exact Je
  ·have hkl : k = l.length:=by omega
   have hge : ¬ (k : Int) < (l.length : Int):=by omega
   have hA:=HA.out.1;rw [hkl,List.drop_length] at hA;simp only [Zn] at hA;have HE2:=hH HE.out.1;have HRW:=hH HE.out.2;have HZ:=hH (show (if ZQ l seq = false then (4 : Int) else if d ≠ 0 then d else if z4 = false \/ z5 = false then 3 else 0) = res by rw [<- HS.out,<- hA];simp);clear HE HA hA hkl
   have hgo : ∃ zl : Bool,ZQ l seq = zl /\ (l = [] -> zl = true) /\ (l ≠ [] -> ∃ (hll : l.length - 1 < l.length),zl = (l[l.length - 1].seq == seq)):=by
    refine ⟨_,rfl,fun h=>by rw [h];rfl,fun h=>?_⟩;have hlp : 0 < l.length:=List.length_pos_iff.2 h
    have hll : l.length - 1 < l.length:=by omega
    refine ⟨hll,?_⟩;unfold ZQ;rw [List.getLast?_eq_getElem?,List.getElem?_eq_getElem hll]
   obtain ⟨zl,hzl,hz0,hz1⟩:=hgo;rw [hzl] at HZ
   by_cases hl0 : l = []
   ·have hz : l.length = 0:=by rw [hl0];rfl
    have hn0 : decide (0 < l.length) = false:=by rw [hz];rfl
    have:=hz0 hl0;subst this;clear hl0 hz0 hz1 hzl;have HZ2:=hH (show (if d ≠ 0 then d else if z4 = false \/ z5 = false then 3 else 0) = res by rw [<- HZ.out];simp);clear HZ;go_wp2_with fail;go_quiet (fail);go_wp2_with fail;(refine gA (HDN.out _ Je) fun w2 H2 hz2=>?_;refine Ji w2 w.heap.size fun q2_0 f2_0 l2_0 R2_0=>?_)
    by_cases hd : d = 0
    ·subst hd
     cases z4
     ·have HQ:=hH (show res = 3 by rw [<- HZ2.out];simp)
      clear HZ2;go_wp2_with fail;refine gB (HW4.out _) ?_;go_wp2_with fail;go_ret;refine ⟨Jo (by rw [HQ.out]),?_⟩;exact Je
     ·have HQ:=hH (show res = if z5 = false then 3 else 0 by rw [<- HZ2.out];simp)
      clear HZ2
      cases z5
      all_goals
       go_wp2_with fail;refine gB (HW4.out _) ?_;go_wp2_with fail;refine gB (HW5.out _) ?_;go_wp2_with fail;go_ret;refine ⟨Jo (by rw [HQ.out];simp),?_⟩;exact Je
    ·have hdb : (d == 0) = false:=by simpa using hd
     have HQ:=hH (show res = d by rw [<- HZ2.out,if_pos hd]);clear HZ2 hd;go_wp2_with fail;go_ret;refine ⟨Jo (by rw [HQ.out]),?_⟩;exact Je
   ·have hlp : 0 < l.length:=List.length_pos_iff.2 hl0
    have hn0 : decide (0 < l.length) = true:=by simpa using hlp
    obtain ⟨hll,hzz⟩:=hz1 hl0;obtain ⟨b,o,rfl,hb,c0,c1,c2',c3,c4⟩:=(HRd.out.ext HE2.out).tp_at rfl hll
    have hw1 : IntKind.i64.wrap ((l.length : Int) - 1) = ((l.length - 1 : Nat) : Int):=by rw [IntWalk.i64_in _ (by omega)];omega
    have hk1 : ((l.length - 1 : Nat) : Int) < (l.length : Int):=by omega
    clear c0 c1 c3 c4 hl0 hz0 hz1 hzl;generalize l[l.length - 1].seq = y at *
    have hyb : (y != seq) = !zl:=by rw [hzz];rfl
    clear hzz
    cases zl
    ·have HQ:=hH (show res = 4 by rw [<- HZ.out];simp)
     clear HZ;go_wp2_with fail;go_quiet (fail);go_wp2_with fail;go_ret;refine ⟨Jo (by rw [HQ.out]),?_⟩;exact Je
    ·have HZ2:=hH (show (if d ≠ 0 then d else if z4 = false \/ z5 = false then 3 else 0) = res by rw [<- HZ.out];simp)
     clear HZ;go_wp2_with fail;go_quiet (fail);go_wp2_with fail;(refine gA (HDN.out _ Je) fun w2 H2 hz2=>?_;refine Ji w2 w.heap.size fun q2_0 f2_0 l2_0 R2_0=>?_)
     by_cases hd : d = 0
     ·subst hd
      cases z4
      ·have HQ:=hH (show res = 3 by rw [<- HZ2.out];simp)
       clear HZ2;go_wp2_with fail;refine gB (HW4.out _) ?_;go_wp2_with fail;go_ret;refine ⟨Jo (by rw [HQ.out]),?_⟩;exact Je
      ·have HQ:=hH (show res = if z5 = false then 3 else 0 by rw [<- HZ2.out];simp)
       clear HZ2
       cases z5
       all_goals
        go_wp2_with fail;refine gB (HW4.out _) ?_;go_wp2_with fail;refine gB (HW5.out _) ?_;go_wp2_with fail;go_ret;refine ⟨Jo (by rw [HQ.out];simp),?_⟩;exact Je
     ·have hdb : (d == 0) = false:=by simpa using hd
      have HQ:=hH (show res = d by rw [<- HZ2.out,if_pos hd]);clear HZ2 hd;go_wp2_with fail;go_ret;refine ⟨Jo (by rw [HQ.out]),?_⟩;exact Je

theorem eql_bd (a b a' b' : Int) (W : World) :
  (binOp .eql 50 (.agg #[.int .i64 a,.int .i64 b]) (.agg #[.int .i64 a',.int .i64 b'])).run Tryz.prog W = .ok (.bool (a == a' && b == b')) W:=by
 have hst : Tryz.prog.stoodInHeld 50 = false:=by kernel_rfl
 simp [go_sem,hst]
 repeat' split
 all_goals simp_all

theorem same_gt (a b : Gt) : (a.id == b.id && (a.zone == b.zone && (a.seq == b.seq && ((a.left == b.left && a.JP == b.JP) && (a.Jn == b.Jn && sameDn a.Jb b.Jb))))) = decide (a = b):=by
 obtain ⟨a1,a2,a3,a4,⟨a5,a6⟩,a7,a8⟩:=a;obtain ⟨b1,b2,b3,b4,⟨b5,b6⟩,b7,b8⟩:=b;unfold sameDn;rw [Bool.eq_iff_iff];simp only [Bool.and_eq_true,beq_iff_eq,decide_eq_true_eq,Gt.mk.injEq,Dn.mk.injEq]
 constructor
 ·rintro ⟨rfl,rfl,rfl,⟨rfl,rfl⟩,rfl,rfl,rfl⟩;simp
 ·rintro ⟨rfl,rfl,rfl,rfl,⟨rfl,rfl⟩,rfl,rfl⟩;simp
theorem ref_SameGate (a b : Gt) (sa si ta ti : Value) (w : World) (hr : RdL 5 tpc w sa a.Jn) (hs : RdL 1 inc w si a.Jb.ids) (hr2 : RdL 5 tpc w ta b.Jn) (hs2 : RdL 1 inc w ti b.Jb.ids) :
  Calls Tryz.prog 28 #[.agg (gta a sa si),.agg (gta b ta ti)] w fun e w'=>e = .returned (.bool (decide (a = b))) /\ Ext w w':=by
 have HT:=hH (fun w' (h : Ext w w')=>ref_SameTaps a.Jn b.Jn sa ta w' (hr.ext h) (hr2.ext h));have HD:=hH (fun w' (h : Ext w w')=>ref_SameDenied a.Jb b.Jb si ti w' (hs.ext h) (hs2.ext h));have HB:=eql_bd a.left a.JP b.left b.JP;obtain ⟨A,c,rfl,-,-⟩:=hr.form;obtain ⟨A2,c2,rfl,-,-⟩:=hs.form;obtain ⟨B,d,rfl,-,-⟩:=hr2.form;obtain ⟨B2,d2,rfl,-,-⟩:=hs2.form;rw [<- same_gt];generalize hz0 : (a.id == b.id) = z0;generalize hz1 : (a.zone == b.zone) = z1;generalize hz2 : (a.seq == b.seq) = z2;generalize (a.left == b.left && a.JP == b.JP) = z3 at *;generalize (a.Jn == b.Jn) = z4 at *;generalize sameDn a.Jb b.Jb = z5 at *;clear hr hs hr2 hs2;unfold gta
 cases z0
 ·go_enter Tryz.func28,Tryz.ntmps28
  go_wp2_with fail;go_ret;refine ⟨Jq (by simp),?_⟩;exact Je
 cases z1
 ·go_enter Tryz.func28,Tryz.ntmps28
  go_wp2_with fail;go_ret;refine ⟨Jq (by simp),?_⟩;exact Je
 cases z2
 ·go_enter Tryz.func28,Tryz.ntmps28
  go_wp2_with fail;go_ret;refine ⟨Jq (by simp),?_⟩;exact Je
 cases z3
 ·go_enter Tryz.func28,Tryz.ntmps28
  go_wp2_with fail;go_ret;refine ⟨Jq (by simp),?_⟩;exact Je
 cases z4
 ·go_enter Tryz.func28,Tryz.ntmps28
  go_wp2_with fail;refine (HT.out _ Je).mono ?_;rintro e w1 ⟨rfl,h1⟩;have H1:=hH h1;clear h1;(refine Ji w1 w.heap.size fun q1_0 f1_0 l1_0 R1_0=>?_;refine Ji w1 (w.heap.size + 1) fun q1_1 f1_1 l1_1 R1_1=>?_);go_wp2_with fail;go_ret;refine ⟨Jq (by simp),?_⟩;exact Je
 go_enter Tryz.func28,Tryz.ntmps28;go_wp2_with fail;refine (HT.out _ Je).mono ?_;rintro e w1 ⟨rfl,h1⟩;have H1:=hH h1;clear h1;(refine Ji w1 w.heap.size fun q1_0 f1_0 l1_0 R1_0=>?_;refine Ji w1 (w.heap.size + 1) fun q1_1 f1_1 l1_1 R1_1=>?_);go_wp2_with fail;refine (HD.out _ Je).mono ?_;rintro e w2 ⟨rfl,h2⟩;have H2:=hH h2;clear h2;go_wp2_with fail;go_ret;refine ⟨Jq (by simp),?_⟩;exact Je

theorem ref_SyncOf (g : Gt) (sa si : Value) (d : Dn) (sd : Value) (time : Int) (w : World) (ht : within time 0 9999 = true) (ha : ∃ A n c,sa = .slice A n c) (hs : ∃ A n c,si = .slice A n c) (hd : ∃ A n c,sd = .slice A n c) :
  Calls Tryz.prog 64 #[.agg (gta g sa si),.agg #[.int .i64 d.Jk,sd],.int .i64 time] w fun e w'=>e = .returned (.tuple #[.agg (gta (synced g d time) (.slice none 0 0) (if g.Jb.Jk < d.Jk then sd else si)),sa]) /\ Ext w w':=by
 have HN:=hH (fun (w' : World)=>ref_NewerOf g.Jb d si sd w' hs hd);have hsy : synced g d time = ⟨g.id,g.zone,g.seq,[],pickD g.Jb d,9,time + 100⟩:=rfl;rw [hsy];generalize pickD g.Jb d = pk at *;obtain ⟨A,n,c,rfl⟩:=ha
 have hpk : ∃ A' n' c',(if g.Jb.Jk < d.Jk then sd else si) = .slice A' n' c':=by split <;> assumption
 generalize (if g.Jb.Jk < d.Jk then sd else si) = pv at *;obtain ⟨A1,n1,c1,rfl⟩:=hs;obtain ⟨A2,n2,c2,rfl⟩:=hd;obtain ⟨A3,n3,c3,rfl⟩:=hpk;have hw1 : IntKind.i64.wrap (time + 100) = time + 100:=IntWalk.i64_in _ (by simp [within] at ht;omega);clear ht hsy;unfold gta
 simp only
 go_enter Tryz.func64,Tryz.ntmps64;go_wp2_with fail;(refine gA (HN.out _) fun w1 H1 hz1=>?_;refine Ji w1 w.heap.size fun q1_0 f1_0 l1_0 R1_0=>?_;refine Ji w1 (w.heap.size + 1 + 1) fun q1_1 f1_1 l1_1 R1_1=>?_);go_wp2_with fail;refine bodyPost_ret (v:=.tuple #[.agg #[.int .i64 g.id,.int .i64 g.zone,.int .i64 g.seq,.slice none 0 0,.int .i64 pk.Jk,.slice A3 n3 c3,.int .i64 9,.int .i64 (time + 100)],.slice A n c]) (by simp [results,Tryz.results64,go_sem, *]) rfl ⟨rfl,?_⟩;exact Je

end Go.Proofs.YteojjbhadgkfgaaGreat
