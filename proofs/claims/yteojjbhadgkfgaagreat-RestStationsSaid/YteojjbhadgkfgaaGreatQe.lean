/- Qe: parts of the proofs, laid together. -/
import Derived.Test.YteojjbhadgkfgaaGreatQb
/- Taps, tickets, ledgers side by side. -/
set_option maxHeartbeats 64000000
namespace Go.Proofs.YteojjbhadgkfgaaGreat
set_option linter.unusedSimpArgs false
set_option linter.unusedVariables false
set_option maxRecDepth 100000
open Go Go.RowKit Lb

theorem neq_tp (a b c d e a' b' c' d' e' : Int) (W : World) :
  (binOp .neq 57 (.agg #[.int .i64 a,.int .i64 b,.int .i64 c,.int .i64 d,.int .i64 e]) (.agg #[.int .i64 a',.int .i64 b',.int .i64 c',.int .i64 d',.int .i64 e'])).run Tryz.prog W = .ok (.bool (!decide ((⟨a,b,c,d,e⟩ : Tp) = ⟨a',b',c',d',e'⟩))) W:=by
 have hst : Tryz.prog.stoodInHeld 57 = false:=by kernel_rfl
 simp [go_sem,hst]
 repeat' split
 all_goals simp_all
theorem ref_SameTaps (l m : List Tp) (v u : Value) (w : World) (hr : RdL 5 tpc w v l) (hs : RdL 5 tpc w u m) :
  Calls Tryz.prog 73 #[v,u] w fun e w'=>e = .returned (.bool (l == m)) /\ Ext w w':=by
 obtain ⟨A,c,rfl,hmc,hmm⟩:=hr.form;obtain ⟨A2,c2,rfl,-,-⟩:=hs.form
 have hm : l.length <= 9223372036854775807:=by unfold maxLen at hmm;omega
 have HRd:=hH hr;have HSd:=hH hs;clear hr hmm hmc hs
 by_cases hl : l.length = m.length
 ·rw [<- hl] at HSd ⊢
  have HL:=hH hl;generalize hR : (l == m) = r;have HR:=hH hR;clear hR hl;go_enter Tryz.func73,Tryz.ntmps73;go_wp2_with fail
  go_loopg [4,5] l.length (fun gg _ s5 wr=>∃ k : Nat,k <= l.length /\ l.length - k <= gg /\ s5 = .int .i64 k /\ Aside (Ext w wr) /\ Aside ((l.drop k == m.drop k) = r))
  case atStart=>exact ⟨0,by omega,by omega,rfl,Ext.refl _,HR.out⟩
  case round =>
   obtain ⟨k,hk,hg,rfl,HE,HA⟩:=hrel
   by_cases hlt : k < l.length
   ·have hlt' : (k : Int) < (l.length : Int):=by omega
    have hltm : k < m.length:=by have:=HL.out;omega
    obtain ⟨b,o,rfl,hb,c0,c1,c2',c3,c4⟩:=(HRd.out.ext HE.out).ZX rfl hlt;obtain ⟨b2,o2,rfl,hb2,d0,d1,d2,d3,d4⟩:=(HSd.out.ext HE.out).ZX rfl hltm;have hA:=HA.out;rw [List.drop_eq_getElem_cons hlt,List.drop_eq_getElem_cons hltm,List.cons_beq_cons] at hA;generalize l[k] = x at *;generalize m[k] = y at *;obtain ⟨x0,x1,x2,x3,x4⟩:=x;obtain ⟨y0,y1,y2,y3,y4⟩:=y;simp only at c0 c1 c2' c3 c4 d0 d1 d2 d3 d4;have hn:=neq_tp x0 x1 x2 x3 x4 y0 y1 y2 y3 y4
    by_cases hx : (⟨x0,x1,x2,x3,x4⟩ : Tp) = ⟨y0,y1,y2,y3,y4⟩
    ·rw [decide_eq_true hx] at hn
     have hA2 : (l.drop (k + 1) == m.drop (k + 1)) = r:=by rw [<- hA];simp [hx]
     have HA2:=hH hA2;clear hA hA2 HA hx;go_wp2_with fail;go_quiet (fail);go_wp2_with fail;go_roundg (l.length - (k + 1))
     case measure=>omega
     case rel=>exact ⟨k + 1,by omega,by omega,by go_num,HE.out.drewN _,HA2.out⟩
    ·rw [decide_eq_false hx] at hn
     have hA2 : r = false:=by rw [<- hA,beq_eq_false_iff_ne.2 hx];rfl
     have HA2:=hH hA2;clear hA hA2 HA hx;go_wp2_with fail;go_quiet (fail);go_wp2_with fail;go_ret;exact ⟨Jq (by rw [HA2.out]),HE.out.drewN _⟩
   ·have hkl : k = l.length:=by omega
    have hge : ¬ (k : Int) < (l.length : Int):=by omega
    have hA:=HA.out;rw [hkl,List.drop_length,HL.out,List.drop_length] at hA;have HA2:=hH hA;clear hA HA hkl;go_wp2_with fail;go_ret;exact ⟨Jq (by rw [<- HA2.out];rfl),HE.out⟩
 ·have hl1 : ((l.length : Int) != (m.length : Int)) = true:=by
   have : (l.length : Int) ≠ (m.length : Int):=by omega
   simpa using this
  have hl2 : (l == m) = false:=by
   rw [beq_eq_false_iff_ne];rintro rfl;exact hl rfl
  rw [hl2];clear hl HRd HSd;go_enter Tryz.func73,Tryz.ntmps73;go_wp2_with fail;go_ret;exact ⟨Jq rfl,Ext.refl _⟩

theorem neq_tk (a b c d e f a' b' c' d' e' f' : Int) (W : World) :
  (binOp .neq 34 (.agg #[.int .i64 a,.int .i64 b,.int .i64 c,.int .i64 d,.int .i64 e,.int .i64 f]) (.agg #[.int .i64 a',.int .i64 b',.int .i64 c',.int .i64 d',.int .i64 e',.int .i64 f'])).run Tryz.prog W = .ok (.bool (!decide ((⟨a,b,c,d,e,f⟩ : Tk) = ⟨a',b',c',d',e',f'⟩))) W:=by
 have hst : Tryz.prog.stoodInHeld 34 = false:=by kernel_rfl
 simp [go_sem,hst]
 repeat' split
 all_goals simp_all
theorem ref_SameTickets (l m : List Tk) (v u : Value) (w : World) (hr : RdL 6 tkc w v l) (hs : RdL 6 tkc w u m) :
  Calls Tryz.prog 80 #[v,u] w fun e w'=>e = .returned (.bool (l == m)) /\ Ext w w':=by
 obtain ⟨A,c,rfl,hmc,hmm⟩:=hr.form;obtain ⟨A2,c2,rfl,-,-⟩:=hs.form
 have hm : l.length <= 9223372036854775807:=by unfold maxLen at hmm;omega
 have HRd:=hH hr;have HSd:=hH hs;clear hr hmm hmc hs
 by_cases hl : l.length = m.length
 ·rw [<- hl] at HSd ⊢
  have HL:=hH hl;generalize hR : (l == m) = r;have HR:=hH hR;clear hR hl;go_enter Tryz.func80,Tryz.ntmps80;go_wp2_with fail
  go_loopg [4,5] l.length (fun gg _ s5 wr=>∃ k : Nat,k <= l.length /\ l.length - k <= gg /\ s5 = .int .i64 k /\ Aside (Ext w wr) /\ Aside ((l.drop k == m.drop k) = r))
  case atStart=>exact ⟨0,by omega,by omega,rfl,Ext.refl _,HR.out⟩
  case round =>
   obtain ⟨k,hk,hg,rfl,HE,HA⟩:=hrel
   by_cases hlt : k < l.length
   ·have hlt' : (k : Int) < (l.length : Int):=by omega
    have hltm : k < m.length:=by have:=HL.out;omega
    obtain ⟨b,o,rfl,hb,c0,c1,c2',c3,c4,c5⟩:=(HRd.out.ext HE.out).XC rfl hlt;obtain ⟨b2,o2,rfl,hb2,d0,d1,d2,d3,d4,d5⟩:=(HSd.out.ext HE.out).XC rfl hltm;have hA:=HA.out;rw [List.drop_eq_getElem_cons hlt,List.drop_eq_getElem_cons hltm,List.cons_beq_cons] at hA;generalize l[k] = x at *;generalize m[k] = y at *;obtain ⟨x0,x1,x2,x3,x4,x5⟩:=x;obtain ⟨y0,y1,y2,y3,y4,y5⟩:=y;simp only at c0 c1 c2' c3 c4 c5 d0 d1 d2 d3 d4 d5;have hn:=neq_tk x0 x1 x2 x3 x4 x5 y0 y1 y2 y3 y4 y5
    by_cases hx : (⟨x0,x1,x2,x3,x4,x5⟩ : Tk) = ⟨y0,y1,y2,y3,y4,y5⟩
    ·rw [decide_eq_true hx] at hn
     have hA2 : (l.drop (k + 1) == m.drop (k + 1)) = r:=by rw [<- hA];simp [hx]
     have HA2:=hH hA2;clear hA hA2 HA hx;go_wp2_with fail;go_quiet (fail);go_wp2_with fail;go_roundg (l.length - (k + 1))
     case measure=>omega
     case rel=>exact ⟨k + 1,by omega,by omega,by go_num,HE.out.drewN _,HA2.out⟩
    ·rw [decide_eq_false hx] at hn
     have hA2 : r = false:=by rw [<- hA,beq_eq_false_iff_ne.2 hx];rfl
     have HA2:=hH hA2;clear hA hA2 HA hx;go_wp2_with fail;go_quiet (fail);go_wp2_with fail;go_ret;exact ⟨Jq (by rw [HA2.out]),HE.out.drewN _⟩
   ·have hkl : k = l.length:=by omega
    have hge : ¬ (k : Int) < (l.length : Int):=by omega
    have hA:=HA.out;rw [hkl,List.drop_length,HL.out,List.drop_length] at hA;have HA2:=hH hA;clear hA HA hkl;go_wp2_with fail;go_ret;exact ⟨Jq (by rw [<- HA2.out];rfl),HE.out⟩
 ·have hl1 : ((l.length : Int) != (m.length : Int)) = true:=by
   have : (l.length : Int) ≠ (m.length : Int):=by omega
   simpa using this
  have hl2 : (l == m) = false:=by
   rw [beq_eq_false_iff_ne];rintro rfl;exact hl rfl
  rw [hl2];clear hl HRd HSd;go_enter Tryz.func80,Tryz.ntmps80;go_wp2_with fail;go_ret;exact ⟨Jq rfl,Ext.refl _⟩
theorem same_ints (l m : List Int) (v u : Value) (w : World) (hr : RdL 1 inc w v l) (hs : RdL 1 inc w u m) :
  Calls Tryz.prog 77 #[v,u] w fun e w'=>e = .returned (.bool (l == m)) /\ Ext w w':=by
 obtain ⟨A,c,rfl,hmc,hmm⟩:=hr.form;obtain ⟨A2,c2,rfl,-,-⟩:=hs.form
 have hm : l.length <= 9223372036854775807:=by unfold maxLen at hmm;omega
 have HRd:=hH hr;have HSd:=hH hs;clear hr hmm hmc hs
 by_cases hl : l.length = m.length
 ·rw [<- hl] at HSd ⊢
  have HL:=hH hl;generalize hR : (l == m) = r;have HR:=hH hR;clear hR hl;go_enter Tryz.func77,Tryz.ntmps77;go_wp2_with fail
  go_loopg [4,5] l.length (fun gg _ s5 wr=>∃ k : Nat,k <= l.length /\ l.length - k <= gg /\ s5 = .int .i64 k /\ Aside (Ext w wr) /\ Aside ((l.drop k == m.drop k) = r))
  case atStart=>exact ⟨0,by omega,by omega,rfl,Ext.refl _,HR.out⟩
  case round =>
   obtain ⟨k,hk,hg,rfl,HE,HA⟩:=hrel
   by_cases hlt : k < l.length
   ·have hlt' : (k : Int) < (l.length : Int):=by omega
    have hltm : k < m.length:=by have:=HL.out;omega
    obtain ⟨b,o,rfl,hb,hcell⟩:=(HRd.out.ext HE.out).num_at rfl hlt;obtain ⟨b2,o2,rfl,hb2,hcell2⟩:=(HSd.out.ext HE.out).num_at rfl hltm;have hA:=HA.out;rw [List.drop_eq_getElem_cons hlt,List.drop_eq_getElem_cons hltm,List.cons_beq_cons] at hA;generalize l[k] = x at *;generalize m[k] = y at *
    by_cases hx : x = y
    ·have hxb : (x != y) = false:=by simpa using hx
     have hA2 : (l.drop (k + 1) == m.drop (k + 1)) = r:=by rw [<- hA];simp [hx]
     have HA2:=hH hA2;clear hA hA2 HA hx;go_wp2_with fail;go_quiet (fail);go_wp2_with fail;go_roundg (l.length - (k + 1))
     case measure=>omega
     case rel=>exact ⟨k + 1,by omega,by omega,by go_num,HE.out.drewN _,HA2.out⟩
    ·have hxb : (x != y) = true:=by simpa using hx
     have hA2 : r = false:=by rw [<- hA];simp [hx]
     have HA2:=hH hA2;clear hA hA2 HA hx;go_wp2_with fail;go_quiet (fail);go_wp2_with fail;go_ret;exact ⟨Jq (by rw [HA2.out]),HE.out.drewN _⟩
   ·have hkl : k = l.length:=by omega
    have hge : ¬ (k : Int) < (l.length : Int):=by omega
    have hA:=HA.out;rw [hkl,List.drop_length,HL.out,List.drop_length] at hA;have HA2:=hH hA;clear hA HA hkl;go_wp2_with fail;go_ret;exact ⟨Jq (by rw [<- HA2.out];rfl),HE.out⟩
 ·have hl1 : ((l.length : Int) != (m.length : Int)) = true:=by
   have : (l.length : Int) ≠ (m.length : Int):=by omega
   simpa using this
  have hl2 : (l == m) = false:=by
   rw [beq_eq_false_iff_ne];rintro rfl;exact hl rfl
  rw [hl2];clear hl HRd HSd;go_enter Tryz.func77,Tryz.ntmps77;go_wp2_with fail;go_ret;exact ⟨Jq rfl,Ext.refl _⟩

theorem same_ld (a b : Ld) : (a.Jc == b.Jc && (a.Jf == b.Jf && a.Jd == b.Jd)) = decide (a = b):=by
 obtain ⟨a1,a2,a3⟩:=a;obtain ⟨b1,b2,b3⟩:=b;rw [Bool.eq_iff_iff];simp only [Bool.and_eq_true,beq_iff_eq,decide_eq_true_eq,Ld.mk.injEq]
theorem ref_SameLedger (a b : Ld) (s0 s1 s2 t0 t1 t2 : Value) (w : World) (hr0 : RdL 6 tkc w s0 a.Jc) (hr1 : RdL 5 tpc w s1 a.Jf) (hr2 : RdL 1 inc w s2 a.Jd) (ht0 : RdL 6 tkc w t0 b.Jc) (ht1 : RdL 5 tpc w t1 b.Jf) (ht2 : RdL 1 inc w t2 b.Jd) :
  Calls Tryz.prog 31 #[.agg #[s0,s1,s2],.agg #[t0,t1,t2]] w fun e w'=>e = .returned (.bool (decide (a = b))) /\ Ext w w':=by
 have K0:=hH (fun w' (h : Ext w w')=>ref_SameTickets a.Jc b.Jc s0 t0 w' (hr0.ext h) (ht0.ext h));have K1:=hH (fun w' (h : Ext w w')=>ref_SameTaps a.Jf b.Jf s1 t1 w' (hr1.ext h) (ht1.ext h));have K2:=hH (fun w' (h : Ext w w')=>same_ints a.Jd b.Jd s2 t2 w' (hr2.ext h) (ht2.ext h));obtain ⟨A0,c0,rfl,-,-⟩:=hr0.form;obtain ⟨A1,c1,rfl,-,-⟩:=hr1.form;obtain ⟨A2,c2,rfl,-,-⟩:=hr2.form;obtain ⟨B0,d0,rfl,-,-⟩:=ht0.form;obtain ⟨B1,d1,rfl,-,-⟩:=ht1.form;obtain ⟨B2,d2,rfl,-,-⟩:=ht2.form;rw [<- same_ld];generalize (a.Jc == b.Jc) = z0 at *;generalize (a.Jf == b.Jf) = z1 at *;generalize (a.Jd == b.Jd) = z2 at *;clear hr0 hr1 hr2 ht0 ht1 ht2
 cases z0
 ·go_enter Tryz.func31,Tryz.ntmps31
  go_wp2_with fail;(refine gA (K0.out _ Je) fun w1 H1 hz1=>?_;refine Ji w1 w.heap.size fun q1_0 f1_0 l1_0 R1_0=>?_;refine Ji w1 (w.heap.size + 1) fun q1_1 f1_1 l1_1 R1_1=>?_);go_wp2_with fail;go_ret;refine ⟨Jq (by simp),?_⟩;exact Je
 cases z1
 ·go_enter Tryz.func31,Tryz.ntmps31
  go_wp2_with fail;(refine gA (K0.out _ Je) fun w1 H1 hz1=>?_;refine Ji w1 w.heap.size fun q1_0 f1_0 l1_0 R1_0=>?_;refine Ji w1 (w.heap.size + 1) fun q1_1 f1_1 l1_1 R1_1=>?_);go_wp2_with fail;(refine gA (K1.out _ Je) fun w2 H2 hz2=>?_;refine Ji w2 w.heap.size fun q2_0 f2_0 l2_0 R2_0=>?_;refine Ji w2 (w.heap.size + 1) fun q2_1 f2_1 l2_1 R2_1=>?_);go_wp2_with fail;go_ret;refine ⟨Jq (by simp),?_⟩;exact Je
 go_enter Tryz.func31,Tryz.ntmps31;go_wp2_with fail;(refine gA (K0.out _ Je) fun w1 H1 hz1=>?_;refine Ji w1 w.heap.size fun q1_0 f1_0 l1_0 R1_0=>?_;refine Ji w1 (w.heap.size + 1) fun q1_1 f1_1 l1_1 R1_1=>?_);go_wp2_with fail;(refine gA (K1.out _ Je) fun w2 H2 hz2=>?_;refine Ji w2 w.heap.size fun q2_0 f2_0 l2_0 R2_0=>?_;refine Ji w2 (w.heap.size + 1) fun q2_1 f2_1 l2_1 R2_1=>?_);go_wp2_with fail;(refine gA (K2.out _ Je) fun w3 H3 hz3=>?_;refine Ji w3 w.heap.size fun q3_0 f3_0 l3_0 R3_0=>?_;refine Ji w3 (w.heap.size + 1) fun q3_1 f3_1 l3_1 R3_1=>?_);go_wp2_with fail;go_ret;refine ⟨Jq (by simp),?_⟩;exact Je
end Go.Proofs.YteojjbhadgkfgaaGreat
