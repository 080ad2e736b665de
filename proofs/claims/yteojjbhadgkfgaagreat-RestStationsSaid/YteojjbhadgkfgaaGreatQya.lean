/- Qya: parts of the proofs, laid together. -/
import Derived.Test.YteojjbhadgkfgaaGreatQs
import Derived.Test.YteojjbhadgkfgaaGreatQa
import Derived.Test.YteojjbhadgkfgaaGreatQe
import Derived.Test.YteojjbhadgkfgaaGreatQl
import Derived.Test.YteojjbhadgkfgaaGreatQw
/- The reference's SameStation. -/
set_option maxHeartbeats 64000000
namespace Go.Proofs.YteojjbhadgkfgaaGreat
set_option linter.unusedSimpArgs false
set_option linter.unusedVariables false
set_option maxRecDepth 100000
open Go Go.RowKit Lb

theorem drop_same {α : Type} [DecidableEq α] {l m : List α} {k : Nat} (h1 : k < l.length) (h2 : k < m.length) : decide (l.drop k = m.drop k) = (decide (l[k] = m[k]) && decide (l.drop (k + 1) = m.drop (k + 1))):=by
 have e1:=List.drop_eq_getElem_cons h1;have e2:=List.drop_eq_getElem_cons h2;rw [Bool.eq_iff_iff,decide_eq_true_eq,Bool.and_eq_true,decide_eq_true_eq,decide_eq_true_eq,e1,e2,List.cons.injEq]

theorem ref_SameStation (a b : St) (x y : Sv) (w : World) (ha : RdS w x a) (hb : RdS w y b) :
  Calls Tryz.prog 19 #[.agg (sta a x),.agg (sta b y)] w fun e w'=>e = .returned (.bool (decide (a = b))) /\ Ext w w':=by
 have K1:=hH (fun w' (h : Ext w w')=>ref_SameLedger a.Ja b.Ja x.s0 x.s1 x.s2 y.s0 y.s1 y.s2 w' (ha.tk.ext h) (ha.tp.ext h) (ha.vd.ext h) (hb.tk.ext h) (hb.tp.ext h) (hb.vd.ext h));have K2:=hH (fun w' (h : Ext w w')=>ref_SameDenied a.Jb b.Jb x.si y.si w' (ha.dn.ext h) (hb.dn.ext h));have K3:=hH (fun w' (h : Ext w w')=>ref_SameViews a.Jj b.Jj x.sv y.sv w' (ha.vw.ext h) (hb.vw.ext h));have GA:=hH ha.gt;have GB:=hH hb.gt
 have hres : decide (a = b) = (decide (a.Ja = b.Ja) && (sameDn a.Jb b.Jb && ((a.Jj == b.Jj) && (decide (a.Jg.length = b.Jg.length) && decide (a.Jg.drop 0 = b.Jg.drop 0))))):=by
  obtain ⟨a1,a2,a3,a4⟩:=a;obtain ⟨b1,b2,b3,b4⟩:=b;have h2:=@sameDn_iff a2 b2;rw [Bool.eq_iff_iff];simp only [St.mk.injEq,decide_eq_true_eq,Bool.and_eq_true,h2,beq_iff_eq,List.drop_zero]
  constructor
  ·rintro ⟨h1,h2,h3,h4⟩;exact ⟨h1,h2,h4,by rw [h3],h3⟩
  ·rintro ⟨h1,h2,h4,-,h3⟩;exact ⟨h1,h2,h3,h4⟩
 generalize decide (a = b) = r at *;generalize decide (a.Ja = b.Ja) = z1 at *;generalize sameDn a.Jb b.Jb = z2 at *;generalize (a.Jj == b.Jj) = z3 at *;have HRES:=hH hres;clear hres;obtain ⟨A0,c0,e0,-,-⟩:=ha.tk.form;obtain ⟨A1,c1,e1,-,-⟩:=ha.tp.form;obtain ⟨A2,c2,e2,-,-⟩:=ha.vd.form;obtain ⟨A3,c3,e3,-,-⟩:=ha.dn.form;obtain ⟨A4,c4,e4,hc4,-⟩:=ha.gt.form;obtain ⟨A5,c5,e5,-,-⟩:=ha.vw.form;obtain ⟨B0,d0,f0,-,-⟩:=hb.tk.form;obtain ⟨B1,d1,f1,-,-⟩:=hb.tp.form;obtain ⟨B2,d2,f2,-,-⟩:=hb.vd.form;obtain ⟨B3,d3,f3,-,-⟩:=hb.dn.form;obtain ⟨B4,d4,f4,hd4,hm4⟩:=hb.gt.form;obtain ⟨B5,d5,f5,-,-⟩:=hb.vw.form;obtain ⟨s0,s1,s2,si,sg,sv⟩:=x;obtain ⟨t0,t1,t2,ti,tg,tv⟩:=y;simp only at e0 e1 e2 e3 e4 e5 f0 f1 f2 f3 f4 f5;obtain ⟨m,hm⟩ : ∃ m,m = b.Jg.length:=⟨_,rfl⟩;rw [<- hm] at f4 hd4;have HM:=hH hm;clear hm;subst e0 e1 e2 e3 e4 e5 f0 f1 f2 f3 f4 f5;have HC:=hH (And.intro hc4 (And.intro hd4 hm4));clear ha hb hc4 hd4 hm4;unfold sta;simp only at K1 K2 K3 GA GB ⊢;go_enter Tryz.func19,Tryz.ntmps19;go_wp2_with fail;(refine gA (K1.out _ Je) fun w1 H1 hz1=>?_;refine Ji w1 w.heap.size fun q1_0 f1_0 l1_0 R1_0=>?_;refine Ji w1 (w.heap.size + 1) fun q1_1 f1_1 l1_1 R1_1=>?_)
 cases z1
 ·have HQ:=hH (show r = false by rw [HRES.out];rfl)
  go_wp2_with fail;go_ret;exact ⟨Jq HQ.out.symm,(Je : Ext w _)⟩
 go_wp2_with fail;(refine gA (K2.out _ Je) fun w2 H2 hz2=>?_;refine Ji w2 w.heap.size fun q2_0 f2_0 l2_0 R2_0=>?_;refine Ji w2 (w.heap.size + 1) fun q2_1 f2_1 l2_1 R2_1=>?_)
 cases z2
 ·have HQ:=hH (show r = false by rw [HRES.out];rfl)
  go_wp2_with fail;go_ret;exact ⟨Jq HQ.out.symm,(Je : Ext w _)⟩
 go_wp2_with fail;(refine gA (K3.out _ Je) fun w3 H3 hz3=>?_;refine Ji w3 w.heap.size fun q3_0 f3_0 l3_0 R3_0=>?_;refine Ji w3 (w.heap.size + 1) fun q3_1 f3_1 l3_1 R3_1=>?_)
 cases z3
 ·have HQ:=hH (show r = false by rw [HRES.out];rfl)
  go_wp2_with fail;go_ret;exact ⟨Jq HQ.out.symm,(Je : Ext w _)⟩
 by_cases hl : a.Jg.length = m
 rotate_left
 ·have HQ:=hH (show r = false by have:=HM.out;rw [HRES.out];simp [show ¬ a.Jg.length = b.Jg.length by omega])
  have hlb : ((a.Jg.length : Int) == (m : Int)) = false:=by rw [beq_eq_false_iff_ne];omega
  clear hl;go_wp2_with fail;go_ret;exact ⟨Jq HQ.out.symm,(Je : Ext w _)⟩
 subst hl;have HQ:=hH (show r = decide (a.Jg.drop 0 = b.Jg.drop 0) by rw [HRES.out];simp [HM.out]);have HL:=hH HM.out;have HW3:=hH (And.intro trivial (Je : Ext w w3))
 have hm3 : a.Jg.length <= maxLen:=by have:=HC.out.2.1;have:=HC.out.2.2;omega
 unfold maxLen at hm3;clear HRES HM;go_wp2_with fail
 go_loopg [5] a.Jg.length (fun gg s5 wr=>∃ k : Nat,k <= a.Jg.length /\ a.Jg.length - k <= gg /\ s5 = .int .i64 k /\ Aside (Ext w3 wr /\ r = decide (a.Jg.drop k = b.Jg.drop k)))
 case atStart=>exact ⟨0,Nat.zero_le _,by omega,rfl,Ext.refl _,HQ.out⟩
 case round =>
  obtain ⟨k,hk,hg,rfl,HA⟩:=hrel;have HE:=hH HA.out.1;have HR:=hH HA.out.2;clear HA;(refine Ji wr w.heap.size fun qr_0 fr_0 lr_0 Rr_0=>?_;refine Ji wr (w.heap.size + 1) fun qr_1 fr_1 lr_1 Rr_1=>?_)
  by_cases hlt : k < a.Jg.length
  ·have hlt2 : k < b.Jg.length:=by have:=HL.out;omega
   have hi1 : (k : Int) < (a.Jg.length : Int):=by omega
   have hi2 : (k : Int) < (b.Jg.length : Int):=by omega
   have hi3 : (k : Int) < (c4 : Int):=by have:=HC.out;omega
   have hi4 : (k : Int) < (d4 : Int):=by have:=HC.out;omega
   have hxw:=HW3.out.2.trans HE.out;obtain ⟨ba,oa,sa1,si1,rfl,hba,ra,rd,g0,g1,g2,g3,g4,g5,g6,g7⟩:=(GA.out.ext hxw).at_ rfl hlt;obtain ⟨bb,ob,sa2,si2,rfl,hbb,ra2,rd2,h0,h1,h2,h3,h4,h5,h6,h7⟩:=(GB.out.ext hxw).at_ rfl hlt2;have HD:=hH (show r = (decide (a.Jg[k] = b.Jg[k]) && decide (a.Jg.drop (k + 1) = b.Jg.drop (k + 1))) by rw [HR.out,drop_same hlt hlt2]);have KG:=hH (fun w' (h : Ext wr w')=>ref_SameGate a.Jg[k] b.Jg[k] sa1 si1 sa2 si2 w' (ra.ext h) (rd.ext h) (ra2.ext h) (rd2.ext h));obtain ⟨A8,c8,rfl,-,-⟩:=ra.form;obtain ⟨A9,c9,rfl,-,-⟩:=rd.form;obtain ⟨B8,d8,rfl,-,-⟩:=ra2.form;obtain ⟨B9,d9,rfl,-,-⟩:=rd2.form;clear ra rd ra2 rd2 hxw HR;unfold gta at KG;generalize decide (a.Jg[k] = b.Jg[k]) = z at *;generalize a.Jg[k] = ga at *;generalize b.Jg[k] = gb at *;go_upto_region 6 with fail;(apply ZL (w0:=wr) (g0:=w.heap.size) (g1:=w.heap.size + 1);(focus (exact rowA));(focus (exact rowA));(focus (exact Je));intro W HW hzW Rz_0 Rz_1;(try simp only [Jm,World.size_alloc,size_set,World.heap_drewN,size_drew] at hzW Rz_0 Rz_1);have lz_0:=Rz_0.out.size;have lz_1:=Rz_1.out.size);have HK:=hH (fun w' (h : Ext W w')=>And.intro (Row.ext h Rz_0.out).2.1 (And.intro (Row.ext h Rz_1.out).2.1 (And.intro (((HW.out.trans h).cells _ _ hba).trans g0) (And.intro (((HW.out.trans h).cells _ _ hba).trans g1) (And.intro (((HW.out.trans h).cells _ _ hba).trans g2) (And.intro (((HW.out.trans h).cells _ _ hba).trans g3) (And.intro (((HW.out.trans h).cells _ _ hba).trans g4) (And.intro (((HW.out.trans h).cells _ _ hba).trans g5) (And.intro (((HW.out.trans h).cells _ _ hba).trans g6) (And.intro (((HW.out.trans h).cells _ _ hba).trans g7) (And.intro (((HW.out.trans h).cells _ _ hbb).trans h0) (And.intro (((HW.out.trans h).cells _ _ hbb).trans h1) (And.intro (((HW.out.trans h).cells _ _ hbb).trans h2) (And.intro (((HW.out.trans h).cells _ _ hbb).trans h3) (And.intro (((HW.out.trans h).cells _ _ hbb).trans h4) (And.intro (((HW.out.trans h).cells _ _ hbb).trans h5) (And.intro (((HW.out.trans h).cells _ _ hbb).trans h6) ((((HW.out.trans h).cells _ _ hbb).trans h7)))))))))))))))))));(refine Jw (fun w'=>Ext W w') 10 (by kernel_rfl) ((Ext.refl _).drew) (fun hS=>?_);simp only [List.length_cons,List.length_nil]);(refine tkA 0 HK hS ?_;refine tkA 1 HK hS ?_;refine tkA 2 HK hS ?_;refine tkA 3 HK hS ?_;refine tkA 4 HK hS ?_;refine tkA 5 HK hS ?_;refine tkA 6 HK hS ?_;refine tkA 7 HK hS ?_;refine tkA 8 HK hS ?_;refine tkA 9 HK hS ?_);(refine oA 10 fun K hK=>?_;go_simp);refine (KG.out _ Je).mono ?_;rintro e w5 ⟨rfl,hx⟩;have H5:=hH hx;have hz5:=hx.size;clear hx hS;(try simp only [size_drew] at hz5);go_wp2_with fail
   have hS : Ext W w5:=by exact Je
   refine hK.out _ _ (.inr hS) ?_;clear hK;(try simp only [Act.put,Jm]);(refine oA 11 fun K hK=>?_;go_simp;refine hK.out _ _ (.inl (by kernel_rfl)) ?_;clear hK;(try simp only [Act.put,Jm]);refine Ju (by kernel_rfl) ?_ _);clear HK g0 g1 g2 g3 g4 g5 g6 g7 h0 h1 h2 h3 h4 h5 h6 h7
   cases z
   ·have HQ2:=hH (show r = false by rw [HD.out];rfl)
    have hq:=HW3.out.2;go_wp2_with fail;go_ret;exact ⟨Jq HQ2.out.symm,hq.trans (Je : Ext w3 _)⟩
   ·have HQ2:=hH (show r = decide (a.Jg.drop (k + 1) = b.Jg.drop (k + 1)) by rw [HD.out,Bool.true_and])
    go_wp2_with fail;go_roundg (a.Jg.length - (k + 1))
    case measure=>omega
    case rel=>exact ⟨k + 1,by omega,by omega,by go_num,(Je : Ext w3 _),HQ2.out⟩
  ·have hge : ¬ (k : Int) < (a.Jg.length : Int):=by omega
   have HQ2:=hH (show r = true by
    have h1:=HL.out
    rw [HR.out,List.drop_eq_nil_of_le (by omega),List.drop_eq_nil_of_le (by omega)];rfl)
   have hq:=HW3.out.2;go_wp2_with fail;go_ret;exact ⟨Jq HQ2.out.symm,hq.trans (Je : Ext w3 _)⟩

theorem RdS.nil {w : World} : RdS w sv0 st0:=⟨RdL.nil,RdL.nil,RdL.nil,RdL.nil,RdG.nil,RdL.nil⟩
theorem law_stationIs (a b : St) (e1 e2 : Int) (x y : Sv) (w : World) (ha : RdS w x a) (hb : RdS w y b) :
  Calls Tryz.prog 23 #[.agg (sta a x),.int .i64 e1,.int .i64 e2,.agg (sta b y)] w fun e w'=>e = .returned (.bool (e1 == e2 && decide (a = if e2 ≠ 0 then st0 else b))) /\ Ext w w':=by
 have HS:=hH (fun w' (h : Ext w w')=>ref_SameStation a b x y w' (ha.ext h) (hb.ext h));have HZ:=hH (fun w' (h : Ext w w')=>ref_SameStation a st0 x sv0 w' (ha.ext h) RdS.nil);obtain ⟨A0,c0,e0,-,-⟩:=ha.tk.form;obtain ⟨A1,c1,e1_,-,-⟩:=ha.tp.form;obtain ⟨A2,c2,e2_,-,-⟩:=ha.vd.form;obtain ⟨A3,c3,e3,-,-⟩:=ha.dn.form;obtain ⟨A4,c4,e4,-,-⟩:=ha.gt.form;obtain ⟨A5,c5,e5,-,-⟩:=ha.vw.form;obtain ⟨B0,d0,f0,-,-⟩:=hb.tk.form;obtain ⟨B1,d1,f1,-,-⟩:=hb.tp.form;obtain ⟨B2,d2,f2,-,-⟩:=hb.vd.form;obtain ⟨B3,d3,f3,-,-⟩:=hb.dn.form;obtain ⟨B4,d4,f4,-,-⟩:=hb.gt.form;obtain ⟨B5,d5,f5,-,-⟩:=hb.vw.form;obtain ⟨s0,s1,s2,si,sg,sv⟩:=x;obtain ⟨t0,t1,t2,ti,tg,tv⟩:=y;simp only at e0 e1_ e2_ e3 e4 e5 f0 f1 f2 f3 f4 f5;subst e0 e1_ e2_ e3 e4 e5 f0 f1 f2 f3 f4 f5;clear ha hb;unfold sta at HS HZ;unfold sv0 at HZ;unfold sta
 have hif : (decide (a = if e2 ≠ 0 then st0 else b)) = if e2 ≠ 0 then decide (a = st0) else decide (a = b):=by split <;> rfl
 rw [hif];clear hif;generalize decide (a = st0) = q0 at *;generalize decide (a = b) = q1 at *;simp only [st0,ld0,dn0,List.length_nil] at HS HZ ⊢
 by_cases h2 : e2 = 0
 ·have hb2 : (e2 != 0) = false:=by simpa using h2
  rw [if_neg (by simpa using h2)];clear h2 HZ
  by_cases h1 : e1 = e2
  ·have hb1 : (e1 == e2) = true:=by simpa using h1
   rw [hb1,Bool.true_and];clear h1;go_enter Tryz.func23,Tryz.ntmps23;go_wp2_with fail;(refine gA (HS.out _ Je) fun w1 H1 hz1=>?_);go_wp2_with fail;go_ret;refine ⟨Jq rfl,?_⟩;exact Je
  ·have hb1 : (e1 == e2) = false:=by simpa using h1
   rw [hb1,Bool.false_and];clear h1;go_enter Tryz.func23,Tryz.ntmps23;go_wp2_with fail;go_ret;refine ⟨Jq rfl,?_⟩;exact Je
 ·have hb2 : (e2 != 0) = true:=by simpa using h2
  rw [if_pos (by simpa using h2)];clear h2 HS
  by_cases h1 : e1 = e2
  ·have hb1 : (e1 == e2) = true:=by simpa using h1
   rw [hb1,Bool.true_and];clear h1;go_enter Tryz.func23,Tryz.ntmps23;go_wp2_with fail;(refine gA (HZ.out _ Je) fun w1 H1 hz1=>?_);go_wp2_with fail;go_ret;refine ⟨Jq rfl,?_⟩;exact Je
  ·have hb1 : (e1 == e2) = false:=by simpa using h1
   rw [hb1,Bool.false_and];clear h1;go_enter Tryz.func23,Tryz.ntmps23;go_wp2_with fail;go_ret;refine ⟨Jq rfl,?_⟩;exact Je
theorem law_stationIs_so (a b : St) (e1 : Int) (x y : Sv) (w : World) (ha : RdS w x a) (hb : RdS w y b) (h : a = if e1 ≠ 0 then st0 else b) :
  Calls Tryz.prog 23 #[.agg (sta a x),.int .i64 e1,.int .i64 e1,.agg (sta b y)] w fun e w'=>e = .returned (.bool true) /\ Ext w w':=by
 have:=law_stationIs a b e1 e1 x y w ha hb;rw [decide_eq_true h] at this
 simpa using this
end Go.Proofs.YteojjbhadgkfgaaGreat
