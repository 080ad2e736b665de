/- Qp: parts of the proofs, laid together. -/
import Derived.Test.YteojjbhadgkfgaaGreatQn
import Derived.Test.YteojjbhadgkfgaaGreatQu
import Derived.Test.YteojjbhadgkfgaaGreatQh
import Derived.Test.YteojjbhadgkfgaaGreatQs
import Derived.Test.YteojjbhadgkfgaaGreatQb
import Derived.Test.YteojjbhadgkfgaaGreatQl
import Derived.Test.YteojjbhadgkfgaaGreatQk
import Derived.Test.YteojjbhadgkfgaaGreatQw
/- The reference's SyncAt. -/
set_option maxHeartbeats 64000000
namespace Go.Proofs.YteojjbhadgkfgaaGreat
set_option linter.unusedSimpArgs false
set_option linter.unusedVariables false
set_option maxRecDepth 100000
open Go Go.RowKit Lb

theorem split2a {G : World -> Nat -> Prop} {goal : Prop} (main : (∀ a b,G a b) -> goal) (pf : ∀ a b,G a b) : goal:=main pf
theorem split4a {G : World -> Nat -> Option Addr -> Nat -> Prop} {goal : Prop} (main : (∀ a b c d,G a b c d) -> goal) (pf : ∀ a b c d,G a b c d) : goal:=main pf
theorem syncRaw_range {s : St} {g time : Int} (h : within g 0 2 = false) : JZ s g time = (st0,[],3):=by
 have : ZU s g time = (s,[],3):=by unfold ZU;rw [if_pos h]
 unfold JZ;rw [this];rfl
theorem syncRaw_main {s : St} {time : Int} {m : Nat} (hw : within (m : Int) 0 2 = true) (hlt : m < s.Jg.length) :
  JZ s (m : Int) time = if led s = false then (st0,[],4) else if within time 0 9999 = false then (st0,[],3)
   else if (ZA s.Ja s.Jg[m].Jn).2.2 ≠ 0 then (st0,[],(ZA s.Ja s.Jg[m].Jn).2.2)
   else (⟨(ZA s.Ja s.Jg[m].Jn).1,Zq s.Jb (ZA s.Ja s.Jg[m].Jn).2.1,s.Jg.set m (toldG s.Jg[m] (Zq s.Jb (ZA s.Ja s.Jg[m].Jn).2.1) time),s.Jj⟩,(ZA s.Ja s.Jg[m].Jn).2.1,0):=by
 unfold JZ ZU;simp only [hw,Bool.true_eq_false,if_false,Int.toNat_natCast];rw [bang_get hlt]
 cases led s with
 | false=>simp
 | true =>
  simp only [Bool.true_eq_false,if_false]
  cases within time 0 9999 with
  | false=>simp
  | true =>
   simp only [Bool.true_eq_false,if_false]
   by_cases h : (ZA s.Ja s.Jg[m].Jn).2.2 = 0 <;> simp [h]
theorem ref_SyncAt {P : Nat -> Prop} (s : St) (x : Sv) (g time : Int) (w : World) (hrp : JX P w x s) (hP : ∀ q,P q -> q < w.heap.size) (rs : JJ s) :
  Calls Tryz.prog 17 #[.agg (sta s x),.int .i64 g,.int .i64 time] w fun e w'=>∃ x' v,e = .returned (.tuple #[.agg (sta (JZ s g time).1 x'),v,.int .i64 (JZ s g time).2.2]) /\ Ext w w' /\ JX (fun q=>P q \/ w.heap.size <= q) w' x' (JZ s g time).1 /\ RdP (fun q=>P q \/ w.heap.size <= q) 5 tpc w' v (JZ s g time).2.1:=by
 have hr:=hrp.rd;have HVP:=hH hrp;have HP:=hH hP;clear hP;have KB:=hH (fun (w' : World)=>JA g 0 2 w')
 by_cases hw : within g 0 2 = true
 case neg =>
  have hwf : within g 0 2 = false:=by simpa using hw
  rw [syncRaw_range hwf];rw [hwf] at KB;obtain ⟨A0,c0,e0,-,-⟩:=hr.tk.form;obtain ⟨A1,c1,e1,-,-⟩:=hr.tp.form;obtain ⟨A2,c2,e2,-,-⟩:=hr.vd.form;obtain ⟨A3,c3,e3,-,-⟩:=hr.dn.form;obtain ⟨A4,c4,e4,hc4,-⟩:=hr.gt.form;obtain ⟨A5,c5,e5,-,-⟩:=hr.vw.form;obtain ⟨s0,s1,s2,si,sg,sv⟩:=x;simp only at e0 e1 e2 e3 e4 e5;subst e0 e1 e2 e3 e4 e5;clear hr hrp hc4 rs hw hwf;unfold sta
  simp only
  go_enter Tryz.func17,Tryz.ntmps17;go_wp2_with fail;refine gB (KB.out _) ?_;go_wp2_with fail;exact bodyPost_ret (v:=.tuple #[.agg #[.slice none 0 0,.slice none 0 0,.slice none 0 0,.int .i64 0,.slice none 0 0,.slice none 0 0,.slice none 0 0],.slice none 0 0,.int .i64 3]) (by simp [results,Tryz.results17,go_sem, *]) rfl ⟨sv0,.slice none 0 0,rfl,(Je : Ext w _),JX.nil,RdP.nil⟩
 rw [hw] at KB;obtain ⟨hg0,hg2,hgm⟩:=within_nat (a:=0) hw;obtain ⟨m,rfl⟩ : ∃ m : Nat,g = m:=⟨g.toNat,hgm.symm⟩
 have hm3 : m < 3:=by omega
 have hlt : m < s.Jg.length:=by rw [rs.len];exact hm3
 have hmi : (m : Int) < (3 : Int):=by omega
 have hm0 : ¬ (m : Int) < 0:=by omega
 have hmg : ¬ (m : Int) ≥ (3 : Int):=by omega
 have hmN : decide (3 <= m) = false:=by simp;omega
 have hmF : decide ((3 : Int) <= (m : Int)) = false:=by simp;omega
 have hmG : decide ((m : Int) ≥ (3 : Int)) = false:=by simp;omega
 have h12:=(Zh.1 (rs.Jg m hlt).1).len
 have hi12 : intoL s.Ja s.Jg[m].Jn = ZA s.Ja s.Jg[m].Jn:=by unfold intoL;rw [if_neg (by omega)]
 have KW:=hH (fun w' (h : Ext w w')=>ref_WhoOf s.Jj x.sv w' (hr.vw.ext h) rs.Jj);obtain ⟨ys,hys,hyrow,hyin⟩:=hrp.gt;have KC:=hH (fun w' (h : Ext w w')=>ref_copied s x w' (hr.ext h) ys hys (hyrow.rd.ext h) (fun y hy=>⟨(hyin y hy).1.rd.ext h,(hyin y hy).2.rd.ext h⟩) (by rw [rs.len];decide))
 have hy3 : ys.length = 3:=by have:=rs.len;rw [hys] at this;simpa using this
 have HYS:=hH (And.intro hys (And.intro hyin hy3));clear hyrow hyin hys;have KBT:=hH (fun (w' : World)=>JA time 0 9999 w');have HRES:=hH (syncRaw_main (time:=time) hw hlt);have HDO:=hH (fun (l : List Tp)=>(denyS_ok l rs.Jb).1);have hckd:=rs.Jb;have hrl:=rs.len;have HV:=hH hr;obtain ⟨A0,c0,e0,-,-⟩:=hr.tk.form;obtain ⟨A1,c1,e1,-,-⟩:=hr.tp.form;obtain ⟨A2,c2,e2,-,-⟩:=hr.vd.form;obtain ⟨A3,c3,e3,-,-⟩:=hr.dn.form;obtain ⟨A4,c4,e4,hc4,-⟩:=hr.gt.form;obtain ⟨A5,c5,e5,-,-⟩:=hr.vw.form;have hat:=hr.gt.at_ e4 hlt;rw [hrl] at e4 hc4
 have hcap : (3 : Int) <= (c4 : Int):=by omega
 obtain ⟨bs,os,sa1,si1,hA4,hbs,ra1,rd1,g0,g1,g2,g3,g4,g5,g6,g7⟩:=hat;subst hA4;have KI:=hH (fun w' (h : Ext w w')=>hi12 ▸ ref_IntoOf s.Ja s.Jg[m].Jn x.s0 x.s1 x.s2 sa1 w' rs.Ja (hr.tk.ext h) (hr.tp.ext h) (hr.vd.ext h) (ra1.ext h) P hrp.tk.2 (fun q hq=>Nat.lt_of_lt_of_le (HP.out q hq) h.size));have KSO:=hH (fun (w' : World) (ht : within time 0 9999 = true) (ha : ∃ A n c,sa1 = .slice A n c) (hs : ∃ A n c,si1 = .slice A n c) (hd : ∃ A n c,x.si = .slice A n c)=>ref_SyncOf s.Jg[m] sa1 si1 s.Jb x.si time w' ht ha hs hd);obtain ⟨s0,s1,s2,si,sg,sv⟩:=x;simp only at e0 e1 e2 e3 e4 e5;subst e0 e1 e2 e3 e4 e5;clear hr hrp hc4 rs hi12 h12;unfold sta at KC ⊢;simp only at KW KC KI KSO HV ⊢;generalize hgs : s.Jg[m] = gs at *;obtain ⟨A8,c8,rfl,-,-⟩:=ra1.form;obtain ⟨A9,c9,rfl,-,-⟩:=rd1.form;have KSO2:=hH (fun (w' : World) (ht : within time 0 9999 = true)=>KSO.out w' ht ⟨_,_,_,rfl⟩ ⟨_,_,_,rfl⟩ ⟨_,_,_,rfl⟩);clear KSO ra1 rd1
 have hsi : ∃ A n c,(if gs.Jb.Jk < s.Jb.Jk then Value.slice A3 s.Jb.ids.length c3 else Value.slice A9 gs.Jb.ids.length c9) = .slice A n c:=by split <;> exact ⟨_,_,_,rfl⟩
 generalize (if gs.Jb.Jk < s.Jb.Jk then Value.slice A3 s.Jb.ids.length c3 else Value.slice A9 gs.Jb.ids.length c9) = SI at *;obtain ⟨A7,n7,c7,rfl⟩:=hsi;unfold gta synced at KSO2;simp only at KSO2;generalize pickD gs.Jb s.Jb = PD at *;obtain ⟨PV,PI⟩:=PD;simp only at KSO2;have htold : ∀ D,toldG gs D time = ⟨gs.id,gs.zone,gs.seq,[],D,9,time + 100⟩:=fun D=>rfl;have HTG:=hH htold;have HGS:=hH hgs;clear htold hgs;generalize hR : JZ s (m : Int) time = R at *;clear hR;generalize hq : whoV s.Jj = Q at *;obtain ⟨Q1,Q2⟩:=Q
 have hq2 : led s = Q2:=by unfold led;rw [hq]
 rw [hq2] at HRES;clear hq hq2 hw hg0 hg2 hgm;generalize hwt : within time 0 9999 = wt at *;obtain ⟨x0,x1,x2,al,⟨gv,gi⟩,x6,x7⟩:=gs;simp only at g0 g1 g2 g3 g4 g5 g6 g7 HRES KI KSO2 HTG;generalize ZA s.Ja al = M at *;obtain ⟨⟨M0,M1,M2⟩,M3,M4⟩:=M;simp only at HRES KI;go_enter Tryz.func17,Tryz.ntmps17;go_wp2_with fail;refine gB (KB.out _) ?_;go_wp2_with fail;(refine gA (KW.out _ Je) fun w1 H1 hz1=>?_;refine Ji w1 w.heap.size fun q1_0 f1_0 l1_0 R1_0=>?_;refine Ji w1 (w.heap.size + 1) fun q1_1 f1_1 l1_1 R1_1=>?_)
 cases Q2
 case false =>
  have HQ:=hH (show R = (st0,[],4) from by rw [HRES.out];simp);go_wp2_with fail;rw [HQ.out];exact bodyPost_ret (v:=.tuple #[.agg #[.slice none 0 0,.slice none 0 0,.slice none 0 0,.int .i64 0,.slice none 0 0,.slice none 0 0,.slice none 0 0],.slice none 0 0,.int .i64 4]) (by simp [results,Tryz.results17,go_sem, *]) rfl ⟨sv0,.slice none 0 0,rfl,(Je : Ext w _),JX.nil,RdP.nil⟩
 go_wp2_with fail;refine gB (KBT.out _) ?_
 cases wt
 case false =>
  have HQ:=hH (show R = (st0,[],3) from by rw [HRES.out];simp);go_wp2_with fail;rw [HQ.out];exact bodyPost_ret (v:=.tuple #[.agg #[.slice none 0 0,.slice none 0 0,.slice none 0 0,.int .i64 0,.slice none 0 0,.slice none 0 0,.slice none 0 0],.slice none 0 0,.int .i64 3]) (by simp [results,Tryz.results17,go_sem, *]) rfl ⟨sv0,.slice none 0 0,rfl,(Je : Ext w _),JX.nil,RdP.nil⟩
 replace HRES:=hH (show R = if M4 ≠ 0 then (st0,[],M4) else (⟨⟨M0,M1,M2⟩,Zq s.Jb M3,s.Jg.set m (toldG ⟨x0,x1,x2,al,⟨gv,gi⟩,x6,x7⟩ (Zq s.Jb M3) time),s.Jj⟩,M3,0) from by rw [HRES.out];simp);go_wp2_with fail;refine (KC.out _ Je).mono ?_;rintro e w2 ⟨sg',rfl,h2,ho2⟩;obtain ⟨gb,cg,hsg,hgl,hgb,h3c⟩:=ho2.slot (by omega);rw [hy3] at hsg h3c;subst hsg
 have hcg : (3 : Int) <= (cg : Int):=by omega
 have H2:=hH h2;have hz2:=h2.size;have HO2:=hH ho2;have HE2:=hH (And.intro trivial (Je : Ext w w2));clear h2 ho2 hy3 h3c;(refine Ji w2 w.heap.size fun q2_0 f2_0 l2_0 R2_0=>?_;refine Ji w2 (w.heap.size + 1) fun q2_1 f2_1 l2_1 R2_1=>?_)
 have hbs2 : bs < w2.heap.size:=by have:=HE2.out.2.size;omega
 have k0:=(HE2.out.2.cells bs _ hbs).trans g0;have k1:=(HE2.out.2.cells bs _ hbs).trans g1;have k2:=(HE2.out.2.cells bs _ hbs).trans g2;have k3:=(HE2.out.2.cells bs _ hbs).trans g3;have k4:=(HE2.out.2.cells bs _ hbs).trans g4;have k5:=(HE2.out.2.cells bs _ hbs).trans g5;have k6:=(HE2.out.2.cells bs _ hbs).trans g6;have k7:=(HE2.out.2.cells bs _ hbs).trans g7;clear q1_0 f1_0 l1_0 R1_0 q1_1 f1_1 l1_1 R1_1 g0 g1 g2 g3 g4 g5 g6 g7;go_upto_region 9 with fail;(apply Xj (w0:=w2) (g0:=w.heap.size) (g1:=w.heap.size + 1) (g2:=w2.heap.size);(focus (exact rowA));(focus (exact rowA));(focus (exact rowA));(focus (exact Je));intro W HW hzW Rz_0 Rz_1 Rz_2;(try simp only [Jm,World.size_alloc,size_set,World.heap_drewN,size_drew] at hzW Rz_0 Rz_1 Rz_2);have lz_0:=Rz_0.out.size;have lz_1:=Rz_1.out.size;have lz_2:=Rz_2.out.size);have HWW:=hH (And.intro trivial (HE2.out.2.trans HW.out));have HK:=hH (fun w' (h : Ext W w')=>And.intro (Row.ext h Rz_0.out).2.1 (And.intro (Row.ext h Rz_1.out).2.1 (And.intro (Row.ext h Rz_2.out).2.1 (And.intro (((HW.out.trans h).cells _ _ hbs2).trans k0) (And.intro (((HW.out.trans h).cells _ _ hbs2).trans k1) (And.intro (((HW.out.trans h).cells _ _ hbs2).trans k2) (And.intro (((HW.out.trans h).cells _ _ hbs2).trans k3) (And.intro (((HW.out.trans h).cells _ _ hbs2).trans k4) (And.intro (((HW.out.trans h).cells _ _ hbs2).trans k5) (And.intro (((HW.out.trans h).cells _ _ hbs2).trans k6) ((((HW.out.trans h).cells _ _ hbs2).trans k7))))))))))));clear k0 k1 k2 k3 k4 k5 k6 k7;(refine Jw (fun w'=>Ext W w') 14 (by kernel_rfl) ((Ext.refl _).drew) (fun hS=>?_);simp only [List.length_cons,List.length_nil]);(refine tkA 0 HK hS ?_;refine tkA 1 HK hS ?_;refine tkA 2 HK hS ?_;refine tkA 3 HK hS ?_;refine tkA 4 HK hS ?_;refine tkA 5 HK hS ?_;refine tkA 6 HK hS ?_;refine tkA 7 HK hS ?_);have HS0:=hH hS;clear hS;apply split2a
 ·intro key
  refine J3 (S2:=fun X=>Ext W X) HS0.out ?_;intro X1 hX;have hXX1:=hX.out;have HX1:=hH hXX1;have hzX1:=hXX1.size;clear hX hXX1;refine XD (i:=8) (j:=12) rfl rfl (by kernel_rfl) rfl rfl (fun K hK=>?_) (fun K hK=>?_)
  ·go_simp
   refine (KSO2.out _ (by first | exact hwt | trivial | rfl)).mono ?_;rintro e y2 ⟨rfl,h1⟩;have Hy2:=hH h1;have HWy2:=hH (And.intro trivial (HX1.out.trans h1));clear h1;go_simp;refine hK.out _ _ (.inr HWy2.out.2) ?_;clear hK;(try simp only [Act.put,Jm]);refine J3 (S2:=fun X=>Ext W X) HWy2.out.2 ?_;intro X2 hX;have hx:=hX.out;have HX2:=hH hx;have hzX2:=hx.size;have hS : Ext W X2:=hx;clear hX hx;(refine tkP 9 ?_;refine tkP 10 ?_;refine tkP 11 ?_);clear hS;refine oA 12 fun K hK=>?_;go_simp;refine hK.out _ _ (.inr (Je : Ext W _)) ?_;clear hK;(try simp only [Act.put,Jm]);obtain ⟨ga,hgga⟩ : ∃ g,g = X2.heap.size:=⟨_,rfl⟩;rw [<- hgga]
   have hwga : W.heap.size <= ga:=by omega
   refine J3 (S2:=fun X=>Ext W X /\ Bx X ga 52 #[.int .i64 0,.int .i64 0,.int .i64 0,.slice none 0 0,.int .i64 0,.slice none 0 0,.int .i64 0,.int .i64 0]) ⟨Je,(Bx.newAt hgga)⟩ ?_;intro X3 hX;obtain ⟨hx,hfbga⟩:=hX.out;have HX3:=hH hx;have hzX3:=hx.size;have HFbga:=hH hfbga;have qbga:=hfbga.row.2.1;have fbga:=hfbga.row.2.2;have lbga:=hfbga.lt;clear hfbga;clear hX hx;have HALL:=hH (show Ext W X3 /\ W.heap.size <= ga /\ Bx X3 ga 52 #[.int .i64 0,.int .i64 0,.int .i64 0,.slice none 0 0,.int .i64 0,.slice none 0 0,.int .i64 0,.int .i64 0] from ⟨HX3.out,hwga,HFbga.out⟩)
   try rw [<- hgga]
   refine Z5 (l2:=#[true,true,true,true,true,true,true,true,true,true,true,true,true,false,false]) (by kernel_rfl) ?_
   revert HALL
   exact key X3 ga
  ·go_simp
   refine hK.out _ _ (.inr (Je : Ext W _)) ?_;clear hK;(try simp only [Act.put,Jm]);obtain ⟨ga,hgga⟩ : ∃ g,g = X1.heap.size:=⟨_,rfl⟩;rw [<- hgga]
   have hwga : W.heap.size <= ga:=by omega
   refine J3 (S2:=fun X=>Ext W X /\ Bx X ga 52 #[.int .i64 0,.int .i64 0,.int .i64 0,.slice none 0 0,.int .i64 0,.slice none 0 0,.int .i64 0,.int .i64 0]) ⟨Je,(Bx.newAt hgga)⟩ ?_;intro X4 hX;obtain ⟨hx,hfbga⟩:=hX.out;have HX4:=hH hx;have hzX4:=hx.size;have HFbga:=hH hfbga;have qbga:=hfbga.row.2.1;have fbga:=hfbga.row.2.2;have lbga:=hfbga.lt;clear hfbga;clear hX hx;refine oA 8 fun K hK=>?_;go_simp;refine (KSO2.out _ (by first | exact hwt | trivial | rfl)).mono ?_;rintro e y5 ⟨rfl,h1⟩;have Hy5:=hH h1;have HWy5:=hH (And.intro trivial (HX4.out.trans h1));clear h1;go_simp;refine hK.out _ _ (.inr HWy5.out.2) ?_;clear hK;(try simp only [Act.put,Jm]);refine J3 (S2:=fun X=>Ext W X /\ Bx X ga 52 #[.int .i64 0,.int .i64 0,.int .i64 0,.slice none 0 0,.int .i64 0,.slice none 0 0,.int .i64 0,.int .i64 0]) ⟨HWy5.out.2,(HFbga.out.ext Hy5.out)⟩ ?_;intro X5 hX;clear HFbga;clear qbga fbga lbga;obtain ⟨hx,hfbga⟩:=hX.out;have HX5:=hH hx;have hzX5:=hx.size;have HFbga:=hH hfbga;have qbga:=hfbga.row.2.1;have fbga:=hfbga.row.2.2;have lbga:=hfbga.lt;clear hfbga;have hS : Ext W X5:=hx;clear hX hx;(refine tkP 9 ?_;refine tkP 10 ?_;refine tkP 11 ?_);clear hS;have HALL:=hH (show Ext W X5 /\ W.heap.size <= ga /\ Bx X5 ga 52 #[.int .i64 0,.int .i64 0,.int .i64 0,.slice none 0 0,.int .i64 0,.slice none 0 0,.int .i64 0,.int .i64 0] from ⟨HX5.out,hwga,HFbga.out⟩)
   try rw [<- hgga]
   refine Z5 (l2:=#[true,true,true,true,true,true,true,true,true,true,true,true,true,false,false]) (by kernel_rfl) ?_
   revert HALL
   exact key X5 ga
 ·intro X ga HALL
  obtain ⟨hx,hwga,hb1⟩:=HALL.out;have HX:=hH hx;have HFbga:=hH hb1;clear HALL hx hb1;have qbga:=HFbga.out.row.2.1;have fbga:=HFbga.out.row.2.2;have lbga:=HFbga.out.lt;have hzX:=HX.out.size;refine oA 13 fun K hK=>?_;go_simp;refine hK.out _ _ (.inr (Je : Ext W _)) ?_;clear hK;(try simp only [Act.put,Jm]);(refine oA 14 fun K hK=>?_;go_simp;refine hK.out _ _ (.inl (by kernel_rfl)) ?_;clear hK;(try simp only [Act.put,Jm]);refine Ju (by kernel_rfl) ?_ _);go_upto_region 10 with fail;have HRga:=hH (show Row ((((((((X.setCell ⟨ga,0,none⟩ (.int .i64 x0)).setCell ⟨ga,1,none⟩ (.int .i64 x1)).setCell ⟨ga,2,none⟩ (.int .i64 x2)).setCell ⟨ga,3,none⟩ (.slice none 0 0)).setCell ⟨ga,4,none⟩ (.int .i64 PV)).setCell ⟨ga,5,none⟩ (.slice A7 n7 c7)).setCell ⟨ga,6,none⟩ (.int .i64 9)).setCell ⟨ga,7,none⟩ (.int .i64 (time + 100))) ga #[.int .i64 x0,.int .i64 x1,.int .i64 x2,.slice none 0 0,.int .i64 PV,.slice A7 n7 c7,.int .i64 9,.int .i64 (time + 100)] from Bx.row (bxC (Bx.set (i:=7) (Bx.set (i:=6) (Bx.set (i:=5) (Bx.set (i:=4) (Bx.set (i:=3) (Bx.set (i:=2) (Bx.set (i:=1) (Bx.set (i:=0) HFbga.out)))))))) (by simp only [Jm])));have hfa : Fr (fun q=>q = ga) X ((((((((X.setCell ⟨ga,0,none⟩ (.int .i64 x0)).setCell ⟨ga,1,none⟩ (.int .i64 x1)).setCell ⟨ga,2,none⟩ (.int .i64 x2)).setCell ⟨ga,3,none⟩ (.slice none 0 0)).setCell ⟨ga,4,none⟩ (.int .i64 PV)).setCell ⟨ga,5,none⟩ (.slice A7 n7 c7)).setCell ⟨ga,6,none⟩ (.int .i64 9)).setCell ⟨ga,7,none⟩ (.int .i64 (time + 100))):=Fr.Jl rfl (Fr.Jl rfl (Fr.Jl rfl (Fr.Jl rfl (Fr.Jl rfl (Fr.Jl rfl (Fr.Jl rfl (Fr.Jl rfl (Fr.refl _ _))))))));have o7:=hfa.own (HO2.out.ext (Je : Ext w2 X)) (fun q hq ho=>by simp [Value.ownBlock] at hq;have : q = ga:=ho;omega);(refine Ji X w.heap.size fun qx_0 fx_0 lx_0 Rx_0=>?_;refine Ji X (w.heap.size + 1) fun qx_1 fx_1 lx_1 Rx_1=>?_;refine Ji X w2.heap.size fun qx_2 fx_2 lx_2 Rx_2=>?_);refine Xk (S:=fun Y=>Ext w Y /\ W.heap.size <= Y.heap.size /\ ga < Y.heap.size /\ Row Y ga #[.int .i64 x0,.int .i64 x1,.int .i64 x2,.slice none 0 0,.int .i64 PV,.slice A7 n7 c7,.int .i64 9,.int .i64 (time + 100)] /\ Row Y w.heap.size #[.slice A0 s.Ja.Jc.length c0,.slice A1 s.Ja.Jf.length c1,.slice A2 s.Ja.Jd.length c2,.int .i64 s.Jb.Jk,.slice A3 s.Jb.ids.length c3,.slice (some ⟨bs,os,none⟩) 3 c4,.slice A5 s.Jj.length c5] /\ Row Y (w.heap.size + 1) #[.slice none 0 0,.slice none 0 0,.slice none 0 0,.int .i64 0,.slice none 0 0,.slice none 0 0,.slice none 0 0] /\ Row Y w2.heap.size #[.slice A0 s.Ja.Jc.length c0,.slice A1 s.Ja.Jf.length c1,.slice A2 s.Ja.Jd.length c2,.int .i64 s.Jb.Jk,.slice A3 s.Jb.ids.length c3,.slice (some ⟨gb,0,none⟩) 3 cg,.slice A5 s.Jj.length c5] /\ Jh 52 8 gyc w1.heap.size Y (.slice (some ⟨gb,0,none⟩) 3 cg) ys) ⟨(Je : Ext w _),by simp;omega,by simp;omega,HRga.out,by exact rowA,by exact rowA,by exact rowA,o7⟩ ?_
  intro Y hY;obtain ⟨y1,y2,y2b,y3,y4,y4b,y5,y6⟩:=hY.out;have HY:=hH y1;have HYE:=hH (And.intro trivial y1);have HY3:=hH y3;have HY4:=hH y4;have HY4b:=hH y4b;have HY5:=hH y5;have HO6:=hH y6;have hzY:=y1.size;clear hY y1 y3 y4 y4b y5 y6 hfa o7 HRga qbga fbga lbga qx_0 fx_0 lx_0 Rx_0 qx_1 fx_1 lx_1 Rx_1 qx_2 fx_2 lx_2 Rx_2 HX HW H2 H1 HO2 KSO2 KC KB KW KBT;(refine Ji Y ga fun qy_0 fy_0 ly_0 Ry_0=>?_;refine Ji Y w.heap.size fun qy_1 fy_1 ly_1 Ry_1=>?_;refine Ji Y (w.heap.size + 1) fun qy_2 fy_2 ly_2 Ry_2=>?_;refine Ji Y w2.heap.size fun qy_3 fy_3 ly_3 Ry_3=>?_);go_wp2_with fail;refine (KI.out _ Je).mono ?_;rintro e w5 ⟨t0,t1,t2,so,rfl,h5,o0,o1,o2,oo⟩;(try simp only [lSz] at o0 o1 o2);obtain ⟨U0,u0,rfl⟩:=RdP.form o0;obtain ⟨U1,u1,rfl⟩:=RdP.form o1;obtain ⟨U2,u2,rfl⟩:=RdP.form o2;obtain ⟨C6,f6,rfl⟩:=oo.form;have H5:=hH h5;have hz5:=h5.size;have HU0:=hH o0;have HU1:=hH o1;have HU2:=hH o2;have HOO:=hH oo;clear h5 o0 o1 o2 oo;(refine Ji w5 ga fun q5_0 f5_0 l5_0 R5_0=>?_;refine Ji w5 (w.heap.size + 1) fun q5_1 f5_1 l5_1 R5_1=>?_;refine Ji w5 w2.heap.size fun q5_2 f5_2 l5_2 R5_2=>?_)
  by_cases h4 : M4 = 0
  case neg =>
   have h4b : (M4 == 0) = false:=by simpa using h4
   have h4c : (M4 != 0) = true:=by simpa using h4
   have HQ:=hH (show R = (st0,[],M4) from by rw [HRES.out,if_pos h4]);go_wp2_with fail;rw [HQ.out];exact bodyPost_ret (v:=.tuple #[.agg #[.slice none 0 0,.slice none 0 0,.slice none 0 0,.int .i64 0,.slice none 0 0,.slice none 0 0,.slice none 0 0],.slice none 0 0,.int .i64 M4]) (by simp [results,Tryz.results17,go_sem, *]) rfl ⟨sv0,.slice none 0 0,rfl,(Je : Ext w _),JX.nil,RdP.nil⟩
  subst h4;have HQ:=hH (show R = (⟨⟨M0,M1,M2⟩,Zq s.Jb M3,s.Jg.set m ⟨x0,x1,x2,[],Zq s.Jb M3,9,time + 100⟩,s.Jj⟩,M3,0) from by rw [HRES.out];simp [HTG.out]);go_upto_region 14 with fail
  have HRx:=hH (show Row (((w5.setCell ⟨w2.heap.size,0,none⟩ (.slice U0 M0.length u0)).setCell ⟨w2.heap.size,1,none⟩ (.slice U1 M1.length u1)).setCell ⟨w2.heap.size,2,none⟩ (.slice U2 M2.length u2)) w2.heap.size #[.slice U0 M0.length u0,.slice U1 M1.length u1,.slice U2 M2.length u2,.int .i64 s.Jb.Jk,.slice A3 s.Jb.ids.length c3,.slice (some ⟨gb,0,none⟩) 3 cg,.slice A5 s.Jj.length c5] from by
   have h:=Row.J4 (i:=2) (u:=.slice U2 M2.length u2) (Row.J4 (i:=1) (u:=.slice U1 M1.length u1) (Row.J4 (i:=0) (u:=.slice U0 M0.length u0) R5_2.out))
   simpa only [List.setIfInBounds_toArray,List.set_cons_zero,List.set_cons_succ] using h)
  refine Xk (S:=fun B=>Ext w B /\ Y.heap.size <= B.heap.size /\ Row B ga #[.int .i64 x0,.int .i64 x1,.int .i64 x2,.slice none 0 0,.int .i64 PV,.slice A7 n7 c7,.int .i64 9,.int .i64 (time + 100)] /\ Row B (w.heap.size + 1) #[.slice none 0 0,.slice none 0 0,.slice none 0 0,.int .i64 0,.slice none 0 0,.slice none 0 0,.slice none 0 0] /\ Row B w2.heap.size #[.slice U0 M0.length u0,.slice U1 M1.length u1,.slice U2 M2.length u2,.int .i64 s.Jb.Jk,.slice A3 s.Jb.ids.length c3,.slice (some ⟨gb,0,none⟩) 3 cg,.slice A5 s.Jj.length c5] /\ Jh 52 8 gyc w1.heap.size B (.slice (some ⟨gb,0,none⟩) 3 cg) ys /\ RdQ P Y.heap.size 6 tkc B (.slice U0 M0.length u0) M0 /\ RdQ P Y.heap.size 5 tpc B (.slice U1 M1.length u1) M1 /\ RdQ P Y.heap.size 1 inc B (.slice U2 M2.length u2) M2 /\ Jh 57 5 tpc Y.heap.size B (.slice C6 M3.length f6) M3) ⟨(Je : Ext w _),by simp;omega,by exact rowA,by exact rowA,by exact rowA,?_,(by repeat (first | (with_reducible exact Hid.out ‹Hid (RdP _ _ _ _ _ _)›) | (with_reducible refine RdQ.Jl (b:=w.heap.size) HP.out (by simp <;> omega) ?_) | (with_reducible refine RdP.drew ?_) | (with_reducible refine RdP.alloc ?_ _) | (with_reducible refine RdP.ext ?_ (Hid.out ‹Hid (Ext _ _)›)))),(by repeat (first | (with_reducible exact Hid.out ‹Hid (RdP _ _ _ _ _ _)›) | (with_reducible refine RdQ.Jl (b:=w.heap.size) HP.out (by simp <;> omega) ?_) | (with_reducible refine RdP.drew ?_) | (with_reducible refine RdP.alloc ?_ _) | (with_reducible refine RdP.ext ?_ (Hid.out ‹Hid (Ext _ _)›)))),(by repeat (first | (with_reducible exact Hid.out ‹Hid (RdP _ _ _ _ _ _)›) | (with_reducible refine RdQ.Jl (b:=w.heap.size) HP.out (by simp <;> omega) ?_) | (with_reducible refine RdP.drew ?_) | (with_reducible refine RdP.alloc ?_ _) | (with_reducible refine RdP.ext ?_ (Hid.out ‹Hid (Ext _ _)›)))),?_⟩ ?_
  ·repeat (first | exact HO6.out | (with_reducible apply Jh.alloc) | (with_reducible apply Jh.drew) | (refine Jh.put ?_ (by simp [Value.ownBlock];omega) _) | (with_reducible refine Jh.ext ?_ (Hid.out ‹Hid (Ext _ _)›)))
  ·repeat (first | exact HOO.out | (with_reducible apply Jh.alloc) | (with_reducible apply Jh.drew) | (with_reducible apply Jh.Jl;focus (simp;omega)))
  intro B hB;obtain ⟨b1,b2,b3,b4,b5,b6,b7,b8,b9,b10⟩:=hB.out;have HB:=hH (And.intro trivial b1);have HB3:=hH b3;have HB4:=hH b4;have HB5:=hH b5;have HOG:=hH b6;have HT0:=hH b7;have HT1:=hH b8;have HT2:=hH b9;have HOT:=hH b10;have hzB:=b1.size;clear hB b1 b3 b4 b5 b6 b7 b8 b9 b10 q5_0 f5_0 l5_0 R5_0 q5_1 f5_1 l5_1 R5_1 q5_2 f5_2 l5_2 R5_2 HRx HU0 HU1 HU2 HOO H5 HY HY3 HY4 HY4b HY5 HO6 qy_0 fy_0 ly_0 Ry_0 qy_1 fy_1 ly_1 Ry_1 qy_2 fy_2 ly_2 Ry_2 qy_3 fy_3 ly_3 Ry_3 hz5;have HKD:=hH (fun (d : Dn) (sd : Value) (id : Int) (w' : World) (h : RdL 1 inc w' sd d.ids) (hd : Z9 d = 0)=>ref_DenyOf d sd id w' h hd);go_wp2_with fail
  go_loopg [17] M3.length (fun gg s17 wr=>∃ k : Nat,k <= M3.length /\ M3.length - k <= gg /\ s17 = .int .i64 k /\ ∃ d AD cD,Aside (Ext w wr /\ Fr (fun q=>q = w2.heap.size) B wr /\ Row wr w2.heap.size #[.slice U0 M0.length u0,.slice U1 M1.length u1,.slice U2 M2.length u2,.int .i64 d.Jk,.slice AD d.ids.length cD,.slice (some ⟨gb,0,none⟩) 3 cg,.slice A5 s.Jj.length c5] /\ RdQ P B.heap.size 1 inc wr (.slice AD d.ids.length cD) d.ids /\ Z9 d = 0) /\ Aside (Zq d (M3.drop k) = Zq s.Jb M3))
  case atStart=>exact ⟨0,by omega,by omega,rfl,s.Jb,A3,c3,⟨HB.out.2,Fr.refl _ _,HB5.out,(HVP.out.dn.ext HB.out.2).inl,hckd⟩,rfl⟩
  case round =>
   obtain ⟨k,hk,hg,rfl,d,AD,cD,HA,HD⟩:=hrel;obtain ⟨a1,a2,a3,a4,a5⟩:=HA.out;have HE:=hH a1;have HF:=hH a2;have HRX:=hH a3;have HDR:=hH a4;have hd0:=a5;have hzr:=a2.size;have hHD:=HD.out;have hzw:=a1.size;clear HA a1 a2 a3 a4 a5 HD;have HOTr:=hH (HF.out.own HOT.out (fun q hq ho=>by have:=(HOT.out.lt q hq).1;have : q = w2.heap.size:=ho;omega));(refine Ji wr w2.heap.size fun qr_0 fr_0 lr_0 Rr_0=>?_)
   by_cases hlt2 : k < M3.length
   ·have hki : (k : Int) < (M3.length : Int):=by omega
    have hkc : (k : Int) < (f6 : Int):=by
     obtain ⟨A,c,h,h2,-⟩:=(HOTr.out.rd Jr).form
     injection h with _ _ h3
     omega
    have hml : M3.length <= 9223372036854775807:=by
     obtain ⟨A,c,h,h2,h3⟩:=(HOTr.out.rd Jr).form;unfold maxLen at h3
     omega
    obtain ⟨bq,oq,hC6,hbq,cc0,-,-,-,-⟩:=(HOTr.out.rd Jr).tp_at (n:=M3.length) (c:=f6) rfl hlt2;subst hC6;rw [List.drop_eq_getElem_cons hlt2,denyS_cons] at hHD;have hnx:=(denyS_ok [M3[k]] hd0).1;rw [show Zq d [M3[k]] = (if (Za d M3[k].ticket).2 = 0 then (Za d M3[k].ticket).1 else d) from rfl] at hnx;generalize M3[k].ticket = tkt at *;have KD:=hH (fun w' (h : Ext wr w')=>HKD.out d (.slice AD d.ids.length cD) tkt w' (HDR.out.rd.ext h) hd0);generalize Za d tkt = DD at *;obtain ⟨⟨DV,DI⟩,DE⟩:=DD;simp only at KD hHD hnx;have HHD:=hH (And.intro hHD hnx);clear hHD hnx;go_upto_region 17 with fail;(apply wp_gen1 (w0:=wr) (g0:=w2.heap.size);(focus (exact rowA));(focus (exact Je));intro V2 HV2 hzV2 Rv_0;(try simp only [Jm,World.size_alloc,size_set,World.heap_drewN,size_drew] at hzV2 Rv_0);have lv_0:=Rv_0.out.size);have HK:=hH (fun w' (h : Ext V2 w')=>And.intro (Row.ext h Rv_0.out).2.1 ((((HV2.out.trans h).cells _ _ hbq).trans cc0)));clear cc0;(refine Jw (fun w'=>Ext V2 w') 13 (by kernel_rfl) ((Ext.refl _).drew) (fun hS=>?_);simp only [List.length_cons,List.length_nil]);(refine tkA 0 HK hS ?_;refine tkA 1 HK hS ?_;refine tkA 2 HK hS ?_;refine tkA 3 HK hS ?_;refine tkA 4 HK hS ?_;refine tkA 5 HK hS ?_;refine tkA 6 HK hS ?_);have HS0:=hH hS;clear hS;apply split4a
    ·intro key
     refine J3 (S2:=fun X=>Ext V2 X) HS0.out ?_;intro X1 hX;have hXX1:=hX.out;have HX1:=hH hXX1;have hzX1:=hXX1.size;clear hX hXX1;refine XD (i:=7) (j:=11) rfl rfl (by kernel_rfl) rfl rfl (fun K hK=>?_) (fun K hK=>?_)
     ·go_simp
      refine (KD.out _ (HV2.out.trans (Je : Ext V2 _))).mono ?_;rintro e y2 ⟨sq,rfl,h1,o1⟩;obtain ⟨C8,f8,rfl⟩:=o1.form;have Hy2:=hH h1;have HWy2:=hH (And.intro trivial (HX1.out.trans h1));have HNoA:=hH (show Jh 3 1 inc V2.heap.size y2 (.slice C8 DI.length f8) DI from o1.lower (by omega));clear h1;clear o1;go_simp;refine hK.out _ _ (.inr HWy2.out.2) ?_;clear hK;(try simp only [Act.put,Jm]);refine J3 (S2:=fun X=>Ext V2 X /\ Jh 3 1 inc V2.heap.size X (.slice C8 DI.length f8) DI) ⟨HWy2.out.2,HNoA.out⟩ ?_;intro X2 hX;obtain ⟨hx,hfoA⟩:=hX.out;have HX2:=hH hx;have hzX2:=hx.size;have HFoA:=hH hfoA;clear hfoA;have hS : Ext V2 X2:=hx;clear hX hx;(refine tkP 8 ?_;refine tkP 9 ?_;refine tkP 10 ?_);clear hS;refine oA 11 fun K hK=>?_;go_simp;refine hK.out _ _ (.inr (Je : Ext V2 _)) ?_;clear hK;(try simp only [Act.put,Jm]);obtain ⟨gd,hggd⟩ : ∃ g,g = X2.heap.size:=⟨_,rfl⟩;rw [<- hggd]
      have hwgd : V2.heap.size <= gd:=by omega
      refine J3 (S2:=fun X=>Ext V2 X /\ Jh 3 1 inc V2.heap.size X (.slice C8 DI.length f8) DI /\ Bx X gd 28 #[.int .i64 0,.slice none 0 0]) ⟨Je,(HFoA.out.ext ((Ext.refl _).alloc _)),(Bx.newAt hggd)⟩ ?_;intro X3 hX;clear HFoA;obtain ⟨hx,hfoA,hfbgd⟩:=hX.out;have HX3:=hH hx;have hzX3:=hx.size;have HFoA:=hH hfoA;clear hfoA;have HFbgd:=hH hfbgd;have qbgd:=hfbgd.row.2.1;have fbgd:=hfbgd.row.2.2;have lbgd:=hfbgd.lt;clear hfbgd;clear hX hx;have HALL:=hH (show Ext V2 X3 /\ V2.heap.size <= gd /\ Bx X3 gd 28 #[.int .i64 0,.slice none 0 0] /\ Jh 3 1 inc V2.heap.size X3 (.slice C8 DI.length f8) DI from ⟨HX3.out,hwgd,HFbgd.out,HFoA.out⟩)
      try rw [<- hggd]
      refine Z5 (l2:=#[true,true,true,true,true,true,true,true,true,true,true,true,false,false]) (by kernel_rfl) ?_
      revert HALL
      exact key X3 gd C8 f8
     ·go_simp
      refine hK.out _ _ (.inr (Je : Ext V2 _)) ?_;clear hK;(try simp only [Act.put,Jm]);obtain ⟨gd,hggd⟩ : ∃ g,g = X1.heap.size:=⟨_,rfl⟩;rw [<- hggd]
      have hwgd : V2.heap.size <= gd:=by omega
      refine J3 (S2:=fun X=>Ext V2 X /\ Bx X gd 28 #[.int .i64 0,.slice none 0 0]) ⟨Je,(Bx.newAt hggd)⟩ ?_;intro X4 hX;obtain ⟨hx,hfbgd⟩:=hX.out;have HX4:=hH hx;have hzX4:=hx.size;have HFbgd:=hH hfbgd;have qbgd:=hfbgd.row.2.1;have fbgd:=hfbgd.row.2.2;have lbgd:=hfbgd.lt;clear hfbgd;clear hX hx;refine oA 7 fun K hK=>?_;go_simp;refine (KD.out _ (HV2.out.trans (Je : Ext V2 _))).mono ?_;rintro e y5 ⟨sq,rfl,h1,o1⟩;obtain ⟨C8,f8,rfl⟩:=o1.form;have Hy5:=hH h1;have HWy5:=hH (And.intro trivial (HX4.out.trans h1));have HNoA:=hH (show Jh 3 1 inc V2.heap.size y5 (.slice C8 DI.length f8) DI from o1.lower (by omega));clear h1;clear o1;go_simp;refine hK.out _ _ (.inr HWy5.out.2) ?_;clear hK;(try simp only [Act.put,Jm]);refine J3 (S2:=fun X=>Ext V2 X /\ Bx X gd 28 #[.int .i64 0,.slice none 0 0] /\ Jh 3 1 inc V2.heap.size X (.slice C8 DI.length f8) DI) ⟨HWy5.out.2,(HFbgd.out.ext Hy5.out),HNoA.out⟩ ?_;intro X5 hX;clear HFbgd;clear qbgd fbgd lbgd;obtain ⟨hx,hfbgd,hfoA⟩:=hX.out;have HX5:=hH hx;have hzX5:=hx.size;have HFbgd:=hH hfbgd;have qbgd:=hfbgd.row.2.1;have fbgd:=hfbgd.row.2.2;have lbgd:=hfbgd.lt;clear hfbgd;have HFoA:=hH hfoA;clear hfoA;have hS : Ext V2 X5:=hx;clear hX hx;(refine tkP 8 ?_;refine tkP 9 ?_;refine tkP 10 ?_);clear hS;have HALL:=hH (show Ext V2 X5 /\ V2.heap.size <= gd /\ Bx X5 gd 28 #[.int .i64 0,.slice none 0 0] /\ Jh 3 1 inc V2.heap.size X5 (.slice C8 DI.length f8) DI from ⟨HX5.out,hwgd,HFbgd.out,HFoA.out⟩)
      try rw [<- hggd]
      refine Z5 (l2:=#[true,true,true,true,true,true,true,true,true,true,true,true,false,false]) (by kernel_rfl) ?_
      revert HALL
      exact key X5 gd C8 f8
    ·intro X gd C8 f8 HALL
     obtain ⟨hx,hwgd,hb1,ho1⟩:=HALL.out;have HX:=hH hx;have HFbgd:=hH hb1;have HFoA:=hH ho1;clear HALL hx hb1 ho1;have qbgd:=HFbgd.out.row.2.1;have fbgd:=HFbgd.out.row.2.2;have lbgd:=HFbgd.out.lt;have hzX:=HX.out.size;refine oA 12 fun K hK=>?_;go_simp;refine hK.out _ _ (.inr (Je : Ext V2 _)) ?_;clear hK;(try simp only [Act.put,Jm]);(refine oA 13 fun K hK=>?_;go_simp;refine hK.out _ _ (.inl (by kernel_rfl)) ?_;clear hK;(try simp only [Act.put,Jm]);refine Ju (by kernel_rfl) ?_ _)
     by_cases hDE : DE = 0
     ·subst hDE
      have hfd : Fr (fun q=>q = gd) X ((X.setCell ⟨gd,0,none⟩ (.int .i64 DV)).setCell ⟨gd,1,none⟩ (.slice C8 DI.length f8)):=Fr.Jl rfl (Fr.Jl rfl (Fr.refl _ _))
      have hbd : ∀ q,(fun q=>q = gd) q -> ∃ e2 cs,Bx X q e2 cs /\ e2 ∉ spK:=by rintro q rfl;exact ⟨_,_,HFbgd.out,by decide⟩
      have o3:=(HFoA.out.Zy hfd (offK hbd (by decide)));have HRgd:=hH (show Row ((X.setCell ⟨gd,0,none⟩ (.int .i64 DV)).setCell ⟨gd,1,none⟩ (.slice C8 DI.length f8)) gd #[.int .i64 DV,.slice C8 DI.length f8] from Bx.row (bxC (Bx.set (i:=1) (Bx.set (i:=0) HFbgd.out)) (by simp only [Jm])));(refine Ji X w2.heap.size fun qx_0 fx_0 lx_0 Rx_0=>?_)
      have hgdn : gd ≠ w2.heap.size:=by omega
      go_wp2_with fail;go_roundg (M3.length - (k + 1))
      case measure=>omega
      case rel =>
       refine ⟨k + 1,by omega,by omega,by go_num,⟨DV,DI⟩,C8,f8,⟨(Je : Ext w _),Fr.Jl rfl (Fr.Jl rfl (HF.out.step (Je : Ext wr _))),?_,⟨?_,?_⟩,by simpa using HHD.out.2⟩,by have h:=HHD.out.1;first | exact h | (rw [if_pos rfl] at h;exact h)⟩
       ·have h:=Row.J4 (i:=4) (u:=.slice C8 DI.length f8) (Row.J4 (i:=3) (u:=.int .i64 DV) (show Row ((X.setCell ⟨gd,0,none⟩ (.int .i64 DV)).setCell ⟨gd,1,none⟩ (.slice C8 DI.length f8)) w2.heap.size _ from Row.far (p:=⟨gd,1,none⟩) (by simp;omega) (Row.far (p:=⟨gd,0,none⟩) (by simp;omega) Rx_0.out)))
        simpa only [List.setIfInBounds_toArray,List.set_cons_zero,List.set_cons_succ] using h
       ·exact ((Jh.Jl (a:=⟨w2.heap.size,4,none⟩) (by simp;omega) (Jh.Jl (a:=⟨w2.heap.size,3,none⟩) (by simp;omega) o3)) : Jh 3 1 inc V2.heap.size _ (.slice C8 DI.length f8) DI).rd JD
       ·exact fun _ q hq=>.inr (by have:=(HFoA.out.lt q hq).1;omega)
     ·have hDEb : (DE == 0) = false:=by simpa using hDE
      (refine Ji X w2.heap.size fun qx_0 fx_0 lx_0 Rx_0=>?_);go_wp2_with fail;go_roundg (M3.length - (k + 1))
      case measure=>omega
      case rel=>exact ⟨k + 1,by omega,by omega,by go_num,d,AD,cD,⟨(Je : Ext w _),HF.out.step (Je : Ext wr _),Row.far (p:=⟨gd,1,none⟩) (by simp;omega) (Row.far (p:=⟨gd,0,none⟩) (by simp;omega) Rx_0.out),⟨HDR.out.1.ext (Je : Ext wr _),HDR.out.2⟩,hd0⟩,by have:=HHD.out.1;rw [if_neg hDE] at this;exact this⟩
   ·have hkn : k = M3.length:=by omega
    subst hkn;rw [List.drop_length] at hHD;have hHD2 : d = Zq s.Jb M3:=hHD;subst hHD2
    have hlt3 : ¬ (M3.length : Int) < (M3.length : Int):=by omega
    have HRga:=hH (HF.out.row (fun h : ga = w2.heap.size=>by omega) HB3.out);have HRres:=hH (HF.out.row (fun h : w.heap.size + 1 = w2.heap.size=>by omega) HB4.out);have HOGr:=hH (HF.out.own HOG.out (fun q hq ho=>by simp [Value.ownBlock] at hq;have : q = w2.heap.size:=ho;omega));have HT0r:=hH (RdQ.fr (b:=w.heap.size) HP.out (fun q hq=>by have : q = w2.heap.size:=hq;omega) HF.out HT0.out);have HT1r:=hH (RdQ.fr (b:=w.heap.size) HP.out (fun q hq=>by have : q = w2.heap.size:=hq;omega) HF.out HT1.out);have HT2r:=hH (RdQ.fr (b:=w.heap.size) HP.out (fun q hq=>by have : q = w2.heap.size:=hq;omega) HF.out HT2.out);clear HT0 HT1 HT2 HOG HB3 HB4 HB5 HOT hckd;(refine Ji wr ga fun qt_0 ft_0 lt_0 Rt_0=>?_;refine Ji wr (w.heap.size + 1) fun qt_1 ft_1 lt_1 Rt_1=>?_)
    have hmy : m < ys.length:=by rw [HYS.out.2.2];exact hm3
    have HBG:=hH (show ∀ i,i < 8 -> wr.frozen? ⟨gb,m * 8 + i,none⟩ = false /\ ∃ v,wr.cell? ⟨gb,m * 8 + i,none⟩ = some v from fun i hi=>by
     have hx:=Jh.field Jz HOGr.out m i hmy hi _ (Array.getElem?_eq_getElem (show i < (gyc ys[m]).size from hi))
     exact ⟨hx.2,_,hx.1⟩)
    have z0 : wr.frozen? ⟨gb,m * 8,none⟩ = false:=(HBG.out 0 (by decide)).1;have z1 : wr.frozen? ⟨gb,m * 8 + 1,none⟩ = false:=(HBG.out 1 (by decide)).1;have z2 : wr.frozen? ⟨gb,m * 8 + 2,none⟩ = false:=(HBG.out 2 (by decide)).1;have z3 : wr.frozen? ⟨gb,m * 8 + 3,none⟩ = false:=(HBG.out 3 (by decide)).1;have z4 : wr.frozen? ⟨gb,m * 8 + 4,none⟩ = false:=(HBG.out 4 (by decide)).1;have z5 : wr.frozen? ⟨gb,m * 8 + 5,none⟩ = false:=(HBG.out 5 (by decide)).1;have z6 : wr.frozen? ⟨gb,m * 8 + 6,none⟩ = false:=(HBG.out 6 (by decide)).1;have z7 : wr.frozen? ⟨gb,m * 8 + 7,none⟩ = false:=(HBG.out 7 (by decide)).1;obtain ⟨r0,y0⟩ : ∃ v,wr.cell? ⟨gb,m * 8,none⟩ = some v:=(HBG.out 0 (by decide)).2;obtain ⟨r1,y1⟩:=(HBG.out 1 (by decide)).2;obtain ⟨r2,y2⟩:=(HBG.out 2 (by decide)).2;obtain ⟨r3,y3⟩:=(HBG.out 3 (by decide)).2;obtain ⟨r4,y4⟩:=(HBG.out 4 (by decide)).2;obtain ⟨r5,y5⟩:=(HBG.out 5 (by decide)).2;obtain ⟨r6,y6⟩:=(HBG.out 6 (by decide)).2;obtain ⟨r7,y7⟩:=(HBG.out 7 (by decide)).2
    have hgbr : gb < wr.heap.size:=by omega
    have hgbg : gb ≠ ga:=by omega
    have hgbg2 : ga ≠ gb:=by omega
    have hgbw : gb ≠ w2.heap.size:=by omega
    go_wp2_with fail;rw [HQ.out];refine bodyPost_ret (v:=.tuple #[.agg #[.slice U0 M0.length u0,.slice U1 M1.length u1,.slice U2 M2.length u2,.int .i64 (Zq s.Jb M3).Jk,.slice AD (Zq s.Jb M3).ids.length cD,.slice (some ⟨gb,0,none⟩) 3 cg,.slice A5 s.Jj.length c5],.slice C6 M3.length f6,.int .i64 0]) (by simp [results,Tryz.results17,go_sem, *]) rfl ⟨⟨.slice U0 M0.length u0,.slice U1 M1.length u1,.slice U2 M2.length u2,.slice AD (Zq s.Jb M3).ids.length cD,.slice (some ⟨gb,0,none⟩) 3 cg,.slice A5 s.Jj.length c5⟩,.slice C6 M3.length f6,rfl,(Je : Ext w _),⟨?_,?_,?_,?_,⟨ys.set m ⟨⟨x0,x1,x2,[],Zq s.Jb M3,9,time + 100⟩,.slice none 0 0,.slice AD (Zq s.Jb M3).ids.length cD⟩,by rw [List.map_set,<- HYS.out.1],?_,fun y hy=>?_⟩,HVP.out.vw.inl.ext Je⟩,?_⟩
    ·(refine RdQ.down (n:=Y.heap.size) ?_ (by omega);repeat (first | (with_reducible exact Hid.out ‹Hid (RdP _ _ _ _ _ _)›) | (with_reducible refine RdQ.Jl (b:=w.heap.size) HP.out (by simp <;> omega) ?_) | (with_reducible refine RdP.drew ?_) | (with_reducible refine RdP.alloc ?_ _) | (with_reducible refine RdP.ext ?_ (Hid.out ‹Hid (Ext _ _)›))))
    ·(refine RdQ.down (n:=Y.heap.size) ?_ (by omega);repeat (first | (with_reducible exact Hid.out ‹Hid (RdP _ _ _ _ _ _)›) | (with_reducible refine RdQ.Jl (b:=w.heap.size) HP.out (by simp <;> omega) ?_) | (with_reducible refine RdP.drew ?_) | (with_reducible refine RdP.alloc ?_ _) | (with_reducible refine RdP.ext ?_ (Hid.out ‹Hid (Ext _ _)›))))
    ·(refine RdQ.down (n:=Y.heap.size) ?_ (by omega);repeat (first | (with_reducible exact Hid.out ‹Hid (RdP _ _ _ _ _ _)›) | (with_reducible refine RdQ.Jl (b:=w.heap.size) HP.out (by simp <;> omega) ?_) | (with_reducible refine RdP.drew ?_) | (with_reducible refine RdP.alloc ?_ _) | (with_reducible refine RdP.ext ?_ (Hid.out ‹Hid (Ext _ _)›))))
    ·(refine RdQ.down (n:=B.heap.size) ?_ (by omega);repeat (first | (with_reducible exact Hid.out ‹Hid (RdP _ _ _ _ _ _)›) | (with_reducible refine RdQ.Jl (b:=w.heap.size) HP.out (by simp <;> omega) ?_) | (with_reducible refine RdP.drew ?_) | (with_reducible refine RdP.alloc ?_ _) | (with_reducible refine RdP.ext ?_ (Hid.out ‹Hid (Ext _ _)›))))
    ·refine Jh.rdq (e:=52) (base:=w1.heap.size) ?_ Jz (by omega)
     repeat (first | (with_reducible apply Jh.Jl;focus (simp;omega)) | (with_reducible apply Jh.drew))
     refine own_put8 (Jh.put (Jh.put HOGr.out (by simp [Value.ownBlock];omega) _) (by simp [Value.ownBlock];omega) _) hmy ⟨x0,x1,x2,[],Zq s.Jb M3,9,time + 100⟩ (.slice none 0 0) (.slice AD (Zq s.Jb M3).ids.length cD)
    ·rcases List.mem_or_eq_of_mem_set hy with hy | rfl
     ·exact ((HYS.out.2.1 y hy).weak (fun q hq=>.inl hq)).ext Je
     ·refine ⟨RdP.nil,?_⟩
      (refine RdQ.down (n:=B.heap.size) ?_ (by omega);repeat (first | (with_reducible exact Hid.out ‹Hid (RdP _ _ _ _ _ _)›) | (with_reducible refine RdQ.Jl (b:=w.heap.size) HP.out (by simp <;> omega) ?_) | (with_reducible refine RdP.drew ?_) | (with_reducible refine RdP.alloc ?_ _) | (with_reducible refine RdP.ext ?_ (Hid.out ‹Hid (Ext _ _)›))))
    ·refine Jh.rdq (e:=57) (base:=Y.heap.size) ?_ Jr (by omega)
     repeat (first | (with_reducible apply Jh.Jl;focus (simp;omega)) | (with_reducible apply Jh.drew))
     exact HOTr.out

theorem ref_CheckStation (s : St) (x : Sv) (w : World) (hr : RdS w x s) :
  Calls Tryz.prog 14 #[.agg (sta s x)] w fun e w'=>e = .returned (.int .i64 (Z4 s)) /\ Ext w w':=by
 have K1:=hH (fun w' (h : Ext w w')=>ref_CheckLedger s.Ja.Jc s.Ja.Jf s.Ja.Jd x.s0 x.s1 x.s2 w' (hr.tk.ext h) (hr.tp.ext h) (hr.vd.ext h));have K2:=hH (fun w' (h : Ext w w')=>ref_CheckDenied s.Jb x.si w' (hr.dn.ext h));have KV:=hH (fun w' (h : Ext w w')=>ref_CheckViews s.Jj x.sv w' (hr.vw.ext h));have HGT:=hH hr.gt;have HTP:=hH hr.tp;obtain ⟨⟨tks,Jf,vs⟩,⟨ver,ids⟩,gts,vws⟩:=s;obtain ⟨s0,s1,s2,si,sg,sv⟩:=x;obtain ⟨h0,h1,h2,h3,h4,h5⟩:=hr;simp only at h0 h1 h2 h3 h4 h5 K1 K2 KV HGT HTP;obtain ⟨A0,c0,rfl,-,-⟩:=h0.form;obtain ⟨A1,c1,rfl,hc1,hm1⟩:=h1.form;obtain ⟨A2,c2,rfl,-,-⟩:=h2.form;obtain ⟨A3,c3,rfl,-,-⟩:=h3.form;obtain ⟨A4,c4,rfl,hc4,-⟩:=h4.form;obtain ⟨A5,c5,rfl,-,-⟩:=h5.form
 have hml : Jf.length <= 9223372036854775807:=by unfold maxLen at hm1;omega
 clear h0 h1 h2 h3 h4 h5 hm1;unfold Z4
 simp only
 generalize Js ⟨tks,Jf,vs⟩ = e1 at *;generalize Z9 ⟨ver,ids⟩ = e2 at *;generalize JI vws = e3 at *;generalize hg : ZG Jf ver 0 gts = e4;have HG:=hH hg;clear hg;generalize hm : gts.length = m at *;have HM:=hH hm;clear hm;generalize hr : (if e1 ≠ 0 then e1 else if e2 ≠ 0 then e2 else if m ≠ 3 then 1 else if e4 ≠ 0 then e4 else e3) = r;have HR:=hH hr;clear hr;unfold sta
 simp only
 go_enter Tryz.func14,Tryz.ntmps14;go_wp2_with fail;(refine gA (K1.out _ Je) fun w1 H1 hz1=>?_;refine Ji w1 w.heap.size fun q1_0 f1_0 l1_0 R1_0=>?_)
 by_cases n1 : e1 = 0
 case neg =>
  have HQ:=hH (show e1 = r by rw [<- HR.out];simp [n1])
  have n1' : (e1 == 0) = false:=by simpa using n1
  have n1'' : (e1 != 0) = true:=by simpa using n1
  go_wp2_with fail;go_ret;exact ⟨Jo HQ.out,(Je : Ext w _)⟩
 subst n1;go_wp2_with fail;(refine gA (K2.out _ Je) fun w2 H2 hz2=>?_;refine Ji w2 w.heap.size fun q2_0 f2_0 l2_0 R2_0=>?_)
 by_cases n2 : e2 = 0
 case neg =>
  have HQ:=hH (show e2 = r by rw [<- HR.out];simp [n2])
  have n2' : (e2 == 0) = false:=by simpa using n2
  have n2'' : (e2 != 0) = true:=by simpa using n2
  go_wp2_with fail;go_ret;exact ⟨Jo HQ.out,(Je : Ext w _)⟩
 subst n2
 by_cases n3 : m = 3
 case neg =>
  have HQ:=hH (show 1 = r by rw [<- HR.out];simp [n3])
  have n3' : ((m : Int) == 3) = false:=by simpa using (by omega : ¬ (m : Int) = 3)
  have n3'' : ((m : Int) != 3) = true:=by simpa using (by omega : ¬ (m : Int) = 3)
  go_wp2_with fail;go_ret;exact ⟨Jo HQ.out,(Je : Ext w _)⟩
 have HQ:=hH (show (if e4 ≠ 0 then e4 else e3) = r by rw [<- HR.out];simp [n3]);subst n3
 have hcap : (3 : Int) <= (c4 : Int):=by omega
 have HW:=hH (And.intro trivial ((Je : Ext w w2)));clear q1_0 f1_0 l1_0 R1_0 H1 hz1 K1 K2;go_wp2_with fail
 go_loopg [4] 3 (fun gg s4 wr=>∃ k : Nat,k <= 3 /\ 3 - k <= gg /\ s4 = .int .i64 k /\ Aside (Ext w2 wr /\ ZG Jf ver k (gts.drop k) = e4))
 case atStart=>exact ⟨0,by omega,by omega,rfl,Ext.refl _,HG.out⟩
 case round =>
  obtain ⟨k,hk,hg,rfl,HA⟩:=hrel;have HE:=hH HA.out.1;have HC:=hH HA.out.2;clear HA;(refine Ji wr w.heap.size fun qr_0 fr_0 lr_0 Rr_0=>?_)
  by_cases hlt : k < 3
  ·have hkl : k < gts.length:=by rw [HM.out];exact hlt
   have hlt' : (k : Int) < 3:=by omega
   have hc:=HC.out;rw [List.drop_eq_getElem_cons hkl,ckGates_cons] at hc;have hxw:=HW.out.2.trans HE.out;obtain ⟨ba,oa,sa3,si3,hA,hba,ra,rd,p0,p1,p2,p3,p4,p5,p6,p7⟩:=(HGT.out.ext hxw).at_ (n:=3) (c:=c4) rfl hkl;subst hA;have KG:=hH (fun w' (h : Ext wr w')=>ref_CheckGate gts[k] sa3 si3 w' (ra.ext h) (rd.ext h));have HKN:=hH (fun (p : Tp) (h1 : J7 gts[k] = 0) (h2 : gts[k].id = (k : Int))=>known_eq h1 h2 p);have KTW:=hH (fun (p : Tp) (w' : World) (h : Ext wr w')=>ref_isTwice gts[k].Jn gts[k].Jn.length p sa3 w' (Nat.le_refl _) (ra.ext h))
   have hat : atG Jf ver k gts[k] = if J7 gts[k] ≠ 0 then J7 gts[k] else if gts[k].id ≠ (k : Int) \/ ver < gts[k].Jb.Jk then 4 else if Jf.any (knownP k gts[k]) = true then 6 else 0:=rfl
   generalize atG Jf ver k gts[k] = a at *;obtain ⟨A8,c8,rfl,-,-⟩:=ra.form;obtain ⟨A9,c9,rfl,-,-⟩:=rd.form;clear ra rd hxw;generalize gts[k] = ga at *;clear hkl;obtain ⟨y0,y1,y2,al,⟨gv,gi⟩,y6,y7⟩:=ga;unfold gta at KG;simp only at p0 p1 p2 p3 p4 p5 p6 p7 KG HKN hat KTW;generalize hck : J7 ⟨y0,y1,y2,al,⟨gv,gi⟩,y6,y7⟩ = q at *;have HH:=hH hc;have HAT:=hH hat;clear hc hat hck;go_wp2_with fail;refine (KG.out _ Je).mono ?_;(rintro e w3 ⟨rfl,h3⟩;have H3:=hH h3;have hz3:=h3.size;clear h3;(try simp only [lSz] at hz3);refine Ji w3 w.heap.size fun q3_0 f3_0 l3_0 R3_0=>?_;refine Ji w3 wr.heap.size fun q3_1 f3_1 l3_1 R3_1=>?_)
   by_cases hq : q = 0
   case neg =>
    have hqb : (q == 0) = false:=by simpa using hq
    have hqc : (q != 0) = true:=by simpa using hq
    have HF:=hH (show q = r by
     have h1 : a = q:=by rw [HAT.out,if_pos hq]
     have:=HH.out;rw [h1,if_pos hq] at this
     rw [<- HQ.out,<- this,if_pos hq])
    go_wp2_with fail;go_ret;exact ⟨Jo HF.out,HW.out.2.trans (Je : Ext w2 _)⟩
   subst hq
   have HF4:=hH (fun (h : a = 4)=>(show (4 : Int) = r by
    have:=HH.out;rw [h,if_pos (by decide)] at this;rw [<- HQ.out,<- this]
    rfl))
   have HF6:=hH (fun (h : a = 6)=>(show (6 : Int) = r by
    have:=HH.out;rw [h,if_pos (by decide)] at this;rw [<- HQ.out,<- this]
    rfl))
   by_cases hid : y0 = (k : Int)
   case neg =>
    have hidb : (y0 != (k : Int)) = true:=by simpa using hid
    have HF:=hH (HF4.out (by rw [HAT.out];simp [hid]));go_wp2_with fail;go_ret;exact ⟨Jo HF.out,HW.out.2.trans (Je : Ext w2 _)⟩
   have hidb : (y0 != (k : Int)) = false:=by simpa using hid
   by_cases hv : ver < gv
   ·have hvb : decide (gv > ver) = true:=by simpa using hv
    have hvc : decide (ver < gv) = true:=by simpa using hv
    have HF:=hH (HF4.out (by rw [HAT.out];simp [hv]));go_wp2_with fail;go_ret;exact ⟨Jo HF.out,HW.out.2.trans (Je : Ext w2 _)⟩
   have hvb : decide (gv > ver) = false:=by simpa using hv
   have hvc : decide (ver < gv) = false:=by simpa using hv
   have HAN:=hH (show a = if Jf.any (knownP k ⟨y0,y1,y2,al,⟨gv,gi⟩,y6,y7⟩) = true then 6 else 0 by rw [HAT.out];simp [hid,hv]);have HK2:=hH (fun (p : Tp)=>HKN.out p rfl hid);clear HKN HF4 p0 p1 p2 p3 p4 p5 p6 p7;generalize hkn : knownP k ⟨y0,y1,y2,al,⟨gv,gi⟩,y6,y7⟩ = kn at *;clear hkn;generalize hz : Jf.any kn = z at *;have HZ:=hH hz;clear hz;obtain ⟨wo,rfl⟩ : ∃ wo : World,wo = wr:=⟨_,rfl⟩;have HX3:=hH (And.intro trivial (show Ext w w3 from HW.out.2.trans (Je : Ext w2 w3)));have HO3:=hH (And.intro trivial (Je : Ext wo w3));have H23:=hH (And.intro trivial (Je : Ext w2 w3));clear qr_0 fr_0 lr_0 Rr_0;go_wp2_with fail
   go_loopg [7] Jf.length (fun gg s7 wr=>∃ j : Nat,j <= Jf.length /\ Jf.length - j <= gg /\ s7 = .int .i64 j /\ Aside (Ext w3 wr /\ (Jf.drop j).any kn = z))
   case atStart=>exact ⟨0,by omega,by omega,rfl,Ext.refl _,HZ.out⟩
   case round =>
    obtain ⟨j,hj,hgj,rfl,HA⟩:=hrel;have HEJ:=hH HA.out.1;have HCJ:=hH HA.out.2;clear HA;(refine Ji wr w.heap.size fun qs_0 fs_0 ls_0 Rs_0=>?_;refine Ji wr wo.heap.size fun qs_1 fs_1 ls_1 Rs_1=>?_)
    by_cases hltj : j < Jf.length
    ·have hltj' : (j : Int) < (Jf.length : Int):=by omega
     have hcj:=HCJ.out;rw [List.drop_eq_getElem_cons hltj,List.any_cons] at hcj
     have hcc1 : (j : Int) < (c1 : Int):=by omega
     obtain ⟨bt,ot,hA1,hbt,t0,t1,t2,t3,t4⟩:=(HTP.out.ext (HX3.out.2.trans HEJ.out)).tp_at (n:=Jf.length) (c:=c1) rfl hltj;subst hA1;have KT2:=hH (fun w' (h : Ext w3 w')=>KTW.out Jf[j] w' (HO3.out.2.trans h));have hk2:=HK2.out Jf[j];generalize Jf[j] = p at *;obtain ⟨x0,x1,x2,x3,x4⟩:=p;simp only [show tpc ⟨x0,x1,x2,x3,x4⟩ = #[.int .i64 x0,.int .i64 x1,.int .i64 x2,.int .i64 x3,.int .i64 x4] from rfl,List.take_length] at KT2;simp only at t0 t1 t2 t3 t4 hk2;generalize al.any (JM ⟨x0,x1,x2,x3,x4⟩) = tw at *;generalize kn ⟨x0,x1,x2,x3,x4⟩ = kp at *;have HKP:=hH hk2;have HCP:=hH hcj;clear hk2 hcj
     by_cases hgt : x1 = (k : Int)
     ·subst hgt
      have hgb : ((k : Int) == (k : Int)) = true:=by simp
      by_cases hs : y2 < x2
      ·have hsb : decide (x2 > y2) = true:=by simpa using hs
       have hsc : decide (y2 < x2) = true:=by simpa using hs
       have HF:=hH (HF6.out (by
        have h1:=HKP.out;rw [hgb,hsc] at h1;have h2:=HCP.out;rw [<- h1] at h2;rw [HAN.out,<- h2]
        rfl))
       go_wp2_with fail;go_ret;exact ⟨Jo HF.out,HX3.out.2.trans (Je : Ext w3 _)⟩
      ·have hsb : decide (x2 > y2) = false:=by simpa using hs
       have hsc : decide (y2 < x2) = false:=by simpa using hs
       go_wp2_with fail;refine (KT2.out _ Je).mono ?_;(rintro e w5 ⟨rfl,h5⟩;have H5:=hH h5;have hz5:=h5.size;clear h5;(try simp only [lSz] at hz5);refine Ji w5 w.heap.size fun q5_0 f5_0 l5_0 R5_0=>?_;refine Ji w5 wo.heap.size fun q5_1 f5_1 l5_1 R5_1=>?_;refine Ji w5 wr.heap.size fun q5_2 f5_2 l5_2 R5_2=>?_)
       cases tw
       ·have HN:=hH (show (Jf.drop (j + 1)).any kn = z by
         have h1:=HKP.out;rw [hgb,hsc] at h1;have h2:=HCP.out;rw [<- h1] at h2
         exact h2)
        go_wp2_with fail;go_roundg (Jf.length - (j + 1))
        case measure=>omega
        case rel=>exact ⟨j + 1,by omega,by omega,by go_num,(Je : Ext w3 _),HN.out⟩
       ·have HF:=hH (HF6.out (by
         have h1:=HKP.out;rw [hgb,hsc] at h1;have h2:=HCP.out;rw [<- h1] at h2;rw [HAN.out,<- h2]
         rfl))
        go_wp2_with fail;go_ret;exact ⟨Jo HF.out,HX3.out.2.trans (Je : Ext w3 _)⟩
     ·have hgb : (x1 == (k : Int)) = false:=by simpa using hgt
      have HN:=hH (show (Jf.drop (j + 1)).any kn = z by
       have h1:=HKP.out;rw [hgb] at h1;have h2:=HCP.out;rw [<- h1] at h2
       exact h2)
      go_wp2_with fail;go_roundg (Jf.length - (j + 1))
      case measure=>omega
      case rel=>exact ⟨j + 1,by omega,by omega,by go_num,(Je : Ext w3 _),HN.out⟩
    ·have hgej : ¬ (j : Int) < (Jf.length : Int):=by omega
     have HN:=hH (show ZG Jf ver (k + 1) (gts.drop (k + 1)) = e4 by
      have hd : Jf.drop j = []:=List.drop_eq_nil_of_le (by omega);have h1:=HCJ.out;rw [hd] at h1
      have h2 : a = 0:=by rw [HAN.out,<- h1];rfl
      have h3:=HH.out;rw [h2] at h3
      simpa using h3)
     go_wp2_with fail;go_roundg (3 - (k + 1))
     case measure=>omega
     case rel=>exact ⟨k + 1,by omega,by omega,by go_num,H23.out.2.trans (Je : Ext w3 _),HN.out⟩
  ·have hge : ¬ (k : Int) < 3:=by omega
   have HF:=hH (show e3 = r by
    have hd : gts.drop k = []:=List.drop_eq_nil_of_le (by rw [HM.out];omega);have:=HC.out;rw [hd] at this;rw [<- HQ.out,<- this]
    simp [ZG])
   go_wp2_with fail;refine (KV.out _ (HW.out.2.trans HE.out)).mono ?_;(rintro e w3 ⟨rfl,h3⟩;have H3:=hH h3;have hz3:=h3.size;clear h3;(try simp only [lSz] at hz3);refine Ji w3 w.heap.size fun q3_0 f3_0 l3_0 R3_0=>?_);go_wp2_with fail;go_ret;exact ⟨Jo HF.out,HW.out.2.trans (Je : Ext w2 _)⟩
end Go.Proofs.YteojjbhadgkfgaaGreat
