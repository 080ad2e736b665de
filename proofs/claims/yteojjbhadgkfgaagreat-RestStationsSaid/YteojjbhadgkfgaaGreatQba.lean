/- Qba: parts of the proofs, laid together. -/
import Derived.Test.YteojjbhadgkfgaaGreatQr
import Derived.Test.YteojjbhadgkfgaaGreatQs
/- spoilStation, with the set of blocks that it writes; a station of one's own is spoiled within its interval. -/
set_option maxHeartbeats 64000000
namespace Go.Proofs.YteojjbhadgkfgaaGreat
set_option linter.unusedSimpArgs false
set_option linter.unusedVariables false
set_option maxRecDepth 100000
open Go Go.RowKit Lb

def GxO (own : Nat -> Prop) (l : List Gx) : Prop:=∀ x ∈ l,(∀ q,x.sa.ownBlock = some q -> own q) /\ (∀ q,x.si.ownBlock = some q -> own q)
theorem GxO.set {own : Nat -> Prop} {l : List Gx} (h : GxO own l) (i : Nat) (hi : i < l.length) (z : Int) : GxO own (l.set i { l[i] with id:=z }):=by
 intro x hx
 rcases List.mem_or_eq_of_mem_set hx with hx | rfl
 ·exact h x hx
 ·exact h l[i] (List.getElem_mem hi)
theorem law_spoilStation2 (own : Nat -> Prop) (s0 s1 s2 si sg sv : Value) (ver : Int) (gl : List Gx) (lo : Nat) (w : World) (h0 : ZI lo 34 6 w s0) (h1 : ZI lo 57 5 w s1) (h2 : ZI lo 3 1 w s2)
  (hi : ZI lo 3 1 w si) (hv : ZI lo 110 3 w sv) (hg : Jh 52 8 gxc lo w sg gl) (hx : GxS lo w gl)
  (o0 : ∀ q,s0.ownBlock = some q -> own q) (o1 : ∀ q,s1.ownBlock = some q -> own q) (o2 : ∀ q,s2.ownBlock = some q -> own q) (oi : ∀ q,si.ownBlock = some q -> own q) (ov : ∀ q,sv.ownBlock = some q -> own q) (og : ∀ q,sg.ownBlock = some q -> own q) (ox : GxO own gl) :
  Calls Tryz.prog 48 #[.agg #[s0,s1,s2,.int .i64 ver,si,sg,sv]] w fun e w'=>e = .returned (.tuple #[]) /\ Sp own w w':=by
 have h3 : ∀ q,own3 s0 s1 s2 q -> own q /\ q < w.heap.size:=by
  rintro q (h | h | h)
  ·exact ⟨o0 q h,(h0.bnd q h).2⟩
  ·exact ⟨o1 q h,(h1.bnd q h).2⟩
  ·exact ⟨o2 q h,(h2.bnd q h).2⟩
 have OI:=hH oi;have OV:=hH ov;have OG:=hH og;have OX:=hH ox;clear oi ov og ox o0 o1 o2;have H0:=hH h0;have H1:=hH h1;have H2:=hH h2;obtain ⟨A0,n0,c0,rfl,-⟩:=h0.form;obtain ⟨A1,n1,c1,rfl,-⟩:=h1.form;obtain ⟨A2,n2,c2,rfl,-⟩:=h2.form;obtain ⟨A3,n3,c3,rfl,-⟩:=hi.form;obtain ⟨A4,n4,c4,rfl,-⟩:=hv.form;obtain ⟨A5,c5,rfl⟩:=hg.form;have hm3:=hi.le A3 n3 c3 rfl;have hm4:=hv.le A4 n4 c4 rfl;have hm5:=hg.XH.le A5 gl.length c5 rfl;have H3:=hH h3;have HI:=hH hi;have HV:=hH hv;have HG:=hH hg;have HX:=hH hx;clear h0 h1 h2 hi hv hg hx h3;obtain ⟨cs,hcs⟩ : ∃ cs : Array Value,cs = #[.slice A0 n0 c0,.slice A1 n1 c1,.slice A2 n2 c2,.int .i64 ver,.slice A3 n3 c3,.slice A5 gl.length c5,.slice A4 n4 c4]:=⟨_,rfl⟩;have HC:=hH hcs;go_enter Tryz.func48,Tryz.ntmps48;go_wp2_with fail;refine (law_spoilLedger _ _ _ lo _ (H0.out.ext Je) (H1.out.ext Je) (H2.out.ext Je)).mono ?_;rintro e w1 ⟨rfl,h1⟩;have hr:=h1.box (g:=w.heap.size) (cs:=cs) (fun h=>by have:=(H3.out _ h).2;omega) (by rw [hcs];exact rowA);have HS:=hH ((Sp.ZY (own:=own) ((Ext.refl w).alloc _)).trans (h1.weaken (fun q h=>(H3.out q h).1)))
 have HM1:=hH (show Jh 52 8 gxc lo w1 (.slice A5 gl.length c5) gl from h1.fr.own (HG.out.ext ((Ext.refl w).alloc _)) (by
  intro q hq ho
  rcases ho with ho | ho | ho
  ·exact HG.out.XH.unlike H0.out (by decide) q hq ho
  ·exact HG.out.XH.unlike H1.out (by decide) q hq ho
  ·exact HG.out.XH.unlike H2.out (by decide) q hq ho))
 clear h1;rw [hcs] at hr;have HR:=hH hr;clear hr hcs;(refine Ji w1 w.heap.size fun q1_0 f1_0 l1_0 R1_0=>?_);go_wp2_with fail
 go_loopg [2] n3 (fun gg s2 wr=>∃ k : Nat,k <= n3 /\ n3 - k <= gg /\ s2 = .int .i64 k /\ Aside (Sp own w wr /\ Row wr w.heap.size cs /\ Jh 52 8 gxc lo wr (.slice A5 gl.length c5) gl))
 case atStart=>exact ⟨0,Nat.zero_le _,by omega,rfl,HS.out,HC.out ▸ HR.out,HM1.out⟩
 case round =>
  obtain ⟨k,hk,hg,rfl,HZ⟩:=hrel;have HW:=hH HZ.out.1;have HY:=hH (HC.out ▸ HZ.out.2.1);have HM:=hH HZ.out.2.2;clear HZ HS HR HM1 q1_0 f1_0 l1_0 R1_0;(refine Ji wr w.heap.size fun q2_0 f2_0 l2_0 R2_0=>?_)
  by_cases hlt : k < n3
  ·have hlt' : (k : Int) < (n3 : Int):=by omega
   obtain ⟨g,rfl,hb,hfz,u,hc⟩:=(HW.out.row HI.out).at' hlt (i:=0) (by omega);have hgb:=HI.out.bnd g rfl;simp only [Nat.add_zero,Nat.mul_one] at hc hfz;go_wp2_with fail;go_roundg (n3 - (k + 1))
   case measure=>omega
   case rel=>exact ⟨k + 1,by omega,by omega,by go_num,Sp.set (a:=⟨g,k,none⟩) (OI.out g rfl) _ HW.out,Row.far (by simp;omega) (HC.out ▸ HY.out),HM.out.put (fun h=>HG.out.XH.unlike HI.out (by decide) g h rfl) _⟩
  ·have hge : ¬ (k : Int) < (n3 : Int):=by omega
   go_wp2_with fail
   go_loopg [3] gl.length (fun gg s3 wr=>∃ k : Nat,k <= gl.length /\ gl.length - k <= gg /\ s3 = .int .i64 k /\ Aside (Sp own w wr /\ Row wr w.heap.size cs /\ ∃ m : List Gx,m.length = gl.length /\ Jh 52 8 gxc lo wr (.slice A5 gl.length c5) m /\ GxS lo w m /\ GxO own m))
   case atStart=>exact ⟨0,Nat.zero_le _,by omega,rfl,HW.out,HC.out ▸ HY.out,gl,rfl,HM.out,HX.out,OX.out⟩
   case round =>
    obtain ⟨k',hk',hg',rfl,HZ⟩:=hrel;obtain ⟨hw2,hy2,m,hml,hm2,hxm,hom⟩:=HZ.out;have HW2:=hH hw2;have HY2:=hH (HC.out ▸ hy2);have HM2:=hH hm2;have HXM:=hH hxm;have HOM:=hH hom;clear HZ hw2 hy2 hm2 hxm hom HW HY HM q2_0 f2_0 l2_0 R2_0 hlt hge hk hg;(refine Ji wr w.heap.size fun q3_0 f3_0 l3_0 R3_0=>?_)
    by_cases hlt : k' < gl.length
    ·have hlt' : (k' : Int) < (gl.length : Int):=by omega
     have hkm : k' < m.length:=by omega
     obtain ⟨g,c',hvv,hgl,hgw,-⟩:=HM2.out.slot (by omega)
     injection hvv with hA hB hC
     subst hA;clear hB hC;have hgb:=HG.out.XH.bnd g rfl;have z3 : wr.cell? ⟨g,k' * 8 + 3,none⟩ = some m[k'].sa:=(HM2.out.field gxc_size k' 3 hkm (by omega) _ rfl).1;obtain ⟨x,hxe⟩ : ∃ x,x = m[k']:=⟨_,rfl⟩;have hxr:=HXM.out m[k'] (List.getElem_mem hkm);have hxo:=HOM.out m[k'] (List.getElem_mem hkm);rw [<- hxe] at z3 hxr hxo
     have hz5 : (gxc m[k'])[5]? = some x.si:=by rw [hxe];rfl
     obtain ⟨id,zone,seq,sa,ver',si',left,JP⟩:=x;simp only at z3 hxr hz5 hxo;obtain ⟨B6,n6,c6,rfl,-⟩:=hxr.1.form;obtain ⟨B7,n7,c7,rfl,-⟩:=hxr.2.form;have hm7:=hxr.2.le B7 n7 c7 rfl;have OA:=hH hxo.1;have OB:=hH hxo.2;clear hxo;have HA:=hH hxr.1;have HB:=hH hxr.2;have HZ5:=hH hz5;have HXE:=hH hxe;have HML:=hH hml;clear hxr hz5 hxe hml;go_wp2_with fail;refine (law_spoilTaps _ lo _ (HW2.out.row HA.out)).mono ?_;rintro e w2 ⟨rfl,h2⟩;have HW3:=hH (HW2.out.trans (h2.weaken OA.out));have HY3:=hH (h2.box (g:=w.heap.size) (fun h=>by have:=(HA.out.bnd _ h).2;omega) HY2.out);have HM3:=hH (h2.fr.own HM2.out (fun q hq ho=>HG.out.XH.unlike HA.out (by decide) q hq ho));have hgw2 : g < w2.heap.size:=Nat.lt_of_lt_of_le hgw h2.size;clear h2 HW2 HY2 HM2 z3 q3_0 f3_0 l3_0 R3_0;(refine Ji w2 w.heap.size fun q4_0 f4_0 l4_0 R4_0=>?_);go_wp2_with fail
     go_loopg [4] n7 (fun gg s4 wr=>∃ j : Nat,j <= n7 /\ n7 - j <= gg /\ s4 = .int .i64 j /\ Aside (Sp own w wr /\ Row wr w.heap.size cs /\ Jh 52 8 gxc lo wr (.slice (some ⟨g,0,none⟩) gl.length c5) m))
     case atStart=>exact ⟨0,Nat.zero_le _,by omega,rfl,HW3.out,HC.out ▸ HY3.out,HM3.out⟩
     case round =>
      obtain ⟨j,hj,hg2,rfl,HZ⟩:=hrel;have HW4:=hH HZ.out.1;have HY4:=hH (HC.out ▸ HZ.out.2.1);have HM4:=hH HZ.out.2.2;have hgw4 : g < wr.heap.size:=Nat.lt_of_lt_of_le hgb.2 HW4.out.size;have z5 : wr.cell? ⟨g,k' * 8 + 5,none⟩ = some (.slice B7 n7 c7):=(HM4.out.field gxc_size k' 5 hkm (by omega) _ HZ5.out).1;have hfz0:=(HM4.out.field gxc_size k' 0 hkm (by omega) _ rfl).2;have hz0 : wr.cell? ⟨g,k' * 8,none⟩ = some (.int .i64 m[k'].id):=(HM4.out.field gxc_size k' 0 hkm (by omega) _ rfl).1;simp only [Nat.add_zero] at hfz0;clear HZ HW3 HY3 HM3 q4_0 f4_0 l4_0 R4_0 hgw hgw2;(refine Ji wr w.heap.size fun q5_0 f5_0 l5_0 R5_0=>?_)
      by_cases hl7 : j < n7
      ·have hl7' : (j : Int) < (n7 : Int):=by omega
       obtain ⟨b7,rfl,hb7,hfz7,u7,hc7⟩:=(HW4.out.row HB.out).at' hl7 (i:=0) (by omega);have hgb7:=HB.out.bnd b7 rfl;simp only [Nat.add_zero,Nat.mul_one] at hc7 hfz7;go_wp2_with fail;go_roundg (n7 - (j + 1))
       case measure=>omega
       case rel=>exact ⟨j + 1,by omega,by omega,by go_num,Sp.set (a:=⟨b7,j,none⟩) (OB.out b7 rfl) _ HW4.out,Row.far (by simp;omega) (HC.out ▸ HY4.out),HM4.out.put (fun h=>HG.out.XH.unlike HB.out (by decide) b7 h rfl) _⟩
      ·have hg7 : ¬ (j : Int) < (n7 : Int):=by omega
       have hput:=HM4.out.JW gxc_size k' 0 hkm (by omega) { m[k'] with id:=-7 } (.int .i64 (-7)) (by simp [gxc]);rw [Nat.add_zero] at hput;have HP:=hH hput;have HXP:=hH (HXM.out.set k' hkm (-7));have HXO:=hH (HOM.out.set k' hkm (-7));clear hput;generalize m[k'].id = z at *;go_wp2_with fail;go_roundg (gl.length - (k' + 1))
       case measure=>omega
       case rel=>exact ⟨k' + 1,by omega,by omega,by go_num,Sp.set (a:=⟨g,k' * 8,none⟩) (OG.out g rfl) _ HW4.out,Row.far (by simp;omega) (HC.out ▸ HY4.out),_,by rw [List.length_set];exact HML.out,HP.out,HXP.out,HXO.out⟩
    ·have hge : ¬ (k' : Int) < (gl.length : Int):=by omega
     clear hml;go_wp2_with fail
     go_loopg [5] n4 (fun gg s5 wr=>∃ k : Nat,k <= n4 /\ n4 - k <= gg /\ s5 = .int .i64 k /\ Aside (Sp own w wr /\ Row wr w.heap.size cs))
     case atStart=>exact ⟨0,Nat.zero_le _,by omega,rfl,HW2.out,HC.out ▸ HY2.out⟩
     case round =>
      obtain ⟨j,hj,hg2,rfl,HZ⟩:=hrel;have HW4:=hH HZ.out.1;have HY4:=hH (HC.out ▸ HZ.out.2);clear HZ HW2 HY2 HM2 q3_0 f3_0 l3_0 R3_0;(refine Ji wr w.heap.size fun q5_0 f5_0 l5_0 R5_0=>?_)
      by_cases hl7 : j < n4
      ·have hl7' : (j : Int) < (n4 : Int):=by omega
       obtain ⟨b7,rfl,hb7,hfz7,u7,hc7⟩:=(HW4.out.row HV.out).at' hl7 (i:=0) (by omega);have hgb7:=HV.out.bnd b7 rfl;simp only [Nat.add_zero] at hc7 hfz7;go_wp2_with fail;go_roundg (n4 - (j + 1))
       case measure=>omega
       case rel=>exact ⟨j + 1,by omega,by omega,by go_num,Sp.set (a:=⟨b7,j * 3,none⟩) (OV.out b7 rfl) _ HW4.out,Row.far (by simp;omega) (HC.out ▸ HY4.out)⟩
      ·have hg7 : ¬ (j : Int) < (n4 : Int):=by omega
       go_wp2_with fail;go_end0;exact ⟨rfl,HW4.out⟩

def Gy.gx (y : Gy) : Gx:=⟨y.g.id,y.g.zone,y.g.seq,y.sa,y.g.Jb.Jk,y.si,y.g.left,y.g.JP⟩
theorem encs_gx (ys : List Gy) : encs gxc (ys.map Gy.gx) = encs gyc ys:=by
 unfold encs;rw [List.flatMap_map]
 rfl
def LtB (hi : Nat) (v : Value) : Prop:=∀ q,v.ownBlock = some q -> q < hi
structure OwnI (base hi : Nat) (w : World) (x : Sv) (s : St) : Prop where
 tk : Jh 34 6 tkc base w x.s0 s.Ja.Jc /\ LtB hi x.s0
 tp : Jh 57 5 tpc base w x.s1 s.Ja.Jf /\ LtB hi x.s1
 vd : Jh 3 1 inc base w x.s2 s.Ja.Jd /\ LtB hi x.s2
 dn : Jh 3 1 inc base w x.si s.Jb.ids /\ LtB hi x.si
 gt : ∃ ys : List Gy,s.Jg = ys.map (·.g) /\ Jh 52 8 gyc base w x.sg ys /\ LtB hi x.sg /\ ∀ y ∈ ys,GyO base w y /\ LtB hi y.sa /\ LtB hi y.si
 vw : Jh 110 3 vwc base w x.sv s.Jj /\ LtB hi x.sv
theorem Jh.ltB {α : Type} {e : TypeId} {k base : Nat} {enc : α -> Array Value} {w : World} {v : Value} {l : List α} (h : Jh e k enc base w v l) : LtB w.heap.size v:=fun q hq=>(h.lt q hq).2
theorem JR.toI {base : Nat} {w : World} {x : Sv} {s : St} (h : JR base w x s) : OwnI base w.heap.size w x s:=by
 obtain ⟨ys,h1,h2,h3⟩:=h.gt;exact ⟨⟨h.tk,h.tk.ltB⟩,⟨h.tp,h.tp.ltB⟩,⟨h.vd,h.vd.ltB⟩,⟨h.dn,h.dn.ltB⟩,⟨ys,h1,h2,h2.ltB,fun y hy=>⟨h3 y hy,(h3 y hy).1.ltB,(h3 y hy).2.ltB⟩⟩,⟨h.vw,h.vw.ltB⟩⟩
theorem OwnI.ext {base hi : Nat} {w w' : World} {x : Sv} {s : St} (h : OwnI base hi w x s) (he : Ext w w') : OwnI base hi w' x s:=by
 obtain ⟨ys,h1,h2,h3,h4⟩:=h.gt;exact ⟨⟨h.tk.1.ext he,h.tk.2⟩,⟨h.tp.1.ext he,h.tp.2⟩,⟨h.vd.1.ext he,h.vd.2⟩,⟨h.dn.1.ext he,h.dn.2⟩,⟨ys,h1,h2.ext he,h3,fun y hy=>⟨(h4 y hy).1.ext he,(h4 y hy).2⟩⟩,⟨h.vw.1.ext he,h.vw.2⟩⟩
theorem ZW {α : Type} {e : TypeId} {k base hi : Nat} {enc : α -> Array Value} {w w' : World} {v : Value} {l : List α} {own : Nat -> Prop} (h : Jh e k enc base w v l) (hb : LtB hi v) (hf : Fr own w w') (hn : ∀ q,base <= q -> q < hi -> ¬ own q) : Jh e k enc base w' v l :=
 hf.own h (fun q hq=>hn q (h.lt q hq).1 (hb q hq))
theorem OwnI.fr {base hi : Nat} {w w' : World} {x : Sv} {s : St} {own : Nat -> Prop} (h : OwnI base hi w x s) (hf : Fr own w w') (hn : ∀ q,base <= q -> q < hi -> ¬ own q) : OwnI base hi w' x s:=by
 obtain ⟨ys,h1,h2,h3,h4⟩:=h.gt
 exact ⟨⟨ZW h.tk.1 h.tk.2 hf hn,h.tk.2⟩,⟨ZW h.tp.1 h.tp.2 hf hn,h.tp.2⟩,⟨ZW h.vd.1 h.vd.2 hf hn,h.vd.2⟩,⟨ZW h.dn.1 h.dn.2 hf hn,h.dn.2⟩,
  ⟨ys,h1,ZW h2 h3 hf hn,h3,fun y hy=>⟨⟨ZW (h4 y hy).1.1 (h4 y hy).2.1 hf hn,ZW (h4 y hy).1.2 (h4 y hy).2.2 hf hn⟩,(h4 y hy).2⟩⟩,⟨ZW h.vw.1 h.vw.2 hf hn,h.vw.2⟩⟩
theorem OwnI.own {base hi : Nat} {w : World} {x : Sv} {s : St} (h : OwnI base hi w x s) : JR base w x s:=by
 obtain ⟨ys,h1,h2,h3,h4⟩:=h.gt;exact ⟨h.tk.1,h.tp.1,h.vd.1,h.dn.1,⟨ys,h1,h2,fun y hy=>(h4 y hy).1⟩,h.vw.1⟩
theorem ltB_nil {hi : Nat} : LtB hi (.slice none 0 0):=fun q hq=>by simp [Value.ownBlock] at hq
theorem OwnI.Jj {base hi : Nat} {w : World} {v : Value} {l : List Vw} (h : Jh 110 3 vwc base w v l) (hb : LtB hi v) : OwnI base hi w ⟨.slice none 0 0,.slice none 0 0,.slice none 0 0,.slice none 0 0,.slice none 0 0,v⟩ ⟨ld0,dn0,[],l⟩ :=
 ⟨⟨Jh.nil,ltB_nil⟩,⟨Jh.nil,ltB_nil⟩,⟨Jh.nil,ltB_nil⟩,⟨Jh.nil,ltB_nil⟩,⟨[],rfl,Jh.nil,ltB_nil,fun y hy=>by cases hy⟩,⟨h,hb⟩⟩
theorem spoil_ownS {base hi : Nat} {w : World} {x : Sv} {s : St} (h : OwnI base hi w x s) :
  Calls Tryz.prog 48 #[.agg (sta s x)] w fun e w'=>e = .returned (.tuple #[]) /\ Sp (fun q=>base <= q /\ q < hi) w w':=by
 obtain ⟨ys,hys,hrow,hlb,hin⟩:=h.gt
 have hg : Jh 52 8 gxc base w x.sg (ys.map Gy.gx):=by
  unfold Jh at hrow ⊢;rw [encs_gx,List.length_map];exact hrow
 have hx : GxS base w (ys.map Gy.gx):=by
  intro z hz;obtain ⟨y,hy,rfl⟩:=List.mem_map.1 hz;exact ⟨(hin y hy).1.1.XH,(hin y hy).1.2.XH⟩
 have ox : GxO (fun q=>base <= q /\ q < hi) (ys.map Gy.gx):=by
  intro z hz;obtain ⟨y,hy,rfl⟩:=List.mem_map.1 hz;exact ⟨fun q hq=>⟨((hin y hy).1.1.lt q hq).1,(hin y hy).2.1 q hq⟩,fun q hq=>⟨((hin y hy).1.2.lt q hq).1,(hin y hy).2.2 q hq⟩⟩
 refine (law_spoilStation2 (fun q=>base <= q /\ q < hi) x.s0 x.s1 x.s2 x.si x.sg x.sv s.Jb.Jk (ys.map Gy.gx) base w h.tk.1.XH h.tp.1.XH h.vd.1.XH h.dn.1.XH h.vw.1.XH hg hx
  (fun q hq=>⟨(h.tk.1.lt q hq).1,h.tk.2 q hq⟩) (fun q hq=>⟨(h.tp.1.lt q hq).1,h.tp.2 q hq⟩) (fun q hq=>⟨(h.vd.1.lt q hq).1,h.vd.2 q hq⟩) (fun q hq=>⟨(h.dn.1.lt q hq).1,h.dn.2 q hq⟩) (fun q hq=>⟨(h.vw.1.lt q hq).1,h.vw.2 q hq⟩) (fun q hq=>⟨(hrow.lt q hq).1,hlb q hq⟩) ox).mono ?_
 rintro e w' ⟨rfl,hs⟩;exact ⟨rfl,hs⟩
end Go.Proofs.YteojjbhadgkfgaaGreat
