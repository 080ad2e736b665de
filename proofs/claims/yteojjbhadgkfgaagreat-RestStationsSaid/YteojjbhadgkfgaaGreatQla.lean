/- Qla: parts of the proofs, laid together. -/
import Derived.Test.YteojjbhadgkfgaaGreatQl
import Derived.Test.YteojjbhadgkfgaaGreatQa
import Derived.Test.YteojjbhadgkfgaaGreatQk
/- The document's own tap at a gate. -/
set_option maxHeartbeats 64000000
namespace Go.Proofs.YteojjbhadgkfgaaGreat
set_option linter.unusedSimpArgs false
set_option linter.unusedVariables false
set_option maxRecDepth 100000
open Go Go.RowKit Lb

theorem ref_TapOf (g : Gt) (sa si : Value) (t : Tk) (time : Int) (w : World) (hgr : J7 g = 0) (htk : JB t = 0) (hr : RdL 5 tpc w sa g.Jn) (hs : RdL 1 inc w si g.Jb.ids) :
  Calls Tryz.prog 62 #[.agg (gta g sa si),.agg (tkc t),.int .i64 time] w fun e w'=>∃ sa' si',e = .returned (.tuple #[.agg (gta (Xh g t time).1 sa' si'),.agg (tpc (Xh g t time).2.1),.int .i64 (Xh g t time).2.2]) /\ Ext w w' /\
   Jh 57 5 tpc w.heap.size w' sa' (Xh g t time).1.Jn /\ ((si' = .slice none 0 0 /\ (Xh g t time).1.Jb.ids = []) \/ (si' = si /\ (Xh g t time).1.Jb.ids = g.Jb.ids)):=by
 have rg:=Zh.1 hgr;have hzn:=zones_ok' htk;have HCO:=hH (fun w' (h : Ext w w')=>ref_HasInt g.Jb.ids t.id si w' (hs.ext h));have HW1:=hH (fun w=>JA time 0 9999 w);have HW4:=hH (fun w=>JA time t.frm t.til w)
 have hE : tapE g t time = if within time 0 9999 = false then 3 else if Lb.early g.Jn time = true then 4 else if g.Jb.ids.contains t.id = true then 11 else if g.JP < time then 8 else if place t time g.zone ≠ 0 then place t time g.zone else if g.left = 0 \/ t.kind ≠ 2 /\ Xo g t.id = true then 10 else if g.Jn.length = 12 \/ g.seq = 99 then 2 else 0:=rfl
 have hres : Xh g t time = if tapE g t time ≠ 0 then (gt0,tp0,tapE g t time) else (ZJ g t time,Zp g t time,0):=rfl
 have htw : Xo g t.id = g.Jn.any (fun p=>p.ticket == t.id):=rfl
 have hpl : place t time g.zone = if within time t.frm t.til = false then 8 else if t.JS / g.zone % 2 = 0 then 9 else 0:=by
  unfold place within;simp only [Bool.and_eq_false_iff,decide_eq_false_iff_not,Int.not_le]
 obtain ⟨A,c,rfl,hmc,hmm⟩:=hr.form;obtain ⟨A2,c2,rfl,-,-⟩:=hs.form;have hl12:=rg.len;have b2:=rg.seq;have b3:=rg.left;have hzz:=rg.zone;simp only [within,Bool.and_eq_true,decide_eq_true_eq] at b2 b3;have ea : (ZJ g t time) = ⟨g.id,g.zone,g.seq + 1,g.Jn ++ [⟨t.id,g.id,g.seq + 1,time,g.zone⟩],g.Jb,g.left - 1,g.JP⟩:=rfl;have eb : Zp g t time = ⟨t.id,g.id,g.seq + 1,time,g.zone⟩:=rfl;rw [ea,eb] at hres;clear ea eb;obtain ⟨t0,t1,t2,t3,t4,t5⟩:=t;obtain ⟨gid,zone,seq,l,⟨ver,ids⟩,left,JP⟩:=g;simp only at hr hs hmc hmm hE hres htw hpl hl12 b2 b3 hzz hzn HCO HW4 ⊢
 have hz1 : 1 <= zone:=by simp [Zk] at hzz;omega
 obtain ⟨e1,e2,e3,e4⟩:=ediv_zone hzn.1 hzz;have hzn1:=hzn.2
 have hm : l.length <= 9223372036854775807:=by omega
 obtain ⟨i0,ji,ji0,ji1,ji2⟩:=info_parts Xi;have hws : IntKind.i64.wrap (seq + 1) = seq + 1:=IntWalk.i64_in _ (by omega);have hwl : left ≠ 0 -> IntKind.i64.wrap (left - 1) = left - 1:=fun h=>IntWalk.i64_in _ (by omega);generalize Xh ⟨gid,zone,seq,l,⟨ver,ids⟩,left,JP⟩ ⟨t0,t1,t2,t3,t4,t5⟩ time = res at *;generalize tapE ⟨gid,zone,seq,l,⟨ver,ids⟩,left,JP⟩ ⟨t0,t1,t2,t3,t4,t5⟩ time = tE at *;generalize place ⟨t0,t1,t2,t3,t4,t5⟩ time zone = pl at *;generalize Xo ⟨gid,zone,seq,l,⟨ver,ids⟩,left,JP⟩ t0 = r at *;have HERR:=hH (fun (cc : Int) (h : tE = cc) (h0 : cc ≠ 0)=>(show res = (gt0,tp0,cc) by rw [hres,h,if_pos h0]));have HOK:=hH (fun (h : tE = 0)=>(show res = (⟨gid,zone,seq + 1,l ++ [⟨t0,gid,seq + 1,time,zone⟩],⟨ver,ids⟩,left - 1,JP⟩,⟨t0,gid,seq + 1,time,zone⟩,0) by rw [hres,h,if_neg (by decide)]));have HE:=hH hE;have HPL:=hH hpl;have HRd:=hH hr;have HSd:=hH hs;have HTW:=hH htw;have HWL:=hH hwl;clear hres hE hpl hr hs htw hgr htk rg hmc hmm hzn hzz hwl b3;generalize within time 0 9999 = z1 at *;generalize hear : Lb.early l time = ear at *;have HEAR:=hH hear;clear hear;generalize ids.contains t0 = z3 at *;generalize within time t2 t3 = z4 at *;unfold gta tkc
 simp only
 go_enter Tryz.func62,Tryz.ntmps62;go_wp2_with fail
 go_loopg [10,11] l.length (fun gg s10 s11 wr=>∃ (k : Nat) (tw : Bool),k <= l.length /\ l.length - k <= gg /\ s10 = .bool tw /\ s11 = .int .i64 k /\ Aside (Ext w wr /\ Row wr w.heap.size #[.int .i64 gid,.int .i64 zone,.int .i64 seq,.slice A l.length c,.int .i64 ver,.slice A2 ids.length c2,.int .i64 left,.int .i64 JP] /\ Row wr (w.heap.size + 1) #[.int .i64 t0,.int .i64 t1,.int .i64 t2,.int .i64 t3,.int .i64 t4,.int .i64 t5] /\ Row wr (w.heap.size + 1 + 1) #[.int .i64 0,.int .i64 0,.int .i64 0,.slice none 0 0,.int .i64 0,.slice none 0 0,.int .i64 0,.int .i64 0] /\ Row wr (w.heap.size + 1 + 1 + 1) #[.int .i64 0,.int .i64 0,.int .i64 0,.int .i64 0,.int .i64 0]) /\ Aside ((tw || (l.drop k).any (fun p=>p.ticket == t0)) = r))
 case atStart=>exact ⟨0,false,by omega,by omega,rfl,rfl,⟨((((Ext.refl _).alloc _).alloc _).alloc _).alloc _,(Row.newAt rfl).alloc.alloc.alloc,(Row.newAt (by simp)).alloc.alloc,(Row.newAt (by simp)).alloc,Row.newAt (by simp)⟩,by rw [HTW.out];rfl⟩
 case round =>
  obtain ⟨k,tw,hk,hg,rfl,rfl,HV,HA⟩:=hrel;have HE2:=hH HV.out.1;have HR0:=hH HV.out.2.1;have HR1:=hH HV.out.2.2.1;have HR2:=hH HV.out.2.2.2.1;have HR3:=hH HV.out.2.2.2.2;have HA2:=hH HA.out;clear HV HA;(refine Ji wr w.heap.size fun qr_0 fr_0 lr_0 Rr_0=>?_;refine Ji wr (w.heap.size + 1) fun qr_1 fr_1 lr_1 Rr_1=>?_;refine Ji wr (w.heap.size + 1 + 1) fun qr_2 fr_2 lr_2 Rr_2=>?_;refine Ji wr (w.heap.size + 1 + 1 + 1) fun qr_3 fr_3 lr_3 Rr_3=>?_)
  by_cases hlt : k < l.length
  ·have hlt' : (k : Int) < (l.length : Int):=by omega
   obtain ⟨b,o,rfl,hb,c0,c1,c2',c3,c4⟩:=(HRd.out.ext HE2.out).tp_at rfl hlt;have hA:=HA2.out;rw [List.drop_eq_getElem_cons hlt,List.any_cons] at hA;generalize l[k].ticket = x at *;clear c1 c2' c3 c4 HA2;have HA3:=hH (show ((tw || x == t0) || (l.drop (k + 1)).any (fun p=>p.ticket == t0)) = r by rw [Bool.or_assoc];exact hA);clear hA
   cases tw
   all_goals
    go_wp2_with fail;go_quiet (fail);go_wp2_with fail;go_roundg (l.length - (k + 1))
    case measure=>omega
    case rel=>exact ⟨k + 1,_,by omega,by omega,rfl,by go_num,⟨(Je : Ext w _),Rr_0.out.drewN,Rr_1.out.drewN,Rr_2.out.drewN,Rr_3.out.drewN⟩,by first | exact HA3.out | (have h:=HA3.out;simpa using h)⟩
  ·have hkl : k = l.length:=by omega
   have hge : ¬ (k : Int) < (l.length : Int):=by omega
   have hA:=HA2.out;rw [hkl,List.drop_length] at hA
   have htr : tw = r:=by simpa using hA
   subst htr;clear hA HA2 hkl;go_wp2_with fail;refine gB (HW1.out _) ?_
   cases z1
   ·have hQ:=HERR.out 3 (by rw [HE.out];simp) (by decide)
    subst hQ;clear HERR HE HOK;go_wp2_with fail;refine bodyPost_ret (v:=.tuple #[.agg #[.int .i64 0,.int .i64 0,.int .i64 0,.slice none 0 0,.int .i64 0,.slice none 0 0,.int .i64 0,.int .i64 0],.agg #[.int .i64 0,.int .i64 0,.int .i64 0,.int .i64 0,.int .i64 0],.int .i64 3]) (by simp [results,Tryz.results62,go_sem, *]) rfl ⟨_,_,rfl,?_,Jh.nil,.inl ⟨rfl,rfl⟩⟩;exact Je
   by_cases hl0 : l = []
   case' pos =>
    have hz : l.length = 0:=by rw [hl0];rfl
    have hn0 : decide (0 < l.length) = false:=by rw [hz];rfl
    have hq : ear = false:=by rw [<- HEAR.out,hl0];rfl
    subst hq;clear hl0 HEAR hz;go_wp2_with fail
    try (go_quiet (fail);go_wp2_with fail)
   case' neg =>
    have hlp : 0 < l.length:=List.length_pos_iff.2 hl0
    have hn0 : decide (0 < l.length) = true:=by simpa using hlp
    have hll : l.length - 1 < l.length:=by omega
    have hy:=early_last hll time;rw [HEAR.out] at hy;obtain ⟨b,o,hAe,hb,-,-,-,k3,-⟩:=(HRd.out.ext HE2.out).tp_at rfl hll
    have hw1 : IntKind.i64.wrap ((l.length : Int) - 1) = ((l.length - 1 : Nat) : Int):=by rw [IntWalk.i64_in _ (by omega)];omega
    have hk1 : ((l.length - 1 : Nat) : Int) < (l.length : Int):=by omega
    clear hl0 HEAR;generalize l[l.length - 1].time = y at *;subst hAe
    cases ear
    case' true =>
     have hyt:=hy.symm;clear hy;go_wp2_with fail
     try (go_quiet (fail);go_wp2_with fail)
     have hQ:=HERR.out 4 (by rw [HE.out];simp) (by decide);subst hQ;clear HERR HE HOK;refine bodyPost_ret (v:=.tuple #[.agg #[.int .i64 0,.int .i64 0,.int .i64 0,.slice none 0 0,.int .i64 0,.slice none 0 0,.int .i64 0,.int .i64 0],.agg #[.int .i64 0,.int .i64 0,.int .i64 0,.int .i64 0,.int .i64 0],.int .i64 4]) (by simp [results,Tryz.results62,go_sem, *]) rfl ⟨_,_,rfl,?_,Jh.nil,.inl ⟨rfl,rfl⟩⟩;exact Je
    case' false =>
     have hyt:=hy.symm;clear hy;go_wp2_with fail
     try (go_quiet (fail);go_wp2_with fail)
     clear hyt k3 hw1 hk1 hb hlp hll;generalize hAe : some (⟨b,o,none⟩ : Addr) = A at *;clear hAe
   all_goals
    refine gB (HCO.out _ Je) ?_
    cases z3
    rotate_left
    ·have hQ:=HERR.out 11 (by rw [HE.out];simp) (by decide)
     subst hQ;clear HERR HE HOK;go_wp2_with fail;refine bodyPost_ret (v:=.tuple #[.agg #[.int .i64 0,.int .i64 0,.int .i64 0,.slice none 0 0,.int .i64 0,.slice none 0 0,.int .i64 0,.int .i64 0],.agg #[.int .i64 0,.int .i64 0,.int .i64 0,.int .i64 0,.int .i64 0],.int .i64 11]) (by simp [results,Tryz.results62,go_sem, *]) rfl ⟨_,_,rfl,?_,Jh.nil,.inl ⟨rfl,rfl⟩⟩;exact Je
    by_cases hu : JP < time
    ·have hQ:=HERR.out 8 (by rw [HE.out];simp [hu]) (by decide)
     subst hQ;clear HERR HE HOK;go_wp2_with fail;refine bodyPost_ret (v:=.tuple #[.agg #[.int .i64 0,.int .i64 0,.int .i64 0,.slice none 0 0,.int .i64 0,.slice none 0 0,.int .i64 0,.int .i64 0],.agg #[.int .i64 0,.int .i64 0,.int .i64 0,.int .i64 0,.int .i64 0],.int .i64 8]) (by simp [results,Tryz.results62,go_sem, *]) rfl ⟨_,_,rfl,?_,Jh.nil,.inl ⟨rfl,rfl⟩⟩;exact Je
    go_wp2_with fail;refine gB (HW4.out _) ?_
    cases z4
    ·have hpl:=HPL.out
     have hQ:=HERR.out 8 (by rw [HE.out];rw [hpl];simp [hu]) (by decide);subst hQ;clear HERR HE HOK;go_wp2_with fail;refine bodyPost_ret (v:=.tuple #[.agg #[.int .i64 0,.int .i64 0,.int .i64 0,.slice none 0 0,.int .i64 0,.slice none 0 0,.int .i64 0,.int .i64 0],.agg #[.int .i64 0,.int .i64 0,.int .i64 0,.int .i64 0,.int .i64 0],.int .i64 8]) (by simp [results,Tryz.results62,go_sem, *]) rfl ⟨_,_,rfl,?_,Jh.nil,.inl ⟨rfl,rfl⟩⟩;exact Je
    by_cases hz : t4 / zone % 2 = 0
    ·have hpl:=HPL.out
     have hQ:=HERR.out 9 (by rw [HE.out];rw [hpl];simp [hu,hz]) (by decide);subst hQ;clear HERR HE HOK;go_wp2_with fail;refine bodyPost_ret (v:=.tuple #[.agg #[.int .i64 0,.int .i64 0,.int .i64 0,.slice none 0 0,.int .i64 0,.slice none 0 0,.int .i64 0,.int .i64 0],.agg #[.int .i64 0,.int .i64 0,.int .i64 0,.int .i64 0,.int .i64 0],.int .i64 9]) (by simp [results,Tryz.results62,go_sem, *]) rfl ⟨_,_,rfl,?_,Jh.nil,.inl ⟨rfl,rfl⟩⟩;exact Je
    have hp0 : pl = 0:=by rw [HPL.out];simp [hz]
    have hzb : (t4 / zone % 2 == 0) = false:=by simpa using hz
    by_cases hf : left = 0
    ·have hfb : (left == 0) = true:=by simpa using hf
     have hQ:=HERR.out 10 (by rw [HE.out];simp [hu,hp0,hf]) (by decide);subst hQ;clear HERR HE HOK;go_wp2_with fail;refine bodyPost_ret (v:=.tuple #[.agg #[.int .i64 0,.int .i64 0,.int .i64 0,.slice none 0 0,.int .i64 0,.slice none 0 0,.int .i64 0,.int .i64 0],.agg #[.int .i64 0,.int .i64 0,.int .i64 0,.int .i64 0,.int .i64 0],.int .i64 10]) (by simp [results,Tryz.results62,go_sem, *]) rfl ⟨_,_,rfl,?_,Jh.nil,.inl ⟨rfl,rfl⟩⟩;exact Je
    have hfb : (left == 0) = false:=by simpa using hf
    have hwl:=HWL.out hf
    have hkd : (t1 = 2) \/ (t1 ≠ 2 /\ tw = false) \/ (t1 ≠ 2 /\ tw = true):=by by_cases h : t1 = 2 <;> cases tw <;> simp [h]
    rcases hkd with hkd | ⟨hkd,htw⟩ | ⟨hkd,htw⟩
    case' inr.inr =>
     have hkb : (t1 != 2) = true:=by simpa using hkd
     subst htw;have hQ:=HERR.out 10 (by rw [HE.out];simp [hu,hp0,hkd]) (by decide);subst hQ;clear HERR HE HOK;go_wp2_with fail;refine bodyPost_ret (v:=.tuple #[.agg #[.int .i64 0,.int .i64 0,.int .i64 0,.slice none 0 0,.int .i64 0,.slice none 0 0,.int .i64 0,.int .i64 0],.agg #[.int .i64 0,.int .i64 0,.int .i64 0,.int .i64 0,.int .i64 0],.int .i64 10]) (by simp [results,Tryz.results62,go_sem, *]) rfl ⟨_,_,rfl,?_,Jh.nil,.inl ⟨rfl,rfl⟩⟩;exact Je
    case' inl =>
     have hkb : (t1 != 2) = false:=by simpa using hkd
     have h6 : ¬ (left = 0 \/ t1 ≠ 2 /\ tw = true):=by simp [hf,hkd]
    case' inr.inl =>
     have hkb : (t1 != 2) = true:=by simpa using hkd
     have h6 : ¬ (left = 0 \/ t1 ≠ 2 /\ tw = true):=by simp [hf,htw]
     subst htw
    all_goals
     by_cases hl : l.length = 12
     ·have hlb : ((l.length : Int) == 12) = true:=by rw [hl];rfl
      have hQ:=HERR.out 2 (by rw [HE.out];rw [hp0,if_neg (by simp),if_neg (by simp),if_neg (by simp),if_neg (show ¬ JP < time by omega),if_neg (by simp),if_neg h6,if_pos (.inl hl)]) (by decide);subst hQ;clear HERR HE HOK;go_wp2_with fail;refine bodyPost_ret (v:=.tuple #[.agg #[.int .i64 0,.int .i64 0,.int .i64 0,.slice none 0 0,.int .i64 0,.slice none 0 0,.int .i64 0,.int .i64 0],.agg #[.int .i64 0,.int .i64 0,.int .i64 0,.int .i64 0,.int .i64 0],.int .i64 2]) (by simp [results,Tryz.results62,go_sem, *]) rfl ⟨_,_,rfl,?_,Jh.nil,.inl ⟨rfl,rfl⟩⟩;exact Je
     have hlb : ((l.length : Int) == 12) = false:=by rw [beq_eq_false_iff_ne];omega
     by_cases hs9 : seq = 99
     ·have hsb : (seq == 99) = true:=by rw [hs9];rfl
      have hQ:=HERR.out 2 (by rw [HE.out];rw [hp0,if_neg (by simp),if_neg (by simp),if_neg (by simp),if_neg (show ¬ JP < time by omega),if_neg (by simp),if_neg h6,if_pos (.inr hs9)]) (by decide);subst hQ;clear HERR HE HOK;go_wp2_with fail;refine bodyPost_ret (v:=.tuple #[.agg #[.int .i64 0,.int .i64 0,.int .i64 0,.slice none 0 0,.int .i64 0,.slice none 0 0,.int .i64 0,.int .i64 0],.agg #[.int .i64 0,.int .i64 0,.int .i64 0,.int .i64 0,.int .i64 0],.int .i64 2]) (by simp [results,Tryz.results62,go_sem, *]) rfl ⟨_,_,rfl,?_,Jh.nil,.inl ⟨rfl,rfl⟩⟩;exact Je
     have hsb : (seq == 99) = false:=by rw [beq_eq_false_iff_ne];omega
     have hQ:=HOK.out (by rw [HE.out];rw [hp0,if_neg (by simp),if_neg (by simp),if_neg (by simp),if_neg (show ¬ JP < time by omega),if_neg (by simp),if_neg h6,if_neg (by simp [hl,hs9])]);subst hQ;clear HERR HE HOK HPL HWL HTW hp0 h6;go_wp2_with fail;clear hu hzb hfb hlb hsb hkb hkd hf hs9 hn0
     have hg0 : Row (((wr.setCell ⟨w.heap.size,2,none⟩ (.int .i64 (seq + 1))).setCell ⟨w.heap.size,6,none⟩ (.int .i64 (left - 1))).alloc (.cells (tpc ⟨t0,gid,seq + 1,time,zone⟩) 57)) w.heap.size #[.int .i64 gid,.int .i64 zone,.int .i64 (seq + 1),.slice A l.length c,.int .i64 ver,.slice A2 ids.length c2,.int .i64 (left - 1),.int .i64 JP]:=by
      have:=((Rr_0.out.J4 (i:=2) (u:=.int .i64 (seq + 1))).J4 (i:=6) (u:=.int .i64 (left - 1))).alloc (o:=.cells (tpc ⟨t0,gid,seq + 1,time,zone⟩) 57)
      simpa only [List.setIfInBounds_toArray,List.set_cons_zero,List.set_cons_succ] using this
     have hg1 : Row (((wr.setCell ⟨w.heap.size,2,none⟩ (.int .i64 (seq + 1))).setCell ⟨w.heap.size,6,none⟩ (.int .i64 (left - 1))).alloc (.cells (tpc ⟨t0,gid,seq + 1,time,zone⟩) 57)) wr.heap.size (tpc ⟨t0,gid,seq + 1,time,zone⟩):=Row.newAt (by simp);have hg2 : Row (((wr.setCell ⟨w.heap.size,2,none⟩ (.int .i64 (seq + 1))).setCell ⟨w.heap.size,6,none⟩ (.int .i64 (left - 1))).alloc (.cells (tpc ⟨t0,gid,seq + 1,time,zone⟩) 57)) (w.heap.size + 1 + 1) #[.int .i64 0,.int .i64 0,.int .i64 0,.slice none 0 0,.int .i64 0,.slice none 0 0,.int .i64 0,.int .i64 0]:=Row.alloc (Row.far (by simp <;> omega) (Row.far (by simp <;> omega) Rr_2.out));have hg3 : Row (((wr.setCell ⟨w.heap.size,2,none⟩ (.int .i64 (seq + 1))).setCell ⟨w.heap.size,6,none⟩ (.int .i64 (left - 1))).alloc (.cells (tpc ⟨t0,gid,seq + 1,time,zone⟩) 57)) (w.heap.size + 1 + 1 + 1) #[.int .i64 0,.int .i64 0,.int .i64 0,.int .i64 0,.int .i64 0]:=Row.alloc (Row.far (by simp <;> omega) (Row.far (by simp <;> omega) Rr_3.out))
     have hgE : Ext w (((wr.setCell ⟨w.heap.size,2,none⟩ (.int .i64 (seq + 1))).setCell ⟨w.heap.size,6,none⟩ (.int .i64 (left - 1))).alloc (.cells (tpc ⟨t0,gid,seq + 1,time,zone⟩) 57)):=by exact Je
     unfold tpc at hg0 hg1 hg2 hg3 hgE;simp only at hg0 hg1 hg2 hg3 hgE;generalize hpb : wr.heap.size = pb at *;generalize ((wr.setCell ⟨w.heap.size,2,none⟩ (.int .i64 (seq + 1))).setCell ⟨w.heap.size,6,none⟩ (.int .i64 (left - 1))).alloc (.cells #[.int .i64 t0,.int .i64 gid,.int .i64 (seq + 1),.int .i64 time,.int .i64 zone] 57) = W at *;have HG0:=hH hg0;have HG1:=hH hg1;have HG2:=hH hg2;have HG3:=hH hg3;have HGE:=hH hgE;have hbs : w.heap.size < W.heap.size:=hg0.1;clear hg0 hg1 hg2 hg3 hgE Rr_0 Rr_1 Rr_2 Rr_3 HR0 HR1 HR2 HR3 HE2 hbs;refine Jw (fun w'=>(∀ o,w'.cell? ⟨w.heap.size,o,none⟩ = (#[.int .i64 gid,.int .i64 zone,.int .i64 (seq + 1),.slice A l.length c,.int .i64 ver,.slice A2 ids.length c2,.int .i64 (left - 1),.int .i64 JP] : Array Value)[o]?) /\ (∀ o,w'.cell? ⟨pb,o,none⟩ = (#[.int .i64 t0,.int .i64 gid,.int .i64 (seq + 1),.int .i64 time,.int .i64 zone] : Array Value)[o]?)) 8 (by kernel_rfl) ⟨fun o=>HG0.out.2.1 o,fun o=>HG1.out.2.1 o⟩ (fun hS=>?_);simp only [List.length_cons,List.length_nil];(refine tkS 1 hS ?_;refine tkS 2 hS ?_;refine tkS 4 hS ?_);clear hS;refine T_copy1 (enc:=tpc) (k:=5) (i0:=0) (i3:=3) (i5:=5) (i6:=6) (d0:=129) (d3:=132) (d5:=134) (d6:=135) (x2:=131) (px:=133) 57 23 i0 (.agg #[.int .i64 0,.int .i64 0,.int .i64 0,.int .i64 0,.int .i64 0]) 40 Tryz.underlying23 ji ji0 ji1 ji2 rfl (by decide) Jr rfl rfl rfl rfl rfl rfl rfl rfl ⟨t0,gid,seq + 1,time,zone⟩ ?s0 ?s5 rfl rfl rfl rfl (by decide) ⟨?z1,?z2,?z3⟩ (by decide) (by kernel_rfl) (by kernel_rfl) (by kernel_rfl) (by kernel_rfl) (by kernel_rfl) (by kernel_rfl) (fun w' he=>⟨(Row.ext he (Row.drew HG0.out)).2.1,(Row.ext he (Row.drew HG1.out)).2.1⟩) (.slice A l.length c) l rfl ((HRd.out.ext HGE.out).ext ((Ext.refl _).drew)) rfl (taps_one _) (taps_one _) (by unfold maxLen;omega) (by omega) ?fin
     case s0=>exact fun a w K h=>bs0_tp a w K h
     case s5=>exact fun a w K hp h=>bs1_tp ⟨t0,gid,seq + 1,time,zone⟩ a w K hp h
     case z1=>simp
     case z2=>simp
     case z3=>simp
     case fin =>
      intro v0 v3 v5 v6 W2 ho2 he2;obtain ⟨A',c',rfl⟩:=ho2.form;simp only [List.length_append,List.length_cons,List.length_nil,Nat.zero_add] at ho2 ⊢;have hpw:=HG1.out.1;(try simp only [lSz] at ho2);have hj0:=Row.ext he2 (Row.drew HG0.out);have hj1:=Row.ext he2 (Row.drew HG1.out);have hj2:=Row.ext he2 (Row.drew HG2.out);have hj3:=Row.ext he2 (Row.drew HG3.out);have HO2:=hH ho2;have HE2:=hH he2;have HJ0:=hH hj0;have HJ1:=hH hj1;have HJ2:=hH hj2;have HJ3:=hH hj3;have hq0:=hj0.2.1;have hf0:=hj0.2.2;have hl0:=hj0.1;clear ho2 he2 hj0 hj1 hj2 hj3;have hS:=And.intro (fun o=>HJ0.out.2.1 o) (fun o=>HJ1.out.2.1 o);(try simp only [Act.put,Jm]);(refine tkS 7 hS ?_);clear hS;refine oA 8 fun K hK=>?_;go_simp;refine hK.out _ _ (.inl (by kernel_rfl)) ?_;clear hK;refine Ju (by kernel_rfl) ?_ _;have hk0:=HJ0.out.J4 (i:=3) (u:=.slice A' (l.length + 1) c');simp only [Jm] at hk0;have hk1:=Row.far (p:=⟨w.heap.size,3,none⟩) (u:=.slice A' (l.length + 1) c') (by simp <;> omega) HJ1.out;have hk2:=Row.far (p:=⟨w.heap.size,3,none⟩) (u:=.slice A' (l.length + 1) c') (by simp <;> omega) HJ2.out;have hk3:=Row.far (p:=⟨w.heap.size,3,none⟩) (u:=.slice A' (l.length + 1) c') (by simp <;> omega) HJ3.out
      have hkE : Ext w (W2.setCell ⟨w.heap.size,3,none⟩ (.slice A' (l.length + 1) c')):=by exact Je
      have hkO : Jh 57 5 tpc W.heap.size (W2.setCell ⟨w.heap.size,3,none⟩ (.slice A' (l.length + 1) c')) (.slice A' (l.length + 1) c') (l ++ [⟨t0,gid,seq + 1,time,zone⟩]):=Jh.Jl (by simp;omega) HO2.out;generalize hLL : (l ++ [(⟨t0,gid,seq + 1,time,zone⟩ : Tp)]) = LL at *;generalize W2.setCell ⟨w.heap.size,3,none⟩ (.slice A' (l.length + 1) c') = W3 at *;have HK0:=hH hk0;have HK1:=hH hk1;have HK2:=hH hk2;have HK3:=hH hk3;have HKE:=hH hkE;have HKO:=hH hkO;have hlt3:=hk3.1;have hq2:=hk2.2.1;have hq3:=hk3.2.1;have hf2:=hk2.2.2;have hf3:=hk3.2.2;clear hk0 hk1 hk2 hk3 hkE hkO hq0 hf0 hl0 HJ0 HJ1 HJ2 HJ3 HG0 HG1 HG2 HG3 HO2;go_wp2_with fail;refine Jw (fun w'=>(∀ o,w'.cell? ⟨w.heap.size,o,none⟩ = (#[.int .i64 gid,.int .i64 zone,.int .i64 (seq + 1),.slice A' (l.length + 1) c',.int .i64 ver,.slice A2 ids.length c2,.int .i64 (left - 1),.int .i64 JP] : Array Value)[o]?) /\ (∀ o,w'.cell? ⟨pb,o,none⟩ = (#[.int .i64 t0,.int .i64 gid,.int .i64 (seq + 1),.int .i64 time,.int .i64 zone] : Array Value)[o]?)) 5 (by kernel_rfl) ⟨fun o=>HK0.out.2.1 o,fun o=>HK1.out.2.1 o⟩ (fun hS=>?_);simp only [List.length_cons,List.length_nil];(refine tkS 0 hS ?_;refine tkS 1 hS ?_;refine tkS 2 hS ?_);clear hS;refine oA 3 fun K hK=>?_;go_simp;refine hK.out _ _ (.inr ⟨(show Row _ w.heap.size _ from ?_).2.1,(show Row _ pb _ from ?_).2.1⟩) ?_
      ·exact rowA
      ·exact rowA
      clear hK;(try simp only [Act.put,Jm]);refine oA 4 fun K hK=>?_;go_simp;refine hK.out _ _ (.inr ⟨(show Row _ w.heap.size _ from ?_).2.1,(show Row _ pb _ from ?_).2.1⟩) ?_
      ·exact rowA
      ·exact rowA
      clear hK;(try simp only [Act.put,Jm]);refine oA 5 fun K hK=>?_;go_simp;refine hK.out _ _ (.inl (by kernel_rfl)) ?_;clear hK;refine Ju (by kernel_rfl) ?_ _;go_wp2_with fail;refine bodyPost_ret (v:=.tuple #[.agg #[.int .i64 gid,.int .i64 zone,.int .i64 (seq + 1),.slice A' (l.length + 1) c',.int .i64 ver,.slice A2 ids.length c2,.int .i64 (left - 1),.int .i64 JP],.agg #[.int .i64 t0,.int .i64 gid,.int .i64 (seq + 1),.int .i64 time,.int .i64 zone],.int .i64 0]) (by simp [results,Tryz.results62,go_sem, *]) rfl ⟨.slice A' (l.length + 1) c',.slice A2 ids.length c2,rfl,?_,?_,?_⟩
      ·exact Je
      ·exact ownA (W.heap.size)
      ·first | exact .inr ⟨rfl,rfl⟩ | exact .inr rfl
end Go.Proofs.YteojjbhadgkfgaaGreat
