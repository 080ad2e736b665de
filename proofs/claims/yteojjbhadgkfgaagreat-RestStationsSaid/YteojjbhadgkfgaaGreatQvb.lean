/- Qvb: parts of the proofs, laid together. -/
import Derived.Test.YteojjbhadgkfgaaGreatQv
import Derived.Test.YteojjbhadgkfgaaGreatQw
/- The reference's DoOf: acts of kind 5. -/
set_option maxHeartbeats 64000000
namespace Go.Proofs.YteojjbhadgkfgaaGreat
set_option linter.unusedSimpArgs false
set_option linter.unusedVariables false
set_option maxRecDepth 100000
open Go Go.RowKit Lb

theorem doOf_5 {P : Nat -> Prop} (s : St) (x : Sv) (a : Ac) (w : World) (hrp : JX P w x s) (hP : ∀ q,P q -> q < w.heap.size) (rs : JJ s) (hf : Jp a = 0) (hkd : a.kind = 5) :
  Calls Tryz.prog 39 #[.agg (sta s x),.agg (acc a)] w fun e w'=>∃ x',e = .returned (.tuple #[.agg (sta (JV s a).1 x'),.int .i64 (JV s a).2.1,.int .i64 (JV s a).2.2]) /\ Ext w w' /\ JX (fun q=>P q \/ w.heap.size <= q) w' x' (JV s a).1:=by
 have hr:=hrp.rd;have HP:=hH hP;have HVP:=hH hrp;have hda:=doAll_act rs hf;obtain ⟨k,id,of,time,⟨t0,t1,t2,t3,t4,t5⟩⟩:=a;simp only at hkd;subst hkd;have hn:=neq_tk' t0 t1 t2 t3 t4 t5 0 0 0 0 0 0;have KB:=hH (fun (w' : World)=>(show within 5 1 7 = true by decide) ▸ JA 5 1 7 w')
 have hT : (⟨t0,t1,t2,t3,t4,t5⟩ : Tk) = ⟨0,0,0,0,0,0⟩:=by
  apply Decidable.byContradiction;intro hT
  unfold Jp at hf;simp only [tk0] at hf;simp [hT] at hf
 rw [decide_eq_true hT] at hn
 have hid : id = 0:=by
  apply Decidable.byContradiction;intro h
  unfold Jp at hf;simp [tk0,hT,h] at hf
 subst hid
 have htime : time = 0:=by
  apply Decidable.byContradiction;intro h
  unfold Jp at hf;simp [tk0,hT,h] at hf
 subst htime;rw [show Zg s 0 ⟨5,0,of,0,⟨t0,t1,t2,t3,t4,t5⟩⟩ = (⟨s.Ja,s.Jb,s.Jg,(Zz s.Jj of true).1⟩,0,(Zz s.Jj of true).2) from by unfold Zg;rfl] at hda;have KS:=hH (fun w' (h : Ext w w')=>ref_SetOf s.Jj x.sv of true w' (hr.vw.ext h) rs.Jj);generalize Zz s.Jj of true = T at *;obtain ⟨VL,VE⟩:=T;generalize JV s ⟨5,0,of,0,⟨t0,t1,t2,t3,t4,t5⟩⟩ = R at *;have HRES:=hH hda;clear hda hf;clear hT;obtain ⟨s0,s1,s2,si,sg,sv⟩:=x;obtain ⟨B0,kB0,rfl⟩ : ∃ B d,s0 = .slice B s.Ja.Jc.length d:=hr.tk.frm;obtain ⟨B1,kB1,rfl⟩ : ∃ B d,s1 = .slice B s.Ja.Jf.length d:=hr.tp.frm;obtain ⟨B2,kB2,rfl⟩ : ∃ B d,s2 = .slice B s.Ja.Jd.length d:=hr.vd.frm;obtain ⟨B3,kB3,rfl⟩ : ∃ B d,si = .slice B s.Jb.ids.length d:=hr.dn.frm;obtain ⟨B4,kB4,rfl⟩ : ∃ B d,sg = .slice B s.Jg.length d:=hr.gt.frm;obtain ⟨B5,kB5,rfl⟩ : ∃ B d,sv = .slice B s.Jj.length d:=hr.vw.frm;clear hr hrp hP rs;unfold sta at *;unfold acc;simp only at *;go_enter Tryz.func39,Tryz.ntmps39;go_wp2_with fail;refine gB (KB.out _) ?_;go_wp2_with fail;refine (KS.out _ Je).mono ?_;rintro e w2 ⟨sq,rfl,h2,o2⟩;obtain ⟨C8,f8,rfl⟩:=o2.form;have H2:=hH h2;have hz2:=h2.size;(try simp only [lSz] at hz2);have HO2:=hH (o2.lower (b2:=w.heap.size + 4) (by simp;try omega));clear h2 o2;(refine Ji w2 w.heap.size fun q2_0 f2_0 l2_0 R2_0=>?_;refine Ji w2 (w.heap.size + 1) fun q2_1 f2_1 l2_1 R2_1=>?_;refine Ji w2 (w.heap.size + 1 + 1) fun q2_2 f2_2 l2_2 R2_2=>?_;refine Ji w2 (w.heap.size + 1 + 1 + 1) fun q2_3 f2_3 l2_3 R2_3=>?_)
 by_cases hE : VE = 0
 case neg =>
  have hEb : (VE == 0) = false:=by simpa using hE
  have hEc : (VE != 0) = true:=by simpa using hE
  have HQ:=hH (show R = (st0,0,VE) from by rw [HRES.out];simp [hE]);go_wp2_with fail;rw [HQ.out];exact bodyPost_ret (v:=.tuple #[.agg #[.slice none 0 0,.slice none 0 0,.slice none 0 0,.int .i64 0,.slice none 0 0,.slice none 0 0,.slice none 0 0],.int .i64 0,.int .i64 VE]) (by simp [results,Tryz.results39,go_sem, *]) rfl ⟨sv0,rfl,(Je : Ext w _),JX.nil⟩
 subst hE;have HQ:=hH (show R = (⟨s.Ja,s.Jb,s.Jg,VL⟩,0,0) from by rw [HRES.out];simp);go_wp2_with fail;rw [HQ.out];refine bodyPost_ret (v:=.tuple #[.agg #[.slice B0 s.Ja.Jc.length kB0,.slice B1 s.Ja.Jf.length kB1,.slice B2 s.Ja.Jd.length kB2,.int .i64 s.Jb.Jk,.slice B3 s.Jb.ids.length kB3,.slice B4 s.Jg.length kB4,.slice C8 VL.length f8],.int .i64 0,.int .i64 0]) (by simp [results,Tryz.results39,go_sem, *]) rfl ⟨⟨.slice B0 s.Ja.Jc.length kB0,.slice B1 s.Ja.Jf.length kB1,.slice B2 s.Ja.Jd.length kB2,.slice B3 s.Jb.ids.length kB3,.slice B4 s.Jg.length kB4,.slice C8 VL.length f8⟩,rfl,(Je : Ext w _),?_⟩;refine ⟨(HVP.out.tk.weak (fun q hq=>.inl hq)).ext Je,(HVP.out.tp.weak (fun q hq=>.inl hq)).ext Je,(HVP.out.vd.weak (fun q hq=>.inl hq)).ext Je,(HVP.out.dn.weak (fun q hq=>.inl hq)).ext Je,(HVP.out.gt.weak (fun q hq=>.inl hq)).ext Je,Jh.rdq (e:=110) (base:=w.heap.size + 4) (v:=.slice C8 VL.length f8) (l:=VL) ?_ JY (by omega)⟩
 repeat (first | (with_reducible exact HO2.out) | (with_reducible apply Jh.Jl;focus (simp <;> omega)) | (with_reducible apply Jh.drew))

theorem doOf_6 {P : Nat -> Prop} (s : St) (x : Sv) (a : Ac) (w : World) (hrp : JX P w x s) (hP : ∀ q,P q -> q < w.heap.size) (rs : JJ s) (hf : Jp a = 0) (hkd : a.kind = 6) :
  Calls Tryz.prog 39 #[.agg (sta s x),.agg (acc a)] w fun e w'=>∃ x',e = .returned (.tuple #[.agg (sta (JV s a).1 x'),.int .i64 (JV s a).2.1,.int .i64 (JV s a).2.2]) /\ Ext w w' /\ JX (fun q=>P q \/ w.heap.size <= q) w' x' (JV s a).1:=by
 have hr:=hrp.rd;have HP:=hH hP;have HVP:=hH hrp;have hda:=doAll_act rs hf;obtain ⟨k,id,of,time,⟨t0,t1,t2,t3,t4,t5⟩⟩:=a;simp only at hkd;subst hkd;have hn:=neq_tk' t0 t1 t2 t3 t4 t5 0 0 0 0 0 0;have KB:=hH (fun (w' : World)=>(show within 6 1 7 = true by decide) ▸ JA 6 1 7 w')
 have hT : (⟨t0,t1,t2,t3,t4,t5⟩ : Tk) = ⟨0,0,0,0,0,0⟩:=by
  apply Decidable.byContradiction;intro hT
  unfold Jp at hf;simp only [tk0] at hf;simp [hT] at hf
 rw [decide_eq_true hT] at hn
 have hid : id = 0:=by
  apply Decidable.byContradiction;intro h
  unfold Jp at hf;simp [tk0,hT,h] at hf
 subst hid
 have htime : time = 0:=by
  apply Decidable.byContradiction;intro h
  unfold Jp at hf;simp [tk0,hT,h] at hf
 subst htime;rw [show Zg s 0 ⟨6,0,of,0,⟨t0,t1,t2,t3,t4,t5⟩⟩ = (⟨s.Ja,s.Jb,s.Jg,(Zz s.Jj of false).1⟩,0,(Zz s.Jj of false).2) from by unfold Zg;rfl] at hda;have KS:=hH (fun w' (h : Ext w w')=>ref_SetOf s.Jj x.sv of false w' (hr.vw.ext h) rs.Jj);generalize Zz s.Jj of false = T at *;obtain ⟨VL,VE⟩:=T;generalize JV s ⟨6,0,of,0,⟨t0,t1,t2,t3,t4,t5⟩⟩ = R at *;have HRES:=hH hda;clear hda hf;clear hT;obtain ⟨s0,s1,s2,si,sg,sv⟩:=x;obtain ⟨B0,kB0,rfl⟩ : ∃ B d,s0 = .slice B s.Ja.Jc.length d:=hr.tk.frm;obtain ⟨B1,kB1,rfl⟩ : ∃ B d,s1 = .slice B s.Ja.Jf.length d:=hr.tp.frm;obtain ⟨B2,kB2,rfl⟩ : ∃ B d,s2 = .slice B s.Ja.Jd.length d:=hr.vd.frm;obtain ⟨B3,kB3,rfl⟩ : ∃ B d,si = .slice B s.Jb.ids.length d:=hr.dn.frm;obtain ⟨B4,kB4,rfl⟩ : ∃ B d,sg = .slice B s.Jg.length d:=hr.gt.frm;obtain ⟨B5,kB5,rfl⟩ : ∃ B d,sv = .slice B s.Jj.length d:=hr.vw.frm;clear hr hrp hP rs;unfold sta at *;unfold acc;simp only at *;go_enter Tryz.func39,Tryz.ntmps39;go_wp2_with fail;refine gB (KB.out _) ?_;go_wp2_with fail;refine (KS.out _ Je).mono ?_;rintro e w2 ⟨sq,rfl,h2,o2⟩;obtain ⟨C8,f8,rfl⟩:=o2.form;have H2:=hH h2;have hz2:=h2.size;(try simp only [lSz] at hz2);have HO2:=hH (o2.lower (b2:=w.heap.size + 4) (by simp;try omega));clear h2 o2;(refine Ji w2 w.heap.size fun q2_0 f2_0 l2_0 R2_0=>?_;refine Ji w2 (w.heap.size + 1) fun q2_1 f2_1 l2_1 R2_1=>?_;refine Ji w2 (w.heap.size + 1 + 1) fun q2_2 f2_2 l2_2 R2_2=>?_;refine Ji w2 (w.heap.size + 1 + 1 + 1) fun q2_3 f2_3 l2_3 R2_3=>?_)
 by_cases hE : VE = 0
 case neg =>
  have hEb : (VE == 0) = false:=by simpa using hE
  have hEc : (VE != 0) = true:=by simpa using hE
  have HQ:=hH (show R = (st0,0,VE) from by rw [HRES.out];simp [hE]);go_wp2_with fail;rw [HQ.out];exact bodyPost_ret (v:=.tuple #[.agg #[.slice none 0 0,.slice none 0 0,.slice none 0 0,.int .i64 0,.slice none 0 0,.slice none 0 0,.slice none 0 0],.int .i64 0,.int .i64 VE]) (by simp [results,Tryz.results39,go_sem, *]) rfl ⟨sv0,rfl,(Je : Ext w _),JX.nil⟩
 subst hE;have HQ:=hH (show R = (⟨s.Ja,s.Jb,s.Jg,VL⟩,0,0) from by rw [HRES.out];simp);go_wp2_with fail;rw [HQ.out];refine bodyPost_ret (v:=.tuple #[.agg #[.slice B0 s.Ja.Jc.length kB0,.slice B1 s.Ja.Jf.length kB1,.slice B2 s.Ja.Jd.length kB2,.int .i64 s.Jb.Jk,.slice B3 s.Jb.ids.length kB3,.slice B4 s.Jg.length kB4,.slice C8 VL.length f8],.int .i64 0,.int .i64 0]) (by simp [results,Tryz.results39,go_sem, *]) rfl ⟨⟨.slice B0 s.Ja.Jc.length kB0,.slice B1 s.Ja.Jf.length kB1,.slice B2 s.Ja.Jd.length kB2,.slice B3 s.Jb.ids.length kB3,.slice B4 s.Jg.length kB4,.slice C8 VL.length f8⟩,rfl,(Je : Ext w _),?_⟩;refine ⟨(HVP.out.tk.weak (fun q hq=>.inl hq)).ext Je,(HVP.out.tp.weak (fun q hq=>.inl hq)).ext Je,(HVP.out.vd.weak (fun q hq=>.inl hq)).ext Je,(HVP.out.dn.weak (fun q hq=>.inl hq)).ext Je,(HVP.out.gt.weak (fun q hq=>.inl hq)).ext Je,Jh.rdq (e:=110) (base:=w.heap.size + 4) (v:=.slice C8 VL.length f8) (l:=VL) ?_ JY (by omega)⟩
 repeat (first | (with_reducible exact HO2.out) | (with_reducible apply Jh.Jl;focus (simp <;> omega)) | (with_reducible apply Jh.drew))

theorem winOf_P {P : Nat -> Prop} (l : List Vw) (v : Value) (who : Int) (w : World) (hr : RdP P 3 vwc w v l) (hd : JI l = 0) :
  Calls Tryz.prog 93 #[v,.int .i64 who] w fun e w'=>∃ s',e = .returned (.tuple #[s',.bool (Zw l who).2.1,.int .i64 (Zw l who).2.2]) /\ Ext w w' /\ RdP (fun q=>P q \/ w.heap.size <= q) 3 vwc w' s' (Zw l who).1:=by
 have hw : (Zw l who).1 = l \/ (Zw l who).1.length = 0 \/ True:=.inr (.inr trivial);refine (ref_WinOfO l v who w hr.rd hd).mono ?_;rintro e w' ⟨s',h1,h2,h3,h4⟩;refine ⟨s',h1,h2,h3,?_⟩
 rcases h4 with rfl | h4
 ·intro h0 q hq
  by_cases hl : 0 < l.length
  ·exact .inl (hr.2 hl q hq)
  ·have : l.length = 3:=((Zr l).1 hd).1
   omega
 ·exact fun _ q hq=>.inr (h4.lt q hq).1
theorem doOf_7 {P : Nat -> Prop} (s : St) (x : Sv) (a : Ac) (w : World) (hrp : JX P w x s) (hP : ∀ q,P q -> q < w.heap.size) (rs : JJ s) (hf : Jp a = 0) (hkd : a.kind = 7) :
  Calls Tryz.prog 39 #[.agg (sta s x),.agg (acc a)] w fun e w'=>∃ x',e = .returned (.tuple #[.agg (sta (JV s a).1 x'),.int .i64 (JV s a).2.1,.int .i64 (JV s a).2.2]) /\ Ext w w' /\ JX (fun q=>P q \/ w.heap.size <= q) w' x' (JV s a).1:=by
 have hr:=hrp.rd;have HP:=hH hP;have HVP:=hH hrp;have hda:=doAll_act rs hf;obtain ⟨k,id,of,time,⟨t0,t1,t2,t3,t4,t5⟩⟩:=a;simp only at hkd;subst hkd;have hn:=neq_tk' t0 t1 t2 t3 t4 t5 0 0 0 0 0 0;have KB:=hH (fun (w' : World)=>(show within 7 1 7 = true by decide) ▸ JA 7 1 7 w')
 have hT : (⟨t0,t1,t2,t3,t4,t5⟩ : Tk) = ⟨0,0,0,0,0,0⟩:=by
  apply Decidable.byContradiction;intro hT
  unfold Jp at hf;simp only [tk0] at hf;simp [hT] at hf
 rw [decide_eq_true hT] at hn
 have hid : id = 0:=by
  apply Decidable.byContradiction;intro h
  unfold Jp at hf;simp [tk0,hT,h] at hf
 subst hid
 have htime : time = 0:=by
  apply Decidable.byContradiction;intro h
  unfold Jp at hf;simp [tk0,hT,h] at hf
 subst htime;rw [show Zg s 0 ⟨7,0,of,0,⟨t0,t1,t2,t3,t4,t5⟩⟩ = (⟨s.Ja,s.Jb,s.Jg,(Zw s.Jj of).1⟩,(if (Zw s.Jj of).2.1 = true then 1 else 0),(Zw s.Jj of).2.2) from by unfold Zg;rfl] at hda;have KS:=hH (fun w' (h : Ext w w')=>winOf_P s.Jj x.sv of w' (hrp.vw.ext h) rs.Jj);generalize Zw s.Jj of = T at *;obtain ⟨VL,VO,VE⟩:=T;generalize JV s ⟨7,0,of,0,⟨t0,t1,t2,t3,t4,t5⟩⟩ = R at *;have HRES:=hH hda;clear hda hf;clear hT;obtain ⟨s0,s1,s2,si,sg,sv⟩:=x;obtain ⟨B0,kB0,rfl⟩ : ∃ B d,s0 = .slice B s.Ja.Jc.length d:=hr.tk.frm;obtain ⟨B1,kB1,rfl⟩ : ∃ B d,s1 = .slice B s.Ja.Jf.length d:=hr.tp.frm;obtain ⟨B2,kB2,rfl⟩ : ∃ B d,s2 = .slice B s.Ja.Jd.length d:=hr.vd.frm;obtain ⟨B3,kB3,rfl⟩ : ∃ B d,si = .slice B s.Jb.ids.length d:=hr.dn.frm;obtain ⟨B4,kB4,rfl⟩ : ∃ B d,sg = .slice B s.Jg.length d:=hr.gt.frm;obtain ⟨B5,kB5,rfl⟩ : ∃ B d,sv = .slice B s.Jj.length d:=hr.vw.frm;clear hr hrp hP rs;unfold sta at *;unfold acc;simp only at *;go_enter Tryz.func39,Tryz.ntmps39;go_wp2_with fail;refine gB (KB.out _) ?_;go_wp2_with fail;refine (KS.out _ Je).mono ?_;rintro e w2 ⟨sq,rfl,h2,o2⟩;obtain ⟨C8,f8,rfl⟩:=o2.form;have H2:=hH h2;have hz2:=h2.size;(try simp only [lSz] at hz2 o2);have HO2:=hH (RdP.weak (Q:=(fun q=>P q \/ w.heap.size + 4 <= q)) o2 (fun q hq=>hq.elim .inl (fun hq=>.inr (by (try simp only [lSz] at hq);omega))));clear h2 o2;(refine Ji w2 w.heap.size fun q2_0 f2_0 l2_0 R2_0=>?_;refine Ji w2 (w.heap.size + 1) fun q2_1 f2_1 l2_1 R2_1=>?_;refine Ji w2 (w.heap.size + 1 + 1) fun q2_2 f2_2 l2_2 R2_2=>?_;refine Ji w2 (w.heap.size + 1 + 1 + 1) fun q2_3 f2_3 l2_3 R2_3=>?_)
 by_cases hE : VE = 0
 case neg =>
  have hEb : (VE == 0) = false:=by simpa using hE
  have hEc : (VE != 0) = true:=by simpa using hE
  cases VO
  case false =>
   have HQ:=hH (show R = (st0,0,VE) from by rw [HRES.out];simp [hE]);go_wp2_with fail;rw [HQ.out];exact bodyPost_ret (v:=.tuple #[.agg #[.slice none 0 0,.slice none 0 0,.slice none 0 0,.int .i64 0,.slice none 0 0,.slice none 0 0,.slice none 0 0],.int .i64 0,.int .i64 VE]) (by simp [results,Tryz.results39,go_sem, *]) rfl ⟨sv0,rfl,(Je : Ext w _),JX.nil⟩
  case true =>
   have HQ:=hH (show R = (st0,1,VE) from by rw [HRES.out];simp [hE]);go_wp2_with fail;rw [HQ.out];exact bodyPost_ret (v:=.tuple #[.agg #[.slice none 0 0,.slice none 0 0,.slice none 0 0,.int .i64 0,.slice none 0 0,.slice none 0 0,.slice none 0 0],.int .i64 1,.int .i64 VE]) (by simp [results,Tryz.results39,go_sem, *]) rfl ⟨sv0,rfl,(Je : Ext w _),JX.nil⟩
 subst hE
 cases VO
 case false =>
  have HQ:=hH (show R = (⟨s.Ja,s.Jb,s.Jg,VL⟩,0,0) from by rw [HRES.out];simp);go_wp2_with fail;rw [HQ.out];refine bodyPost_ret (v:=.tuple #[.agg #[.slice B0 s.Ja.Jc.length kB0,.slice B1 s.Ja.Jf.length kB1,.slice B2 s.Ja.Jd.length kB2,.int .i64 s.Jb.Jk,.slice B3 s.Jb.ids.length kB3,.slice B4 s.Jg.length kB4,.slice C8 VL.length f8],.int .i64 0,.int .i64 0]) (by simp [results,Tryz.results39,go_sem, *]) rfl ⟨⟨.slice B0 s.Ja.Jc.length kB0,.slice B1 s.Ja.Jf.length kB1,.slice B2 s.Ja.Jd.length kB2,.slice B3 s.Jb.ids.length kB3,.slice B4 s.Jg.length kB4,.slice C8 VL.length f8⟩,rfl,(Je : Ext w _),?_⟩;refine ⟨(HVP.out.tk.weak (fun q hq=>.inl hq)).ext Je,(HVP.out.tp.weak (fun q hq=>.inl hq)).ext Je,(HVP.out.vd.weak (fun q hq=>.inl hq)).ext Je,(HVP.out.dn.weak (fun q hq=>.inl hq)).ext Je,(HVP.out.gt.weak (fun q hq=>.inl hq)).ext Je,?_⟩;(refine RdP.weak (P:=(fun q=>P q \/ w.heap.size + 4 <= q)) ?_ (fun q hq=>hq.elim .inl (fun hq=>.inr (by omega)));repeat (first | (with_reducible exact Hid.out ‹Hid (RdP _ _ _ _ _ _)›) | (with_reducible refine RdP.Jl (fun h=>h.elim (fun h=>by have:=HP.out _ h;simp at this;omega) (fun h=>by simp at h;omega)) ?_) | (with_reducible refine RdP.ext ?_ (Hid.out ‹Hid (Ext _ _)›))))
 case true =>
  have HQ:=hH (show R = (⟨s.Ja,s.Jb,s.Jg,VL⟩,1,0) from by rw [HRES.out];simp);go_wp2_with fail;rw [HQ.out];refine bodyPost_ret (v:=.tuple #[.agg #[.slice B0 s.Ja.Jc.length kB0,.slice B1 s.Ja.Jf.length kB1,.slice B2 s.Ja.Jd.length kB2,.int .i64 s.Jb.Jk,.slice B3 s.Jb.ids.length kB3,.slice B4 s.Jg.length kB4,.slice C8 VL.length f8],.int .i64 1,.int .i64 0]) (by simp [results,Tryz.results39,go_sem, *]) rfl ⟨⟨.slice B0 s.Ja.Jc.length kB0,.slice B1 s.Ja.Jf.length kB1,.slice B2 s.Ja.Jd.length kB2,.slice B3 s.Jb.ids.length kB3,.slice B4 s.Jg.length kB4,.slice C8 VL.length f8⟩,rfl,(Je : Ext w _),?_⟩;refine ⟨(HVP.out.tk.weak (fun q hq=>.inl hq)).ext Je,(HVP.out.tp.weak (fun q hq=>.inl hq)).ext Je,(HVP.out.vd.weak (fun q hq=>.inl hq)).ext Je,(HVP.out.dn.weak (fun q hq=>.inl hq)).ext Je,(HVP.out.gt.weak (fun q hq=>.inl hq)).ext Je,?_⟩;(refine RdP.weak (P:=(fun q=>P q \/ w.heap.size + 4 <= q)) ?_ (fun q hq=>hq.elim .inl (fun hq=>.inr (by omega)));repeat (first | (with_reducible exact Hid.out ‹Hid (RdP _ _ _ _ _ _)›) | (with_reducible refine RdP.Jl (fun h=>h.elim (fun h=>by have:=HP.out _ h;simp at this;omega) (fun h=>by simp at h;omega)) ?_) | (with_reducible refine RdP.ext ?_ (Hid.out ‹Hid (Ext _ _)›))))
end Go.Proofs.YteojjbhadgkfgaaGreat
