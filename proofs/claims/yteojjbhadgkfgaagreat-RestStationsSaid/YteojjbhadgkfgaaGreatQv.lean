/- Qv: parts of the proofs, laid together. -/
import Derived.Test.YteojjbhadgkfgaaGreatQx
import Derived.Test.YteojjbhadgkfgaaGreatQp
/- The reference's DoOf: acts that are not of their form. -/
set_option maxHeartbeats 64000000
namespace Go.Proofs.YteojjbhadgkfgaaGreat
set_option linter.unusedSimpArgs false
set_option linter.unusedVariables false
set_option maxRecDepth 100000
open Go Go.RowKit Lb

theorem RdL.frm {α : Type} [Inhabited α] {k : Nat} {enc : α -> Array Value} {w : World} {v : Value} {l : List α} (h : RdL k enc w v l) : ∃ B d,v = .slice B l.length d:=by
 obtain ⟨A,c,h,-⟩:=h.form;exact ⟨A,c,h⟩
theorem RdG.frm {w : World} {v : Value} {gl : List Gt} (h : RdG w v gl) : ∃ B d,v = .slice B gl.length d:=by
 obtain ⟨A,c,h,-⟩:=h.form;exact ⟨A,c,h⟩
theorem doAll_main {s : St} {a : Ac} (rs : JJ s) : JV s a = if Jp a ≠ 0 then (st0,0,Jp a) else if (Zg s 0 a).2.2 ≠ 0 then (st0,(Zg s 0 a).2) else Zg s 0 a:=by
 unfold JV;rw [if_neg (by simpa using Xd.2 rs)];unfold doS
 by_cases h : Jp a = 0
 ·simp only [h,ne_eq,not_true_eq_false,if_false]
  unfold ZT
  by_cases h2 : (Zg s 0 a).2.2 = 0 <;> simp [h2]
 ·simp [h]
theorem doAll_bad {s : St} {a : Ac} (rs : JJ s) (hf : Jp a ≠ 0) : JV s a = (st0,0,Jp a):=by rw [doAll_main rs,if_pos hf]
theorem doAll_act {s : St} {a : Ac} (rs : JJ s) (hf : Jp a = 0) : JV s a = if (Zg s 0 a).2.2 ≠ 0 then (st0,(Zg s 0 a).2) else Zg s 0 a:=by rw [doAll_main rs,if_neg (by simpa using hf)]
theorem doOf_bad {P : Nat -> Prop} (s : St) (x : Sv) (a : Ac) (w : World) (hrp : JX P w x s) (rs : JJ s) (hf : Jp a ≠ 0) :
  Calls Tryz.prog 39 #[.agg (sta s x),.agg (acc a)] w fun e w'=>∃ x',e = .returned (.tuple #[.agg (sta (JV s a).1 x'),.int .i64 (JV s a).2.1,.int .i64 (JV s a).2.2]) /\ Ext w w' /\ JX (fun q=>P q \/ w.heap.size <= q) w' x' (JV s a).1:=by
 have KB:=hH (fun (w' : World)=>JA a.kind 1 7 w');have hda:=doAll_bad rs hf;generalize JV s a = R at *;subst hda;obtain ⟨k,id,of,time,⟨t0,t1,t2,t3,t4,t5⟩⟩:=a;have hn:=neq_tk' t0 t1 t2 t3 t4 t5 0 0 0 0 0 0;obtain ⟨A0,c0,e0,-,-⟩:=hrp.rd.tk.form;obtain ⟨A1,c1,e1,-,-⟩:=hrp.rd.tp.form;obtain ⟨A2,c2,e2,-,-⟩:=hrp.rd.vd.form;obtain ⟨A3,c3,e3,-,-⟩:=hrp.rd.dn.form;obtain ⟨A4,c4,e4,hc4,-⟩:=hrp.rd.gt.form;obtain ⟨A5,c5,e5,-,-⟩:=hrp.rd.vw.form;obtain ⟨s0,s1,s2,si,sg,sv⟩:=x;simp only at e0 e1 e2 e3 e4 e5;subst e0 e1 e2 e3 e4 e5;clear hrp hc4 rs;unfold sta acc;simp only at KB ⊢
 rcases (show k < 1 \/ 7 < k \/ (1 <= k /\ k <= 7) from by omega) with hk1 | hk7 | hk17
 ·have HQ:=hH (show Jp ⟨k,id,of,time,⟨t0,t1,t2,t3,t4,t5⟩⟩ = 7 by unfold Jp;rw [if_pos (.inl hk1)])
  rw [show within k 1 7 = false by simp [within];omega] at KB;go_enter Tryz.func39,Tryz.ntmps39;go_wp2_with fail;refine gB (KB.out _) ?_;go_wp2_with fail;rw [HQ.out];exact bodyPost_ret (v:=.tuple #[.agg #[.slice none 0 0,.slice none 0 0,.slice none 0 0,.int .i64 0,.slice none 0 0,.slice none 0 0,.slice none 0 0],.int .i64 0,.int .i64 7]) (by simp [results,Tryz.results39,go_sem, *]) rfl ⟨sv0,rfl,(Je : Ext w _),JX.nil⟩
 ·have HQ:=hH (show Jp ⟨k,id,of,time,⟨t0,t1,t2,t3,t4,t5⟩⟩ = 7 by unfold Jp;rw [if_pos (.inr hk7)])
  rw [show within k 1 7 = false by simp [within];omega] at KB;go_enter Tryz.func39,Tryz.ntmps39;go_wp2_with fail;refine gB (KB.out _) ?_;go_wp2_with fail;rw [HQ.out];exact bodyPost_ret (v:=.tuple #[.agg #[.slice none 0 0,.slice none 0 0,.slice none 0 0,.int .i64 0,.slice none 0 0,.slice none 0 0,.slice none 0 0],.int .i64 0,.int .i64 7]) (by simp [results,Tryz.results39,go_sem, *]) rfl ⟨sv0,rfl,(Je : Ext w _),JX.nil⟩
 rw [show within k 1 7 = true by simp [within];omega] at KB
 obtain rfl | rfl | rfl | rfl | rfl | rfl | rfl : k = 1 \/ k = 2 \/ k = 3 \/ k = 4 \/ k = 5 \/ k = 6 \/ k = 7:=by omega
 rcases (Decidable.em (id = 0)).symm with hid | hid
 have hidb : (id != 0) = true:=by simpa using hid
 have HQ:=hH (show Jp ⟨1,id,of,time,⟨t0,t1,t2,t3,t4,t5⟩⟩ = 1 by unfold Jp;simp [tk0,hid]);clear hf
 rotate_left
 subst hid
 rcases (Decidable.em (of = 0)).symm with hof | hof
 have hofb : (of != 0) = true:=by simpa using hof
 have HQ:=hH (show Jp ⟨1,0,of,time,⟨t0,t1,t2,t3,t4,t5⟩⟩ = 1 by unfold Jp;simp [tk0,hof]);clear hf
 rotate_left
 subst hof
 rcases (Decidable.em (time = 0)).symm with htime | htime
 have htimeb : (time != 0) = true:=by simpa using htime
 have HQ:=hH (show Jp ⟨1,0,0,time,⟨t0,t1,t2,t3,t4,t5⟩⟩ = 1 by unfold Jp;simp [tk0,htime]);clear hf
 rotate_left
 subst htime;exact absurd (by unfold Jp;simp [tk0]) hf
 rcases (Decidable.em ((⟨t0,t1,t2,t3,t4,t5⟩ : Tk) = ⟨0,0,0,0,0,0⟩)).symm with hT | hT
 rw [decide_eq_false hT] at hn;have HQ:=hH (show Jp ⟨2,id,of,time,⟨t0,t1,t2,t3,t4,t5⟩⟩ = 1 by unfold Jp;simp only [tk0];simp [hT]);clear hf
 rotate_left
 rw [decide_eq_true hT] at hn;exact absurd (by unfold Jp;simp [tk0,hT]) hf
 rcases (Decidable.em ((⟨t0,t1,t2,t3,t4,t5⟩ : Tk) = ⟨0,0,0,0,0,0⟩)).symm with hT | hT
 rw [decide_eq_false hT] at hn;have HQ:=hH (show Jp ⟨3,id,of,time,⟨t0,t1,t2,t3,t4,t5⟩⟩ = 1 by unfold Jp;simp only [tk0];simp [hT]);clear hf
 rotate_left
 rw [decide_eq_true hT] at hn
 rcases (Decidable.em (of = 0)).symm with hof | hof
 have hofb : (of != 0) = true:=by simpa using hof
 have HQ:=hH (show Jp ⟨3,id,of,time,⟨t0,t1,t2,t3,t4,t5⟩⟩ = 1 by unfold Jp;simp [tk0,hT,hof]);clear hf
 rotate_left
 subst hof
 rcases (Decidable.em (time = 0)).symm with htime | htime
 have htimeb : (time != 0) = true:=by simpa using htime
 have HQ:=hH (show Jp ⟨3,id,0,time,⟨t0,t1,t2,t3,t4,t5⟩⟩ = 1 by unfold Jp;simp [tk0,hT,htime]);clear hf
 rotate_left
 subst htime;exact absurd (by unfold Jp;simp [tk0,hT]) hf
 rcases (Decidable.em ((⟨t0,t1,t2,t3,t4,t5⟩ : Tk) = ⟨0,0,0,0,0,0⟩)).symm with hT | hT
 rw [decide_eq_false hT] at hn;have HQ:=hH (show Jp ⟨4,id,of,time,⟨t0,t1,t2,t3,t4,t5⟩⟩ = 1 by unfold Jp;simp only [tk0];simp [hT]);clear hf
 rotate_left
 rw [decide_eq_true hT] at hn
 rcases (Decidable.em (id = 0)).symm with hid | hid
 have hidb : (id != 0) = true:=by simpa using hid
 have HQ:=hH (show Jp ⟨4,id,of,time,⟨t0,t1,t2,t3,t4,t5⟩⟩ = 1 by unfold Jp;simp [tk0,hT,hid]);clear hf
 rotate_left
 subst hid;exact absurd (by unfold Jp;simp [tk0,hT]) hf
 rcases (Decidable.em ((⟨t0,t1,t2,t3,t4,t5⟩ : Tk) = ⟨0,0,0,0,0,0⟩)).symm with hT | hT
 rw [decide_eq_false hT] at hn;have HQ:=hH (show Jp ⟨5,id,of,time,⟨t0,t1,t2,t3,t4,t5⟩⟩ = 1 by unfold Jp;simp only [tk0];simp [hT]);clear hf
 rotate_left
 rw [decide_eq_true hT] at hn
 rcases (Decidable.em (id = 0)).symm with hid | hid
 have hidb : (id != 0) = true:=by simpa using hid
 have HQ:=hH (show Jp ⟨5,id,of,time,⟨t0,t1,t2,t3,t4,t5⟩⟩ = 1 by unfold Jp;simp [tk0,hT,hid]);clear hf
 rotate_left
 subst hid
 rcases (Decidable.em (time = 0)).symm with htime | htime
 have htimeb : (time != 0) = true:=by simpa using htime
 have HQ:=hH (show Jp ⟨5,0,of,time,⟨t0,t1,t2,t3,t4,t5⟩⟩ = 1 by unfold Jp;simp [tk0,hT,htime]);clear hf
 rotate_left
 subst htime;exact absurd (by unfold Jp;simp [tk0,hT]) hf
 rcases (Decidable.em ((⟨t0,t1,t2,t3,t4,t5⟩ : Tk) = ⟨0,0,0,0,0,0⟩)).symm with hT | hT
 rw [decide_eq_false hT] at hn;have HQ:=hH (show Jp ⟨6,id,of,time,⟨t0,t1,t2,t3,t4,t5⟩⟩ = 1 by unfold Jp;simp only [tk0];simp [hT]);clear hf
 rotate_left
 rw [decide_eq_true hT] at hn
 rcases (Decidable.em (id = 0)).symm with hid | hid
 have hidb : (id != 0) = true:=by simpa using hid
 have HQ:=hH (show Jp ⟨6,id,of,time,⟨t0,t1,t2,t3,t4,t5⟩⟩ = 1 by unfold Jp;simp [tk0,hT,hid]);clear hf
 rotate_left
 subst hid
 rcases (Decidable.em (time = 0)).symm with htime | htime
 have htimeb : (time != 0) = true:=by simpa using htime
 have HQ:=hH (show Jp ⟨6,0,of,time,⟨t0,t1,t2,t3,t4,t5⟩⟩ = 1 by unfold Jp;simp [tk0,hT,htime]);clear hf
 rotate_left
 subst htime;exact absurd (by unfold Jp;simp [tk0,hT]) hf
 rcases (Decidable.em ((⟨t0,t1,t2,t3,t4,t5⟩ : Tk) = ⟨0,0,0,0,0,0⟩)).symm with hT | hT
 rw [decide_eq_false hT] at hn;have HQ:=hH (show Jp ⟨7,id,of,time,⟨t0,t1,t2,t3,t4,t5⟩⟩ = 1 by unfold Jp;simp only [tk0];simp [hT]);clear hf
 rotate_left
 rw [decide_eq_true hT] at hn
 rcases (Decidable.em (id = 0)).symm with hid | hid
 have hidb : (id != 0) = true:=by simpa using hid
 have HQ:=hH (show Jp ⟨7,id,of,time,⟨t0,t1,t2,t3,t4,t5⟩⟩ = 1 by unfold Jp;simp [tk0,hT,hid]);clear hf
 rotate_left
 subst hid
 rcases (Decidable.em (time = 0)).symm with htime | htime
 have htimeb : (time != 0) = true:=by simpa using htime
 have HQ:=hH (show Jp ⟨7,0,of,time,⟨t0,t1,t2,t3,t4,t5⟩⟩ = 1 by unfold Jp;simp [tk0,hT,htime]);clear hf
 rotate_left
 subst htime;exact absurd (by unfold Jp;simp [tk0,hT]) hf
 all_goals
  go_enter Tryz.func39,Tryz.ntmps39;go_wp2_with fail;refine gB (KB.out _) ?_;go_wp2_with fail;rw [HQ.out];exact bodyPost_ret (v:=.tuple #[.agg #[.slice none 0 0,.slice none 0 0,.slice none 0 0,.int .i64 0,.slice none 0 0,.slice none 0 0,.slice none 0 0],.int .i64 0,.int .i64 1]) (by simp [results,Tryz.results39,go_sem, *]) rfl ⟨sv0,rfl,(Je : Ext w _),JX.nil⟩
end Go.Proofs.YteojjbhadgkfgaaGreat
