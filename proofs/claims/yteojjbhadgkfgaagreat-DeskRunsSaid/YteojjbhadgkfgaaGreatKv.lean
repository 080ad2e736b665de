/- Kv: parts of the proofs, laid together. -/
import Derived.Test.YteojjbhadgkfgaaGreatKx
import Derived.Test.YteojjbhadgkfgaaGreatKp
import Derived.Test.YteojjbhadgkfgaaGreatKw
/- The reference's DoOf: acts that are not of their form. -/
set_option maxHeartbeats 64000000
namespace Go.Proofs.YteojjbhadgkfgaaGreat
set_option linter.unusedSimpArgs false
set_option linter.unusedVariables false
set_option maxRecDepth 100000
open Go Go.RowKit Lb

theorem RdL.frm {α : Type} [Inhabited α] {k : Nat} {enc : α → Array Value} {w : World} {v : Value} {l : List α} (h : RdL k enc w v l) : ∃ B d, v = .slice B l.length d := by
 obtain ⟨A, c, h, -⟩ := h.form
 exact ⟨A, c, h⟩
theorem RdG.frm {w : World} {v : Value} {gl : List Gt} (h : RdG w v gl) : ∃ B d, v = .slice B gl.length d := by
 obtain ⟨A, c, h, -⟩ := h.form
 exact ⟨A, c, h⟩
theorem doAll_main {s : St} {a : Ac} (rs : RightS s) : doAll s a = if formA a ≠ 0 then (st0, 0, formA a) else if (actS s 0 a).2.2 ≠ 0 then (st0, (actS s 0 a).2) else actS s 0 a := by
 unfold doAll
 rw [if_neg (by simpa using rightS_iff.2 rs)]
 unfold doS
 by_cases h : formA a = 0
 ·simp only [h, ne_eq, not_true_eq_false, if_false]
  unfold orSt
  by_cases h2 : (actS s 0 a).2.2 = 0 <;> simp [h2]
 ·simp [h]
theorem doAll_bad {s : St} {a : Ac} (rs : RightS s) (hf : formA a ≠ 0) : doAll s a = (st0, 0, formA a) := by rw [doAll_main rs, if_pos hf]
theorem doAll_act {s : St} {a : Ac} (rs : RightS s) (hf : formA a = 0) : doAll s a = if (actS s 0 a).2.2 ≠ 0 then (st0, (actS s 0 a).2) else actS s 0 a := by rw [doAll_main rs, if_neg (by simpa using hf)]
theorem doOf_bad {P : Nat → Prop} (s : St) (x : Sv) (a : Ac) (w : World) (hrp : RdSP P w x s) (rs : RightS s) (hf : formA a ≠ 0) :
  Calls Tryz.prog 39 #[.agg (sta s x), .agg (acc a)] w fun e w' => ∃ x', e = .returned (.tuple #[.agg (sta (doAll s a).1 x'), .int .i64 (doAll s a).2.1, .int .i64 (doAll s a).2.2]) ∧ Ext w w' ∧ RdSP (fun q => P q ∨ w.heap.size ≤ q) w' x' (doAll s a).1 := by
 have KB := Lib.hid (fun (w' : World) => ref_between a.kind 1 7 w')
 have hda := doAll_bad rs hf
 generalize doAll s a = R at *
 subst hda
 obtain ⟨k, id, of, time, ⟨t0, t1, t2, t3, t4, t5⟩⟩ := a
 have hn := neq_tk' t0 t1 t2 t3 t4 t5 0 0 0 0 0 0
 obtain ⟨A0, c0, e0, -, -⟩ := hrp.rd.tk.form
 obtain ⟨A1, c1, e1, -, -⟩ := hrp.rd.tp.form
 obtain ⟨A2, c2, e2, -, -⟩ := hrp.rd.vd.form
 obtain ⟨A3, c3, e3, -, -⟩ := hrp.rd.dn.form
 obtain ⟨A4, c4, e4, hc4, -⟩ := hrp.rd.gt.form
 obtain ⟨A5, c5, e5, -, -⟩ := hrp.rd.vw.form
 obtain ⟨s0, s1, s2, si, sg, sv⟩ := x
 simp only at e0 e1 e2 e3 e4 e5
 subst e0 e1 e2 e3 e4 e5
 clear hrp hc4 rs
 unfold sta acc
 simp only at KB ⊢
 rcases (show k < 1 ∨ 7 < k ∨ (1 ≤ k ∧ k ≤ 7) from by omega) with hk1 | hk7 | hk17
 ·have HQ := Lib.hid (show formA ⟨k, id, of, time, ⟨t0, t1, t2, t3, t4, t5⟩⟩ = 7 by unfold formA; rw [if_pos (.inl hk1)])
  rw [show within k 1 7 = false by simp [within]; omega] at KB
  go_enter Tryz.func39, Tryz.ntmps39
  go_wp2_with fail
  refine gB (KB.out _) ?_
  go_wp2_with fail
  rw [HQ.out]
  exact bodyPost_ret (v := .tuple #[.agg #[.slice none 0 0, .slice none 0 0, .slice none 0 0, .int .i64 0, .slice none 0 0, .slice none 0 0, .slice none 0 0], .int .i64 0, .int .i64 7]) (by simp [results, Tryz.results39, go_sem, *]) rfl ⟨sv0, rfl, (extA : Ext w _), RdSP.nil⟩
 ·have HQ := Lib.hid (show formA ⟨k, id, of, time, ⟨t0, t1, t2, t3, t4, t5⟩⟩ = 7 by unfold formA; rw [if_pos (.inr hk7)])
  rw [show within k 1 7 = false by simp [within]; omega] at KB
  go_enter Tryz.func39, Tryz.ntmps39
  go_wp2_with fail
  refine gB (KB.out _) ?_
  go_wp2_with fail
  rw [HQ.out]
  exact bodyPost_ret (v := .tuple #[.agg #[.slice none 0 0, .slice none 0 0, .slice none 0 0, .int .i64 0, .slice none 0 0, .slice none 0 0, .slice none 0 0], .int .i64 0, .int .i64 7]) (by simp [results, Tryz.results39, go_sem, *]) rfl ⟨sv0, rfl, (extA : Ext w _), RdSP.nil⟩
 rw [show within k 1 7 = true by simp [within]; omega] at KB
 obtain rfl | rfl | rfl | rfl | rfl | rfl | rfl : k = 1 ∨ k = 2 ∨ k = 3 ∨ k = 4 ∨ k = 5 ∨ k = 6 ∨ k = 7 := by omega
 rcases (Decidable.em (id = 0)).symm with hid | hid
 have hidb : (id != 0) = true := by simpa using hid
 have HQ := Lib.hid (show formA ⟨1, id, of, time, ⟨t0, t1, t2, t3, t4, t5⟩⟩ = 1 by unfold formA; simp [tk0, hid])
 clear hf
 rotate_left
 subst hid
 rcases (Decidable.em (of = 0)).symm with hof | hof
 have hofb : (of != 0) = true := by simpa using hof
 have HQ := Lib.hid (show formA ⟨1, 0, of, time, ⟨t0, t1, t2, t3, t4, t5⟩⟩ = 1 by unfold formA; simp [tk0, hof])
 clear hf
 rotate_left
 subst hof
 rcases (Decidable.em (time = 0)).symm with htime | htime
 have htimeb : (time != 0) = true := by simpa using htime
 have HQ := Lib.hid (show formA ⟨1, 0, 0, time, ⟨t0, t1, t2, t3, t4, t5⟩⟩ = 1 by unfold formA; simp [tk0, htime])
 clear hf
 rotate_left
 subst htime
 exact absurd (by unfold formA; simp [tk0]) hf
 rcases (Decidable.em ((⟨t0, t1, t2, t3, t4, t5⟩ : Tk) = ⟨0, 0, 0, 0, 0, 0⟩)).symm with hT | hT
 rw [decide_eq_false hT] at hn
 have HQ := Lib.hid (show formA ⟨2, id, of, time, ⟨t0, t1, t2, t3, t4, t5⟩⟩ = 1 by unfold formA; simp only [tk0]; simp [hT])
 clear hf
 rotate_left
 rw [decide_eq_true hT] at hn
 exact absurd (by unfold formA; simp [tk0, hT]) hf
 rcases (Decidable.em ((⟨t0, t1, t2, t3, t4, t5⟩ : Tk) = ⟨0, 0, 0, 0, 0, 0⟩)).symm with hT | hT
 rw [decide_eq_false hT] at hn
 have HQ := Lib.hid (show formA ⟨3, id, of, time, ⟨t0, t1, t2, t3, t4, t5⟩⟩ = 1 by unfold formA; simp only [tk0]; simp [hT])
 clear hf
 rotate_left
 rw [decide_eq_true hT] at hn
 rcases (Decidable.em (of = 0)).symm with hof | hof
 have hofb : (of != 0) = true := by simpa using hof
 have HQ := Lib.hid (show formA ⟨3, id, of, time, ⟨t0, t1, t2, t3, t4, t5⟩⟩ = 1 by unfold formA; simp [tk0, hT, hof])
 clear hf
 rotate_left
 subst hof
 rcases (Decidable.em (time = 0)).symm with htime | htime
 have htimeb : (time != 0) = true := by simpa using htime
 have HQ := Lib.hid (show formA ⟨3, id, 0, time, ⟨t0, t1, t2, t3, t4, t5⟩⟩ = 1 by unfold formA; simp [tk0, hT, htime])
 clear hf
 rotate_left
 subst htime
 exact absurd (by unfold formA; simp [tk0, hT]) hf
 rcases (Decidable.em ((⟨t0, t1, t2, t3, t4, t5⟩ : Tk) = ⟨0, 0, 0, 0, 0, 0⟩)).symm with hT | hT
 rw [decide_eq_false hT] at hn
 have HQ := Lib.hid (show formA ⟨4, id, of, time, ⟨t0, t1, t2, t3, t4, t5⟩⟩ = 1 by unfold formA; simp only [tk0]; simp [hT])
 clear hf
 rotate_left
 rw [decide_eq_true hT] at hn
 rcases (Decidable.em (id = 0)).symm with hid | hid
 have hidb : (id != 0) = true := by simpa using hid
 have HQ := Lib.hid (show formA ⟨4, id, of, time, ⟨t0, t1, t2, t3, t4, t5⟩⟩ = 1 by unfold formA; simp [tk0, hT, hid])
 clear hf
 rotate_left
 subst hid
 exact absurd (by unfold formA; simp [tk0, hT]) hf
 rcases (Decidable.em ((⟨t0, t1, t2, t3, t4, t5⟩ : Tk) = ⟨0, 0, 0, 0, 0, 0⟩)).symm with hT | hT
 rw [decide_eq_false hT] at hn
 have HQ := Lib.hid (show formA ⟨5, id, of, time, ⟨t0, t1, t2, t3, t4, t5⟩⟩ = 1 by unfold formA; simp only [tk0]; simp [hT])
 clear hf
 rotate_left
 rw [decide_eq_true hT] at hn
 rcases (Decidable.em (id = 0)).symm with hid | hid
 have hidb : (id != 0) = true := by simpa using hid
 have HQ := Lib.hid (show formA ⟨5, id, of, time, ⟨t0, t1, t2, t3, t4, t5⟩⟩ = 1 by unfold formA; simp [tk0, hT, hid])
 clear hf
 rotate_left
 subst hid
 rcases (Decidable.em (time = 0)).symm with htime | htime
 have htimeb : (time != 0) = true := by simpa using htime
 have HQ := Lib.hid (show formA ⟨5, 0, of, time, ⟨t0, t1, t2, t3, t4, t5⟩⟩ = 1 by unfold formA; simp [tk0, hT, htime])
 clear hf
 rotate_left
 subst htime
 exact absurd (by unfold formA; simp [tk0, hT]) hf
 rcases (Decidable.em ((⟨t0, t1, t2, t3, t4, t5⟩ : Tk) = ⟨0, 0, 0, 0, 0, 0⟩)).symm with hT | hT
 rw [decide_eq_false hT] at hn
 have HQ := Lib.hid (show formA ⟨6, id, of, time, ⟨t0, t1, t2, t3, t4, t5⟩⟩ = 1 by unfold formA; simp only [tk0]; simp [hT])
 clear hf
 rotate_left
 rw [decide_eq_true hT] at hn
 rcases (Decidable.em (id = 0)).symm with hid | hid
 have hidb : (id != 0) = true := by simpa using hid
 have HQ := Lib.hid (show formA ⟨6, id, of, time, ⟨t0, t1, t2, t3, t4, t5⟩⟩ = 1 by unfold formA; simp [tk0, hT, hid])
 clear hf
 rotate_left
 subst hid
 rcases (Decidable.em (time = 0)).symm with htime | htime
 have htimeb : (time != 0) = true := by simpa using htime
 have HQ := Lib.hid (show formA ⟨6, 0, of, time, ⟨t0, t1, t2, t3, t4, t5⟩⟩ = 1 by unfold formA; simp [tk0, hT, htime])
 clear hf
 rotate_left
 subst htime
 exact absurd (by unfold formA; simp [tk0, hT]) hf
 rcases (Decidable.em ((⟨t0, t1, t2, t3, t4, t5⟩ : Tk) = ⟨0, 0, 0, 0, 0, 0⟩)).symm with hT | hT
 rw [decide_eq_false hT] at hn
 have HQ := Lib.hid (show formA ⟨7, id, of, time, ⟨t0, t1, t2, t3, t4, t5⟩⟩ = 1 by unfold formA; simp only [tk0]; simp [hT])
 clear hf
 rotate_left
 rw [decide_eq_true hT] at hn
 rcases (Decidable.em (id = 0)).symm with hid | hid
 have hidb : (id != 0) = true := by simpa using hid
 have HQ := Lib.hid (show formA ⟨7, id, of, time, ⟨t0, t1, t2, t3, t4, t5⟩⟩ = 1 by unfold formA; simp [tk0, hT, hid])
 clear hf
 rotate_left
 subst hid
 rcases (Decidable.em (time = 0)).symm with htime | htime
 have htimeb : (time != 0) = true := by simpa using htime
 have HQ := Lib.hid (show formA ⟨7, 0, of, time, ⟨t0, t1, t2, t3, t4, t5⟩⟩ = 1 by unfold formA; simp [tk0, hT, htime])
 clear hf
 rotate_left
 subst htime
 exact absurd (by unfold formA; simp [tk0, hT]) hf
 all_goals
  go_enter Tryz.func39, Tryz.ntmps39
  go_wp2_with fail
  refine gB (KB.out _) ?_
  go_wp2_with fail
  rw [HQ.out]
  exact bodyPost_ret (v := .tuple #[.agg #[.slice none 0 0, .slice none 0 0, .slice none 0 0, .int .i64 0, .slice none 0 0, .slice none 0 0, .slice none 0 0], .int .i64 0, .int .i64 1]) (by simp [results, Tryz.results39, go_sem, *]) rfl ⟨sv0, rfl, (extA : Ext w _), RdSP.nil⟩

theorem doOf_1 {P : Nat → Prop} (s : St) (x : Sv) (a : Ac) (w : World) (hrp : RdSP P w x s) (hP : ∀ q, P q → q < w.heap.size) (rs : RightS s) (hf : formA a = 0) (hkd : a.kind = 1) :
  Calls Tryz.prog 39 #[.agg (sta s x), .agg (acc a)] w fun e w' => ∃ x', e = .returned (.tuple #[.agg (sta (doAll s a).1 x'), .int .i64 (doAll s a).2.1, .int .i64 (doAll s a).2.2]) ∧ Ext w w' ∧ RdSP (fun q => P q ∨ w.heap.size ≤ q) w' x' (doAll s a).1 := by
 have hr := hrp.rd
 have HP := Lib.hid hP
 have HVP := Lib.hid hrp
 have hda := doAll_act rs hf
 obtain ⟨k, id, of, time, ⟨t0, t1, t2, t3, t4, t5⟩⟩ := a
 simp only at hkd
 subst hkd
 have hn := neq_tk' t0 t1 t2 t3 t4 t5 0 0 0 0 0 0
 have KB := Lib.hid (fun (w' : World) => (show within 1 1 7 = true by decide) ▸ ref_between 1 1 7 w')
 have hid : id = 0 := by
  apply Decidable.byContradiction
  intro h
  unfold formA at hf; simp [tk0, h] at hf
 subst hid
 have hof : of = 0 := by
  apply Decidable.byContradiction
  intro h
  unfold formA at hf; simp [tk0, h] at hf
 subst hof
 have htime : time = 0 := by
  apply Decidable.byContradiction
  intro h
  unfold formA at hf; simp [tk0, h] at hf
 subst htime
 rw [show actS s 0 ⟨1, 0, 0, 0, ⟨t0, t1, t2, t3, t4, t5⟩⟩ = ((sellRaw s ⟨t0, t1, t2, t3, t4, t5⟩).1, 0, (sellRaw s ⟨t0, t1, t2, t3, t4, t5⟩).2) from by unfold actS; rfl] at hda
 have KS := Lib.hid (fun w' (h : Ext w w') => ref_SellAt s x ⟨t0, t1, t2, t3, t4, t5⟩ w' (hrp.ext h) (fun q hq => Nat.lt_of_lt_of_le (hP q hq) h.size) rs)
 generalize sellRaw s ⟨t0, t1, t2, t3, t4, t5⟩ = T at *
 obtain ⟨R1, R3⟩ := T
 generalize doAll s ⟨1, 0, 0, 0, ⟨t0, t1, t2, t3, t4, t5⟩⟩ = R at *
 have HRES := Lib.hid hda
 clear hda hf
 obtain ⟨s0, s1, s2, si, sg, sv⟩ := x
 obtain ⟨B0, kB0, rfl⟩ : ∃ B d, s0 = .slice B s.ledger.tickets.length d := hr.tk.frm
 obtain ⟨B1, kB1, rfl⟩ : ∃ B d, s1 = .slice B s.ledger.taps.length d := hr.tp.frm
 obtain ⟨B2, kB2, rfl⟩ : ∃ B d, s2 = .slice B s.ledger.verdicts.length d := hr.vd.frm
 obtain ⟨B3, kB3, rfl⟩ : ∃ B d, si = .slice B s.denied.ids.length d := hr.dn.frm
 obtain ⟨B4, kB4, rfl⟩ : ∃ B d, sg = .slice B s.gates.length d := hr.gt.frm
 obtain ⟨B5, kB5, rfl⟩ : ∃ B d, sv = .slice B s.views.length d := hr.vw.frm
 clear hr hrp hP rs
 unfold sta at *
 unfold acc
 simp only at *
 rw [show tkc ⟨t0, t1, t2, t3, t4, t5⟩ = #[.int .i64 t0, .int .i64 t1, .int .i64 t2, .int .i64 t3, .int .i64 t4, .int .i64 t5] from rfl] at KS
 go_enter Tryz.func39, Tryz.ntmps39
 go_wp2_with fail
 refine gB (KB.out _) ?_
 go_wp2_with fail
 refine (KS.out _ extA).mono ?_
 rintro e w1 ⟨⟨u0, u1, u2, ui, ug, uv⟩, rfl, h1, hp⟩
 obtain ⟨C0, kC0, rfl⟩ : ∃ B d, u0 = .slice B R1.ledger.tickets.length d := hp.rd.tk.frm
 obtain ⟨C1, kC1, rfl⟩ : ∃ B d, u1 = .slice B R1.ledger.taps.length d := hp.rd.tp.frm
 obtain ⟨C2, kC2, rfl⟩ : ∃ B d, u2 = .slice B R1.ledger.verdicts.length d := hp.rd.vd.frm
 obtain ⟨C3, kC3, rfl⟩ : ∃ B d, ui = .slice B R1.denied.ids.length d := hp.rd.dn.frm
 obtain ⟨C4, kC4, rfl⟩ : ∃ B d, ug = .slice B R1.gates.length d := hp.rd.gt.frm
 obtain ⟨C5, kC5, rfl⟩ : ∃ B d, uv = .slice B R1.views.length d := hp.rd.vw.frm
 have H1 := Lib.hid h1
 have hz1 := h1.size
 (try simp only [lSz] at hz1)
 have HPS := Lib.hid (RdSP.weak (Q := (fun q => P q ∨ w.heap.size + 4 ≤ q)) hp (fun q hq => hq.elim .inl (fun hq => .inr (by (try simp only [lSz] at hq); omega))))
 clear h1 hp
 (refine rowU w1 w.heap.size fun q1_0 f1_0 l1_0 R1_0 => ?_; refine rowU w1 (w.heap.size + 1) fun q1_1 f1_1 l1_1 R1_1 => ?_; refine rowU w1 (w.heap.size + 1 + 1) fun q1_2 f1_2 l1_2 R1_2 => ?_; refine rowU w1 (w.heap.size + 1 + 1 + 1) fun q1_3 f1_3 l1_3 R1_3 => ?_)
 by_cases hE : R3 = 0
 case neg =>
  have hEb : (R3 == 0) = false := by simpa using hE
  have hEc : (R3 != 0) = true := by simpa using hE
  have HQ := Lib.hid (show R = (st0, 0, R3) from by rw [HRES.out]; simp [hE])
  go_wp2_with fail
  rw [HQ.out]
  exact bodyPost_ret (v := .tuple #[.agg #[.slice none 0 0, .slice none 0 0, .slice none 0 0, .int .i64 0, .slice none 0 0, .slice none 0 0, .slice none 0 0], .int .i64 0, .int .i64 R3]) (by simp [results, Tryz.results39, go_sem, *]) rfl ⟨sv0, rfl, (extA : Ext w _), RdSP.nil⟩
 subst hE
 have HQ := Lib.hid (show R = (R1, 0, 0) from by rw [HRES.out]; simp)
 go_wp2_with fail
 rw [HQ.out]
 refine bodyPost_ret (v := .tuple #[.agg #[.slice C0 R1.ledger.tickets.length kC0, .slice C1 R1.ledger.taps.length kC1, .slice C2 R1.ledger.verdicts.length kC2, .int .i64 R1.denied.version, .slice C3 R1.denied.ids.length kC3, .slice C4 R1.gates.length kC4, .slice C5 R1.views.length kC5], .int .i64 0, .int .i64 0]) (by simp [results, Tryz.results39, go_sem, *]) rfl ⟨⟨.slice C0 R1.ledger.tickets.length kC0, .slice C1 R1.ledger.taps.length kC1, .slice C2 R1.ledger.verdicts.length kC2, .slice C3 R1.denied.ids.length kC3, .slice C4 R1.gates.length kC4, .slice C5 R1.views.length kC5⟩, rfl, (extA : Ext w _), ?_⟩
 (refine RdSP.weak (P := (fun q => P q ∨ w.heap.size + 4 ≤ q)) ?_ (fun q hq => hq.elim .inl (fun hq => .inr (by omega))); repeat (first | (with_reducible exact Hid.out ‹Hid (RdSP _ _ _ _)›) | (with_reducible refine RdSP.setC (fun h => h.elim (fun h => by have := HP.out _ h; simp at this; omega) (fun h => by simp at h; omega)) ?_) | (with_reducible refine RdSP.ext ?_ (Hid.out ‹Hid (Ext _ _)›)) | (with_reducible refine RdSP.ext ?_ ((Ext.refl _).alloc _))))

theorem doOf_2 {P : Nat → Prop} (s : St) (x : Sv) (a : Ac) (w : World) (hrp : RdSP P w x s) (hP : ∀ q, P q → q < w.heap.size) (rs : RightS s) (hf : formA a = 0) (hkd : a.kind = 2) :
  Calls Tryz.prog 39 #[.agg (sta s x), .agg (acc a)] w fun e w' => ∃ x', e = .returned (.tuple #[.agg (sta (doAll s a).1 x'), .int .i64 (doAll s a).2.1, .int .i64 (doAll s a).2.2]) ∧ Ext w w' ∧ RdSP (fun q => P q ∨ w.heap.size ≤ q) w' x' (doAll s a).1 := by
 have hr := hrp.rd
 have HP := Lib.hid hP
 have HVP := Lib.hid hrp
 have hda := doAll_act rs hf
 obtain ⟨k, id, of, time, ⟨t0, t1, t2, t3, t4, t5⟩⟩ := a
 simp only at hkd
 subst hkd
 have hn := neq_tk' t0 t1 t2 t3 t4 t5 0 0 0 0 0 0
 have KB := Lib.hid (fun (w' : World) => (show within 2 1 7 = true by decide) ▸ ref_between 2 1 7 w')
 have hT : (⟨t0, t1, t2, t3, t4, t5⟩ : Tk) = ⟨0, 0, 0, 0, 0, 0⟩ := by
  apply Decidable.byContradiction
  intro hT
  unfold formA at hf; simp only [tk0] at hf; simp [hT] at hf
 rw [decide_eq_true hT] at hn
 rw [show actS s 0 ⟨2, id, of, time, ⟨t0, t1, t2, t3, t4, t5⟩⟩ = tapRaw s id of time from by unfold actS; rfl] at hda
 have KS := Lib.hid (fun w' (h : Ext w w') => ref_TapAt s x id of time w' (hrp.ext h) (fun q hq => Nat.lt_of_lt_of_le (hP q hq) h.size) rs)
 generalize tapRaw s id of time = T at *
 obtain ⟨R1, R2, R3⟩ := T
 generalize doAll s ⟨2, id, of, time, ⟨t0, t1, t2, t3, t4, t5⟩⟩ = R at *
 have HRES := Lib.hid hda
 clear hda hf
 clear hT
 obtain ⟨s0, s1, s2, si, sg, sv⟩ := x
 obtain ⟨B0, kB0, rfl⟩ : ∃ B d, s0 = .slice B s.ledger.tickets.length d := hr.tk.frm
 obtain ⟨B1, kB1, rfl⟩ : ∃ B d, s1 = .slice B s.ledger.taps.length d := hr.tp.frm
 obtain ⟨B2, kB2, rfl⟩ : ∃ B d, s2 = .slice B s.ledger.verdicts.length d := hr.vd.frm
 obtain ⟨B3, kB3, rfl⟩ : ∃ B d, si = .slice B s.denied.ids.length d := hr.dn.frm
 obtain ⟨B4, kB4, rfl⟩ : ∃ B d, sg = .slice B s.gates.length d := hr.gt.frm
 obtain ⟨B5, kB5, rfl⟩ : ∃ B d, sv = .slice B s.views.length d := hr.vw.frm
 clear hr hrp hP rs
 unfold sta at *
 unfold acc
 simp only at *
 go_enter Tryz.func39, Tryz.ntmps39
 go_wp2_with fail
 refine gB (KB.out _) ?_
 go_wp2_with fail
 refine (KS.out _ extA).mono ?_
 rintro e w1 ⟨⟨u0, u1, u2, ui, ug, uv⟩, rfl, h1, hp⟩
 obtain ⟨C0, kC0, rfl⟩ : ∃ B d, u0 = .slice B R1.ledger.tickets.length d := hp.rd.tk.frm
 obtain ⟨C1, kC1, rfl⟩ : ∃ B d, u1 = .slice B R1.ledger.taps.length d := hp.rd.tp.frm
 obtain ⟨C2, kC2, rfl⟩ : ∃ B d, u2 = .slice B R1.ledger.verdicts.length d := hp.rd.vd.frm
 obtain ⟨C3, kC3, rfl⟩ : ∃ B d, ui = .slice B R1.denied.ids.length d := hp.rd.dn.frm
 obtain ⟨C4, kC4, rfl⟩ : ∃ B d, ug = .slice B R1.gates.length d := hp.rd.gt.frm
 obtain ⟨C5, kC5, rfl⟩ : ∃ B d, uv = .slice B R1.views.length d := hp.rd.vw.frm
 have H1 := Lib.hid h1
 have hz1 := h1.size
 (try simp only [lSz] at hz1)
 have HPS := Lib.hid (RdSP.weak (Q := (fun q => P q ∨ w.heap.size + 4 ≤ q)) hp (fun q hq => hq.elim .inl (fun hq => .inr (by (try simp only [lSz] at hq); omega))))
 clear h1 hp
 (refine rowU w1 w.heap.size fun q1_0 f1_0 l1_0 R1_0 => ?_; refine rowU w1 (w.heap.size + 1) fun q1_1 f1_1 l1_1 R1_1 => ?_; refine rowU w1 (w.heap.size + 1 + 1) fun q1_2 f1_2 l1_2 R1_2 => ?_; refine rowU w1 (w.heap.size + 1 + 1 + 1) fun q1_3 f1_3 l1_3 R1_3 => ?_)
 by_cases hE : R3 = 0
 case neg =>
  have hEb : (R3 == 0) = false := by simpa using hE
  have hEc : (R3 != 0) = true := by simpa using hE
  have HQ := Lib.hid (show R = (st0, R2, R3) from by rw [HRES.out]; simp [hE])
  go_wp2_with fail
  rw [HQ.out]
  exact bodyPost_ret (v := .tuple #[.agg #[.slice none 0 0, .slice none 0 0, .slice none 0 0, .int .i64 0, .slice none 0 0, .slice none 0 0, .slice none 0 0], .int .i64 R2, .int .i64 R3]) (by simp [results, Tryz.results39, go_sem, *]) rfl ⟨sv0, rfl, (extA : Ext w _), RdSP.nil⟩
 subst hE
 have HQ := Lib.hid (show R = (R1, R2, 0) from by rw [HRES.out]; simp)
 go_wp2_with fail
 rw [HQ.out]
 refine bodyPost_ret (v := .tuple #[.agg #[.slice C0 R1.ledger.tickets.length kC0, .slice C1 R1.ledger.taps.length kC1, .slice C2 R1.ledger.verdicts.length kC2, .int .i64 R1.denied.version, .slice C3 R1.denied.ids.length kC3, .slice C4 R1.gates.length kC4, .slice C5 R1.views.length kC5], .int .i64 R2, .int .i64 0]) (by simp [results, Tryz.results39, go_sem, *]) rfl ⟨⟨.slice C0 R1.ledger.tickets.length kC0, .slice C1 R1.ledger.taps.length kC1, .slice C2 R1.ledger.verdicts.length kC2, .slice C3 R1.denied.ids.length kC3, .slice C4 R1.gates.length kC4, .slice C5 R1.views.length kC5⟩, rfl, (extA : Ext w _), ?_⟩
 (refine RdSP.weak (P := (fun q => P q ∨ w.heap.size + 4 ≤ q)) ?_ (fun q hq => hq.elim .inl (fun hq => .inr (by omega))); repeat (first | (with_reducible exact Hid.out ‹Hid (RdSP _ _ _ _)›) | (with_reducible refine RdSP.setC (fun h => h.elim (fun h => by have := HP.out _ h; simp at this; omega) (fun h => by simp at h; omega)) ?_) | (with_reducible refine RdSP.ext ?_ (Hid.out ‹Hid (Ext _ _)›)) | (with_reducible refine RdSP.ext ?_ ((Ext.refl _).alloc _))))

theorem doOf_3 {P : Nat → Prop} (s : St) (x : Sv) (a : Ac) (w : World) (hrp : RdSP P w x s) (hP : ∀ q, P q → q < w.heap.size) (rs : RightS s) (hf : formA a = 0) (hkd : a.kind = 3) :
  Calls Tryz.prog 39 #[.agg (sta s x), .agg (acc a)] w fun e w' => ∃ x', e = .returned (.tuple #[.agg (sta (doAll s a).1 x'), .int .i64 (doAll s a).2.1, .int .i64 (doAll s a).2.2]) ∧ Ext w w' ∧ RdSP (fun q => P q ∨ w.heap.size ≤ q) w' x' (doAll s a).1 := by
 have hr := hrp.rd
 have HP := Lib.hid hP
 have HVP := Lib.hid hrp
 have hda := doAll_act rs hf
 obtain ⟨k, id, of, time, ⟨t0, t1, t2, t3, t4, t5⟩⟩ := a
 simp only at hkd
 subst hkd
 have hn := neq_tk' t0 t1 t2 t3 t4 t5 0 0 0 0 0 0
 have KB := Lib.hid (fun (w' : World) => (show within 3 1 7 = true by decide) ▸ ref_between 3 1 7 w')
 have hT : (⟨t0, t1, t2, t3, t4, t5⟩ : Tk) = ⟨0, 0, 0, 0, 0, 0⟩ := by
  apply Decidable.byContradiction
  intro hT
  unfold formA at hf; simp only [tk0] at hf; simp [hT] at hf
 rw [decide_eq_true hT] at hn
 have hof : of = 0 := by
  apply Decidable.byContradiction
  intro h
  unfold formA at hf; simp [tk0, hT, h] at hf
 subst hof
 have htime : time = 0 := by
  apply Decidable.byContradiction
  intro h
  unfold formA at hf; simp [tk0, hT, h] at hf
 subst htime
 rw [show actS s 0 ⟨3, id, 0, 0, ⟨t0, t1, t2, t3, t4, t5⟩⟩ = (if led s = false then (st0, 0, 4) else (⟨s.ledger, (denyD s.denied id).1, s.gates, s.views⟩, 0, (denyD s.denied id).2)) from by unfold actS; rfl] at hda
 have KW := Lib.hid (fun w' (h : Ext w w') => ref_WhoOf s.views x.sv w' (hr.vw.ext h) rs.views)
 have KD := Lib.hid (fun w' (h : Ext w w') => ref_DenyOf s.denied x.si id w' (hr.dn.ext h) rs.denied)
 generalize denyD s.denied id = T at *
 obtain ⟨⟨DV, DI⟩, DE⟩ := T
 generalize hq : whoV s.views = Q at *
 obtain ⟨Q1, Q2⟩ := Q
 have hq2 : led s = Q2 := by unfold led; rw [hq]
 rw [hq2] at hda
 clear hq hq2
 generalize doAll s ⟨3, id, 0, 0, ⟨t0, t1, t2, t3, t4, t5⟩⟩ = R at *
 have HRES := Lib.hid hda
 clear hda hf
 clear hT
 obtain ⟨s0, s1, s2, si, sg, sv⟩ := x
 obtain ⟨B0, kB0, rfl⟩ : ∃ B d, s0 = .slice B s.ledger.tickets.length d := hr.tk.frm
 obtain ⟨B1, kB1, rfl⟩ : ∃ B d, s1 = .slice B s.ledger.taps.length d := hr.tp.frm
 obtain ⟨B2, kB2, rfl⟩ : ∃ B d, s2 = .slice B s.ledger.verdicts.length d := hr.vd.frm
 obtain ⟨B3, kB3, rfl⟩ : ∃ B d, si = .slice B s.denied.ids.length d := hr.dn.frm
 obtain ⟨B4, kB4, rfl⟩ : ∃ B d, sg = .slice B s.gates.length d := hr.gt.frm
 obtain ⟨B5, kB5, rfl⟩ : ∃ B d, sv = .slice B s.views.length d := hr.vw.frm
 clear hr hrp hP rs
 unfold sta at *
 unfold acc
 simp only at *
 go_enter Tryz.func39, Tryz.ntmps39
 go_wp2_with fail
 refine gB (KB.out _) ?_
 go_wp2_with fail
 (refine gA (KW.out _ extA) fun w1 H1 hz1 => ?_; (try simp only [lSz] at hz1); refine rowU w1 w.heap.size fun q1_0 f1_0 l1_0 R1_0 => ?_; refine rowU w1 (w.heap.size + 1) fun q1_1 f1_1 l1_1 R1_1 => ?_; refine rowU w1 (w.heap.size + 1 + 1) fun q1_2 f1_2 l1_2 R1_2 => ?_; refine rowU w1 (w.heap.size + 1 + 1 + 1) fun q1_3 f1_3 l1_3 R1_3 => ?_)
 go_wp2_with fail
 refine (KD.out _ extA).mono ?_
 rintro e w2 ⟨sq, rfl, h2, o2⟩
 obtain ⟨C8, f8, rfl⟩ := o2.form
 have H2 := Lib.hid h2
 have hz2 := h2.size
 (try simp only [lSz] at hz2)
 have HO2 := Lib.hid (o2.lower (b2 := w.heap.size + 4) (by omega))
 clear h2 o2
 (refine rowU w2 w.heap.size fun q2_0 f2_0 l2_0 R2_0 => ?_; refine rowU w2 (w.heap.size + 1) fun q2_1 f2_1 l2_1 R2_1 => ?_; refine rowU w2 (w.heap.size + 1 + 1) fun q2_2 f2_2 l2_2 R2_2 => ?_; refine rowU w2 (w.heap.size + 1 + 1 + 1) fun q2_3 f2_3 l2_3 R2_3 => ?_)
 cases Q2
 case false =>
  have HQ := Lib.hid (show R = (st0, 0, 4) from by rw [HRES.out]; simp)
  go_wp2_with fail
  rw [HQ.out]
  exact bodyPost_ret (v := .tuple #[.agg #[.slice none 0 0, .slice none 0 0, .slice none 0 0, .int .i64 0, .slice none 0 0, .slice none 0 0, .slice none 0 0], .int .i64 0, .int .i64 4]) (by simp [results, Tryz.results39, go_sem, *]) rfl ⟨sv0, rfl, (extA : Ext w _), RdSP.nil⟩
 by_cases hE : DE = 0
 case neg =>
  have hEb : (DE == 0) = false := by simpa using hE
  have hEc : (DE != 0) = true := by simpa using hE
  have HQ := Lib.hid (show R = (st0, 0, DE) from by rw [HRES.out]; simp [hE])
  go_wp2_with fail
  rw [HQ.out]
  exact bodyPost_ret (v := .tuple #[.agg #[.slice none 0 0, .slice none 0 0, .slice none 0 0, .int .i64 0, .slice none 0 0, .slice none 0 0, .slice none 0 0], .int .i64 0, .int .i64 DE]) (by simp [results, Tryz.results39, go_sem, *]) rfl ⟨sv0, rfl, (extA : Ext w _), RdSP.nil⟩
 subst hE
 have HQ := Lib.hid (show R = (⟨s.ledger, ⟨DV, DI⟩, s.gates, s.views⟩, 0, 0) from by rw [HRES.out]; simp)
 go_wp2_with fail
 rw [HQ.out]
 refine bodyPost_ret (v := .tuple #[.agg #[.slice B0 s.ledger.tickets.length kB0, .slice B1 s.ledger.taps.length kB1, .slice B2 s.ledger.verdicts.length kB2, .int .i64 DV, .slice C8 DI.length f8, .slice B4 s.gates.length kB4, .slice B5 s.views.length kB5], .int .i64 0, .int .i64 0]) (by simp [results, Tryz.results39, go_sem, *]) rfl ⟨⟨.slice B0 s.ledger.tickets.length kB0, .slice B1 s.ledger.taps.length kB1, .slice B2 s.ledger.verdicts.length kB2, .slice C8 DI.length f8, .slice B4 s.gates.length kB4, .slice B5 s.views.length kB5⟩, rfl, (extA : Ext w _), ?_⟩
 refine ⟨(HVP.out.tk.weak (fun q hq => .inl hq)).ext extA, (HVP.out.tp.weak (fun q hq => .inl hq)).ext extA, (HVP.out.vd.weak (fun q hq => .inl hq)).ext extA, OwnL.rdq (e := 3) (base := w.heap.size + 4) (v := .slice C8 DI.length f8) (l := DI) ?_ inc_size (by omega), (HVP.out.gt.weak (fun q hq => .inl hq)).ext extA, (HVP.out.vw.weak (fun q hq => .inl hq)).ext extA⟩
 repeat (first | (with_reducible exact HO2.out) | (with_reducible apply OwnL.setC; focus (simp <;> omega)) | (with_reducible apply OwnL.drew))

theorem doOf_4 {P : Nat → Prop} (s : St) (x : Sv) (a : Ac) (w : World) (hrp : RdSP P w x s) (hP : ∀ q, P q → q < w.heap.size) (rs : RightS s) (hf : formA a = 0) (hkd : a.kind = 4) :
  Calls Tryz.prog 39 #[.agg (sta s x), .agg (acc a)] w fun e w' => ∃ x', e = .returned (.tuple #[.agg (sta (doAll s a).1 x'), .int .i64 (doAll s a).2.1, .int .i64 (doAll s a).2.2]) ∧ Ext w w' ∧ RdSP (fun q => P q ∨ w.heap.size ≤ q) w' x' (doAll s a).1 := by
 have hr := hrp.rd
 have HP := Lib.hid hP
 have HVP := Lib.hid hrp
 have hda := doAll_act rs hf
 obtain ⟨k, id, of, time, ⟨t0, t1, t2, t3, t4, t5⟩⟩ := a
 simp only at hkd
 subst hkd
 have hn := neq_tk' t0 t1 t2 t3 t4 t5 0 0 0 0 0 0
 have KB := Lib.hid (fun (w' : World) => (show within 4 1 7 = true by decide) ▸ ref_between 4 1 7 w')
 have hT : (⟨t0, t1, t2, t3, t4, t5⟩ : Tk) = ⟨0, 0, 0, 0, 0, 0⟩ := by
  apply Decidable.byContradiction
  intro hT
  unfold formA at hf; simp only [tk0] at hf; simp [hT] at hf
 rw [decide_eq_true hT] at hn
 have hid : id = 0 := by
  apply Decidable.byContradiction
  intro h
  unfold formA at hf; simp [tk0, hT, h] at hf
 subst hid
 rw [show actS s 0 ⟨4, 0, of, time, ⟨t0, t1, t2, t3, t4, t5⟩⟩ = ((syncRaw s of time).1, ((syncRaw s of time).2.1.length : Int), (syncRaw s of time).2.2) from by unfold actS; rfl] at hda
 have KS := Lib.hid (fun w' (h : Ext w w') => ref_SyncAt s x of time w' (hrp.ext h) (fun q hq => Nat.lt_of_lt_of_le (hP q hq) h.size) rs)
 generalize syncRaw s of time = T at *
 obtain ⟨R1, R2, R3⟩ := T
 generalize doAll s ⟨4, 0, of, time, ⟨t0, t1, t2, t3, t4, t5⟩⟩ = R at *
 have HRES := Lib.hid hda
 clear hda hf
 clear hT
 obtain ⟨s0, s1, s2, si, sg, sv⟩ := x
 obtain ⟨B0, kB0, rfl⟩ : ∃ B d, s0 = .slice B s.ledger.tickets.length d := hr.tk.frm
 obtain ⟨B1, kB1, rfl⟩ : ∃ B d, s1 = .slice B s.ledger.taps.length d := hr.tp.frm
 obtain ⟨B2, kB2, rfl⟩ : ∃ B d, s2 = .slice B s.ledger.verdicts.length d := hr.vd.frm
 obtain ⟨B3, kB3, rfl⟩ : ∃ B d, si = .slice B s.denied.ids.length d := hr.dn.frm
 obtain ⟨B4, kB4, rfl⟩ : ∃ B d, sg = .slice B s.gates.length d := hr.gt.frm
 obtain ⟨B5, kB5, rfl⟩ : ∃ B d, sv = .slice B s.views.length d := hr.vw.frm
 clear hr hrp hP rs
 unfold sta at *
 unfold acc
 simp only at *
 go_enter Tryz.func39, Tryz.ntmps39
 go_wp2_with fail
 refine gB (KB.out _) ?_
 go_wp2_with fail
 refine (KS.out _ extA).mono ?_
 rintro e w1 ⟨⟨u0, u1, u2, ui, ug, uv⟩, us, rfl, h1, hp, hv⟩
 obtain ⟨C0, kC0, rfl⟩ : ∃ B d, u0 = .slice B R1.ledger.tickets.length d := hp.rd.tk.frm
 obtain ⟨C1, kC1, rfl⟩ : ∃ B d, u1 = .slice B R1.ledger.taps.length d := hp.rd.tp.frm
 obtain ⟨C2, kC2, rfl⟩ : ∃ B d, u2 = .slice B R1.ledger.verdicts.length d := hp.rd.vd.frm
 obtain ⟨C3, kC3, rfl⟩ : ∃ B d, ui = .slice B R1.denied.ids.length d := hp.rd.dn.frm
 obtain ⟨C4, kC4, rfl⟩ : ∃ B d, ug = .slice B R1.gates.length d := hp.rd.gt.frm
 obtain ⟨C5, kC5, rfl⟩ : ∃ B d, uv = .slice B R1.views.length d := hp.rd.vw.frm
 obtain ⟨C6, kC6, rfl⟩ : ∃ B d, us = .slice B R2.length d := hv.form
 clear hv
 have H1 := Lib.hid h1
 have hz1 := h1.size
 (try simp only [lSz] at hz1)
 have HPS := Lib.hid (RdSP.weak (Q := (fun q => P q ∨ w.heap.size + 4 ≤ q)) hp (fun q hq => hq.elim .inl (fun hq => .inr (by (try simp only [lSz] at hq); omega))))
 clear h1 hp
 (refine rowU w1 w.heap.size fun q1_0 f1_0 l1_0 R1_0 => ?_; refine rowU w1 (w.heap.size + 1) fun q1_1 f1_1 l1_1 R1_1 => ?_; refine rowU w1 (w.heap.size + 1 + 1) fun q1_2 f1_2 l1_2 R1_2 => ?_; refine rowU w1 (w.heap.size + 1 + 1 + 1) fun q1_3 f1_3 l1_3 R1_3 => ?_)
 by_cases hE : R3 = 0
 case neg =>
  have hEb : (R3 == 0) = false := by simpa using hE
  have hEc : (R3 != 0) = true := by simpa using hE
  have HQ := Lib.hid (show R = (st0, (R2.length : Int), R3) from by rw [HRES.out]; simp [hE])
  go_wp2_with fail
  rw [HQ.out]
  exact bodyPost_ret (v := .tuple #[.agg #[.slice none 0 0, .slice none 0 0, .slice none 0 0, .int .i64 0, .slice none 0 0, .slice none 0 0, .slice none 0 0], .int .i64 (R2.length : Int), .int .i64 R3]) (by simp [results, Tryz.results39, go_sem, *]) rfl ⟨sv0, rfl, (extA : Ext w _), RdSP.nil⟩
 subst hE
 have HQ := Lib.hid (show R = (R1, (R2.length : Int), 0) from by rw [HRES.out]; simp)
 go_wp2_with fail
 rw [HQ.out]
 refine bodyPost_ret (v := .tuple #[.agg #[.slice C0 R1.ledger.tickets.length kC0, .slice C1 R1.ledger.taps.length kC1, .slice C2 R1.ledger.verdicts.length kC2, .int .i64 R1.denied.version, .slice C3 R1.denied.ids.length kC3, .slice C4 R1.gates.length kC4, .slice C5 R1.views.length kC5], .int .i64 (R2.length : Int), .int .i64 0]) (by simp [results, Tryz.results39, go_sem, *]) rfl ⟨⟨.slice C0 R1.ledger.tickets.length kC0, .slice C1 R1.ledger.taps.length kC1, .slice C2 R1.ledger.verdicts.length kC2, .slice C3 R1.denied.ids.length kC3, .slice C4 R1.gates.length kC4, .slice C5 R1.views.length kC5⟩, rfl, (extA : Ext w _), ?_⟩
 (refine RdSP.weak (P := (fun q => P q ∨ w.heap.size + 4 ≤ q)) ?_ (fun q hq => hq.elim .inl (fun hq => .inr (by omega))); repeat (first | (with_reducible exact Hid.out ‹Hid (RdSP _ _ _ _)›) | (with_reducible refine RdSP.setC (fun h => h.elim (fun h => by have := HP.out _ h; simp at this; omega) (fun h => by simp at h; omega)) ?_) | (with_reducible refine RdSP.ext ?_ (Hid.out ‹Hid (Ext _ _)›)) | (with_reducible refine RdSP.ext ?_ ((Ext.refl _).alloc _))))

theorem doOf_5 {P : Nat → Prop} (s : St) (x : Sv) (a : Ac) (w : World) (hrp : RdSP P w x s) (hP : ∀ q, P q → q < w.heap.size) (rs : RightS s) (hf : formA a = 0) (hkd : a.kind = 5) :
  Calls Tryz.prog 39 #[.agg (sta s x), .agg (acc a)] w fun e w' => ∃ x', e = .returned (.tuple #[.agg (sta (doAll s a).1 x'), .int .i64 (doAll s a).2.1, .int .i64 (doAll s a).2.2]) ∧ Ext w w' ∧ RdSP (fun q => P q ∨ w.heap.size ≤ q) w' x' (doAll s a).1 := by
 have hr := hrp.rd
 have HP := Lib.hid hP
 have HVP := Lib.hid hrp
 have hda := doAll_act rs hf
 obtain ⟨k, id, of, time, ⟨t0, t1, t2, t3, t4, t5⟩⟩ := a
 simp only at hkd
 subst hkd
 have hn := neq_tk' t0 t1 t2 t3 t4 t5 0 0 0 0 0 0
 have KB := Lib.hid (fun (w' : World) => (show within 5 1 7 = true by decide) ▸ ref_between 5 1 7 w')
 have hT : (⟨t0, t1, t2, t3, t4, t5⟩ : Tk) = ⟨0, 0, 0, 0, 0, 0⟩ := by
  apply Decidable.byContradiction
  intro hT
  unfold formA at hf; simp only [tk0] at hf; simp [hT] at hf
 rw [decide_eq_true hT] at hn
 have hid : id = 0 := by
  apply Decidable.byContradiction
  intro h
  unfold formA at hf; simp [tk0, hT, h] at hf
 subst hid
 have htime : time = 0 := by
  apply Decidable.byContradiction
  intro h
  unfold formA at hf; simp [tk0, hT, h] at hf
 subst htime
 rw [show actS s 0 ⟨5, 0, of, 0, ⟨t0, t1, t2, t3, t4, t5⟩⟩ = (⟨s.ledger, s.denied, s.gates, (setV s.views of true).1⟩, 0, (setV s.views of true).2) from by unfold actS; rfl] at hda
 have KS := Lib.hid (fun w' (h : Ext w w') => ref_SetOf s.views x.sv of true w' (hr.vw.ext h) rs.views)
 generalize setV s.views of true = T at *
 obtain ⟨VL, VE⟩ := T
 generalize doAll s ⟨5, 0, of, 0, ⟨t0, t1, t2, t3, t4, t5⟩⟩ = R at *
 have HRES := Lib.hid hda
 clear hda hf
 clear hT
 obtain ⟨s0, s1, s2, si, sg, sv⟩ := x
 obtain ⟨B0, kB0, rfl⟩ : ∃ B d, s0 = .slice B s.ledger.tickets.length d := hr.tk.frm
 obtain ⟨B1, kB1, rfl⟩ : ∃ B d, s1 = .slice B s.ledger.taps.length d := hr.tp.frm
 obtain ⟨B2, kB2, rfl⟩ : ∃ B d, s2 = .slice B s.ledger.verdicts.length d := hr.vd.frm
 obtain ⟨B3, kB3, rfl⟩ : ∃ B d, si = .slice B s.denied.ids.length d := hr.dn.frm
 obtain ⟨B4, kB4, rfl⟩ : ∃ B d, sg = .slice B s.gates.length d := hr.gt.frm
 obtain ⟨B5, kB5, rfl⟩ : ∃ B d, sv = .slice B s.views.length d := hr.vw.frm
 clear hr hrp hP rs
 unfold sta at *
 unfold acc
 simp only at *
 go_enter Tryz.func39, Tryz.ntmps39
 go_wp2_with fail
 refine gB (KB.out _) ?_
 go_wp2_with fail
 refine (KS.out _ extA).mono ?_
 rintro e w2 ⟨sq, rfl, h2, o2⟩
 obtain ⟨C8, f8, rfl⟩ := o2.form
 have H2 := Lib.hid h2
 have hz2 := h2.size
 (try simp only [lSz] at hz2)
 have HO2 := Lib.hid (o2.lower (b2 := w.heap.size + 4) (by simp; try omega))
 clear h2 o2
 (refine rowU w2 w.heap.size fun q2_0 f2_0 l2_0 R2_0 => ?_; refine rowU w2 (w.heap.size + 1) fun q2_1 f2_1 l2_1 R2_1 => ?_; refine rowU w2 (w.heap.size + 1 + 1) fun q2_2 f2_2 l2_2 R2_2 => ?_; refine rowU w2 (w.heap.size + 1 + 1 + 1) fun q2_3 f2_3 l2_3 R2_3 => ?_)
 by_cases hE : VE = 0
 case neg =>
  have hEb : (VE == 0) = false := by simpa using hE
  have hEc : (VE != 0) = true := by simpa using hE
  have HQ := Lib.hid (show R = (st0, 0, VE) from by rw [HRES.out]; simp [hE])
  go_wp2_with fail
  rw [HQ.out]
  exact bodyPost_ret (v := .tuple #[.agg #[.slice none 0 0, .slice none 0 0, .slice none 0 0, .int .i64 0, .slice none 0 0, .slice none 0 0, .slice none 0 0], .int .i64 0, .int .i64 VE]) (by simp [results, Tryz.results39, go_sem, *]) rfl ⟨sv0, rfl, (extA : Ext w _), RdSP.nil⟩
 subst hE
 have HQ := Lib.hid (show R = (⟨s.ledger, s.denied, s.gates, VL⟩, 0, 0) from by rw [HRES.out]; simp)
 go_wp2_with fail
 rw [HQ.out]
 refine bodyPost_ret (v := .tuple #[.agg #[.slice B0 s.ledger.tickets.length kB0, .slice B1 s.ledger.taps.length kB1, .slice B2 s.ledger.verdicts.length kB2, .int .i64 s.denied.version, .slice B3 s.denied.ids.length kB3, .slice B4 s.gates.length kB4, .slice C8 VL.length f8], .int .i64 0, .int .i64 0]) (by simp [results, Tryz.results39, go_sem, *]) rfl ⟨⟨.slice B0 s.ledger.tickets.length kB0, .slice B1 s.ledger.taps.length kB1, .slice B2 s.ledger.verdicts.length kB2, .slice B3 s.denied.ids.length kB3, .slice B4 s.gates.length kB4, .slice C8 VL.length f8⟩, rfl, (extA : Ext w _), ?_⟩
 refine ⟨(HVP.out.tk.weak (fun q hq => .inl hq)).ext extA, (HVP.out.tp.weak (fun q hq => .inl hq)).ext extA, (HVP.out.vd.weak (fun q hq => .inl hq)).ext extA, (HVP.out.dn.weak (fun q hq => .inl hq)).ext extA, (HVP.out.gt.weak (fun q hq => .inl hq)).ext extA, OwnL.rdq (e := 110) (base := w.heap.size + 4) (v := .slice C8 VL.length f8) (l := VL) ?_ vwc_size (by omega)⟩
 repeat (first | (with_reducible exact HO2.out) | (with_reducible apply OwnL.setC; focus (simp <;> omega)) | (with_reducible apply OwnL.drew))

theorem doOf_6 {P : Nat → Prop} (s : St) (x : Sv) (a : Ac) (w : World) (hrp : RdSP P w x s) (hP : ∀ q, P q → q < w.heap.size) (rs : RightS s) (hf : formA a = 0) (hkd : a.kind = 6) :
  Calls Tryz.prog 39 #[.agg (sta s x), .agg (acc a)] w fun e w' => ∃ x', e = .returned (.tuple #[.agg (sta (doAll s a).1 x'), .int .i64 (doAll s a).2.1, .int .i64 (doAll s a).2.2]) ∧ Ext w w' ∧ RdSP (fun q => P q ∨ w.heap.size ≤ q) w' x' (doAll s a).1 := by
 have hr := hrp.rd
 have HP := Lib.hid hP
 have HVP := Lib.hid hrp
 have hda := doAll_act rs hf
 obtain ⟨k, id, of, time, ⟨t0, t1, t2, t3, t4, t5⟩⟩ := a
 simp only at hkd
 subst hkd
 have hn := neq_tk' t0 t1 t2 t3 t4 t5 0 0 0 0 0 0
 have KB := Lib.hid (fun (w' : World) => (show within 6 1 7 = true by decide) ▸ ref_between 6 1 7 w')
 have hT : (⟨t0, t1, t2, t3, t4, t5⟩ : Tk) = ⟨0, 0, 0, 0, 0, 0⟩ := by
  apply Decidable.byContradiction
  intro hT
  unfold formA at hf; simp only [tk0] at hf; simp [hT] at hf
 rw [decide_eq_true hT] at hn
 have hid : id = 0 := by
  apply Decidable.byContradiction
  intro h
  unfold formA at hf; simp [tk0, hT, h] at hf
 subst hid
 have htime : time = 0 := by
  apply Decidable.byContradiction
  intro h
  unfold formA at hf; simp [tk0, hT, h] at hf
 subst htime
 rw [show actS s 0 ⟨6, 0, of, 0, ⟨t0, t1, t2, t3, t4, t5⟩⟩ = (⟨s.ledger, s.denied, s.gates, (setV s.views of false).1⟩, 0, (setV s.views of false).2) from by unfold actS; rfl] at hda
 have KS := Lib.hid (fun w' (h : Ext w w') => ref_SetOf s.views x.sv of false w' (hr.vw.ext h) rs.views)
 generalize setV s.views of false = T at *
 obtain ⟨VL, VE⟩ := T
 generalize doAll s ⟨6, 0, of, 0, ⟨t0, t1, t2, t3, t4, t5⟩⟩ = R at *
 have HRES := Lib.hid hda
 clear hda hf
 clear hT
 obtain ⟨s0, s1, s2, si, sg, sv⟩ := x
 obtain ⟨B0, kB0, rfl⟩ : ∃ B d, s0 = .slice B s.ledger.tickets.length d := hr.tk.frm
 obtain ⟨B1, kB1, rfl⟩ : ∃ B d, s1 = .slice B s.ledger.taps.length d := hr.tp.frm
 obtain ⟨B2, kB2, rfl⟩ : ∃ B d, s2 = .slice B s.ledger.verdicts.length d := hr.vd.frm
 obtain ⟨B3, kB3, rfl⟩ : ∃ B d, si = .slice B s.denied.ids.length d := hr.dn.frm
 obtain ⟨B4, kB4, rfl⟩ : ∃ B d, sg = .slice B s.gates.length d := hr.gt.frm
 obtain ⟨B5, kB5, rfl⟩ : ∃ B d, sv = .slice B s.views.length d := hr.vw.frm
 clear hr hrp hP rs
 unfold sta at *
 unfold acc
 simp only at *
 go_enter Tryz.func39, Tryz.ntmps39
 go_wp2_with fail
 refine gB (KB.out _) ?_
 go_wp2_with fail
 refine (KS.out _ extA).mono ?_
 rintro e w2 ⟨sq, rfl, h2, o2⟩
 obtain ⟨C8, f8, rfl⟩ := o2.form
 have H2 := Lib.hid h2
 have hz2 := h2.size
 (try simp only [lSz] at hz2)
 have HO2 := Lib.hid (o2.lower (b2 := w.heap.size + 4) (by simp; try omega))
 clear h2 o2
 (refine rowU w2 w.heap.size fun q2_0 f2_0 l2_0 R2_0 => ?_; refine rowU w2 (w.heap.size + 1) fun q2_1 f2_1 l2_1 R2_1 => ?_; refine rowU w2 (w.heap.size + 1 + 1) fun q2_2 f2_2 l2_2 R2_2 => ?_; refine rowU w2 (w.heap.size + 1 + 1 + 1) fun q2_3 f2_3 l2_3 R2_3 => ?_)
 by_cases hE : VE = 0
 case neg =>
  have hEb : (VE == 0) = false := by simpa using hE
  have hEc : (VE != 0) = true := by simpa using hE
  have HQ := Lib.hid (show R = (st0, 0, VE) from by rw [HRES.out]; simp [hE])
  go_wp2_with fail
  rw [HQ.out]
  exact bodyPost_ret (v := .tuple #[.agg #[.slice none 0 0, .slice none 0 0, .slice none 0 0, .int .i64 0, .slice none 0 0, .slice none 0 0, .slice none 0 0], .int .i64 0, .int .i64 VE]) (by simp [results, Tryz.results39, go_sem, *]) rfl ⟨sv0, rfl, (extA : Ext w _), RdSP.nil⟩
 subst hE
 have HQ := Lib.hid (show R = (⟨s.ledger, s.denied, s.gates, VL⟩, 0, 0) from by rw [HRES.out]; simp)
 go_wp2_with fail
 rw [HQ.out]
 refine bodyPost_ret (v := .tuple #[.agg #[.slice B0 s.ledger.tickets.length kB0, .slice B1 s.ledger.taps.length kB1, .slice B2 s.ledger.verdicts.length kB2, .int .i64 s.denied.version, .slice B3 s.denied.ids.length kB3, .slice B4 s.gates.length kB4, .slice C8 VL.length f8], .int .i64 0, .int .i64 0]) (by simp [results, Tryz.results39, go_sem, *]) rfl ⟨⟨.slice B0 s.ledger.tickets.length kB0, .slice B1 s.ledger.taps.length kB1, .slice B2 s.ledger.verdicts.length kB2, .slice B3 s.denied.ids.length kB3, .slice B4 s.gates.length kB4, .slice C8 VL.length f8⟩, rfl, (extA : Ext w _), ?_⟩
 refine ⟨(HVP.out.tk.weak (fun q hq => .inl hq)).ext extA, (HVP.out.tp.weak (fun q hq => .inl hq)).ext extA, (HVP.out.vd.weak (fun q hq => .inl hq)).ext extA, (HVP.out.dn.weak (fun q hq => .inl hq)).ext extA, (HVP.out.gt.weak (fun q hq => .inl hq)).ext extA, OwnL.rdq (e := 110) (base := w.heap.size + 4) (v := .slice C8 VL.length f8) (l := VL) ?_ vwc_size (by omega)⟩
 repeat (first | (with_reducible exact HO2.out) | (with_reducible apply OwnL.setC; focus (simp <;> omega)) | (with_reducible apply OwnL.drew))

theorem winOf_P {P : Nat → Prop} (l : List Vw) (v : Value) (who : Int) (w : World) (hr : RdP P 3 vwc w v l) (hd : ckViews l = 0) :
  Calls Tryz.prog 93 #[v, .int .i64 who] w fun e w' => ∃ s', e = .returned (.tuple #[s', .bool (winV l who).2.1, .int .i64 (winV l who).2.2]) ∧ Ext w w' ∧ RdP (fun q => P q ∨ w.heap.size ≤ q) 3 vwc w' s' (winV l who).1 := by
 have hw : (winV l who).1 = l ∨ (winV l who).1.length = 0 ∨ True := .inr (.inr trivial)
 refine (ref_WinOfO l v who w hr.rd hd).mono ?_
 rintro e w' ⟨s', h1, h2, h3, h4⟩
 refine ⟨s', h1, h2, h3, ?_⟩
 rcases h4 with rfl | h4
 ·intro h0 q hq
  by_cases hl : 0 < l.length
  ·exact .inl (hr.2 hl q hq)
  ·have : l.length = 3 := ((rightV_iff l).1 hd).1
   omega
 ·exact fun _ q hq => .inr (h4.lt q hq).1
theorem doOf_7 {P : Nat → Prop} (s : St) (x : Sv) (a : Ac) (w : World) (hrp : RdSP P w x s) (hP : ∀ q, P q → q < w.heap.size) (rs : RightS s) (hf : formA a = 0) (hkd : a.kind = 7) :
  Calls Tryz.prog 39 #[.agg (sta s x), .agg (acc a)] w fun e w' => ∃ x', e = .returned (.tuple #[.agg (sta (doAll s a).1 x'), .int .i64 (doAll s a).2.1, .int .i64 (doAll s a).2.2]) ∧ Ext w w' ∧ RdSP (fun q => P q ∨ w.heap.size ≤ q) w' x' (doAll s a).1 := by
 have hr := hrp.rd
 have HP := Lib.hid hP
 have HVP := Lib.hid hrp
 have hda := doAll_act rs hf
 obtain ⟨k, id, of, time, ⟨t0, t1, t2, t3, t4, t5⟩⟩ := a
 simp only at hkd
 subst hkd
 have hn := neq_tk' t0 t1 t2 t3 t4 t5 0 0 0 0 0 0
 have KB := Lib.hid (fun (w' : World) => (show within 7 1 7 = true by decide) ▸ ref_between 7 1 7 w')
 have hT : (⟨t0, t1, t2, t3, t4, t5⟩ : Tk) = ⟨0, 0, 0, 0, 0, 0⟩ := by
  apply Decidable.byContradiction
  intro hT
  unfold formA at hf; simp only [tk0] at hf; simp [hT] at hf
 rw [decide_eq_true hT] at hn
 have hid : id = 0 := by
  apply Decidable.byContradiction
  intro h
  unfold formA at hf; simp [tk0, hT, h] at hf
 subst hid
 have htime : time = 0 := by
  apply Decidable.byContradiction
  intro h
  unfold formA at hf; simp [tk0, hT, h] at hf
 subst htime
 rw [show actS s 0 ⟨7, 0, of, 0, ⟨t0, t1, t2, t3, t4, t5⟩⟩ = (⟨s.ledger, s.denied, s.gates, (winV s.views of).1⟩, (if (winV s.views of).2.1 = true then 1 else 0), (winV s.views of).2.2) from by unfold actS; rfl] at hda
 have KS := Lib.hid (fun w' (h : Ext w w') => winOf_P s.views x.sv of w' (hrp.vw.ext h) rs.views)
 generalize winV s.views of = T at *
 obtain ⟨VL, VO, VE⟩ := T
 generalize doAll s ⟨7, 0, of, 0, ⟨t0, t1, t2, t3, t4, t5⟩⟩ = R at *
 have HRES := Lib.hid hda
 clear hda hf
 clear hT
 obtain ⟨s0, s1, s2, si, sg, sv⟩ := x
 obtain ⟨B0, kB0, rfl⟩ : ∃ B d, s0 = .slice B s.ledger.tickets.length d := hr.tk.frm
 obtain ⟨B1, kB1, rfl⟩ : ∃ B d, s1 = .slice B s.ledger.taps.length d := hr.tp.frm
 obtain ⟨B2, kB2, rfl⟩ : ∃ B d, s2 = .slice B s.ledger.verdicts.length d := hr.vd.frm
 obtain ⟨B3, kB3, rfl⟩ : ∃ B d, si = .slice B s.denied.ids.length d := hr.dn.frm
 obtain ⟨B4, kB4, rfl⟩ : ∃ B d, sg = .slice B s.gates.length d := hr.gt.frm
 obtain ⟨B5, kB5, rfl⟩ : ∃ B d, sv = .slice B s.views.length d := hr.vw.frm
 clear hr hrp hP rs
 unfold sta at *
 unfold acc
 simp only at *
 go_enter Tryz.func39, Tryz.ntmps39
 go_wp2_with fail
 refine gB (KB.out _) ?_
 go_wp2_with fail
 refine (KS.out _ extA).mono ?_
 rintro e w2 ⟨sq, rfl, h2, o2⟩
 obtain ⟨C8, f8, rfl⟩ := o2.form
 have H2 := Lib.hid h2
 have hz2 := h2.size
 (try simp only [lSz] at hz2 o2)
 have HO2 := Lib.hid (RdP.weak (Q := (fun q => P q ∨ w.heap.size + 4 ≤ q)) o2 (fun q hq => hq.elim .inl (fun hq => .inr (by (try simp only [lSz] at hq); omega))))
 clear h2 o2
 (refine rowU w2 w.heap.size fun q2_0 f2_0 l2_0 R2_0 => ?_; refine rowU w2 (w.heap.size + 1) fun q2_1 f2_1 l2_1 R2_1 => ?_; refine rowU w2 (w.heap.size + 1 + 1) fun q2_2 f2_2 l2_2 R2_2 => ?_; refine rowU w2 (w.heap.size + 1 + 1 + 1) fun q2_3 f2_3 l2_3 R2_3 => ?_)
 by_cases hE : VE = 0
 case neg =>
  have hEb : (VE == 0) = false := by simpa using hE
  have hEc : (VE != 0) = true := by simpa using hE
  cases VO
  case false =>
   have HQ := Lib.hid (show R = (st0, 0, VE) from by rw [HRES.out]; simp [hE])
   go_wp2_with fail
   rw [HQ.out]
   exact bodyPost_ret (v := .tuple #[.agg #[.slice none 0 0, .slice none 0 0, .slice none 0 0, .int .i64 0, .slice none 0 0, .slice none 0 0, .slice none 0 0], .int .i64 0, .int .i64 VE]) (by simp [results, Tryz.results39, go_sem, *]) rfl ⟨sv0, rfl, (extA : Ext w _), RdSP.nil⟩
  case true =>
   have HQ := Lib.hid (show R = (st0, 1, VE) from by rw [HRES.out]; simp [hE])
   go_wp2_with fail
   rw [HQ.out]
   exact bodyPost_ret (v := .tuple #[.agg #[.slice none 0 0, .slice none 0 0, .slice none 0 0, .int .i64 0, .slice none 0 0, .slice none 0 0, .slice none 0 0], .int .i64 1, .int .i64 VE]) (by simp [results, Tryz.results39, go_sem, *]) rfl ⟨sv0, rfl, (extA : Ext w _), RdSP.nil⟩
 subst hE
 cases VO
 case false =>
  have HQ := Lib.hid (show R = (⟨s.ledger, s.denied, s.gates, VL⟩, 0, 0) from by rw [HRES.out]; simp)
  go_wp2_with fail
  rw [HQ.out]
  refine bodyPost_ret (v := .tuple #[.agg #[.slice B0 s.ledger.tickets.length kB0, .slice B1 s.ledger.taps.length kB1, .slice B2 s.ledger.verdicts.length kB2, .int .i64 s.denied.version, .slice B3 s.denied.ids.length kB3, .slice B4 s.gates.length kB4, .slice C8 VL.length f8], .int .i64 0, .int .i64 0]) (by simp [results, Tryz.results39, go_sem, *]) rfl ⟨⟨.slice B0 s.ledger.tickets.length kB0, .slice B1 s.ledger.taps.length kB1, .slice B2 s.ledger.verdicts.length kB2, .slice B3 s.denied.ids.length kB3, .slice B4 s.gates.length kB4, .slice C8 VL.length f8⟩, rfl, (extA : Ext w _), ?_⟩
  refine ⟨(HVP.out.tk.weak (fun q hq => .inl hq)).ext extA, (HVP.out.tp.weak (fun q hq => .inl hq)).ext extA, (HVP.out.vd.weak (fun q hq => .inl hq)).ext extA, (HVP.out.dn.weak (fun q hq => .inl hq)).ext extA, (HVP.out.gt.weak (fun q hq => .inl hq)).ext extA, ?_⟩
  (refine RdP.weak (P := (fun q => P q ∨ w.heap.size + 4 ≤ q)) ?_ (fun q hq => hq.elim .inl (fun hq => .inr (by omega))); repeat (first | (with_reducible exact Hid.out ‹Hid (RdP _ _ _ _ _ _)›) | (with_reducible refine RdP.setC (fun h => h.elim (fun h => by have := HP.out _ h; simp at this; omega) (fun h => by simp at h; omega)) ?_) | (with_reducible refine RdP.ext ?_ (Hid.out ‹Hid (Ext _ _)›))))
 case true =>
  have HQ := Lib.hid (show R = (⟨s.ledger, s.denied, s.gates, VL⟩, 1, 0) from by rw [HRES.out]; simp)
  go_wp2_with fail
  rw [HQ.out]
  refine bodyPost_ret (v := .tuple #[.agg #[.slice B0 s.ledger.tickets.length kB0, .slice B1 s.ledger.taps.length kB1, .slice B2 s.ledger.verdicts.length kB2, .int .i64 s.denied.version, .slice B3 s.denied.ids.length kB3, .slice B4 s.gates.length kB4, .slice C8 VL.length f8], .int .i64 1, .int .i64 0]) (by simp [results, Tryz.results39, go_sem, *]) rfl ⟨⟨.slice B0 s.ledger.tickets.length kB0, .slice B1 s.ledger.taps.length kB1, .slice B2 s.ledger.verdicts.length kB2, .slice B3 s.denied.ids.length kB3, .slice B4 s.gates.length kB4, .slice C8 VL.length f8⟩, rfl, (extA : Ext w _), ?_⟩
  refine ⟨(HVP.out.tk.weak (fun q hq => .inl hq)).ext extA, (HVP.out.tp.weak (fun q hq => .inl hq)).ext extA, (HVP.out.vd.weak (fun q hq => .inl hq)).ext extA, (HVP.out.dn.weak (fun q hq => .inl hq)).ext extA, (HVP.out.gt.weak (fun q hq => .inl hq)).ext extA, ?_⟩
  (refine RdP.weak (P := (fun q => P q ∨ w.heap.size + 4 ≤ q)) ?_ (fun q hq => hq.elim .inl (fun hq => .inr (by omega))); repeat (first | (with_reducible exact Hid.out ‹Hid (RdP _ _ _ _ _ _)›) | (with_reducible refine RdP.setC (fun h => h.elim (fun h => by have := HP.out _ h; simp at this; omega) (fun h => by simp at h; omega)) ?_) | (with_reducible refine RdP.ext ?_ (Hid.out ‹Hid (Ext _ _)›))))

theorem kind_form {a : Ac} (hf : formA a = 0) : 1 ≤ a.kind ∧ a.kind ≤ 7 := by
 unfold formA at hf
 split at hf
 ·cases hf
 ·rename_i h; omega
theorem ref_DoOf {P : Nat → Prop} (s : St) (x : Sv) (a : Ac) (w : World) (hrp : RdSP P w x s) (hP : ∀ q, P q → q < w.heap.size) (rs : RightS s) :
  Calls Tryz.prog 39 #[.agg (sta s x), .agg (acc a)] w fun e w' => ∃ x', e = .returned (.tuple #[.agg (sta (doAll s a).1 x'), .int .i64 (doAll s a).2.1, .int .i64 (doAll s a).2.2]) ∧ Ext w w' ∧ RdSP (fun q => P q ∨ w.heap.size ≤ q) w' x' (doAll s a).1 := by
 by_cases hf : formA a = 0
 ·obtain h | h | h | h | h | h | h : a.kind = 1 ∨ a.kind = 2 ∨ a.kind = 3 ∨ a.kind = 4 ∨ a.kind = 5 ∨ a.kind = 6 ∨ a.kind = 7 := by have := kind_form hf; omega
  ·exact doOf_1 s x a w hrp hP rs hf h
  ·exact doOf_2 s x a w hrp hP rs hf h
  ·exact doOf_3 s x a w hrp hP rs hf h
  ·exact doOf_4 s x a w hrp hP rs hf h
  ·exact doOf_5 s x a w hrp hP rs hf h
  ·exact doOf_6 s x a w hrp hP rs hf h
  ·exact doOf_7 s x a w hrp hP rs hf h
 ·exact doOf_bad s x a w hrp rs hf
end Go.Proofs.YteojjbhadgkfgaaGreat
