/- DeskTells: for every input the law returns true, and each argument reads afterwards as it read before. No condition. -/
import Derived.Test.YteojjbhadgkfgaaGreatRows
import Derived.Test.YteojjbhadgkfgaaGreatNv
import Derived.Test.YteojjbhadgkfgaaGreatNp
import Derived.Test.YteojjbhadgkfgaaGreatNy
import Derived.Test.YteojjbhadgkfgaaGreatNx
import Derived.Test.YteojjbhadgkfgaaGreatNn
import Derived.Test.YteojjbhadgkfgaaGreatNs
import Derived.Test.YteojjbhadgkfgaaGreatNo
/- DeskTells: the walk. -/
set_option maxHeartbeats 64000000
namespace Go.Proofs.YteojjbhadgkfgaaGreat
set_option linter.unusedSimpArgs false
set_option linter.unusedVariables false
set_option maxRecDepth 100000
open Go Go.RowKit Lb

theorem isE {a : St} {e : Int} (h : e ≠ 0 → a = st0) : a = if e ≠ 0 then st0 else a := by
 by_cases h2 : e = 0
 ·rw [if_neg (by simpa using h2)]
 ·rw [if_pos h2]; exact h h2
theorem doAll_ck {s : St} {a : Ac} (h : ckSt s ≠ 0) : doAll s a = (st0, 0, ckSt s) := by unfold doAll; rw [if_pos h]
theorem doAll_err {s : St} {a : Ac} (h : (doAll s a).2.2 ≠ 0) : (doAll s a).1 = st0 := by
 unfold doAll at h ⊢
 split
 ·rfl
 ·rename_i h1
  rw [if_neg h1] at h
  split
  ·rfl
  ·rename_i h2
   rw [if_neg h2] at h
   exact absurd h h2
theorem law_DeskTells (s : St) (x : Sv) (a : Ac) (w : World) (hr : RdS w x s) :
  Calls Tryz.prog 7 #[.agg (sta s x), .agg (acc a)] w fun e w' => e = .returned (.bool true) ∧ Ext w w' := by
 have KD1 := Lib.hid (fun w' (h : Ext w w') => desk_Do s x a w' (hr.ext h))
 have KC := Lib.hid (fun w' (h : Ext w w') => ref_CheckStation s x w' (hr.ext h))
 have HP := hr.inP (P := fun q => q < w.heap.size) (fun q hq => hq)
 have KD2 := Lib.hid (fun w' (h : Ext w w') (h0 : ckSt s = 0) => ref_DoOf s x a w' (HP.ext h) (fun q hq => Nat.lt_of_lt_of_le hq h.size) (rightS_iff.1 h0))
 have HZ := Lib.hid (fun (h : ckSt s ≠ 0) => doAll_ck (a := a) h)
 have HE1 := Lib.hid (@doAll_err s a)
 clear HP
 generalize doAll s a = D at *
 generalize ckSt s = ck at *
 obtain ⟨D1, D2, D3⟩ := D
 simp only at KD1 KD2 HE1
 obtain ⟨A0, c0, e0, -, -⟩ := hr.tk.form
 obtain ⟨A1, c1, e1, -, -⟩ := hr.tp.form
 obtain ⟨A2, c2, e2, -, -⟩ := hr.vd.form
 obtain ⟨A3, c3, e3, -, -⟩ := hr.dn.form
 obtain ⟨A4, c4, e4, hc4, -⟩ := hr.gt.form
 obtain ⟨A5, c5, e5, -, -⟩ := hr.vw.form
 obtain ⟨s0, s1, s2, si, sg, sv⟩ := x
 simp only at e0 e1 e2 e3 e4 e5
 subst e0 e1 e2 e3 e4 e5
 clear hr hc4
 unfold sta at KD1 KC KD2 ⊢
 simp only at KD1 KC KD2 ⊢
 rw [show acc a = #[.int .i64 a.kind, .int .i64 a.id, .int .i64 a.of, .int .i64 a.time, .int .i64 a.ticket.id, .int .i64 a.ticket.kind, .int .i64 a.ticket.frm, .int .i64 a.ticket.til, .int .i64 a.ticket.zones, .int .i64 a.ticket.rides] from rfl] at KD1 KD2 ⊢
 go_enter Tryz.func7, Tryz.ntmps7
 go_wp2_with fail
 refine (KD1.out _ extA).mono ?_
 rintro e w1 ⟨⟨t0, t1, t2, ti, tg, tv⟩, rfl, h1, ho⟩
 obtain ⟨B0, kB0, rfl⟩ : ∃ B d, t0 = .slice B D1.ledger.tickets.length d := ho.rd.tk.frm
 obtain ⟨B1, kB1, rfl⟩ : ∃ B d, t1 = .slice B D1.ledger.taps.length d := ho.rd.tp.frm
 obtain ⟨B2, kB2, rfl⟩ : ∃ B d, t2 = .slice B D1.ledger.verdicts.length d := ho.rd.vd.frm
 obtain ⟨B3, kB3, rfl⟩ : ∃ B d, ti = .slice B D1.denied.ids.length d := ho.rd.dn.frm
 obtain ⟨B4, kB4, rfl⟩ : ∃ B d, tg = .slice B D1.gates.length d := ho.rd.gt.frm
 obtain ⟨B5, kB5, rfl⟩ : ∃ B d, tv = .slice B D1.views.length d := ho.rd.vw.frm
 have H1 := Lib.hid h1
 have hz1 := h1.size
 have HO1 := Lib.hid ho.rd
 clear h1 ho
 (try simp only [lSz] at hz1)
 (refine rowU w1 w.heap.size fun q1_0 f1_0 l1_0 R1_0 => ?_; refine rowU w1 (w.heap.size + 1) fun q1_1 f1_1 l1_1 R1_1 => ?_)
 go_wp2_with fail
 (refine gA (KC.out _ extA) fun w2 H2 hz2 => ?_; (try simp only [lSz] at hz2); refine rowU w2 w.heap.size fun q2_0 f2_0 l2_0 R2_0 => ?_; refine rowU w2 (w.heap.size + 1) fun q2_1 f2_1 l2_1 R2_1 => ?_; refine rowU w2 w1.heap.size fun q2_2 f2_2 l2_2 R2_2 => ?_)
 clear KD1 KC q1_0 f1_0 l1_0 R1_0 q1_1 f1_1 l1_1 R1_1
 have HW2 := Lib.hid (And.intro trivial (extA : Ext w w2))
 go_upto_if 21 with fail
 go_cut [8, 9] (fun s8 s9 wx => ∃ x1 : Sv, s8 = .int .i64 D3 ∧ s9 = .int .i64 D2 ∧ Aside (Ext w2 wx ∧ Row wx w2.heap.size (sta D1 x1) ∧ RdS wx x1 D1))
 case first =>
  by_cases hck : ck = 0
  case neg =>
   have hckb : (ck == 0) = false := by simpa using hck
   have hz1 := HZ.out hck
   injection hz1 with hza hzb
   injection hzb with hzb hzc
   subst hza hzb hzc
   go_wp2_with fail
   go_meet
   case rel => exact ⟨sv0, rfl, rfl, (extA : Ext w2 _), (show Row _ w2.heap.size #[.slice none 0 0, .slice none 0 0, .slice none 0 0, .int .i64 0, .slice none 0 0, .slice none 0 0, .slice none 0 0] from by exact rowA), RdS.nil⟩
  subst hck
  have ha1 : w.heap.size < w2.heap.size + 1 := by omega
  have ha3 : w.heap.size + 1 < w2.heap.size + 1 := by omega
  go_wp2_with fail
  refine (KD2.out _ (by exact HW2.out.2.trans extA) (by first | rfl | trivial)).mono ?_
  rintro e w5 ⟨⟨u0, u1, u2, ui, ug, uv⟩, rfl, h1, hp⟩
  obtain ⟨U0, kU0, rfl⟩ : ∃ B d, u0 = .slice B D1.ledger.tickets.length d := hp.rd.tk.frm
  obtain ⟨U1, kU1, rfl⟩ : ∃ B d, u1 = .slice B D1.ledger.taps.length d := hp.rd.tp.frm
  obtain ⟨U2, kU2, rfl⟩ : ∃ B d, u2 = .slice B D1.ledger.verdicts.length d := hp.rd.vd.frm
  obtain ⟨U3, kU3, rfl⟩ : ∃ B d, ui = .slice B D1.denied.ids.length d := hp.rd.dn.frm
  obtain ⟨U4, kU4, rfl⟩ : ∃ B d, ug = .slice B D1.gates.length d := hp.rd.gt.frm
  obtain ⟨U5, kU5, rfl⟩ : ∃ B d, uv = .slice B D1.views.length d := hp.rd.vw.frm
  have H5 := Lib.hid h1
  have hz5 := h1.size
  (try simp only [lSz] at hz5)
  have HPS5 := Lib.hid (RdSP.weak (Q := (fun q => q < w.heap.size ∨ w2.heap.size + 1 ≤ q)) hp (fun q hq => hq.elim .inl (fun hq => .inr (by (try simp only [lSz] at hq); omega))))
  clear h1 hp
  (refine rowU w5 w2.heap.size fun q5_0 f5_0 l5_0 R5_0 => ?_)
  have HRY := Lib.hid (show Row (((((((w5.setCell ⟨w2.heap.size, 0, none⟩ (.slice U0 D1.ledger.tickets.length kU0)).setCell ⟨w2.heap.size, 1, none⟩ (.slice U1 D1.ledger.taps.length kU1)).setCell ⟨w2.heap.size, 2, none⟩ (.slice U2 D1.ledger.verdicts.length kU2)).setCell ⟨w2.heap.size, 3, none⟩ (.int .i64 D1.denied.version)).setCell ⟨w2.heap.size, 4, none⟩ (.slice U3 D1.denied.ids.length kU3)).setCell ⟨w2.heap.size, 5, none⟩ (.slice U4 D1.gates.length kU4)).setCell ⟨w2.heap.size, 6, none⟩ (.slice U5 D1.views.length kU5)) w2.heap.size #[.slice U0 D1.ledger.tickets.length kU0, .slice U1 D1.ledger.taps.length kU1, .slice U2 D1.ledger.verdicts.length kU2, .int .i64 D1.denied.version, .slice U3 D1.denied.ids.length kU3, .slice U4 D1.gates.length kU4, .slice U5 D1.views.length kU5] from by
   have h := (Row.set_ (i := 6) (u := .slice U5 D1.views.length kU5) (Row.set_ (i := 5) (u := .slice U4 D1.gates.length kU4) (Row.set_ (i := 4) (u := .slice U3 D1.denied.ids.length kU3) (Row.set_ (i := 3) (u := .int .i64 D1.denied.version) (Row.set_ (i := 2) (u := .slice U2 D1.ledger.verdicts.length kU2) (Row.set_ (i := 1) (u := .slice U1 D1.ledger.taps.length kU1) (Row.set_ (i := 0) (u := .slice U0 D1.ledger.tickets.length kU0) R5_0.out)))))))
   simpa only [List.setIfInBounds_toArray, List.set_cons_zero, List.set_cons_succ] using h)
  go_wp2_with fail
  go_meet
  case rel =>
   refine ⟨⟨.slice U0 D1.ledger.tickets.length kU0, .slice U1 D1.ledger.taps.length kU1, .slice U2 D1.ledger.verdicts.length kU2, .slice U3 D1.denied.ids.length kU3, .slice U4 D1.gates.length kU4, .slice U5 D1.views.length kU5⟩, rfl, rfl, (extA : Ext w2 _), HRY.out, ?_⟩
   (refine RdSP.rd (P := (fun q => q < w.heap.size ∨ w2.heap.size + 1 ≤ q)) ?_; repeat (first | (with_reducible exact Hid.out ‹Hid (RdSP _ _ _ _)›) | (with_reducible refine RdSP.setC (by simp <;> omega) ?_) | (with_reducible refine RdSP.ext ?_ (Hid.out ‹Hid (Ext _ _)›))))
 case rest =>
  obtain ⟨⟨e0, e1, e2, e3, e4, e5⟩, rfl, rfl, HX⟩ := hcut
  obtain ⟨hx, r1, hp1⟩ := HX.out
  obtain ⟨U0, kU0, rfl⟩ : ∃ B d, e0 = .slice B D1.ledger.tickets.length d := hp1.tk.frm
  obtain ⟨U1, kU1, rfl⟩ : ∃ B d, e1 = .slice B D1.ledger.taps.length d := hp1.tp.frm
  obtain ⟨U2, kU2, rfl⟩ : ∃ B d, e2 = .slice B D1.ledger.verdicts.length d := hp1.vd.frm
  obtain ⟨U3, kU3, rfl⟩ : ∃ B d, e3 = .slice B D1.denied.ids.length d := hp1.dn.frm
  obtain ⟨U4, kU4, rfl⟩ : ∃ B d, e4 = .slice B D1.gates.length d := hp1.gt.frm
  obtain ⟨U5, kU5, rfl⟩ : ∃ B d, e5 = .slice B D1.views.length d := hp1.vw.frm
  unfold sta at r1
  simp only at r1
  have HR1 := Lib.hid r1
  have HC := Lib.hid hx
  have HZ1 := Lib.hid hp1
  have hzc := hx.size
  have HWC := Lib.hid (And.intro trivial (HW2.out.2.trans hx))
  clear HX hx r1 hp1 KD2 HZ
  have K1 := Lib.hid (fun (w' : World) (h1 : RdS w' ⟨.slice B0 D1.ledger.tickets.length kB0, .slice B1 D1.ledger.taps.length kB1, .slice B2 D1.ledger.verdicts.length kB2, .slice B3 D1.denied.ids.length kB3, .slice B4 D1.gates.length kB4, .slice B5 D1.views.length kB5⟩ D1) (h2 : RdS w' ⟨.slice U0 D1.ledger.tickets.length kU0, .slice U1 D1.ledger.taps.length kU1, .slice U2 D1.ledger.verdicts.length kU2, .slice U3 D1.denied.ids.length kU3, .slice U4 D1.gates.length kU4, .slice U5 D1.views.length kU5⟩ D1) => law_stationIs_so D1 D1 D3 ⟨.slice B0 D1.ledger.tickets.length kB0, .slice B1 D1.ledger.taps.length kB1, .slice B2 D1.ledger.verdicts.length kB2, .slice B3 D1.denied.ids.length kB3, .slice B4 D1.gates.length kB4, .slice B5 D1.views.length kB5⟩ ⟨.slice U0 D1.ledger.tickets.length kU0, .slice U1 D1.ledger.taps.length kU1, .slice U2 D1.ledger.verdicts.length kU2, .slice U3 D1.denied.ids.length kU3, .slice U4 D1.gates.length kU4, .slice U5 D1.views.length kU5⟩ w' h1 h2 (isE HE1.out))
  unfold sta at K1
  simp only at K1
  (refine rowU wc w1.heap.size fun qc_0 fc_0 lc_0 Rc_0 => ?_; refine rowU wc w2.heap.size fun qc_1 fc_1 lc_1 Rc_1 => ?_)
  clear q2_0 f2_0 l2_0 R2_0 q2_1 f2_1 l2_1 R2_1 q2_2 f2_2 l2_2 R2_2
  have htt : (D2 == D2) = true := by simp
  go_wp2_with fail
  (refine gA (law_deskBegun _) fun w8 H8 hz8 => ?_; (try simp only [lSz] at hz8); refine rowU w8 w1.heap.size fun q8_0 f8_0 l8_0 R8_0 => ?_; refine rowU w8 w2.heap.size fun q8_1 f8_1 l8_1 R8_1 => ?_)
  go_wp2_with fail
  (refine gA (K1.out _ (HO1.out.ext extA) (HZ1.out.ext extA)) fun w9 H9 hz9 => ?_; (try simp only [lSz] at hz9))
  go_wp2_with fail
  go_ret
  exact ⟨rfl, HWC.out.2.trans (extA : Ext wc _)⟩
end Go.Proofs.YteojjbhadgkfgaaGreat

namespace Go.Proofs.YteojjbhadgkfgaaGreat
set_option linter.unusedSimpArgs false
set_option linter.unusedVariables false
open Go.ChangeShapes Go.WideShapes Go.ChangeAt Go.RowKit
open Go.ChangeMaps (open_string shut_string)

set_option maxRecDepth 100000 in
theorem deskTells_lifted (os : Os) (started : os.Started) (H : Type) (enc : TypeId × Value → H) :
  ReturnsInHanded {} Tryz.checked os 7 .any (Rows.deskTellsSpec.pre6 enc Tryz.prog Tryz.f7 Rows.deskTellsRow.domain false) (Rows.deskTellsSpec.post enc Tryz.prog Tryz.f7 false true false false) := by
 refine returnsInHanded_of_change (C := Tryz.checked) own started (by kernel_rfl) Tryz.func7
  (ChangeSpec.witness6 (enc := enc) (C := Tryz.checked) false ⟨#[], #[.agg #[.slice none 0 0, .slice none 0 0, .slice none 0 0, .int .i64 0, .slice none 0 0, .slice none 0 0, .slice none 0 0], .agg #[.int .i64 0, .int .i64 0, .int .i64 0, .int .i64 0, .int .i64 0, .int .i64 0, .int .i64 0, .int .i64 0, .int .i64 0, .int .i64 0]], []⟩ 8 (by kernel_rfl) (by kernel_rfl) (by kernel_rfl) (by kernel_rfl)) ?_
 intro W base args ds gs before hval0 hW hcnd _
 have hval : ∀ (j : Nat) t v, Tryz.f7.params[j]? = some t → args[j]? = some v → Value.okWide Tryz.prog W .any base t v := hval0
 have hW' := hW
 obtain ⟨p, q, hA0, hV, rfl, hfz, hnd⟩ := hW
 have hA : DataW.TrodAll enc Tryz.prog W 0 (fun _ => true) true Tryz.f7.params.toList args.toList ds p := hA0
 rw [Tryz.params7] at hA hval
 obtain ⟨v0, vs0, d0, ds0, p0, q0, hargs, rfl, rfl, h0, r0⟩ := trodAll_cons hA
 obtain ⟨v1, vs1, d1, ds1, p1, q1, rfl, rfl, rfl, h1, r1⟩ := trodAll_cons r0
 obtain ⟨rfl, rfl, rfl⟩ := trodAll_nil r1
 obtain rfl : args = #[v0, v1] := by cases args; simp_all
 obtain ⟨rfl, rfl⟩ := trodVars_none hV
 have k0 := h0
 have lt0 : ∀ x ∈ p0, x.block < W.heap.size := by obtain ⟨m, hm⟩ := k0; exact DataW.trod_lt m _ _ _ hm
 have k1 := h1
 have lt1 : ∀ x ∈ p1, x.block < W.heap.size := by obtain ⟨m, hm⟩ := k1; exact DataW.trod_lt m _ _ _ hm
 obtain ⟨t0, x0, rfl, e0⟩ := open_st (hval 0 32 v0 rfl rfl) h0
 obtain ⟨t1, rfl⟩ := open_ac (hval 1 71 v1 rfl rfl) h1
 clear hA0 hval0
 refine (law_DeskTells t0 x0 t1 W e0).mono fun e W' ⟨he, bel⟩ => ?_
 subst he
 exact ⟨_, rfl, _, _, _, [], _, [], hW', trodAll_mk1 (shut_bool Tryz.underlying4 _), (trodAll_cons_mk (Below.trod laidOut (by kernel_rfl) (of_decide_eq_true (by kernel_rfl)) k0 bel lt0) (trodAll_cons_mk (Below.trod laidOut (by kernel_rfl) (of_decide_eq_true (by kernel_rfl)) k1 bel lt1) trodAll_mk0)), rfl, bel.frame _, fun h => by cases h⟩

theorem deskTells_holds : Rows.DeskTellsSaid :=
 OpenClaim.holds_of_wide 7 Tryz.f7 rfl rfl rfl rfl rfl rfl rfl ⟨rfl, rfl, rfl, rfl, rfl⟩ rfl rfl rfl rfl rfl (by kernel_rfl) Tryz.func7 (by kernel_rfl)
  (of_decide_eq_true (by kernel_rfl)) (by unfold Func.isWrapper; first | (rw [if_pos (by decide +kernel)]; kernel_rfl) | (rw [if_neg (by decide +kernel)]; exact ⟨rfl, rfl⟩))
  (fun os started H enc _ => deskTells_lifted os started H enc)

end Go.Proofs.YteojjbhadgkfgaaGreat
