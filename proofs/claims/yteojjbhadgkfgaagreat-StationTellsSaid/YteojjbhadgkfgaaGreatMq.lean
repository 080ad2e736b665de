/- Mq: parts of the proofs, laid together. -/
import Derived.Test.YteojjbhadgkfgaaGreatMp
import Derived.Test.YteojjbhadgkfgaaGreatMu
import Derived.Test.YteojjbhadgkfgaaGreatMy
import Derived.Test.YteojjbhadgkfgaaGreatMs
import Derived.Test.YteojjbhadgkfgaaGreatMg
/- StationTells: the walk. -/
namespace Go.Proofs.YteojjbhadgkfgaaGreat
set_option linter.unusedSimpArgs false
set_option linter.unusedVariables false
set_option maxRecDepth 100000
open Go Go.RowKit Lb

theorem isE {a : St} {e : Int} (h : e ≠ 0 → a = st0) : a = if e ≠ 0 then st0 else a := by
 by_cases h2 : e = 0
 ·rw [if_neg (by simpa using h2)]
 ·rw [if_pos h2]; exact h h2
theorem isT {a : List Tp} {e : Int} (h : e ≠ 0 → a = []) : a = if e ≠ 0 then [] else a := by
 by_cases h2 : e = 0
 ·rw [if_neg (by simpa using h2)]
 ·rw [if_pos h2]; exact h h2
theorem sellSt_raw {s : St} {t : Tk} (h : ckSt s = 0) : sellRaw s t = sellSt s t := by unfold sellSt; rw [if_neg (by simpa using h)]
theorem tapSt_raw {s : St} {id g time : Int} (h : ckSt s = 0) : tapRaw s id g time = tapSt s id g time := by unfold tapSt; rw [if_neg (by simpa using h)]
theorem syncSt_raw {s : St} {g time : Int} (h : ckSt s = 0) : syncRaw s g time = syncSt s g time := by unfold syncSt; rw [if_neg (by simpa using h)]
theorem sellSt_bad {s : St} {t : Tk} (h : ckSt s ≠ 0) : sellSt s t = (st0, ckSt s) := by unfold sellSt; rw [if_pos h]
theorem tapSt_bad {s : St} {id g time : Int} (h : ckSt s ≠ 0) : tapSt s id g time = (st0, 0, ckSt s) := by unfold tapSt; rw [if_pos h]
theorem syncSt_bad {s : St} {g time : Int} (h : ckSt s ≠ 0) : syncSt s g time = (st0, [], ckSt s) := by unfold syncSt; rw [if_pos h]
theorem sellSt_err {s : St} {t : Tk} (h : (sellSt s t).2 ≠ 0) : (sellSt s t).1 = st0 := by
 by_cases hc : ckSt s = 0
 ·rw [← sellSt_raw hc] at h ⊢
  unfold sellRaw at h ⊢
  split
  ·rfl
  ·rename_i h2
   rw [if_neg h2] at h
   exact absurd h h2
 ·rw [sellSt_bad hc]
set_option maxHeartbeats 64000000 in
theorem law_StationTells (s : St) (x : Sv) (t : Tk) (id g time : Int) (w : World) (hr : RdS w x s) :
  Calls Tryz.prog 3 #[.agg (sta s x), .agg (tkc t), .int .i64 id, .int .i64 g, .int .i64 time] w fun e w' => e = .returned (.bool true) ∧ Ext w w' := by
 have KS1 := Lib.hid (fun (w' : World) (h : Ext w w') => station_Sell s x t w' (hr.ext h))
 have KT1 := Lib.hid (fun (w' : World) (h : Ext w w') => station_Tap s x id g time w' (hr.ext h))
 have KY1 := Lib.hid (fun (w' : World) (h : Ext w w') => station_Sync s x g time w' (hr.ext h))
 have KC := Lib.hid (fun (w' : World) (h : Ext w w') => ref_CheckStation s x w' (hr.ext h))
 have KC2 := Lib.hid (fun (w' : World) (h : Ext w w') => station_Check s x w' (hr.ext h))
 have HP := hr.inP (P := fun q => q < w.heap.size) (fun q hq => hq)
 have KS2 := Lib.hid (fun (w' : World) (h : Ext w w') (h0 : ckSt s = 0) => sellSt_raw (t := t) h0 ▸ ref_SellAt s x t w' (HP.ext h) (fun q hq => Nat.lt_of_lt_of_le hq h.size) (rightS_iff.1 h0))
 have KT2 := Lib.hid (fun (w' : World) (h : Ext w w') (h0 : ckSt s = 0) => tapSt_raw (id := id) (g := g) (time := time) h0 ▸ ref_TapAt s x id g time w' (HP.ext h) (fun q hq => Nat.lt_of_lt_of_le hq h.size) (rightS_iff.1 h0))
 have KY2 := Lib.hid (fun (w' : World) (h : Ext w w') (h0 : ckSt s = 0) => syncSt_raw (g := g) (time := time) h0 ▸ ref_SyncAt s x g time w' (HP.ext h) (fun q hq => Nat.lt_of_lt_of_le hq h.size) (rightS_iff.1 h0))
 have HZ := Lib.hid (fun (h : ckSt s ≠ 0) => And.intro (sellSt_bad (t := t) h) (And.intro (tapSt_bad (id := id) (g := g) (time := time) h) (syncSt_bad (g := g) (time := time) h)))
 have HE1 := Lib.hid (@sellSt_err s t)
 have HE2 := Lib.hid (fun h => (@safe_err s id g time h).1)
 have HE3 := Lib.hid (@found_err s g time)
 clear HP
 generalize sellSt s t = SA at *
 generalize tapSt s id g time = TA at *
 generalize syncSt s g time = YA at *
 generalize ckSt s = ck at *
 obtain ⟨SA1, SA2⟩ := SA
 obtain ⟨TA1, TA2, TA3⟩ := TA
 obtain ⟨YA1, YA2, YA3⟩ := YA
 simp only at KS1 KT1 KY1 KS2 KT2 KY2 HE1 HE2 HE3
 obtain ⟨A0, c0, e0, -, -⟩ := hr.tk.form
 obtain ⟨A1, c1, e1, -, -⟩ := hr.tp.form
 obtain ⟨A2, c2, e2, -, -⟩ := hr.vd.form
 obtain ⟨A3, c3, e3, -, -⟩ := hr.dn.form
 obtain ⟨A4, c4, e4, hc4, -⟩ := hr.gt.form
 obtain ⟨A5, c5, e5, -, -⟩ := hr.vw.form
 obtain ⟨s0, s1, s2, si, sg, sv⟩ := x
 simp only at e0 e1 e2 e3 e4 e5
 subst e0 e1 e2 e3 e4 e5
 clear hr hc4
 unfold sta at KS1 KT1 KY1 KC KC2 KS2 KT2 KY2 ⊢
 simp only at KS1 KT1 KY1 KC KC2 KS2 KT2 KY2 ⊢
 rw [show tkc t = #[.int .i64 t.id, .int .i64 t.kind, .int .i64 t.frm, .int .i64 t.til, .int .i64 t.zones, .int .i64 t.rides] from rfl] at KS1 KS2 ⊢
 go_enter Tryz.func3, Tryz.ntmps3
 go_wp2_with fail
 refine (KS1.out _ (by exact extA)).mono ?_
 rintro e w1 ⟨⟨t0, t1, t2, ti, tg, tv⟩, rfl, h1, ho⟩
 obtain ⟨B0, kB0, rfl⟩ : ∃ B d, t0 = .slice B SA1.ledger.tickets.length d := (by obtain ⟨A, c, h, -⟩ := ho.rd.tk.form; exact ⟨A, c, h⟩)
 obtain ⟨B1, kB1, rfl⟩ : ∃ B d, t1 = .slice B SA1.ledger.taps.length d := (by obtain ⟨A, c, h, -⟩ := ho.rd.tp.form; exact ⟨A, c, h⟩)
 obtain ⟨B2, kB2, rfl⟩ : ∃ B d, t2 = .slice B SA1.ledger.verdicts.length d := (by obtain ⟨A, c, h, -⟩ := ho.rd.vd.form; exact ⟨A, c, h⟩)
 obtain ⟨B3, kB3, rfl⟩ : ∃ B d, ti = .slice B SA1.denied.ids.length d := (by obtain ⟨A, c, h, -⟩ := ho.rd.dn.form; exact ⟨A, c, h⟩)
 obtain ⟨B4, kB4, rfl⟩ : ∃ B d, tg = .slice B SA1.gates.length d := (by obtain ⟨A, c, h, -⟩ := ho.rd.gt.form; exact ⟨A, c, h⟩)
 obtain ⟨B5, kB5, rfl⟩ : ∃ B d, tv = .slice B SA1.views.length d := (by obtain ⟨A, c, h, -⟩ := ho.rd.vw.form; exact ⟨A, c, h⟩)
 have H1 := Lib.hid h1
 have hz1 := h1.size
 have HO1 := Lib.hid ho.rd
 clear h1 ho
 (try simp only [World.size_alloc, size_set, World.heap_drewN, size_drew] at hz1)
 (apply Row.use (w := w1) (g := w.heap.size); (focus (exact rowA)); intro q1_0 f1_0 l1_0 R1_0; (try simp only [lSet] at q1_0 R1_0); apply Row.use (w := w1) (g := w.heap.size + 1); (focus (exact rowA)); intro q1_1 f1_1 l1_1 R1_1; (try simp only [lSet] at q1_1 R1_1))
 go_wp2_with fail
 refine (KT1.out _ (by exact extA)).mono ?_
 rintro e w2 ⟨⟨t0, t1, t2, ti, tg, tv⟩, rfl, h1, ho⟩
 obtain ⟨C0, kC0, rfl⟩ : ∃ B d, t0 = .slice B TA1.ledger.tickets.length d := (by obtain ⟨A, c, h, -⟩ := ho.rd.tk.form; exact ⟨A, c, h⟩)
 obtain ⟨C1, kC1, rfl⟩ : ∃ B d, t1 = .slice B TA1.ledger.taps.length d := (by obtain ⟨A, c, h, -⟩ := ho.rd.tp.form; exact ⟨A, c, h⟩)
 obtain ⟨C2, kC2, rfl⟩ : ∃ B d, t2 = .slice B TA1.ledger.verdicts.length d := (by obtain ⟨A, c, h, -⟩ := ho.rd.vd.form; exact ⟨A, c, h⟩)
 obtain ⟨C3, kC3, rfl⟩ : ∃ B d, ti = .slice B TA1.denied.ids.length d := (by obtain ⟨A, c, h, -⟩ := ho.rd.dn.form; exact ⟨A, c, h⟩)
 obtain ⟨C4, kC4, rfl⟩ : ∃ B d, tg = .slice B TA1.gates.length d := (by obtain ⟨A, c, h, -⟩ := ho.rd.gt.form; exact ⟨A, c, h⟩)
 obtain ⟨C5, kC5, rfl⟩ : ∃ B d, tv = .slice B TA1.views.length d := (by obtain ⟨A, c, h, -⟩ := ho.rd.vw.form; exact ⟨A, c, h⟩)
 have H2 := Lib.hid h1
 have hz2 := h1.size
 have HO2 := Lib.hid ho.rd
 clear h1 ho
 (try simp only [World.size_alloc, size_set, World.heap_drewN, size_drew] at hz2)
 (apply Row.use (w := w2) (g := w.heap.size); (focus (exact rowA)); intro q2_0 f2_0 l2_0 R2_0; (try simp only [lSet] at q2_0 R2_0); apply Row.use (w := w2) (g := w.heap.size + 1); (focus (exact rowA)); intro q2_1 f2_1 l2_1 R2_1; (try simp only [lSet] at q2_1 R2_1); apply Row.use (w := w2) (g := w1.heap.size); (focus (exact rowA)); intro q2_2 f2_2 l2_2 R2_2; (try simp only [lSet] at q2_2 R2_2))
 go_wp2_with fail
 refine (KY1.out _ (by exact extA)).mono ?_
 rintro e w3 ⟨⟨t0, t1, t2, ti, tg, tv⟩, vt, rfl, h1, ho, hto⟩
 obtain ⟨D6, kD6, rfl⟩ := hto.form
 obtain ⟨D0, kD0, rfl⟩ : ∃ B d, t0 = .slice B YA1.ledger.tickets.length d := (by obtain ⟨A, c, h, -⟩ := ho.rd.tk.form; exact ⟨A, c, h⟩)
 obtain ⟨D1, kD1, rfl⟩ : ∃ B d, t1 = .slice B YA1.ledger.taps.length d := (by obtain ⟨A, c, h, -⟩ := ho.rd.tp.form; exact ⟨A, c, h⟩)
 obtain ⟨D2, kD2, rfl⟩ : ∃ B d, t2 = .slice B YA1.ledger.verdicts.length d := (by obtain ⟨A, c, h, -⟩ := ho.rd.vd.form; exact ⟨A, c, h⟩)
 obtain ⟨D3, kD3, rfl⟩ : ∃ B d, ti = .slice B YA1.denied.ids.length d := (by obtain ⟨A, c, h, -⟩ := ho.rd.dn.form; exact ⟨A, c, h⟩)
 obtain ⟨D4, kD4, rfl⟩ : ∃ B d, tg = .slice B YA1.gates.length d := (by obtain ⟨A, c, h, -⟩ := ho.rd.gt.form; exact ⟨A, c, h⟩)
 obtain ⟨D5, kD5, rfl⟩ : ∃ B d, tv = .slice B YA1.views.length d := (by obtain ⟨A, c, h, -⟩ := ho.rd.vw.form; exact ⟨A, c, h⟩)
 have H3 := Lib.hid h1
 have hz3 := h1.size
 have HO3 := Lib.hid ho.rd
 have HV3 := Lib.hid (hto.rd tpc_size)
 clear hto
 clear h1 ho
 (try simp only [World.size_alloc, size_set, World.heap_drewN, size_drew] at hz3)
 (apply Row.use (w := w3) (g := w.heap.size); (focus (exact rowA)); intro q3_0 f3_0 l3_0 R3_0; (try simp only [lSet] at q3_0 R3_0); apply Row.use (w := w3) (g := w.heap.size + 1); (focus (exact rowA)); intro q3_1 f3_1 l3_1 R3_1; (try simp only [lSet] at q3_1 R3_1); apply Row.use (w := w3) (g := w1.heap.size); (focus (exact rowA)); intro q3_2 f3_2 l3_2 R3_2; (try simp only [lSet] at q3_2 R3_2); apply Row.use (w := w3) (g := w2.heap.size); (focus (exact rowA)); intro q3_3 f3_3 l3_3 R3_3; (try simp only [lSet] at q3_3 R3_3))
 go_wp2_with fail
 (refine (KC.out _ (by exact extA)).mono ?_; rintro e w4 ⟨rfl, h4⟩; have H4 := Lib.hid h4; have hz4 := h4.size; clear h4; (try simp only [World.size_alloc, size_set, World.heap_drewN, size_drew] at hz4); apply Row.use (w := w4) (g := w.heap.size); (focus (exact rowA)); intro q4_0 f4_0 l4_0 R4_0; (try simp only [lSet] at q4_0 R4_0); apply Row.use (w := w4) (g := w.heap.size + 1); (focus (exact rowA)); intro q4_1 f4_1 l4_1 R4_1; (try simp only [lSet] at q4_1 R4_1); apply Row.use (w := w4) (g := w1.heap.size); (focus (exact rowA)); intro q4_2 f4_2 l4_2 R4_2; (try simp only [lSet] at q4_2 R4_2); apply Row.use (w := w4) (g := w2.heap.size); (focus (exact rowA)); intro q4_3 f4_3 l4_3 R4_3; (try simp only [lSet] at q4_3 R4_3); apply Row.use (w := w4) (g := w3.heap.size); (focus (exact rowA)); intro q4_4 f4_4 l4_4 R4_4; (try simp only [lSet] at q4_4 R4_4))
 clear KS1 KT1 KY1 KC
 clear q1_0 f1_0 l1_0 R1_0 q1_1 f1_1 l1_1 R1_1
 clear q2_0 f2_0 l2_0 R2_0 q2_1 f2_1 l2_1 R2_1 q2_2 f2_2 l2_2 R2_2
 clear q3_0 f3_0 l3_0 R3_0 q3_1 f3_1 l3_1 R3_1 q3_2 f3_2 l3_2 R3_2 q3_3 f3_3 l3_3 R3_3
 have HW4 := Lib.hid (And.intro trivial (show Ext w w4 by exact extA))
 go_upto_if 57 with fail
 go_cut [20, 21, 22, 26, 27] (fun s20 s21 s22 s26 s27 wx => ∃ (x1 x2 x3 : Sv) (v : Value), s20 = .int .i64 SA2 ∧ s21 = .int .i64 TA3 ∧ s22 = .int .i64 YA3 ∧ v = s26 ∧ s27 = .int .i64 TA2 ∧ Aside (Ext w4 wx ∧ Row wx w4.heap.size (sta SA1 x1) ∧ Row wx (w4.heap.size + 1) (sta TA1 x2) ∧ Row wx (w4.heap.size + 1 + 1) (sta YA1 x3) ∧ RdS wx x1 SA1 ∧ RdS wx x2 TA1 ∧ RdS wx x3 YA1 ∧ RdL 5 tpc wx v YA2))
 case first =>
  by_cases hck : ck = 0
  case neg =>
   have hckb : (ck == 0) = false := by simpa using hck
   obtain ⟨hz1, hz2, hz3⟩ := HZ.out hck
   injection hz1 with hza hzb
   injection hz2 with hzc hzd
   injection hzd with hzd hze
   injection hz3 with hzf hzg
   injection hzg with hzg hzh
   subst hza hzb hzc hzd hze hzf hzg hzh
   go_wp2_with fail
   go_meet
   case rel => exact ⟨sv0, sv0, sv0, .slice none 0 0, rfl, rfl, rfl, rfl, rfl, (show Ext w4 _ by exact extA), (show Row _ w4.heap.size #[.slice none 0 0, .slice none 0 0, .slice none 0 0, .int .i64 0, .slice none 0 0, .slice none 0 0, .slice none 0 0] from by exact rowA), (show Row _ (w4.heap.size + 1) #[.slice none 0 0, .slice none 0 0, .slice none 0 0, .int .i64 0, .slice none 0 0, .slice none 0 0, .slice none 0 0] from by exact rowA), (show Row _ (w4.heap.size + 1 + 1) #[.slice none 0 0, .slice none 0 0, .slice none 0 0, .int .i64 0, .slice none 0 0, .slice none 0 0, .slice none 0 0] from by exact rowA), RdS.nil, RdS.nil, RdS.nil, RdL.nil⟩
  subst hck
  have ha1 : w.heap.size < w4.heap.size + 1 := by omega
  have ha2 : w.heap.size < w4.heap.size + 1 + 1 := by omega
  have ha3 : w.heap.size + 1 < w4.heap.size + 1 := by omega
  have ha4 : w.heap.size + 1 < w4.heap.size + 1 + 1 := by omega
  go_wp2_with fail
  refine (KS2.out _ (by exact HW4.out.2.trans (by exact extA)) (by first | rfl | trivial)).mono ?_
  rintro e w5 ⟨⟨u0, u1, u2, ui, ug, uv⟩, rfl, h1, hp⟩
  obtain ⟨U0, kU0, rfl⟩ : ∃ B d, u0 = .slice B SA1.ledger.tickets.length d := (by obtain ⟨A, c, h, -⟩ := hp.rd.tk.form; exact ⟨A, c, h⟩)
  obtain ⟨U1, kU1, rfl⟩ : ∃ B d, u1 = .slice B SA1.ledger.taps.length d := (by obtain ⟨A, c, h, -⟩ := hp.rd.tp.form; exact ⟨A, c, h⟩)
  obtain ⟨U2, kU2, rfl⟩ : ∃ B d, u2 = .slice B SA1.ledger.verdicts.length d := (by obtain ⟨A, c, h, -⟩ := hp.rd.vd.form; exact ⟨A, c, h⟩)
  obtain ⟨U3, kU3, rfl⟩ : ∃ B d, ui = .slice B SA1.denied.ids.length d := (by obtain ⟨A, c, h, -⟩ := hp.rd.dn.form; exact ⟨A, c, h⟩)
  obtain ⟨U4, kU4, rfl⟩ : ∃ B d, ug = .slice B SA1.gates.length d := (by obtain ⟨A, c, h, -⟩ := hp.rd.gt.form; exact ⟨A, c, h⟩)
  obtain ⟨U5, kU5, rfl⟩ : ∃ B d, uv = .slice B SA1.views.length d := (by obtain ⟨A, c, h, -⟩ := hp.rd.vw.form; exact ⟨A, c, h⟩)
  have H5 := Lib.hid h1
  have hz5 := h1.size
  (try simp only [World.size_alloc, size_set, World.heap_drewN, size_drew] at hz5)
  have HPS5 := Lib.hid (RdSP.weak (Q := (fun q => q < w.heap.size ∨ w4.heap.size + 3 ≤ q)) hp (fun q hq => hq.elim .inl (fun hq => .inr (by (try simp only [World.size_alloc, size_set, World.heap_drewN, size_drew] at hq); omega))))
  clear h1 hp
  (apply Row.use (w := w5) (g := w.heap.size); (focus (exact rowA)); intro q5_0 f5_0 l5_0 R5_0; (try simp only [lSet] at q5_0 R5_0); apply Row.use (w := w5) (g := w.heap.size + 1); (focus (exact rowA)); intro q5_1 f5_1 l5_1 R5_1; (try simp only [lSet] at q5_1 R5_1); apply Row.use (w := w5) (g := w4.heap.size); (focus (exact rowA)); intro q5_2 f5_2 l5_2 R5_2; (try simp only [lSet] at q5_2 R5_2); apply Row.use (w := w5) (g := w4.heap.size + 1); (focus (exact rowA)); intro q5_3 f5_3 l5_3 R5_3; (try simp only [lSet] at q5_3 R5_3); apply Row.use (w := w5) (g := w4.heap.size + 1 + 1); (focus (exact rowA)); intro q5_4 f5_4 l5_4 R5_4; (try simp only [lSet] at q5_4 R5_4))
  go_wp2_with fail
  refine (KT2.out _ (by exact HW4.out.2.trans (by exact extA)) (by first | rfl | trivial)).mono ?_
  rintro e w6 ⟨⟨u0, u1, u2, ui, ug, uv⟩, rfl, h1, hp⟩
  obtain ⟨V0, kV0, rfl⟩ : ∃ B d, u0 = .slice B TA1.ledger.tickets.length d := (by obtain ⟨A, c, h, -⟩ := hp.rd.tk.form; exact ⟨A, c, h⟩)
  obtain ⟨V1, kV1, rfl⟩ : ∃ B d, u1 = .slice B TA1.ledger.taps.length d := (by obtain ⟨A, c, h, -⟩ := hp.rd.tp.form; exact ⟨A, c, h⟩)
  obtain ⟨V2, kV2, rfl⟩ : ∃ B d, u2 = .slice B TA1.ledger.verdicts.length d := (by obtain ⟨A, c, h, -⟩ := hp.rd.vd.form; exact ⟨A, c, h⟩)
  obtain ⟨V3, kV3, rfl⟩ : ∃ B d, ui = .slice B TA1.denied.ids.length d := (by obtain ⟨A, c, h, -⟩ := hp.rd.dn.form; exact ⟨A, c, h⟩)
  obtain ⟨V4, kV4, rfl⟩ : ∃ B d, ug = .slice B TA1.gates.length d := (by obtain ⟨A, c, h, -⟩ := hp.rd.gt.form; exact ⟨A, c, h⟩)
  obtain ⟨V5, kV5, rfl⟩ : ∃ B d, uv = .slice B TA1.views.length d := (by obtain ⟨A, c, h, -⟩ := hp.rd.vw.form; exact ⟨A, c, h⟩)
  have H6 := Lib.hid h1
  have hz6 := h1.size
  (try simp only [World.size_alloc, size_set, World.heap_drewN, size_drew] at hz6)
  have HPS6 := Lib.hid (RdSP.weak (Q := (fun q => q < w.heap.size ∨ w4.heap.size + 3 ≤ q)) hp (fun q hq => hq.elim .inl (fun hq => .inr (by (try simp only [World.size_alloc, size_set, World.heap_drewN, size_drew] at hq); omega))))
  clear h1 hp
  (apply Row.use (w := w6) (g := w.heap.size); (focus (exact rowA)); intro q6_0 f6_0 l6_0 R6_0; (try simp only [lSet] at q6_0 R6_0); apply Row.use (w := w6) (g := w4.heap.size); (focus (exact rowA)); intro q6_1 f6_1 l6_1 R6_1; (try simp only [lSet] at q6_1 R6_1); apply Row.use (w := w6) (g := w4.heap.size + 1); (focus (exact rowA)); intro q6_2 f6_2 l6_2 R6_2; (try simp only [lSet] at q6_2 R6_2); apply Row.use (w := w6) (g := w4.heap.size + 1 + 1); (focus (exact rowA)); intro q6_3 f6_3 l6_3 R6_3; (try simp only [lSet] at q6_3 R6_3))
  go_wp2_with fail
  refine (KY2.out _ (by exact HW4.out.2.trans (by exact extA)) (by first | rfl | trivial)).mono ?_
  rintro e w7 ⟨⟨u0, u1, u2, ui, ug, uv⟩, us, rfl, h1, hp, hv⟩
  obtain ⟨Z0, kZ0, rfl⟩ : ∃ B d, u0 = .slice B YA1.ledger.tickets.length d := (by obtain ⟨A, c, h, -⟩ := hp.rd.tk.form; exact ⟨A, c, h⟩)
  obtain ⟨Z1, kZ1, rfl⟩ : ∃ B d, u1 = .slice B YA1.ledger.taps.length d := (by obtain ⟨A, c, h, -⟩ := hp.rd.tp.form; exact ⟨A, c, h⟩)
  obtain ⟨Z2, kZ2, rfl⟩ : ∃ B d, u2 = .slice B YA1.ledger.verdicts.length d := (by obtain ⟨A, c, h, -⟩ := hp.rd.vd.form; exact ⟨A, c, h⟩)
  obtain ⟨Z3, kZ3, rfl⟩ : ∃ B d, ui = .slice B YA1.denied.ids.length d := (by obtain ⟨A, c, h, -⟩ := hp.rd.dn.form; exact ⟨A, c, h⟩)
  obtain ⟨Z4, kZ4, rfl⟩ : ∃ B d, ug = .slice B YA1.gates.length d := (by obtain ⟨A, c, h, -⟩ := hp.rd.gt.form; exact ⟨A, c, h⟩)
  obtain ⟨Z5, kZ5, rfl⟩ : ∃ B d, uv = .slice B YA1.views.length d := (by obtain ⟨A, c, h, -⟩ := hp.rd.vw.form; exact ⟨A, c, h⟩)
  obtain ⟨Z6, kZ6, rfl⟩ : ∃ B d, us = .slice B YA2.length d := hv.form
  have HPV := Lib.hid (RdP.weak (Q := (fun q => q < w.heap.size ∨ w4.heap.size + 3 ≤ q)) hv (fun q hq => hq.elim .inl (fun hq => .inr (by (try simp only [World.size_alloc, size_set, World.heap_drewN, size_drew] at hq); omega))))
  clear hv
  have H7 := Lib.hid h1
  have hz7 := h1.size
  (try simp only [World.size_alloc, size_set, World.heap_drewN, size_drew] at hz7)
  have HPS7 := Lib.hid (RdSP.weak (Q := (fun q => q < w.heap.size ∨ w4.heap.size + 3 ≤ q)) hp (fun q hq => hq.elim .inl (fun hq => .inr (by (try simp only [World.size_alloc, size_set, World.heap_drewN, size_drew] at hq); omega))))
  clear h1 hp
  (apply Row.use (w := w7) (g := w4.heap.size); (focus (exact rowA)); intro q7_0 f7_0 l7_0 R7_0; (try simp only [lSet] at q7_0 R7_0); apply Row.use (w := w7) (g := w4.heap.size + 1); (focus (exact rowA)); intro q7_1 f7_1 l7_1 R7_1; (try simp only [lSet] at q7_1 R7_1); apply Row.use (w := w7) (g := w4.heap.size + 1 + 1); (focus (exact rowA)); intro q7_2 f7_2 l7_2 R7_2; (try simp only [lSet] at q7_2 R7_2))
  have HRY := Lib.hid (show Row (((((((w7.setCell ⟨w4.heap.size + 1 + 1, 0, none⟩ (.slice Z0 YA1.ledger.tickets.length kZ0)).setCell ⟨w4.heap.size + 1 + 1, 1, none⟩ (.slice Z1 YA1.ledger.taps.length kZ1)).setCell ⟨w4.heap.size + 1 + 1, 2, none⟩ (.slice Z2 YA1.ledger.verdicts.length kZ2)).setCell ⟨w4.heap.size + 1 + 1, 3, none⟩ (.int .i64 YA1.denied.version)).setCell ⟨w4.heap.size + 1 + 1, 4, none⟩ (.slice Z3 YA1.denied.ids.length kZ3)).setCell ⟨w4.heap.size + 1 + 1, 5, none⟩ (.slice Z4 YA1.gates.length kZ4)).setCell ⟨w4.heap.size + 1 + 1, 6, none⟩ (.slice Z5 YA1.views.length kZ5)) (w4.heap.size + 1 + 1) #[.slice Z0 YA1.ledger.tickets.length kZ0, .slice Z1 YA1.ledger.taps.length kZ1, .slice Z2 YA1.ledger.verdicts.length kZ2, .int .i64 YA1.denied.version, .slice Z3 YA1.denied.ids.length kZ3, .slice Z4 YA1.gates.length kZ4, .slice Z5 YA1.views.length kZ5] from by
   have h := (Row.set_ (i := 6) (u := .slice Z5 YA1.views.length kZ5) (Row.set_ (i := 5) (u := .slice Z4 YA1.gates.length kZ4) (Row.set_ (i := 4) (u := .slice Z3 YA1.denied.ids.length kZ3) (Row.set_ (i := 3) (u := .int .i64 YA1.denied.version) (Row.set_ (i := 2) (u := .slice Z2 YA1.ledger.verdicts.length kZ2) (Row.set_ (i := 1) (u := .slice Z1 YA1.ledger.taps.length kZ1) (Row.set_ (i := 0) (u := .slice Z0 YA1.ledger.tickets.length kZ0) R7_2.out)))))))
   simpa only [List.setIfInBounds_toArray, List.set_cons_zero, List.set_cons_succ] using h)
  go_wp2_with fail
  go_meet
  case rel =>
   refine ⟨⟨.slice U0 SA1.ledger.tickets.length kU0, .slice U1 SA1.ledger.taps.length kU1, .slice U2 SA1.ledger.verdicts.length kU2, .slice U3 SA1.denied.ids.length kU3, .slice U4 SA1.gates.length kU4, .slice U5 SA1.views.length kU5⟩, ⟨.slice V0 TA1.ledger.tickets.length kV0, .slice V1 TA1.ledger.taps.length kV1, .slice V2 TA1.ledger.verdicts.length kV2, .slice V3 TA1.denied.ids.length kV3, .slice V4 TA1.gates.length kV4, .slice V5 TA1.views.length kV5⟩, ⟨.slice Z0 YA1.ledger.tickets.length kZ0, .slice Z1 YA1.ledger.taps.length kZ1, .slice Z2 YA1.ledger.verdicts.length kZ2, .slice Z3 YA1.denied.ids.length kZ3, .slice Z4 YA1.gates.length kZ4, .slice Z5 YA1.views.length kZ5⟩, .slice Z6 YA2.length kZ6, rfl, rfl, rfl, rfl, rfl, (show Ext w4 _ by exact extA), ?_, ?_, HRY.out, ?_, ?_, ?_, ?_⟩
   ·exact (show Row _ w4.heap.size #[.slice U0 SA1.ledger.tickets.length kU0, .slice U1 SA1.ledger.taps.length kU1, .slice U2 SA1.ledger.verdicts.length kU2, .int .i64 SA1.denied.version, .slice U3 SA1.denied.ids.length kU3, .slice U4 SA1.gates.length kU4, .slice U5 SA1.views.length kU5] from by exact rowA)
   ·exact (show Row _ (w4.heap.size + 1) #[.slice V0 TA1.ledger.tickets.length kV0, .slice V1 TA1.ledger.taps.length kV1, .slice V2 TA1.ledger.verdicts.length kV2, .int .i64 TA1.denied.version, .slice V3 TA1.denied.ids.length kV3, .slice V4 TA1.gates.length kV4, .slice V5 TA1.views.length kV5] from by exact rowA)
   ·(refine RdSP.rd (P := (fun q => q < w.heap.size ∨ w4.heap.size + 3 ≤ q)) ?_; repeat (first | (with_reducible exact Hid.out ‹Hid (RdSP _ _ _ _)›) | (with_reducible refine RdSP.setC (by simp <;> omega) ?_) | (with_reducible refine RdSP.ext ?_ (Hid.out ‹Hid (Ext _ _)›))))
   ·(refine RdSP.rd (P := (fun q => q < w.heap.size ∨ w4.heap.size + 3 ≤ q)) ?_; repeat (first | (with_reducible exact Hid.out ‹Hid (RdSP _ _ _ _)›) | (with_reducible refine RdSP.setC (by simp <;> omega) ?_) | (with_reducible refine RdSP.ext ?_ (Hid.out ‹Hid (Ext _ _)›))))
   ·(refine RdSP.rd (P := (fun q => q < w.heap.size ∨ w4.heap.size + 3 ≤ q)) ?_; repeat (first | (with_reducible exact Hid.out ‹Hid (RdSP _ _ _ _)›) | (with_reducible refine RdSP.setC (by simp <;> omega) ?_) | (with_reducible refine RdSP.ext ?_ (Hid.out ‹Hid (Ext _ _)›))))
   ·(refine RdP.rd (P := (fun q => q < w.heap.size ∨ w4.heap.size + 3 ≤ q)) ?_; repeat (first | (with_reducible exact Hid.out ‹Hid (RdP _ _ _ _ _ _)›) | (with_reducible refine RdP.setC (by simp <;> omega) ?_) | (with_reducible refine RdP.ext ?_ (Hid.out ‹Hid (Ext _ _)›))))
 case rest =>
  obtain ⟨⟨e0, e1, e2, e3, e4, e5⟩, ⟨f0, f1, f2, f3, f4, f5⟩, ⟨g0, g1, g2, g3, g4, g5⟩, v6, rfl, rfl, rfl, rfl, rfl, HX⟩ := hcut
  obtain ⟨hx, r1, r2, r3, hp1, hp2, hp3, hp4⟩ := HX.out
  obtain ⟨U0, kU0, rfl⟩ : ∃ B d, e0 = .slice B SA1.ledger.tickets.length d := (by obtain ⟨A, c, h, -⟩ := hp1.tk.form; exact ⟨A, c, h⟩)
  obtain ⟨U1, kU1, rfl⟩ : ∃ B d, e1 = .slice B SA1.ledger.taps.length d := (by obtain ⟨A, c, h, -⟩ := hp1.tp.form; exact ⟨A, c, h⟩)
  obtain ⟨U2, kU2, rfl⟩ : ∃ B d, e2 = .slice B SA1.ledger.verdicts.length d := (by obtain ⟨A, c, h, -⟩ := hp1.vd.form; exact ⟨A, c, h⟩)
  obtain ⟨U3, kU3, rfl⟩ : ∃ B d, e3 = .slice B SA1.denied.ids.length d := (by obtain ⟨A, c, h, -⟩ := hp1.dn.form; exact ⟨A, c, h⟩)
  obtain ⟨U4, kU4, rfl⟩ : ∃ B d, e4 = .slice B SA1.gates.length d := (by obtain ⟨A, c, h, -⟩ := hp1.gt.form; exact ⟨A, c, h⟩)
  obtain ⟨U5, kU5, rfl⟩ : ∃ B d, e5 = .slice B SA1.views.length d := (by obtain ⟨A, c, h, -⟩ := hp1.vw.form; exact ⟨A, c, h⟩)
  obtain ⟨V0, kV0, rfl⟩ : ∃ B d, f0 = .slice B TA1.ledger.tickets.length d := (by obtain ⟨A, c, h, -⟩ := hp2.tk.form; exact ⟨A, c, h⟩)
  obtain ⟨V1, kV1, rfl⟩ : ∃ B d, f1 = .slice B TA1.ledger.taps.length d := (by obtain ⟨A, c, h, -⟩ := hp2.tp.form; exact ⟨A, c, h⟩)
  obtain ⟨V2, kV2, rfl⟩ : ∃ B d, f2 = .slice B TA1.ledger.verdicts.length d := (by obtain ⟨A, c, h, -⟩ := hp2.vd.form; exact ⟨A, c, h⟩)
  obtain ⟨V3, kV3, rfl⟩ : ∃ B d, f3 = .slice B TA1.denied.ids.length d := (by obtain ⟨A, c, h, -⟩ := hp2.dn.form; exact ⟨A, c, h⟩)
  obtain ⟨V4, kV4, rfl⟩ : ∃ B d, f4 = .slice B TA1.gates.length d := (by obtain ⟨A, c, h, -⟩ := hp2.gt.form; exact ⟨A, c, h⟩)
  obtain ⟨V5, kV5, rfl⟩ : ∃ B d, f5 = .slice B TA1.views.length d := (by obtain ⟨A, c, h, -⟩ := hp2.vw.form; exact ⟨A, c, h⟩)
  obtain ⟨Z0, kZ0, rfl⟩ : ∃ B d, g0 = .slice B YA1.ledger.tickets.length d := (by obtain ⟨A, c, h, -⟩ := hp3.tk.form; exact ⟨A, c, h⟩)
  obtain ⟨Z1, kZ1, rfl⟩ : ∃ B d, g1 = .slice B YA1.ledger.taps.length d := (by obtain ⟨A, c, h, -⟩ := hp3.tp.form; exact ⟨A, c, h⟩)
  obtain ⟨Z2, kZ2, rfl⟩ : ∃ B d, g2 = .slice B YA1.ledger.verdicts.length d := (by obtain ⟨A, c, h, -⟩ := hp3.vd.form; exact ⟨A, c, h⟩)
  obtain ⟨Z3, kZ3, rfl⟩ : ∃ B d, g3 = .slice B YA1.denied.ids.length d := (by obtain ⟨A, c, h, -⟩ := hp3.dn.form; exact ⟨A, c, h⟩)
  obtain ⟨Z4, kZ4, rfl⟩ : ∃ B d, g4 = .slice B YA1.gates.length d := (by obtain ⟨A, c, h, -⟩ := hp3.gt.form; exact ⟨A, c, h⟩)
  obtain ⟨Z5, kZ5, rfl⟩ : ∃ B d, g5 = .slice B YA1.views.length d := (by obtain ⟨A, c, h, -⟩ := hp3.vw.form; exact ⟨A, c, h⟩)
  obtain ⟨Z6, kZ6, rfl⟩ : ∃ B d, v6 = .slice B YA2.length d := (by obtain ⟨A, c, h, -⟩ := hp4.form; exact ⟨A, c, h⟩)
  unfold sta at r1 r2 r3
  simp only at r1 r2 r3
  have HR1 := Lib.hid r1
  have HR2 := Lib.hid r2
  have HR3 := Lib.hid r3
  have HC := Lib.hid hx
  have HZ1 := Lib.hid hp1
  have HZ2 := Lib.hid hp2
  have HZ3 := Lib.hid hp3
  have HZ4 := Lib.hid hp4
  have hzc := hx.size
  have HWC := Lib.hid (And.intro trivial (HW4.out.2.trans hx))
  clear HX hx r1 r2 r3 hp1 hp2 hp3 hp4 KS2 KT2 KY2 HZ
  have K1 := Lib.hid (fun (w' : World) (h1 : RdS w' ⟨.slice B0 SA1.ledger.tickets.length kB0, .slice B1 SA1.ledger.taps.length kB1, .slice B2 SA1.ledger.verdicts.length kB2, .slice B3 SA1.denied.ids.length kB3, .slice B4 SA1.gates.length kB4, .slice B5 SA1.views.length kB5⟩ SA1) (h2 : RdS w' ⟨.slice U0 SA1.ledger.tickets.length kU0, .slice U1 SA1.ledger.taps.length kU1, .slice U2 SA1.ledger.verdicts.length kU2, .slice U3 SA1.denied.ids.length kU3, .slice U4 SA1.gates.length kU4, .slice U5 SA1.views.length kU5⟩ SA1) => law_stationIs_so SA1 SA1 SA2 ⟨.slice B0 SA1.ledger.tickets.length kB0, .slice B1 SA1.ledger.taps.length kB1, .slice B2 SA1.ledger.verdicts.length kB2, .slice B3 SA1.denied.ids.length kB3, .slice B4 SA1.gates.length kB4, .slice B5 SA1.views.length kB5⟩ ⟨.slice U0 SA1.ledger.tickets.length kU0, .slice U1 SA1.ledger.taps.length kU1, .slice U2 SA1.ledger.verdicts.length kU2, .slice U3 SA1.denied.ids.length kU3, .slice U4 SA1.gates.length kU4, .slice U5 SA1.views.length kU5⟩ w' h1 h2 (isE HE1.out))
  have K2 := Lib.hid (fun (w' : World) (h1 : RdS w' ⟨.slice C0 TA1.ledger.tickets.length kC0, .slice C1 TA1.ledger.taps.length kC1, .slice C2 TA1.ledger.verdicts.length kC2, .slice C3 TA1.denied.ids.length kC3, .slice C4 TA1.gates.length kC4, .slice C5 TA1.views.length kC5⟩ TA1) (h2 : RdS w' ⟨.slice V0 TA1.ledger.tickets.length kV0, .slice V1 TA1.ledger.taps.length kV1, .slice V2 TA1.ledger.verdicts.length kV2, .slice V3 TA1.denied.ids.length kV3, .slice V4 TA1.gates.length kV4, .slice V5 TA1.views.length kV5⟩ TA1) => law_stationIs_so TA1 TA1 TA3 ⟨.slice C0 TA1.ledger.tickets.length kC0, .slice C1 TA1.ledger.taps.length kC1, .slice C2 TA1.ledger.verdicts.length kC2, .slice C3 TA1.denied.ids.length kC3, .slice C4 TA1.gates.length kC4, .slice C5 TA1.views.length kC5⟩ ⟨.slice V0 TA1.ledger.tickets.length kV0, .slice V1 TA1.ledger.taps.length kV1, .slice V2 TA1.ledger.verdicts.length kV2, .slice V3 TA1.denied.ids.length kV3, .slice V4 TA1.gates.length kV4, .slice V5 TA1.views.length kV5⟩ w' h1 h2 (isE HE2.out))
  have K3 := Lib.hid (fun (w' : World) (h1 : RdS w' ⟨.slice D0 YA1.ledger.tickets.length kD0, .slice D1 YA1.ledger.taps.length kD1, .slice D2 YA1.ledger.verdicts.length kD2, .slice D3 YA1.denied.ids.length kD3, .slice D4 YA1.gates.length kD4, .slice D5 YA1.views.length kD5⟩ YA1) (h2 : RdS w' ⟨.slice Z0 YA1.ledger.tickets.length kZ0, .slice Z1 YA1.ledger.taps.length kZ1, .slice Z2 YA1.ledger.verdicts.length kZ2, .slice Z3 YA1.denied.ids.length kZ3, .slice Z4 YA1.gates.length kZ4, .slice Z5 YA1.views.length kZ5⟩ YA1) => law_stationIs_so YA1 YA1 YA3 ⟨.slice D0 YA1.ledger.tickets.length kD0, .slice D1 YA1.ledger.taps.length kD1, .slice D2 YA1.ledger.verdicts.length kD2, .slice D3 YA1.denied.ids.length kD3, .slice D4 YA1.gates.length kD4, .slice D5 YA1.views.length kD5⟩ ⟨.slice Z0 YA1.ledger.tickets.length kZ0, .slice Z1 YA1.ledger.taps.length kZ1, .slice Z2 YA1.ledger.verdicts.length kZ2, .slice Z3 YA1.denied.ids.length kZ3, .slice Z4 YA1.gates.length kZ4, .slice Z5 YA1.views.length kZ5⟩ w' h1 h2 (isE (fun h => (HE3.out h).1)))
  have K4 := Lib.hid (fun (w' : World) (h1 : RdL 5 tpc w' (.slice D6 YA2.length kD6) YA2) (h2 : RdL 5 tpc w' (.slice Z6 YA2.length kZ6) YA2) => law_tapsAre_so YA2 YA2 YA3 _ _ w' h1 h2 (isT (fun h => (HE3.out h).2)))
  unfold sta at K1 K2 K3
  simp only at K1 K2 K3
  (apply Row.use (w := wc) (g := w.heap.size); (focus (exact rowA)); intro qc_0 fc_0 lc_0 Rc_0; (try simp only [lSet] at qc_0 Rc_0); apply Row.use (w := wc) (g := w1.heap.size); (focus (exact rowA)); intro qc_1 fc_1 lc_1 Rc_1; (try simp only [lSet] at qc_1 Rc_1); apply Row.use (w := wc) (g := w2.heap.size); (focus (exact rowA)); intro qc_2 fc_2 lc_2 Rc_2; (try simp only [lSet] at qc_2 Rc_2); apply Row.use (w := wc) (g := w3.heap.size); (focus (exact rowA)); intro qc_3 fc_3 lc_3 Rc_3; (try simp only [lSet] at qc_3 Rc_3); apply Row.use (w := wc) (g := w4.heap.size); (focus (exact rowA)); intro qc_4 fc_4 lc_4 Rc_4; (try simp only [lSet] at qc_4 Rc_4); apply Row.use (w := wc) (g := w4.heap.size + 1); (focus (exact rowA)); intro qc_5 fc_5 lc_5 Rc_5; (try simp only [lSet] at qc_5 Rc_5); apply Row.use (w := wc) (g := w4.heap.size + 1 + 1); (focus (exact rowA)); intro qc_6 fc_6 lc_6 Rc_6; (try simp only [lSet] at qc_6 Rc_6))
  clear q4_0 f4_0 l4_0 R4_0 q4_1 f4_1 l4_1 R4_1 q4_2 f4_2 l4_2 R4_2 q4_3 f4_3 l4_3 R4_3 q4_4 f4_4 l4_4 R4_4
  have hcc : (ck == ck) = true := by simp
  have htt : (TA2 == TA2) = true := by simp
  go_wp2_with fail
  (refine (law_stationBegun _).mono ?_; rintro e w8 ⟨rfl, h8⟩; have H8 := Lib.hid h8; have hz8 := h8.size; clear h8; (try simp only [World.size_alloc, size_set, World.heap_drewN, size_drew] at hz8); apply Row.use (w := w8) (g := w.heap.size); (focus (exact rowA)); intro q8_0 f8_0 l8_0 R8_0; (try simp only [lSet] at q8_0 R8_0); apply Row.use (w := w8) (g := w1.heap.size); (focus (exact rowA)); intro q8_1 f8_1 l8_1 R8_1; (try simp only [lSet] at q8_1 R8_1); apply Row.use (w := w8) (g := w2.heap.size); (focus (exact rowA)); intro q8_2 f8_2 l8_2 R8_2; (try simp only [lSet] at q8_2 R8_2); apply Row.use (w := w8) (g := w3.heap.size); (focus (exact rowA)); intro q8_3 f8_3 l8_3 R8_3; (try simp only [lSet] at q8_3 R8_3); apply Row.use (w := w8) (g := w4.heap.size); (focus (exact rowA)); intro q8_4 f8_4 l8_4 R8_4; (try simp only [lSet] at q8_4 R8_4); apply Row.use (w := w8) (g := w4.heap.size + 1); (focus (exact rowA)); intro q8_5 f8_5 l8_5 R8_5; (try simp only [lSet] at q8_5 R8_5); apply Row.use (w := w8) (g := w4.heap.size + 1 + 1); (focus (exact rowA)); intro q8_6 f8_6 l8_6 R8_6; (try simp only [lSet] at q8_6 R8_6))
  clear qc_0 fc_0 lc_0 Rc_0 qc_1 fc_1 lc_1 Rc_1 qc_2 fc_2 lc_2 Rc_2 qc_3 fc_3 lc_3 Rc_3 qc_4 fc_4 lc_4 Rc_4 qc_5 fc_5 lc_5 Rc_5 qc_6 fc_6 lc_6 Rc_6
  go_wp2_with fail
  refine (station_New_own _).mono ?_
  rintro e w9 ⟨⟨t0, t1, t2, ti, tg, tv⟩, rfl, h1, ho⟩
  have HN1 := Lib.hid ho.rd
  have H9 := Lib.hid h1
  have hz9 := h1.size
  clear h1
  obtain ⟨M0, kM0, rfl⟩ : ∃ B d, t0 = .slice B newS.ledger.tickets.length d := (by obtain ⟨A, c, h, -⟩ := ho.rd.tk.form; exact ⟨A, c, h⟩)
  obtain ⟨M1, kM1, rfl⟩ : ∃ B d, t1 = .slice B newS.ledger.taps.length d := (by obtain ⟨A, c, h, -⟩ := ho.rd.tp.form; exact ⟨A, c, h⟩)
  obtain ⟨M2, kM2, rfl⟩ : ∃ B d, t2 = .slice B newS.ledger.verdicts.length d := (by obtain ⟨A, c, h, -⟩ := ho.rd.vd.form; exact ⟨A, c, h⟩)
  obtain ⟨M3, kM3, rfl⟩ : ∃ B d, ti = .slice B newS.denied.ids.length d := (by obtain ⟨A, c, h, -⟩ := ho.rd.dn.form; exact ⟨A, c, h⟩)
  obtain ⟨M4, kM4, rfl⟩ : ∃ B d, tg = .slice B newS.gates.length d := (by obtain ⟨A, c, h, -⟩ := ho.rd.gt.form; exact ⟨A, c, h⟩)
  obtain ⟨M5, kM5, rfl⟩ : ∃ B d, tv = .slice B newS.views.length d := (by obtain ⟨A, c, h, -⟩ := ho.rd.vw.form; exact ⟨A, c, h⟩)
  clear ho
  (try simp only [World.size_alloc, size_set, World.heap_drewN, size_drew] at hz9)
  (apply Row.use (w := w9) (g := w.heap.size); (focus (exact rowA)); intro q9_0 f9_0 l9_0 R9_0; (try simp only [lSet] at q9_0 R9_0); apply Row.use (w := w9) (g := w1.heap.size); (focus (exact rowA)); intro q9_1 f9_1 l9_1 R9_1; (try simp only [lSet] at q9_1 R9_1); apply Row.use (w := w9) (g := w2.heap.size); (focus (exact rowA)); intro q9_2 f9_2 l9_2 R9_2; (try simp only [lSet] at q9_2 R9_2); apply Row.use (w := w9) (g := w3.heap.size); (focus (exact rowA)); intro q9_3 f9_3 l9_3 R9_3; (try simp only [lSet] at q9_3 R9_3); apply Row.use (w := w9) (g := w4.heap.size); (focus (exact rowA)); intro q9_4 f9_4 l9_4 R9_4; (try simp only [lSet] at q9_4 R9_4); apply Row.use (w := w9) (g := w4.heap.size + 1); (focus (exact rowA)); intro q9_5 f9_5 l9_5 R9_5; (try simp only [lSet] at q9_5 R9_5); apply Row.use (w := w9) (g := w4.heap.size + 1 + 1); (focus (exact rowA)); intro q9_6 f9_6 l9_6 R9_6; (try simp only [lSet] at q9_6 R9_6))
  clear q8_0 f8_0 l8_0 R8_0 q8_1 f8_1 l8_1 R8_1 q8_2 f8_2 l8_2 R8_2 q8_3 f8_3 l8_3 R8_3 q8_4 f8_4 l8_4 R8_4 q8_5 f8_5 l8_5 R8_5 q8_6 f8_6 l8_6 R8_6
  go_wp2_with fail
  refine (ref_NewStation _).mono ?_
  rintro e w10 ⟨⟨t0, t1, t2, ti, tg, tv⟩, rfl, h1, ho⟩
  have HN2 := Lib.hid ho.rd
  have H10 := Lib.hid h1
  have hz10 := h1.size
  clear h1
  obtain ⟨O0, kO0, rfl⟩ : ∃ B d, t0 = .slice B newS.ledger.tickets.length d := (by obtain ⟨A, c, h, -⟩ := ho.rd.tk.form; exact ⟨A, c, h⟩)
  obtain ⟨O1, kO1, rfl⟩ : ∃ B d, t1 = .slice B newS.ledger.taps.length d := (by obtain ⟨A, c, h, -⟩ := ho.rd.tp.form; exact ⟨A, c, h⟩)
  obtain ⟨O2, kO2, rfl⟩ : ∃ B d, t2 = .slice B newS.ledger.verdicts.length d := (by obtain ⟨A, c, h, -⟩ := ho.rd.vd.form; exact ⟨A, c, h⟩)
  obtain ⟨O3, kO3, rfl⟩ : ∃ B d, ti = .slice B newS.denied.ids.length d := (by obtain ⟨A, c, h, -⟩ := ho.rd.dn.form; exact ⟨A, c, h⟩)
  obtain ⟨O4, kO4, rfl⟩ : ∃ B d, tg = .slice B newS.gates.length d := (by obtain ⟨A, c, h, -⟩ := ho.rd.gt.form; exact ⟨A, c, h⟩)
  obtain ⟨O5, kO5, rfl⟩ : ∃ B d, tv = .slice B newS.views.length d := (by obtain ⟨A, c, h, -⟩ := ho.rd.vw.form; exact ⟨A, c, h⟩)
  clear ho
  (try simp only [World.size_alloc, size_set, World.heap_drewN, size_drew] at hz10)
  (apply Row.use (w := w10) (g := w.heap.size); (focus (exact rowA)); intro q10_0 f10_0 l10_0 R10_0; (try simp only [lSet] at q10_0 R10_0); apply Row.use (w := w10) (g := w1.heap.size); (focus (exact rowA)); intro q10_1 f10_1 l10_1 R10_1; (try simp only [lSet] at q10_1 R10_1); apply Row.use (w := w10) (g := w2.heap.size); (focus (exact rowA)); intro q10_2 f10_2 l10_2 R10_2; (try simp only [lSet] at q10_2 R10_2); apply Row.use (w := w10) (g := w3.heap.size); (focus (exact rowA)); intro q10_3 f10_3 l10_3 R10_3; (try simp only [lSet] at q10_3 R10_3); apply Row.use (w := w10) (g := w4.heap.size); (focus (exact rowA)); intro q10_4 f10_4 l10_4 R10_4; (try simp only [lSet] at q10_4 R10_4); apply Row.use (w := w10) (g := w4.heap.size + 1); (focus (exact rowA)); intro q10_5 f10_5 l10_5 R10_5; (try simp only [lSet] at q10_5 R10_5); apply Row.use (w := w10) (g := w4.heap.size + 1 + 1); (focus (exact rowA)); intro q10_6 f10_6 l10_6 R10_6; (try simp only [lSet] at q10_6 R10_6))
  clear q9_0 f9_0 l9_0 R9_0 q9_1 f9_1 l9_1 R9_1 q9_2 f9_2 l9_2 R9_2 q9_3 f9_3 l9_3 R9_3 q9_4 f9_4 l9_4 R9_4 q9_5 f9_5 l9_5 R9_5 q9_6 f9_6 l9_6 R9_6
  have KN := Lib.hid ((decide_eq_true (rfl : newS = newS)) ▸ ref_SameStation newS newS _ _ w10 (HN1.out.ext H10.out) HN2.out)
  unfold sta at KN
  simp only at KN
  go_wp2_with fail
  refine (KN.out).mono ?_
  (rintro e w11 ⟨rfl, h11⟩; have H11 := Lib.hid h11; have hz11 := h11.size; clear h11; (try simp only [World.size_alloc, size_set, World.heap_drewN, size_drew] at hz11); apply Row.use (w := w11) (g := w.heap.size); (focus (exact rowA)); intro q11_0 f11_0 l11_0 R11_0; (try simp only [lSet] at q11_0 R11_0); apply Row.use (w := w11) (g := w1.heap.size); (focus (exact rowA)); intro q11_1 f11_1 l11_1 R11_1; (try simp only [lSet] at q11_1 R11_1); apply Row.use (w := w11) (g := w2.heap.size); (focus (exact rowA)); intro q11_2 f11_2 l11_2 R11_2; (try simp only [lSet] at q11_2 R11_2); apply Row.use (w := w11) (g := w3.heap.size); (focus (exact rowA)); intro q11_3 f11_3 l11_3 R11_3; (try simp only [lSet] at q11_3 R11_3); apply Row.use (w := w11) (g := w4.heap.size); (focus (exact rowA)); intro q11_4 f11_4 l11_4 R11_4; (try simp only [lSet] at q11_4 R11_4); apply Row.use (w := w11) (g := w4.heap.size + 1); (focus (exact rowA)); intro q11_5 f11_5 l11_5 R11_5; (try simp only [lSet] at q11_5 R11_5); apply Row.use (w := w11) (g := w4.heap.size + 1 + 1); (focus (exact rowA)); intro q11_6 f11_6 l11_6 R11_6; (try simp only [lSet] at q11_6 R11_6))
  clear q10_0 f10_0 l10_0 R10_0 q10_1 f10_1 l10_1 R10_1 q10_2 f10_2 l10_2 R10_2 q10_3 f10_3 l10_3 R10_3 q10_4 f10_4 l10_4 R10_4 q10_5 f10_5 l10_5 R10_5 q10_6 f10_6 l10_6 R10_6
  go_wp2_with fail
  (refine (KC2.out _ (by exact HWC.out.2.trans (by exact extA))).mono ?_; rintro e w12 ⟨rfl, h12⟩; have H12 := Lib.hid h12; have hz12 := h12.size; clear h12; (try simp only [World.size_alloc, size_set, World.heap_drewN, size_drew] at hz12); apply Row.use (w := w12) (g := w1.heap.size); (focus (exact rowA)); intro q12_0 f12_0 l12_0 R12_0; (try simp only [lSet] at q12_0 R12_0); apply Row.use (w := w12) (g := w2.heap.size); (focus (exact rowA)); intro q12_1 f12_1 l12_1 R12_1; (try simp only [lSet] at q12_1 R12_1); apply Row.use (w := w12) (g := w3.heap.size); (focus (exact rowA)); intro q12_2 f12_2 l12_2 R12_2; (try simp only [lSet] at q12_2 R12_2); apply Row.use (w := w12) (g := w4.heap.size); (focus (exact rowA)); intro q12_3 f12_3 l12_3 R12_3; (try simp only [lSet] at q12_3 R12_3); apply Row.use (w := w12) (g := w4.heap.size + 1); (focus (exact rowA)); intro q12_4 f12_4 l12_4 R12_4; (try simp only [lSet] at q12_4 R12_4); apply Row.use (w := w12) (g := w4.heap.size + 1 + 1); (focus (exact rowA)); intro q12_5 f12_5 l12_5 R12_5; (try simp only [lSet] at q12_5 R12_5))
  clear q11_0 f11_0 l11_0 R11_0 q11_1 f11_1 l11_1 R11_1 q11_2 f11_2 l11_2 R11_2 q11_3 f11_3 l11_3 R11_3 q11_4 f11_4 l11_4 R11_4 q11_5 f11_5 l11_5 R11_5 q11_6 f11_6 l11_6 R11_6
  go_wp2_with fail
  (refine (K1.out _ (HO1.out.ext (by exact extA)) (HZ1.out.ext (by exact extA))).mono ?_; rintro e w13 ⟨rfl, h13⟩; have H13 := Lib.hid h13; have hz13 := h13.size; clear h13; (try simp only [World.size_alloc, size_set, World.heap_drewN, size_drew] at hz13); apply Row.use (w := w13) (g := w2.heap.size); (focus (exact rowA)); intro q13_0 f13_0 l13_0 R13_0; (try simp only [lSet] at q13_0 R13_0); apply Row.use (w := w13) (g := w3.heap.size); (focus (exact rowA)); intro q13_1 f13_1 l13_1 R13_1; (try simp only [lSet] at q13_1 R13_1); apply Row.use (w := w13) (g := w4.heap.size + 1); (focus (exact rowA)); intro q13_2 f13_2 l13_2 R13_2; (try simp only [lSet] at q13_2 R13_2); apply Row.use (w := w13) (g := w4.heap.size + 1 + 1); (focus (exact rowA)); intro q13_3 f13_3 l13_3 R13_3; (try simp only [lSet] at q13_3 R13_3))
  clear q12_0 f12_0 l12_0 R12_0 q12_1 f12_1 l12_1 R12_1 q12_2 f12_2 l12_2 R12_2 q12_3 f12_3 l12_3 R12_3 q12_4 f12_4 l12_4 R12_4 q12_5 f12_5 l12_5 R12_5
  go_wp2_with fail
  (refine (K2.out _ (HO2.out.ext (by exact extA)) (HZ2.out.ext (by exact extA))).mono ?_; rintro e w14 ⟨rfl, h14⟩; have H14 := Lib.hid h14; have hz14 := h14.size; clear h14; (try simp only [World.size_alloc, size_set, World.heap_drewN, size_drew] at hz14); apply Row.use (w := w14) (g := w3.heap.size); (focus (exact rowA)); intro q14_0 f14_0 l14_0 R14_0; (try simp only [lSet] at q14_0 R14_0); apply Row.use (w := w14) (g := w4.heap.size + 1 + 1); (focus (exact rowA)); intro q14_1 f14_1 l14_1 R14_1; (try simp only [lSet] at q14_1 R14_1))
  clear q13_0 f13_0 l13_0 R13_0 q13_1 f13_1 l13_1 R13_1 q13_2 f13_2 l13_2 R13_2 q13_3 f13_3 l13_3 R13_3
  go_wp2_with fail
  (refine (K3.out _ (HO3.out.ext (by exact extA)) (HZ3.out.ext (by exact extA))).mono ?_; rintro e w15 ⟨rfl, h15⟩; have H15 := Lib.hid h15; have hz15 := h15.size; clear h15; (try simp only [World.size_alloc, size_set, World.heap_drewN, size_drew] at hz15))
  go_wp2_with fail
  (refine (K4.out _ (HV3.out.ext (by exact extA)) (HZ4.out.ext (by exact extA))).mono ?_; rintro e w16 ⟨rfl, h16⟩; have H16 := Lib.hid h16; have hz16 := h16.size; clear h16; (try simp only [World.size_alloc, size_set, World.heap_drewN, size_drew] at hz16))
  go_wp2_with fail
  go_ret
  exact ⟨rfl, HWC.out.2.trans (show Ext wc _ by exact extA)⟩
end Go.Proofs.YteojjbhadgkfgaaGreat
