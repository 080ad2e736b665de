/- StationAlone: for every input the law returns true, and each argument reads afterwards as it read before. No condition. -/
import Derived.Test.YteojjbhadgkfgaaGreatRows
import Derived.Test.YteojjbhadgkfgaaGreatMu
import Derived.Test.YteojjbhadgkfgaaGreatMs
import Derived.Test.YteojjbhadgkfgaaGreatMw
import Derived.Test.YteojjbhadgkfgaaGreatMo
/- StationAlone: the walk. -/
namespace Go.Proofs.YteojjbhadgkfgaaGreat
set_option linter.unusedSimpArgs false
set_option linter.unusedVariables false
set_option maxRecDepth 100000
open Go Go.RowKit Lb

theorem tickets_le {s : St} (r : RightS s) : s.ledger.tickets.length ≤ 12 := by have := (right_iff.1 r.ledger).1; omega
set_option maxHeartbeats 16000000 in
theorem law_StationAlone (s : St) (x : Sv) (t : Tk) (g time : Int) (w : World) (hr : RdS w x s) :
    Calls Tryz.prog 6 #[.agg (sta s x), .agg (tkc t), .int .i64 g, .int .i64 time] w fun e w' => e = .returned (.bool true) ∧ Ext w w' := by
  have KC := Lib.hid (fun (w' : World) (h : Ext w w') => station_Check s x w' (hr.ext h))
  have KN := Lib.hid (fun (w' : World) (h : Ext w w') => lead_Now s.views x.sv w' (hr.vw.ext h))
  have KS := Lib.hid (fun (w' : World) (h : Ext w w') => station_Sell s x t w' (hr.ext h))
  have KY := Lib.hid (fun (w' : World) (h : Ext w w') => station_Sync s x g time w' (hr.ext h))
  have KT := Lib.hid (fun (w' : World) (h : Ext w w') => station_Tap s x t.id g time w' (hr.ext h))
  by_cases h0 : ckSt s = 0
  case neg =>
    generalize ckSt s = ck at *
    have h0b : (ck != 0) = true := by simpa using h0
    obtain ⟨A0, c0, e0, -, -⟩ := hr.tk.form
    obtain ⟨A1, c1, e1, -, -⟩ := hr.tp.form
    obtain ⟨A2, c2, e2, -, -⟩ := hr.vd.form
    obtain ⟨A3, c3, e3, -, -⟩ := hr.dn.form
    obtain ⟨A4, c4, e4, -, -⟩ := hr.gt.form
    obtain ⟨A5, c5, e5, -, -⟩ := hr.vw.form
    obtain ⟨s0, s1, s2, si, sg, sv⟩ := x
    simp only at e0 e1 e2 e3 e4 e5
    subst e0 e1 e2 e3 e4 e5
    clear hr KN KS KY KT h0
    unfold sta at KC ⊢
    simp only at KC ⊢
    rw [show tkc t = #[.int .i64 t.id, .int .i64 t.kind, .int .i64 t.frm, .int .i64 t.til, .int .i64 t.zones, .int .i64 t.rides] from rfl]
    go_enter Tryz.func6, Tryz.ntmps6
    go_wp2_with fail
    (refine (law_stationBegun _).mono ?_; rintro e w1 ⟨rfl, h1⟩; have H1 := Lib.hid h1; have hz1 := h1.size; clear h1; (try simp only [World.size_alloc, size_set, World.heap_drewN, size_drew] at hz1); apply Row.use (w := w1) (g := w.heap.size); (focus (exact rowA)); intro q1_0 f1_0 l1_0 R1_0; (try simp only [List.setIfInBounds_toArray, List.set_cons_zero, List.set_cons_succ] at q1_0 R1_0); apply Row.use (w := w1) (g := w.heap.size + 1); (focus (exact rowA)); intro q1_1 f1_1 l1_1 R1_1; (try simp only [List.setIfInBounds_toArray, List.set_cons_zero, List.set_cons_succ] at q1_1 R1_1))
    go_wp2_with fail
    (refine (law_leadBegun _).mono ?_; rintro e w2 ⟨rfl, h2⟩; have H2 := Lib.hid h2; have hz2 := h2.size; clear h2; (try simp only [World.size_alloc, size_set, World.heap_drewN, size_drew] at hz2); apply Row.use (w := w2) (g := w.heap.size); (focus (exact rowA)); intro q2_0 f2_0 l2_0 R2_0; (try simp only [List.setIfInBounds_toArray, List.set_cons_zero, List.set_cons_succ] at q2_0 R2_0); apply Row.use (w := w2) (g := w.heap.size + 1); (focus (exact rowA)); intro q2_1 f2_1 l2_1 R2_1; (try simp only [List.setIfInBounds_toArray, List.set_cons_zero, List.set_cons_succ] at q2_1 R2_1))
    go_wp2_with fail
    (refine (KC.out _ (by exact extA)).mono ?_; rintro e w3 ⟨rfl, h3⟩; have H3 := Lib.hid h3; have hz3 := h3.size; clear h3; (try simp only [World.size_alloc, size_set, World.heap_drewN, size_drew] at hz3); apply Row.use (w := w3) (g := w.heap.size); (focus (exact rowA)); intro q3_0 f3_0 l3_0 R3_0; (try simp only [List.setIfInBounds_toArray, List.set_cons_zero, List.set_cons_succ] at q3_0 R3_0); apply Row.use (w := w3) (g := w.heap.size + 1); (focus (exact rowA)); intro q3_1 f3_1 l3_1 R3_1; (try simp only [List.setIfInBounds_toArray, List.set_cons_zero, List.set_cons_succ] at q3_1 R3_1))
    go_wp2_with fail
    go_ret
    exact ⟨rfl, (show Ext w _ by exact extA)⟩
  have r := rightS_iff.1 h0
  have hck := h0
  rw [hck] at KC
  clear hck
  by_cases hg : within g 0 2 = true
  case neg =>
    have hgb : g < 0 ∨ 3 ≤ g := by
      by_cases h : g < 0
      · exact .inl h
      · right
        apply Decidable.byContradiction
        intro h2
        exact hg (by simp [within]; omega)
    obtain ⟨A0, c0, e0, -, -⟩ := hr.tk.form
    obtain ⟨A1, c1, e1, -, -⟩ := hr.tp.form
    obtain ⟨A2, c2, e2, -, -⟩ := hr.vd.form
    obtain ⟨A3, c3, e3, -, -⟩ := hr.dn.form
    obtain ⟨A4, c4, e4, -, -⟩ := hr.gt.form
    obtain ⟨A5, c5, e5, -, -⟩ := hr.vw.form
    obtain ⟨s0, s1, s2, si, sg, sv⟩ := x
    simp only at e0 e1 e2 e3 e4 e5
    subst e0 e1 e2 e3 e4 e5
    clear hr KN KS KY KT h0 hg r
    unfold sta at KC ⊢
    simp only at KC ⊢
    rw [show tkc t = #[.int .i64 t.id, .int .i64 t.kind, .int .i64 t.frm, .int .i64 t.til, .int .i64 t.zones, .int .i64 t.rides] from rfl]
    go_enter Tryz.func6, Tryz.ntmps6
    go_wp2_with fail
    (refine (law_stationBegun _).mono ?_; rintro e w1 ⟨rfl, h1⟩; have H1 := Lib.hid h1; have hz1 := h1.size; clear h1; (try simp only [World.size_alloc, size_set, World.heap_drewN, size_drew] at hz1); apply Row.use (w := w1) (g := w.heap.size); (focus (exact rowA)); intro q1_0 f1_0 l1_0 R1_0; (try simp only [List.setIfInBounds_toArray, List.set_cons_zero, List.set_cons_succ] at q1_0 R1_0); apply Row.use (w := w1) (g := w.heap.size + 1); (focus (exact rowA)); intro q1_1 f1_1 l1_1 R1_1; (try simp only [List.setIfInBounds_toArray, List.set_cons_zero, List.set_cons_succ] at q1_1 R1_1))
    go_wp2_with fail
    (refine (law_leadBegun _).mono ?_; rintro e w2 ⟨rfl, h2⟩; have H2 := Lib.hid h2; have hz2 := h2.size; clear h2; (try simp only [World.size_alloc, size_set, World.heap_drewN, size_drew] at hz2); apply Row.use (w := w2) (g := w.heap.size); (focus (exact rowA)); intro q2_0 f2_0 l2_0 R2_0; (try simp only [List.setIfInBounds_toArray, List.set_cons_zero, List.set_cons_succ] at q2_0 R2_0); apply Row.use (w := w2) (g := w.heap.size + 1); (focus (exact rowA)); intro q2_1 f2_1 l2_1 R2_1; (try simp only [List.setIfInBounds_toArray, List.set_cons_zero, List.set_cons_succ] at q2_1 R2_1))
    go_wp2_with fail
    (refine (KC.out _ (by exact extA)).mono ?_; rintro e w3 ⟨rfl, h3⟩; have H3 := Lib.hid h3; have hz3 := h3.size; clear h3; (try simp only [World.size_alloc, size_set, World.heap_drewN, size_drew] at hz3); apply Row.use (w := w3) (g := w.heap.size); (focus (exact rowA)); intro q3_0 f3_0 l3_0 R3_0; (try simp only [List.setIfInBounds_toArray, List.set_cons_zero, List.set_cons_succ] at q3_0 R3_0); apply Row.use (w := w3) (g := w.heap.size + 1); (focus (exact rowA)); intro q3_1 f3_1 l3_1 R3_1; (try simp only [List.setIfInBounds_toArray, List.set_cons_zero, List.set_cons_succ] at q3_1 R3_1))
    rcases hgb with hgb | hgb
    · go_wp2_with fail
      go_ret
      exact ⟨rfl, (show Ext w _ by exact extA)⟩
    · have hgc : ¬ g < 0 := by omega
      have hgd : g ≥ 3 := hgb
      go_wp2_with fail
      go_ret
      exact ⟨rfl, (show Ext w _ by exact extA)⟩
  have HNO := Lib.hid (fun (hl : led s = false) => alone_no (t := t) (time := time) r hg hl)
  have HYES := Lib.hid (fun (hl : led s = true) => alone_yes (t := t) (g := g) (time := time) r hl)
  have hN : nowAll s.views = ((whoV s.views).1, led s, 0) := by unfold nowAll led; rw [if_neg (by simpa using r.views)]
  rw [hN] at KN
  obtain ⟨hg0, hg2, hgm⟩ := within_nat (a := 0) hg
  have hlt : g.toNat < s.gates.length := by rw [r.len]; omega
  obtain ⟨A4, c4, e4, hc4, -⟩ := hr.gt.form
  have hat := hr.gt.at_ e4 hlt
  rw [bang_get hlt] at HYES
  generalize s.gates[g.toNat] = G at *
  obtain ⟨gb, go, sa, sj, hA4, hgb, hra, -, -, -, -, hc3, -⟩ := hat
  obtain ⟨AA, cA, rfl, -, -⟩ := hra.form
  subst hA4
  rw [r.len] at e4 hc4
  have hlen := r.len
  have hwr : IntKind.i64.wrap ((s.ledger.tickets.length : Int) + 1) = (s.ledger.tickets.length : Int) + 1 := IntWalk.i64_in _ (by have := tickets_le r; omega)
  have hg3 : g < (3 : Int) := by omega
  obtain ⟨m, rfl⟩ : ∃ m : Nat, g = m := ⟨g.toNat, hgm.symm⟩
  simp only [Int.toNat_natCast] at hc3 hlt
  have hm0 : ¬ (m : Int) < 0 := by omega
  have hm3 : ¬ (m : Int) ≥ 3 := by omega
  have hcap : (3 : Int) ≤ (c4 : Int) := by omega
  generalize sellSt s t = SA at *
  generalize syncSt s (m : Int) time = SY at *
  generalize tapSt s t.id (m : Int) time = TA at *
  generalize (whoV s.views).1 = wz at *
  generalize led s = z at *
  obtain ⟨SA1, SA2⟩ := SA
  obtain ⟨SY1, SY2, SY3⟩ := SY
  obtain ⟨TA1, TA2, TA3⟩ := TA
  simp only at KS KY KT KN HNO HYES
  obtain ⟨A0, c0, e0, -, -⟩ := hr.tk.form
  obtain ⟨A1, c1, e1, -, -⟩ := hr.tp.form
  obtain ⟨A2, c2, e2, -, -⟩ := hr.vd.form
  obtain ⟨A3, c3, e3, -, -⟩ := hr.dn.form
  obtain ⟨A5, c5, e5, -, -⟩ := hr.vw.form
  obtain ⟨s0, s1, s2, si, sg, sv⟩ := x
  simp only at e0 e1 e2 e3 e4 e5
  subst e0 e1 e2 e3 e4 e5
  clear hr hlen h0 r hg hlt hra hN hgm hc4 hg0 hg2
  unfold sta at KC KS KY KT ⊢
  simp only at KC KN KS KY KT ⊢
  rw [show tkc t = #[.int .i64 t.id, .int .i64 t.kind, .int .i64 t.frm, .int .i64 t.til, .int .i64 t.zones, .int .i64 t.rides] from rfl] at KS ⊢
  go_enter Tryz.func6, Tryz.ntmps6
  go_wp2_with fail
  (refine (law_stationBegun _).mono ?_; rintro e w1 ⟨rfl, h1⟩; have H1 := Lib.hid h1; have hz1 := h1.size; clear h1; (try simp only [World.size_alloc, size_set, World.heap_drewN, size_drew] at hz1); apply Row.use (w := w1) (g := w.heap.size); (focus (exact rowA)); intro q1_0 f1_0 l1_0 R1_0; (try simp only [List.setIfInBounds_toArray, List.set_cons_zero, List.set_cons_succ] at q1_0 R1_0); apply Row.use (w := w1) (g := w.heap.size + 1); (focus (exact rowA)); intro q1_1 f1_1 l1_1 R1_1; (try simp only [List.setIfInBounds_toArray, List.set_cons_zero, List.set_cons_succ] at q1_1 R1_1))
  go_wp2_with fail
  (refine (law_leadBegun _).mono ?_; rintro e w2 ⟨rfl, h2⟩; have H2 := Lib.hid h2; have hz2 := h2.size; clear h2; (try simp only [World.size_alloc, size_set, World.heap_drewN, size_drew] at hz2); apply Row.use (w := w2) (g := w.heap.size); (focus (exact rowA)); intro q2_0 f2_0 l2_0 R2_0; (try simp only [List.setIfInBounds_toArray, List.set_cons_zero, List.set_cons_succ] at q2_0 R2_0); apply Row.use (w := w2) (g := w.heap.size + 1); (focus (exact rowA)); intro q2_1 f2_1 l2_1 R2_1; (try simp only [List.setIfInBounds_toArray, List.set_cons_zero, List.set_cons_succ] at q2_1 R2_1))
  go_wp2_with fail
  (refine (KC.out _ (by exact extA)).mono ?_; rintro e w3 ⟨rfl, h3⟩; have H3 := Lib.hid h3; have hz3 := h3.size; clear h3; (try simp only [World.size_alloc, size_set, World.heap_drewN, size_drew] at hz3); apply Row.use (w := w3) (g := w.heap.size); (focus (exact rowA)); intro q3_0 f3_0 l3_0 R3_0; (try simp only [List.setIfInBounds_toArray, List.set_cons_zero, List.set_cons_succ] at q3_0 R3_0); apply Row.use (w := w3) (g := w.heap.size + 1); (focus (exact rowA)); intro q3_1 f3_1 l3_1 R3_1; (try simp only [List.setIfInBounds_toArray, List.set_cons_zero, List.set_cons_succ] at q3_1 R3_1))
  go_wp2_with fail
  (refine (KN.out _ (by exact extA)).mono ?_; rintro e w4 ⟨rfl, h4⟩; have H4 := Lib.hid h4; have hz4 := h4.size; clear h4; (try simp only [World.size_alloc, size_set, World.heap_drewN, size_drew] at hz4); apply Row.use (w := w4) (g := w.heap.size); (focus (exact rowA)); intro q4_0 f4_0 l4_0 R4_0; (try simp only [List.setIfInBounds_toArray, List.set_cons_zero, List.set_cons_succ] at q4_0 R4_0); apply Row.use (w := w4) (g := w.heap.size + 1); (focus (exact rowA)); intro q4_1 f4_1 l4_1 R4_1; (try simp only [List.setIfInBounds_toArray, List.set_cons_zero, List.set_cons_succ] at q4_1 R4_1))
  clear KC KN q1_0 f1_0 l1_0 R1_0 q1_1 f1_1 l1_1 R1_1 q2_0 f2_0 l2_0 R2_0 q2_1 f2_1 l2_1 R2_1 q3_0 f3_0 l3_0 R3_0 q3_1 f3_1 l3_1 R3_1
  go_wp2_with fail
  refine (KS.out _ (by exact extA)).mono ?_
  rintro e w5 ⟨⟨t0, t1, t2, ti, tg, tv⟩, rfl, h1, ho⟩
  obtain ⟨B0, d0, rfl⟩ : ∃ B d, t0 = .slice B SA1.ledger.tickets.length d := ho.tk.form
  obtain ⟨B1, d1, rfl⟩ : ∃ B d, t1 = .slice B SA1.ledger.taps.length d := ho.tp.form
  obtain ⟨B2, d2, rfl⟩ : ∃ B d, t2 = .slice B SA1.ledger.verdicts.length d := ho.vd.form
  obtain ⟨B3, d3, rfl⟩ : ∃ B d, ti = .slice B SA1.denied.ids.length d := ho.dn.form
  obtain ⟨B4, d4, rfl⟩ : ∃ B d, tg = .slice B SA1.gates.length d := ho.gt.form
  obtain ⟨B5, d5, rfl⟩ : ∃ B d, tv = .slice B SA1.views.length d := ho.vw.form
  have H5 := Lib.hid h1
  have hz5 := h1.size
  clear h1 ho KS
  (apply Row.use (w := w5) (g := w.heap.size); (focus (exact rowA)); intro q5_0 f5_0 l5_0 R5_0; (try simp only [List.setIfInBounds_toArray, List.set_cons_zero, List.set_cons_succ] at q5_0 R5_0); apply Row.use (w := w5) (g := w.heap.size + 1); (focus (exact rowA)); intro q5_1 f5_1 l5_1 R5_1; (try simp only [List.setIfInBounds_toArray, List.set_cons_zero, List.set_cons_succ] at q5_1 R5_1))
  go_wp2_with fail
  refine (KY.out _ (by exact extA)).mono ?_
  rintro e w6 ⟨⟨t0, t1, t2, ti, tg, tv⟩, vt, rfl, h1, ho, hto⟩
  obtain ⟨D0, f0, rfl⟩ : ∃ B d, t0 = .slice B SY1.ledger.tickets.length d := ho.tk.form
  obtain ⟨D1, f1, rfl⟩ : ∃ B d, t1 = .slice B SY1.ledger.taps.length d := ho.tp.form
  obtain ⟨D2, f2, rfl⟩ : ∃ B d, t2 = .slice B SY1.ledger.verdicts.length d := ho.vd.form
  obtain ⟨D3, f3, rfl⟩ : ∃ B d, ti = .slice B SY1.denied.ids.length d := ho.dn.form
  obtain ⟨D4, f4, rfl⟩ : ∃ B d, tg = .slice B SY1.gates.length d := ho.gt.form
  obtain ⟨D5, f5, rfl⟩ : ∃ B d, tv = .slice B SY1.views.length d := ho.vw.form
  obtain ⟨D6, f6, rfl⟩ := hto.form
  have H6 := Lib.hid h1
  have hz6 := h1.size
  clear h1 ho hto KY
  (apply Row.use (w := w6) (g := w.heap.size); (focus (exact rowA)); intro q6_0 f6_0 l6_0 R6_0; (try simp only [List.setIfInBounds_toArray, List.set_cons_zero, List.set_cons_succ] at q6_0 R6_0); apply Row.use (w := w6) (g := w.heap.size + 1); (focus (exact rowA)); intro q6_1 f6_1 l6_1 R6_1; (try simp only [List.setIfInBounds_toArray, List.set_cons_zero, List.set_cons_succ] at q6_1 R6_1); apply Row.use (w := w6) (g := w5.heap.size); (focus (exact rowA)); intro q6_2 f6_2 l6_2 R6_2; (try simp only [List.setIfInBounds_toArray, List.set_cons_zero, List.set_cons_succ] at q6_2 R6_2))
  go_wp2_with fail
  refine (KT.out _ (by exact extA)).mono ?_
  rintro e w7 ⟨⟨t0, t1, t2, ti, tg, tv⟩, rfl, h1, ho⟩
  obtain ⟨E0, j0, rfl⟩ : ∃ B d, t0 = .slice B TA1.ledger.tickets.length d := ho.tk.form
  obtain ⟨E1, j1, rfl⟩ : ∃ B d, t1 = .slice B TA1.ledger.taps.length d := ho.tp.form
  obtain ⟨E2, j2, rfl⟩ : ∃ B d, t2 = .slice B TA1.ledger.verdicts.length d := ho.vd.form
  obtain ⟨E3, j3, rfl⟩ : ∃ B d, ti = .slice B TA1.denied.ids.length d := ho.dn.form
  obtain ⟨E4, j4, rfl⟩ : ∃ B d, tg = .slice B TA1.gates.length d := ho.gt.form
  obtain ⟨E5, j5, rfl⟩ : ∃ B d, tv = .slice B TA1.views.length d := ho.vw.form
  have H7 := Lib.hid h1
  have hz7 := h1.size
  clear h1 ho KT
  (apply Row.use (w := w7) (g := w.heap.size); (focus (exact rowA)); intro q7_0 f7_0 l7_0 R7_0; (try simp only [List.setIfInBounds_toArray, List.set_cons_zero, List.set_cons_succ] at q7_0 R7_0); apply Row.use (w := w7) (g := w.heap.size + 1); (focus (exact rowA)); intro q7_1 f7_1 l7_1 R7_1; (try simp only [List.setIfInBounds_toArray, List.set_cons_zero, List.set_cons_succ] at q7_1 R7_1); apply Row.use (w := w7) (g := w5.heap.size); (focus (exact rowA)); intro q7_2 f7_2 l7_2 R7_2; (try simp only [List.setIfInBounds_toArray, List.set_cons_zero, List.set_cons_succ] at q7_2 R7_2))
  have HW7 := Lib.hid (And.intro trivial (show Ext w w7 by exact extA))
  have k3 := (HW7.out.2.cells gb _ hgb).trans hc3
  have hgw : gb < w7.heap.size := by have := HW7.out.2.size; omega
  clear H1 H2 H3 H4 H5 H6 hc3
  cases z
  · obtain ⟨n1, n2, n3⟩ := HNO.out rfl
    subst n1 n2 n3
    go_wp2_with fail
    go_ret
    exact ⟨rfl, HW7.out.2.trans (show Ext w7 _ by exact extA)⟩
  · obtain ⟨n1, n2, n3⟩ := HYES.out rfl
    have n1b : (SY3 != 4) = true := by simpa using n1
    by_cases hs : SA2 = 0
    · subst hs
      have hlb : ((SA1.ledger.tickets.length : Int) == (s.ledger.tickets.length : Int) + 1) = true := by have := n2 rfl; simp only [beq_iff_eq]; omega
      clear n1 n2
      by_cases ht : TA3 = 0
      · subst ht
        have n3' := n3 rfl
        clear n3
        by_cases hv : TA2 = 0
        · have hvb : (TA2 == 0) = true := by simpa using hv
          have hal : (0 : Int) < (G.alone.length : Int) := by have := n3'.1 hv; omega
          clear n3' hv
          go_wp2_with fail
          go_ret
          exact ⟨ret_bool (by simp; omega), HW7.out.2.trans (show Ext w7 _ by exact extA)⟩
        · have hvb : (TA2 == 0) = false := by simpa using hv
          have hal : ¬ (0 : Int) < (G.alone.length : Int) := fun h => hv (n3'.2 (by omega))
          have hln : G.alone.length = 0 := by omega
          clear n3' hv
          go_wp2_with fail
          go_ret
          exact ⟨ret_bool (by first | rfl | (rw [hln]; decide)), HW7.out.2.trans (show Ext w7 _ by exact extA)⟩
      · have htb : (TA3 != 0) = true := by simpa using ht
        clear n3 ht
        go_wp2_with fail
        go_ret
        exact ⟨rfl, HW7.out.2.trans (show Ext w7 _ by exact extA)⟩
    · have hsb : (SA2 != 0) = true := by simpa using hs
      clear n1 n2 hs
      by_cases ht : TA3 = 0
      · subst ht
        have n3' := n3 rfl
        clear n3
        by_cases hv : TA2 = 0
        · have hvb : (TA2 == 0) = true := by simpa using hv
          have hal : (0 : Int) < (G.alone.length : Int) := by have := n3'.1 hv; omega
          clear n3' hv
          go_wp2_with fail
          go_ret
          exact ⟨ret_bool (by simp; omega), HW7.out.2.trans (show Ext w7 _ by exact extA)⟩
        · have hvb : (TA2 == 0) = false := by simpa using hv
          have hal : ¬ (0 : Int) < (G.alone.length : Int) := fun h => hv (n3'.2 (by omega))
          have hln : G.alone.length = 0 := by omega
          clear n3' hv
          go_wp2_with fail
          go_ret
          exact ⟨ret_bool (by first | rfl | (rw [hln]; decide)), HW7.out.2.trans (show Ext w7 _ by exact extA)⟩
      · have htb : (TA3 != 0) = true := by simpa using ht
        clear n3 ht
        go_wp2_with fail
        go_ret
        exact ⟨rfl, HW7.out.2.trans (show Ext w7 _ by exact extA)⟩
end Go.Proofs.YteojjbhadgkfgaaGreat

namespace Go.Proofs.YteojjbhadgkfgaaGreat
set_option linter.unusedSimpArgs false
set_option linter.unusedVariables false
open Go.ChangeShapes Go.WideShapes Go.ChangeAt Go.RowKit
open Go.ChangeMaps (open_string shut_string)

set_option maxRecDepth 100000 in
theorem stationAlone_lifted (os : Os) (started : os.Started) (H : Type) (enc : TypeId × Value → H) :
    ReturnsInHanded {} Tryz.checked os 6 .any (Rows.stationAloneSpec.pre6 enc Tryz.prog Tryz.f6 Rows.stationAloneRow.domain false) (Rows.stationAloneSpec.post enc Tryz.prog Tryz.f6 false true false false) := by
  refine returnsInHanded_of_change (C := Tryz.checked) own started (by kernel_rfl) Tryz.func6
    (ChangeSpec.witness6 (enc := enc) (C := Tryz.checked) false ⟨#[], #[.agg #[.slice none 0 0, .slice none 0 0, .slice none 0 0, .int .i64 0, .slice none 0 0, .slice none 0 0, .slice none 0 0], .agg #[.int .i64 0, .int .i64 0, .int .i64 0, .int .i64 0, .int .i64 0, .int .i64 0], .int .i64 0, .int .i64 0], []⟩ 8 (by kernel_rfl) (by kernel_rfl) (by kernel_rfl) (by kernel_rfl)) ?_
  intro W base args ds gs before hval0 hW hcnd _
  have hval : ∀ (j : Nat) t v, Tryz.f6.params[j]? = some t → args[j]? = some v → Value.okWide Tryz.prog W .any base t v := hval0
  have hW' := hW
  obtain ⟨p, q, hA0, hV, rfl, hfz, hnd⟩ := hW
  have hA : DataW.TrodAll enc Tryz.prog W 0 (fun _ => true) true Tryz.f6.params.toList args.toList ds p := hA0
  rw [Tryz.params6] at hA hval
  obtain ⟨v0, vs0, d0, ds0, p0, q0, hargs, rfl, rfl, h0, r0⟩ := trodAll_cons hA
  obtain ⟨v1, vs1, d1, ds1, p1, q1, rfl, rfl, rfl, h1, r1⟩ := trodAll_cons r0
  obtain ⟨v2, vs2, d2, ds2, p2, q2, rfl, rfl, rfl, h2, r2⟩ := trodAll_cons r1
  obtain ⟨v3, vs3, d3, ds3, p3, q3, rfl, rfl, rfl, h3, r3⟩ := trodAll_cons r2
  obtain ⟨rfl, rfl, rfl⟩ := trodAll_nil r3
  obtain rfl : args = #[v0, v1, v2, v3] := by cases args; simp_all
  obtain ⟨rfl, rfl⟩ := trodVars_none hV
  have k0 := h0
  have lt0 : ∀ x ∈ p0, x.block < W.heap.size := by obtain ⟨m, hm⟩ := k0; exact DataW.trod_lt m _ _ _ hm
  have k1 := h1
  have lt1 : ∀ x ∈ p1, x.block < W.heap.size := by obtain ⟨m, hm⟩ := k1; exact DataW.trod_lt m _ _ _ hm
  have k2 := h2
  have lt2 : ∀ x ∈ p2, x.block < W.heap.size := by obtain ⟨m, hm⟩ := k2; exact DataW.trod_lt m _ _ _ hm
  have k3 := h3
  have lt3 : ∀ x ∈ p3, x.block < W.heap.size := by obtain ⟨m, hm⟩ := k3; exact DataW.trod_lt m _ _ _ hm
  obtain ⟨t0, x0, rfl, e0⟩ := open_st (hval 0 32 v0 rfl rfl) h0
  obtain ⟨t1, rfl⟩ := open_tk (hval 1 34 v1 rfl rfl) h1
  obtain ⟨a2, rfl, b2⟩ := open_i64 (hval 2 3 v2 rfl rfl) h2
  obtain ⟨a3, rfl, b3⟩ := open_i64 (hval 3 3 v3 rfl rfl) h3
  clear hA0 hval0
  refine (law_StationAlone t0 x0 t1 a2 a3 W e0).mono fun e W' ⟨he, bel⟩ => ?_
  subst he
  exact ⟨_, rfl, _, _, _, [], _, [], hW', trodAll_mk1 (shut_bool Tryz.underlying4 _), (trodAll_cons_mk (Below.trod laidOut (by kernel_rfl) (of_decide_eq_true (by kernel_rfl)) k0 bel lt0) (trodAll_cons_mk (Below.trod laidOut (by kernel_rfl) (of_decide_eq_true (by kernel_rfl)) k1 bel lt1) (trodAll_cons_mk (Below.trod laidOut (by kernel_rfl) (of_decide_eq_true (by kernel_rfl)) k2 bel lt2) (trodAll_cons_mk (Below.trod laidOut (by kernel_rfl) (of_decide_eq_true (by kernel_rfl)) k3 bel lt3) trodAll_mk0)))), rfl, bel.frame _, fun h => by cases h⟩

theorem stationAlone_holds : Rows.StationAloneSaid :=
  OpenClaim.holds_of_wide 6 Tryz.f6 rfl rfl rfl rfl rfl rfl rfl ⟨rfl, rfl, rfl, rfl, rfl⟩ rfl rfl rfl rfl rfl (by kernel_rfl) Tryz.func6 (by kernel_rfl)
    (of_decide_eq_true (by kernel_rfl)) (by unfold Func.isWrapper; first | (rw [if_pos (by decide +kernel)]; kernel_rfl) | (rw [if_neg (by decide +kernel)]; exact ⟨rfl, rfl⟩))
    (fun os started H enc _ => stationAlone_lifted os started H enc)

end Go.Proofs.YteojjbhadgkfgaaGreat
