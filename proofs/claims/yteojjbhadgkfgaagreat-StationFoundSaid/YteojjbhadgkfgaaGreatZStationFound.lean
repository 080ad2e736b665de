/- StationFound: for every input the law returns true, and each argument reads afterwards as it read before. No condition. -/
import Derived.Test.YteojjbhadgkfgaaGreatRows
import Derived.Test.YteojjbhadgkfgaaGreatMs
import Derived.Test.YteojjbhadgkfgaaGreatMa
import Derived.Test.YteojjbhadgkfgaaGreatMe
import Derived.Test.YteojjbhadgkfgaaGreatMl
import Derived.Test.YteojjbhadgkfgaaGreatMw
import Derived.Test.YteojjbhadgkfgaaGreatMu
import Derived.Test.YteojjbhadgkfgaaGreatMh
import Derived.Test.YteojjbhadgkfgaaGreatMk
import Derived.Test.YteojjbhadgkfgaaGreatMr
import Derived.Test.YteojjbhadgkfgaaGreatMo
/- The reference's SameStation. -/
namespace Go.Proofs.YteojjbhadgkfgaaGreat
set_option linter.unusedSimpArgs false
set_option linter.unusedVariables false
set_option maxRecDepth 100000
open Go Go.RowKit Lb

theorem drop_same {α : Type} [DecidableEq α] {l m : List α} {k : Nat} (h1 : k < l.length) (h2 : k < m.length) : decide (l.drop k = m.drop k) = (decide (l[k] = m[k]) && decide (l.drop (k + 1) = m.drop (k + 1))) := by
  have e1 := List.drop_eq_getElem_cons h1
  have e2 := List.drop_eq_getElem_cons h2
  rw [Bool.eq_iff_iff, decide_eq_true_eq, Bool.and_eq_true, decide_eq_true_eq, decide_eq_true_eq, e1, e2, List.cons.injEq]

set_option maxHeartbeats 16000000 in
theorem ref_SameStation (a b : St) (x y : Sv) (w : World) (ha : RdS w x a) (hb : RdS w y b) :
    Calls Tryz.prog 19 #[.agg (sta a x), .agg (sta b y)] w fun e w' => e = .returned (.bool (decide (a = b))) ∧ Ext w w' := by
  have K1 := Lib.hid (fun (w' : World) (h : Ext w w') => ref_SameLedger a.ledger b.ledger x.s0 x.s1 x.s2 y.s0 y.s1 y.s2 w' (ha.tk.ext h) (ha.tp.ext h) (ha.vd.ext h) (hb.tk.ext h) (hb.tp.ext h) (hb.vd.ext h))
  have K2 := Lib.hid (fun (w' : World) (h : Ext w w') => ref_SameDenied a.denied b.denied x.si y.si w' (ha.dn.ext h) (hb.dn.ext h))
  have K3 := Lib.hid (fun (w' : World) (h : Ext w w') => ref_SameViews a.views b.views x.sv y.sv w' (ha.vw.ext h) (hb.vw.ext h))
  have GA := Lib.hid ha.gt
  have GB := Lib.hid hb.gt
  have hres : decide (a = b) = (decide (a.ledger = b.ledger) && (sameDn a.denied b.denied && ((a.views == b.views) && (decide (a.gates.length = b.gates.length) && decide (a.gates.drop 0 = b.gates.drop 0))))) := by
    obtain ⟨a1, a2, a3, a4⟩ := a
    obtain ⟨b1, b2, b3, b4⟩ := b
    have h2 := @sameDn_iff a2 b2
    rw [Bool.eq_iff_iff]
    simp only [St.mk.injEq, decide_eq_true_eq, Bool.and_eq_true, h2, beq_iff_eq, List.drop_zero]
    constructor
    · rintro ⟨h1, h2, h3, h4⟩; exact ⟨h1, h2, h4, by rw [h3], h3⟩
    · rintro ⟨h1, h2, h4, -, h3⟩; exact ⟨h1, h2, h3, h4⟩
  generalize decide (a = b) = r at *
  generalize decide (a.ledger = b.ledger) = z1 at *
  generalize sameDn a.denied b.denied = z2 at *
  generalize (a.views == b.views) = z3 at *
  have HRES := Lib.hid hres
  clear hres
  obtain ⟨A0, c0, e0, -, -⟩ := ha.tk.form
  obtain ⟨A1, c1, e1, -, -⟩ := ha.tp.form
  obtain ⟨A2, c2, e2, -, -⟩ := ha.vd.form
  obtain ⟨A3, c3, e3, -, -⟩ := ha.dn.form
  obtain ⟨A4, c4, e4, hc4, -⟩ := ha.gt.form
  obtain ⟨A5, c5, e5, -, -⟩ := ha.vw.form
  obtain ⟨B0, d0, f0, -, -⟩ := hb.tk.form
  obtain ⟨B1, d1, f1, -, -⟩ := hb.tp.form
  obtain ⟨B2, d2, f2, -, -⟩ := hb.vd.form
  obtain ⟨B3, d3, f3, -, -⟩ := hb.dn.form
  obtain ⟨B4, d4, f4, hd4, hm4⟩ := hb.gt.form
  obtain ⟨B5, d5, f5, -, -⟩ := hb.vw.form
  obtain ⟨s0, s1, s2, si, sg, sv⟩ := x
  obtain ⟨t0, t1, t2, ti, tg, tv⟩ := y
  simp only at e0 e1 e2 e3 e4 e5 f0 f1 f2 f3 f4 f5
  obtain ⟨m, hm⟩ : ∃ m, m = b.gates.length := ⟨_, rfl⟩
  rw [← hm] at f4 hd4
  have HM := Lib.hid hm
  clear hm
  subst e0 e1 e2 e3 e4 e5 f0 f1 f2 f3 f4 f5
  have HC := Lib.hid (And.intro hc4 (And.intro hd4 hm4))
  clear ha hb hc4 hd4 hm4
  unfold sta
  simp only at K1 K2 K3 GA GB ⊢
  go_enter Tryz.func19, Tryz.ntmps19
  go_wp2_with fail
  (refine (K1.out _ (by exact extA)).mono ?_; rintro e w1 ⟨rfl, h1⟩; have H1 := Lib.hid h1; have hz1 := h1.size; clear h1; (try simp only [World.size_alloc, size_set, World.heap_drewN, size_drew] at hz1); apply Row.use (w := w1) (g := w.heap.size); (focus (exact rowA)); intro q1_0 f1_0 l1_0 R1_0; (try simp only [List.setIfInBounds_toArray, List.set_cons_zero, List.set_cons_succ] at q1_0 R1_0); apply Row.use (w := w1) (g := w.heap.size + 1); (focus (exact rowA)); intro q1_1 f1_1 l1_1 R1_1; (try simp only [List.setIfInBounds_toArray, List.set_cons_zero, List.set_cons_succ] at q1_1 R1_1))
  cases z1
  · have HQ := Lib.hid (show r = false by rw [HRES.out]; rfl)
    go_wp2_with fail
    go_ret
    exact ⟨ret_bool HQ.out.symm, (show Ext w _ by exact extA)⟩
  go_wp2_with fail
  (refine (K2.out _ (by exact extA)).mono ?_; rintro e w2 ⟨rfl, h2⟩; have H2 := Lib.hid h2; have hz2 := h2.size; clear h2; (try simp only [World.size_alloc, size_set, World.heap_drewN, size_drew] at hz2); apply Row.use (w := w2) (g := w.heap.size); (focus (exact rowA)); intro q2_0 f2_0 l2_0 R2_0; (try simp only [List.setIfInBounds_toArray, List.set_cons_zero, List.set_cons_succ] at q2_0 R2_0); apply Row.use (w := w2) (g := w.heap.size + 1); (focus (exact rowA)); intro q2_1 f2_1 l2_1 R2_1; (try simp only [List.setIfInBounds_toArray, List.set_cons_zero, List.set_cons_succ] at q2_1 R2_1))
  cases z2
  · have HQ := Lib.hid (show r = false by rw [HRES.out]; rfl)
    go_wp2_with fail
    go_ret
    exact ⟨ret_bool HQ.out.symm, (show Ext w _ by exact extA)⟩
  go_wp2_with fail
  (refine (K3.out _ (by exact extA)).mono ?_; rintro e w3 ⟨rfl, h3⟩; have H3 := Lib.hid h3; have hz3 := h3.size; clear h3; (try simp only [World.size_alloc, size_set, World.heap_drewN, size_drew] at hz3); apply Row.use (w := w3) (g := w.heap.size); (focus (exact rowA)); intro q3_0 f3_0 l3_0 R3_0; (try simp only [List.setIfInBounds_toArray, List.set_cons_zero, List.set_cons_succ] at q3_0 R3_0); apply Row.use (w := w3) (g := w.heap.size + 1); (focus (exact rowA)); intro q3_1 f3_1 l3_1 R3_1; (try simp only [List.setIfInBounds_toArray, List.set_cons_zero, List.set_cons_succ] at q3_1 R3_1))
  cases z3
  · have HQ := Lib.hid (show r = false by rw [HRES.out]; rfl)
    go_wp2_with fail
    go_ret
    exact ⟨ret_bool HQ.out.symm, (show Ext w _ by exact extA)⟩
  by_cases hl : a.gates.length = m
  rotate_left
  · have HQ := Lib.hid (show r = false by have := HM.out; rw [HRES.out]; simp [show ¬ a.gates.length = b.gates.length by omega])
    have hlb : ((a.gates.length : Int) == (m : Int)) = false := by rw [beq_eq_false_iff_ne]; omega
    clear hl
    go_wp2_with fail
    go_ret
    exact ⟨ret_bool HQ.out.symm, (show Ext w _ by exact extA)⟩
  subst hl
  have HQ := Lib.hid (show r = decide (a.gates.drop 0 = b.gates.drop 0) by rw [HRES.out]; simp [HM.out])
  have HL := Lib.hid HM.out
  have HW3 := Lib.hid (And.intro trivial (show Ext w w3 by exact extA))
  have hm3 : a.gates.length ≤ maxLen := by have := HC.out.2.1; have := HC.out.2.2; omega
  unfold maxLen at hm3
  clear HRES HM
  go_wp2_with fail
  go_loopg [5] a.gates.length (fun gg s5 wr => ∃ k : Nat, k ≤ a.gates.length ∧ a.gates.length - k ≤ gg ∧ s5 = .int .i64 k ∧ Aside (Ext w3 wr ∧ r = decide (a.gates.drop k = b.gates.drop k)))
  case atStart => exact ⟨0, Nat.zero_le _, by omega, rfl, Ext.refl _, HQ.out⟩
  case round =>
    obtain ⟨k, hk, hg, rfl, HA⟩ := hrel
    have HE := Lib.hid HA.out.1
    have HR := Lib.hid HA.out.2
    clear HA
    (apply Row.use (w := wr) (g := w.heap.size); (focus (exact rowA)); intro qr_0 fr_0 lr_0 Rr_0; (try simp only [List.setIfInBounds_toArray, List.set_cons_zero, List.set_cons_succ] at qr_0 Rr_0); apply Row.use (w := wr) (g := w.heap.size + 1); (focus (exact rowA)); intro qr_1 fr_1 lr_1 Rr_1; (try simp only [List.setIfInBounds_toArray, List.set_cons_zero, List.set_cons_succ] at qr_1 Rr_1))
    by_cases hlt : k < a.gates.length
    · have hlt2 : k < b.gates.length := by have := HL.out; omega
      have hi1 : (k : Int) < (a.gates.length : Int) := by omega
      have hi2 : (k : Int) < (b.gates.length : Int) := by omega
      have hi3 : (k : Int) < (c4 : Int) := by have := HC.out; omega
      have hi4 : (k : Int) < (d4 : Int) := by have := HC.out; omega
      have hxw := HW3.out.2.trans HE.out
      obtain ⟨ba, oa, sa1, si1, rfl, hba, ra, rd, g0, g1, g2, g3, g4, g5, g6, g7⟩ := (GA.out.ext hxw).at_ rfl hlt
      obtain ⟨bb, ob, sa2, si2, rfl, hbb, ra2, rd2, h0, h1, h2, h3, h4, h5, h6, h7⟩ := (GB.out.ext hxw).at_ rfl hlt2
      have HD := Lib.hid (show r = (decide (a.gates[k] = b.gates[k]) && decide (a.gates.drop (k + 1) = b.gates.drop (k + 1))) by rw [HR.out, drop_same hlt hlt2])
      have KG := Lib.hid (fun (w' : World) (h : Ext wr w') => ref_SameGate a.gates[k] b.gates[k] sa1 si1 sa2 si2 w' (ra.ext h) (rd.ext h) (ra2.ext h) (rd2.ext h))
      obtain ⟨A8, c8, rfl, -, -⟩ := ra.form
      obtain ⟨A9, c9, rfl, -, -⟩ := rd.form
      obtain ⟨B8, d8, rfl, -, -⟩ := ra2.form
      obtain ⟨B9, d9, rfl, -, -⟩ := rd2.form
      clear ra rd ra2 rd2 hxw HR
      unfold gta at KG
      generalize decide (a.gates[k] = b.gates[k]) = z at *
      generalize a.gates[k] = ga at *
      generalize b.gates[k] = gb at *
      go_upto_region 6 with fail
      (apply wp_gen2 (w0 := wr) (g0 := w.heap.size) (g1 := w.heap.size + 1); (focus (exact rowA)); (focus (exact rowA)); (focus (exact extA)); intro W HW hzW Rz_0 Rz_1; (try simp only [List.setIfInBounds_toArray, List.set_cons_zero, List.set_cons_succ, World.size_alloc, size_set, World.heap_drewN, size_drew] at hzW Rz_0 Rz_1); have lz_0 := Rz_0.out.size; have lz_1 := Rz_1.out.size)
      have HK := Lib.hid (fun (w' : World) (h : Ext W w') => And.intro (Row.ext h Rz_0.out).2.1 (And.intro (Row.ext h Rz_1.out).2.1 (And.intro (((HW.out.trans h).cells _ _ hba).trans g0) (And.intro (((HW.out.trans h).cells _ _ hba).trans g1) (And.intro (((HW.out.trans h).cells _ _ hba).trans g2) (And.intro (((HW.out.trans h).cells _ _ hba).trans g3) (And.intro (((HW.out.trans h).cells _ _ hba).trans g4) (And.intro (((HW.out.trans h).cells _ _ hba).trans g5) (And.intro (((HW.out.trans h).cells _ _ hba).trans g6) (And.intro (((HW.out.trans h).cells _ _ hba).trans g7) (And.intro (((HW.out.trans h).cells _ _ hbb).trans h0) (And.intro (((HW.out.trans h).cells _ _ hbb).trans h1) (And.intro (((HW.out.trans h).cells _ _ hbb).trans h2) (And.intro (((HW.out.trans h).cells _ _ hbb).trans h3) (And.intro (((HW.out.trans h).cells _ _ hbb).trans h4) (And.intro (((HW.out.trans h).cells _ _ hbb).trans h5) (And.intro (((HW.out.trans h).cells _ _ hbb).trans h6) ((((HW.out.trans h).cells _ _ hbb).trans h7)))))))))))))))))))
      (refine T_begin (fun w' => Ext W w') 10 (by kernel_rfl) ((Ext.refl _).drew) (fun hS => ?_); simp only [List.length_cons, List.length_nil])
      ((refine T_take (i := 0) (v := ?_) rfl (by kernel_rfl) rfl hS ?_ ?_; rotate_left; focus (intro w hSw; have hk := HK.out w hSw; clear hSw; go_simp; try (with_reducible rfl))); (try simp only [Act.put, List.setIfInBounds_toArray, List.set_cons_zero, List.set_cons_succ]); (refine T_take (i := 1) (v := ?_) rfl (by kernel_rfl) rfl hS ?_ ?_; rotate_left; focus (intro w hSw; have hk := HK.out w hSw; clear hSw; go_simp; try (with_reducible rfl))); (try simp only [Act.put, List.setIfInBounds_toArray, List.set_cons_zero, List.set_cons_succ]); (refine T_take (i := 2) (v := ?_) rfl (by kernel_rfl) rfl hS ?_ ?_; rotate_left; focus (intro w hSw; have hk := HK.out w hSw; clear hSw; go_simp; try (with_reducible rfl))); (try simp only [Act.put, List.setIfInBounds_toArray, List.set_cons_zero, List.set_cons_succ]); (refine T_take (i := 3) (v := ?_) rfl (by kernel_rfl) rfl hS ?_ ?_; rotate_left; focus (intro w hSw; have hk := HK.out w hSw; clear hSw; go_simp; try (with_reducible rfl))); (try simp only [Act.put, List.setIfInBounds_toArray, List.set_cons_zero, List.set_cons_succ]); (refine T_take (i := 4) (v := ?_) rfl (by kernel_rfl) rfl hS ?_ ?_; rotate_left; focus (intro w hSw; have hk := HK.out w hSw; clear hSw; go_simp; try (with_reducible rfl))); (try simp only [Act.put, List.setIfInBounds_toArray, List.set_cons_zero, List.set_cons_succ]); (refine T_take (i := 5) (v := ?_) rfl (by kernel_rfl) rfl hS ?_ ?_; rotate_left; focus (intro w hSw; have hk := HK.out w hSw; clear hSw; go_simp; try (with_reducible rfl))); (try simp only [Act.put, List.setIfInBounds_toArray, List.set_cons_zero, List.set_cons_succ]); (refine T_take (i := 6) (v := ?_) rfl (by kernel_rfl) rfl hS ?_ ?_; rotate_left; focus (intro w hSw; have hk := HK.out w hSw; clear hSw; go_simp; try (with_reducible rfl))); (try simp only [Act.put, List.setIfInBounds_toArray, List.set_cons_zero, List.set_cons_succ]); (refine T_take (i := 7) (v := ?_) rfl (by kernel_rfl) rfl hS ?_ ?_; rotate_left; focus (intro w hSw; have hk := HK.out w hSw; clear hSw; go_simp; try (with_reducible rfl))); (try simp only [Act.put, List.setIfInBounds_toArray, List.set_cons_zero, List.set_cons_succ]); (refine T_take (i := 8) (v := ?_) rfl (by kernel_rfl) rfl hS ?_ ?_; rotate_left; focus (intro w hSw; have hk := HK.out w hSw; clear hSw; go_simp; try (with_reducible rfl))); (try simp only [Act.put, List.setIfInBounds_toArray, List.set_cons_zero, List.set_cons_succ]); (refine T_take (i := 9) (v := ?_) rfl (by kernel_rfl) rfl hS ?_ ?_; rotate_left; focus (intro w hSw; have hk := HK.out w hSw; clear hSw; go_simp; try (with_reducible rfl))); (try simp only [Act.put, List.setIfInBounds_toArray, List.set_cons_zero, List.set_cons_succ]))
      (refine T_only (i := 10) rfl (by kernel_rfl) rfl (fun K hK => ?_); go_simp)
      refine (KG.out _ (by exact extA)).mono ?_
      rintro e w5 ⟨rfl, hx⟩
      have H5 := Lib.hid hx
      have hz5 := hx.size
      clear hx hS
      (try simp only [size_drew] at hz5)
      go_wp2_with fail
      have hS : Ext W w5 := by exact extA
      refine hK.out _ _ (.inr hS) ?_
      clear hK
      (try simp only [Act.put, List.setIfInBounds_toArray, List.set_cons_zero, List.set_cons_succ])
      (refine T_only (i := 11) rfl (by kernel_rfl) rfl (fun K hK => ?_); go_simp; refine hK.out _ _ (.inl (by kernel_rfl)) ?_; clear hK; (try simp only [Act.put, List.setIfInBounds_toArray, List.set_cons_zero, List.set_cons_succ]); refine T_done (by kernel_rfl) ?_ _)
      clear HK g0 g1 g2 g3 g4 g5 g6 g7 h0 h1 h2 h3 h4 h5 h6 h7
      cases z
      · have HQ2 := Lib.hid (show r = false by rw [HD.out]; rfl)
        have hq := HW3.out.2
        go_wp2_with fail
        go_ret
        exact ⟨ret_bool HQ2.out.symm, hq.trans (show Ext w3 _ by exact extA)⟩
      · have HQ2 := Lib.hid (show r = decide (a.gates.drop (k + 1) = b.gates.drop (k + 1)) by rw [HD.out, Bool.true_and])
        go_wp2_with fail
        go_roundg (a.gates.length - (k + 1))
        case measure => omega
        case rel => exact ⟨k + 1, by omega, by omega, by go_num, (show Ext w3 _ by exact extA), HQ2.out⟩
    · have hge : ¬ (k : Int) < (a.gates.length : Int) := by omega
      have HQ2 := Lib.hid (show r = true by
        have h1 := HL.out
        rw [HR.out, List.drop_eq_nil_of_le (by omega), List.drop_eq_nil_of_le (by omega)]; rfl)
      have hq := HW3.out.2
      go_wp2_with fail
      go_ret
      exact ⟨ret_bool HQ2.out.symm, hq.trans (show Ext w3 _ by exact extA)⟩
end Go.Proofs.YteojjbhadgkfgaaGreat

/- stationIs. -/
namespace Go.Proofs.YteojjbhadgkfgaaGreat
set_option linter.unusedSimpArgs false
set_option linter.unusedVariables false
set_option maxRecDepth 100000
open Go Go.RowKit Lb

theorem RdS.nil {w : World} : RdS w sv0 st0 := ⟨RdL.nil, RdL.nil, RdL.nil, RdL.nil, RdG.nil, RdL.nil⟩
end Go.Proofs.YteojjbhadgkfgaaGreat

/- StationFound: the walk. -/
namespace Go.Proofs.YteojjbhadgkfgaaGreat
set_option linter.unusedSimpArgs false
set_option linter.unusedVariables false
set_option maxRecDepth 100000
open Go Go.RowKit Lb

set_option maxHeartbeats 64000000 in
theorem law_StationFound (s : St) (x : Sv) (g time : Int) (w : World) (hr : RdS w x s) :
    Calls Tryz.prog 5 #[.agg (sta s x), .int .i64 g, .int .i64 time] w fun e w' => e = .returned (.bool true) ∧ Ext w w' := by
  have KT := Lib.hid (fun (w' : World) (h : Ext w w') => station_Sync s x g time w' (hr.ext h))
  by_cases h0 : (syncSt s g time).2.2 = 0
  case neg =>
    obtain ⟨hea, heb⟩ := found_err h0
    generalize syncSt s g time = T at *
    obtain ⟨T1, T2, T3⟩ := T
    simp only at h0 hea heb KT
    subst hea heb
    have h3b : (T3 != 0) = true := by simpa using h0
    obtain ⟨A0, c0, e0, -, -⟩ := hr.tk.form
    obtain ⟨A1, c1, e1, -, -⟩ := hr.tp.form
    obtain ⟨A2, c2, e2, -, -⟩ := hr.vd.form
    obtain ⟨A3, c3, e3, -, -⟩ := hr.dn.form
    obtain ⟨A4, c4, e4, hc4, -⟩ := hr.gt.form
    obtain ⟨A5, c5, e5, -, -⟩ := hr.vw.form
    obtain ⟨s0, s1, s2, si, sg, sv⟩ := x
    simp only at e0 e1 e2 e3 e4 e5
    subst e0 e1 e2 e3 e4 e5
    clear hr hc4 h0
    unfold sta at KT ⊢
    simp only at KT ⊢
    go_enter Tryz.func5, Tryz.ntmps5
    go_wp2_with fail
    refine (KT.out _ (by exact extA)).mono ?_
    rintro e w1 ⟨⟨t0, t1, t2, ti, tg, tv⟩, vt, rfl, h1, ho, hto⟩
    obtain ⟨B0, kB0, rfl⟩ : ∃ B d, t0 = .slice B 0 d := ho.tk.form
    obtain ⟨B1, kB1, rfl⟩ : ∃ B d, t1 = .slice B 0 d := ho.tp.form
    obtain ⟨B2, kB2, rfl⟩ : ∃ B d, t2 = .slice B 0 d := ho.vd.form
    obtain ⟨B3, kB3, rfl⟩ : ∃ B d, ti = .slice B 0 d := ho.dn.form
    obtain ⟨B4, kB4, rfl⟩ : ∃ B d, tg = .slice B 0 d := ho.gt.form
    obtain ⟨B5, kB5, rfl⟩ : ∃ B d, tv = .slice B 0 d := ho.vw.form
    obtain ⟨B6, kB6, rfl⟩ : ∃ B d, vt = .slice B 0 d := hto.form
    have H1 := Lib.hid h1
    have hz1 := h1.size
    clear h1 ho hto KT
    rw [show (st0.denied.version) = 0 from rfl]
    (apply Row.use (w := w1) (g := w.heap.size); (focus (exact rowA)); intro q1_0 f1_0 l1_0 R1_0; (try simp only [List.setIfInBounds_toArray, List.set_cons_zero, List.set_cons_succ] at q1_0 R1_0))
    go_wp2_with fail
    (refine (law_stationBegun _).mono ?_; rintro e w2 ⟨rfl, h2⟩; have H2 := Lib.hid h2; have hz2 := h2.size; clear h2; (try simp only [World.size_alloc, size_set, World.heap_drewN, size_drew] at hz2); apply Row.use (w := w2) (g := w.heap.size); (focus (exact rowA)); intro q2_0 f2_0 l2_0 R2_0; (try simp only [List.setIfInBounds_toArray, List.set_cons_zero, List.set_cons_succ] at q2_0 R2_0); apply Row.use (w := w2) (g := w1.heap.size); (focus (exact rowA)); intro q2_1 f2_1 l2_1 R2_1; (try simp only [List.setIfInBounds_toArray, List.set_cons_zero, List.set_cons_succ] at q2_1 R2_1))
    go_wp2_with fail
    (refine (law_mergeBegun _).mono ?_; rintro e w3 ⟨rfl, h3⟩; have H3 := Lib.hid h3; have hz3 := h3.size; clear h3; (try simp only [World.size_alloc, size_set, World.heap_drewN, size_drew] at hz3); apply Row.use (w := w3) (g := w.heap.size); (focus (exact rowA)); intro q3_0 f3_0 l3_0 R3_0; (try simp only [List.setIfInBounds_toArray, List.set_cons_zero, List.set_cons_succ] at q3_0 R3_0); apply Row.use (w := w3) (g := w1.heap.size); (focus (exact rowA)); intro q3_1 f3_1 l3_1 R3_1; (try simp only [List.setIfInBounds_toArray, List.set_cons_zero, List.set_cons_succ] at q3_1 R3_1))
    go_wp2_with fail
    (refine (law_deniedBegun _).mono ?_; rintro e w4 ⟨rfl, h4⟩; have H4 := Lib.hid h4; have hz4 := h4.size; clear h4; (try simp only [World.size_alloc, size_set, World.heap_drewN, size_drew] at hz4); apply Row.use (w := w4) (g := w.heap.size); (focus (exact rowA)); intro q4_0 f4_0 l4_0 R4_0; (try simp only [List.setIfInBounds_toArray, List.set_cons_zero, List.set_cons_succ] at q4_0 R4_0); apply Row.use (w := w4) (g := w1.heap.size); (focus (exact rowA)); intro q4_1 f4_1 l4_1 R4_1; (try simp only [List.setIfInBounds_toArray, List.set_cons_zero, List.set_cons_succ] at q4_1 R4_1))
    go_wp2_with fail
    go_ret
    exact ⟨rfl, (show Ext w _ by exact extA)⟩
  obtain ⟨r, r', hw, hl3, hal, hcnt, htold, hsync, h72⟩ := found_ok h0
  obtain ⟨hg0, hg2, hgm⟩ := within_nat (a := 0) hw
  obtain ⟨m, rfl⟩ : ∃ m : Nat, g = m := ⟨g.toNat, hgm.symm⟩
  simp only [Int.toNat_natCast] at hal hcnt
  have hm3 : m < 3 := by omega
  have hlt : m < s.gates.length := by rw [r.len]; exact hm3
  have hlt' : m < (syncSt s (m : Int) time).1.gates.length := by rw [hl3]; exact hm3
  replace hal := hal hlt'
  replace hcnt := hcnt hlt
  have h12 : (s.gates[m]).alone.length ≤ 12 := (ckGate_ok.1 (r.gates m hlt).1).len
  have ht60 := (right_taps r'.ledger).1
  have KC := Lib.hid (fun (x' : Sv) (w' : World) (h : RdS w' x' (syncSt s (m : Int) time).1) => (rightS_iff.2 r') ▸ station_Check (syncSt s (m : Int) time).1 x' w' h)
  have KY2 := Lib.hid (fun (x' : Sv) (w' : World) (h : RdS w' x' (syncSt s (m : Int) time).1) => hsync ▸ station_Sync (syncSt s (m : Int) time).1 x' (m : Int) time w' h)
  have hckd := r'.denied
  have hrl := r.len
  generalize syncSt s (m : Int) time = T at *
  obtain ⟨⟨AL, AD, AG, AV⟩, T2, T3⟩ := T
  simp only at h0 hl3 hal hcnt htold KT KC KY2 hlt' hckd ht60 h72
  subst h0
  have HCNT := Lib.hid hcnt
  have HTOLD := Lib.hid htold
  clear r r' hw hg0 hg2 hgm hcnt htold hsync
  have hmi : (m : Int) < (3 : Int) := by omega
  have hm0 : ¬ (m : Int) < 0 := by omega
  have hmg : ¬ (m : Int) ≥ (3 : Int) := by omega
  have hmN : decide (3 ≤ m) = false := by simp; omega
  have hmF : decide ((3 : Int) ≤ (m : Int)) = false := by simp; omega
  have hmG : decide ((m : Int) ≥ (3 : Int)) = false := by simp; omega
  have HV := Lib.hid hr
  obtain ⟨A0, c0, e0, -, -⟩ := hr.tk.form
  obtain ⟨A1, c1, e1, -, -⟩ := hr.tp.form
  obtain ⟨A2, c2, e2, -, -⟩ := hr.vd.form
  obtain ⟨A3, c3, e3, -, -⟩ := hr.dn.form
  obtain ⟨A4, c4, e4, hc4, -⟩ := hr.gt.form
  obtain ⟨A5, c5, e5, -, -⟩ := hr.vw.form
  have hat := hr.gt.at_ e4 hlt
  rw [hrl] at e4 hc4
  have hcap : (3 : Int) ≤ (c4 : Int) := by omega
  obtain ⟨bs, os, sa1, si1, hA4, hbs, ra1, rd1, g0, g1, g2, g3, g4, g5, g6, g7⟩ := hat
  clear g0 g1 g2 g4 g5 g6 g7 rd1
  subst hA4
  obtain ⟨s0, s1, s2, si, sg, sv⟩ := x
  simp only at e0 e1 e2 e3 e4 e5
  subst e0 e1 e2 e3 e4 e5
  clear hr hc4
  unfold sta at KT KC KY2 ⊢
  simp only at KT KC KY2 HV ⊢
  go_enter Tryz.func5, Tryz.ntmps5
  go_wp2_with fail
  refine (KT.out _ (by exact extA)).mono ?_
  rintro e w1 ⟨⟨t0, t1, t2, ti, tg, tv⟩, vt, rfl, h1, ho, hto⟩
  obtain ⟨B0, kB0, rfl⟩ : ∃ B d, t0 = .slice B AL.tickets.length d := ho.tk.form
  obtain ⟨B1, kB1, rfl⟩ : ∃ B d, t1 = .slice B AL.taps.length d := ho.tp.form
  obtain ⟨B2, kB2, rfl⟩ : ∃ B d, t2 = .slice B AL.verdicts.length d := ho.vd.form
  obtain ⟨B3, kB3, rfl⟩ : ∃ B d, ti = .slice B AD.ids.length d := ho.dn.form
  obtain ⟨B4, kB4, rfl⟩ : ∃ B d, tg = .slice B 3 d := by have := ho.gt.form; rw [hl3] at this; exact this
  obtain ⟨B5, kB5, rfl⟩ : ∃ B d, tv = .slice B AV.length d := ho.vw.form
  obtain ⟨B6, kB6, rfl⟩ : ∃ B d, vt = .slice B T2.length d := hto.form
  have H1 := Lib.hid h1
  have hz1 := h1.size
  have HO := Lib.hid ho.rd
  have HTO := Lib.hid (hto.rd tpc_size)
  have hat2 := ho.rd.gt.at_ (k := m) (n := 3) (c := kB4) (A := B4) rfl hlt'
  obtain ⟨bt, ot, sa2, si2, hB4, hbt, ra2, rd2, j0, j1, j2, j3, j4, j5, j6, j7⟩ := hat2
  clear j0 j1 j2 j6 j7
  subst hB4
  have hc4' : (3 : Int) ≤ (kB4 : Int) := by
    obtain ⟨A, c, h, h2, -⟩ := ho.rd.gt.form
    injection h with _ _ h3
    subst h3
    rw [hl3] at h2
    omega
  simp only [hal.1, hal.2] at ra2 rd2 j4
  obtain ⟨A8, c8, rfl, -, -⟩ := ra1.form
  obtain ⟨B8, d8, rfl⟩ : ∃ A c, sa2 = .slice A 0 c := by obtain ⟨A, c, h, -, -⟩ := ra2.form; exact ⟨A, c, h⟩
  obtain ⟨B9, d9, rfl, -, -⟩ := rd2.form
  have HR1 := Lib.hid ra1
  have HR2 := Lib.hid rd2
  clear h1 ho hto KT ra1 ra2 rd2 hal
  (apply Row.use (w := w1) (g := w.heap.size); (focus (exact rowA)); intro q1_0 f1_0 l1_0 R1_0; (try simp only [List.setIfInBounds_toArray, List.set_cons_zero, List.set_cons_succ] at q1_0 R1_0))
  go_wp2_with fail
  (refine (law_stationBegun _).mono ?_; rintro e w2 ⟨rfl, h2⟩; have H2 := Lib.hid h2; have hz2 := h2.size; clear h2; (try simp only [World.size_alloc, size_set, World.heap_drewN, size_drew] at hz2); apply Row.use (w := w2) (g := w.heap.size); (focus (exact rowA)); intro q2_0 f2_0 l2_0 R2_0; (try simp only [List.setIfInBounds_toArray, List.set_cons_zero, List.set_cons_succ] at q2_0 R2_0); apply Row.use (w := w2) (g := w1.heap.size); (focus (exact rowA)); intro q2_1 f2_1 l2_1 R2_1; (try simp only [List.setIfInBounds_toArray, List.set_cons_zero, List.set_cons_succ] at q2_1 R2_1))
  go_wp2_with fail
  (refine (law_mergeBegun _).mono ?_; rintro e w3 ⟨rfl, h3⟩; have H3 := Lib.hid h3; have hz3 := h3.size; clear h3; (try simp only [World.size_alloc, size_set, World.heap_drewN, size_drew] at hz3); apply Row.use (w := w3) (g := w.heap.size); (focus (exact rowA)); intro q3_0 f3_0 l3_0 R3_0; (try simp only [List.setIfInBounds_toArray, List.set_cons_zero, List.set_cons_succ] at q3_0 R3_0); apply Row.use (w := w3) (g := w1.heap.size); (focus (exact rowA)); intro q3_1 f3_1 l3_1 R3_1; (try simp only [List.setIfInBounds_toArray, List.set_cons_zero, List.set_cons_succ] at q3_1 R3_1))
  clear q2_0 f2_0 l2_0 R2_0 q2_1 f2_1 l2_1 R2_1 q1_0 f1_0 l1_0 R1_0
  go_wp2_with fail
  (refine (law_deniedBegun _).mono ?_; rintro e w4 ⟨rfl, h4⟩; have H4 := Lib.hid h4; have hz4 := h4.size; clear h4; (try simp only [World.size_alloc, size_set, World.heap_drewN, size_drew] at hz4); apply Row.use (w := w4) (g := w.heap.size); (focus (exact rowA)); intro q4_0 f4_0 l4_0 R4_0; (try simp only [List.setIfInBounds_toArray, List.set_cons_zero, List.set_cons_succ] at q4_0 R4_0); apply Row.use (w := w4) (g := w1.heap.size); (focus (exact rowA)); intro q4_1 f4_1 l4_1 R4_1; (try simp only [List.setIfInBounds_toArray, List.set_cons_zero, List.set_cons_succ] at q4_1 R4_1))
  clear q3_0 f3_0 l3_0 R3_0 q3_1 f3_1 l3_1 R3_1
  have HW4 := Lib.hid (And.intro trivial (show Ext w w4 by exact extA))
  have H14 := Lib.hid (And.intro trivial (show Ext w1 w4 by exact extA))
  clear H1 H2 H3 H4
  generalize hGs : s.gates[m] = gs at *
  clear hGs
  have y3 := (HW4.out.2.cells bs _ hbs).trans g3
  have x3 := (H14.out.2.cells bt _ hbt).trans j3
  have x4 := (H14.out.2.cells bt _ hbt).trans j4
  have x5 := (H14.out.2.cells bt _ hbt).trans j5
  have hbs4 : bs < w4.heap.size := by have := HW4.out.2.size; omega
  have hbt4 : bt < w4.heap.size := by have := H14.out.2.size; omega
  clear g3 j3 j4 j5
  have KD := Lib.hid (fun (w' : World) (h : Ext w4 w') => ref_SameDenied_so AD _ _ w' (HR2.out.ext (H14.out.2.trans h)) (HO.out.dn.ext (H14.out.2.trans h)))
  have KCC := Lib.hid (fun (w' : World) (h : Ext w4 w') => KC.out _ w' (HO.out.ext (H14.out.2.trans h)))
  have KYY := Lib.hid (fun (w' : World) (h : Ext w4 w') => KY2.out _ w' (HO.out.ext (H14.out.2.trans h)))
  have KHAS := Lib.hid (fun (id : Int) (w' : World) (h : Ext w4 w') => denied_Has AD _ id w' (HO.out.dn.ext (H14.out.2.trans h)))
  have KSS := Lib.hid (fun (y : Sv) (w' : World) (h : Ext w4 w') (hy : RdS w' y ⟨AL, AD, AG, AV⟩) => ref_SameStation ⟨AL, AD, AG, AV⟩ ⟨AL, AD, AG, AV⟩ _ y w' (HO.out.ext (H14.out.2.trans h)) hy)
  unfold sta at KSS
  simp only [decide_true] at KD KCC KYY KHAS KSS
  clear KC KY2
  go_upto_region 6 with fail
  (apply wp_gen2 (w0 := w4) (g0 := w.heap.size) (g1 := w1.heap.size); (focus (exact rowA)); (focus (exact rowA)); (focus (exact extA)); intro W HW hzW Rb_0 Rb_1; (try simp only [List.setIfInBounds_toArray, List.set_cons_zero, List.set_cons_succ, World.size_alloc, size_set, World.heap_drewN, size_drew] at hzW Rb_0 Rb_1); have lb_0 := Rb_0.out.size; have lb_1 := Rb_1.out.size)
  have HK := Lib.hid (fun (w' : World) (h : Ext W w') => And.intro (Row.ext h Rb_0.out).2.1 (And.intro (Row.ext h Rb_1.out).2.1 (And.intro (((HW.out.trans h).cells _ _ hbs4).trans y3) (And.intro (((HW.out.trans h).cells _ _ hbt4).trans x3) (And.intro (((HW.out.trans h).cells _ _ hbt4).trans x4) ((((HW.out.trans h).cells _ _ hbt4).trans x5)))))))
  have HWW := Lib.hid (And.intro trivial HW.out)
  (try simp only [List.append_eq, List.cons_append, List.nil_append])
  (refine T_begin (fun w' => Ext W w') 48 (by kernel_rfl) ((Ext.refl _).drew) (fun hS => ?_); simp only [List.length_cons, List.length_nil])
  ((refine T_takeG (i := 0) (v := ?_) rfl (by kernel_rfl) (by kernel_rfl) hS ?_ ?_; rotate_left; focus (intro w hSw; have hk := HK.out w hSw; clear hSw; go_simp; try (with_reducible rfl))); (try simp only [Act.put, List.setIfInBounds_toArray, List.set_cons_zero, List.set_cons_succ]); (refine T_takeG (i := 1) (v := ?_) rfl (by kernel_rfl) (by kernel_rfl) hS ?_ ?_; rotate_left; focus (intro w hSw; have hk := HK.out w hSw; clear hSw; go_simp; try (with_reducible rfl))); (try simp only [Act.put, List.setIfInBounds_toArray, List.set_cons_zero, List.set_cons_succ]); (refine T_takeG (i := 2) (v := ?_) rfl (by kernel_rfl) (by kernel_rfl) hS ?_ ?_; rotate_left; focus (intro w hSw; have hk := HK.out w hSw; clear hSw; go_simp; try (with_reducible rfl))); (try simp only [Act.put, List.setIfInBounds_toArray, List.set_cons_zero, List.set_cons_succ]); (refine T_takeG (i := 3) (v := ?_) rfl (by kernel_rfl) (by kernel_rfl) hS ?_ ?_; rotate_left; focus (intro w hSw; have hk := HK.out w hSw; clear hSw; go_simp; try (with_reducible rfl))); (try simp only [Act.put, List.setIfInBounds_toArray, List.set_cons_zero, List.set_cons_succ]); (refine T_takeG (i := 4) (v := ?_) rfl (by kernel_rfl) (by kernel_rfl) hS ?_ ?_; rotate_left; focus (intro w hSw; have hk := HK.out w hSw; clear hSw; go_simp; try (with_reducible rfl))); (try simp only [Act.put, List.setIfInBounds_toArray, List.set_cons_zero, List.set_cons_succ]); (refine T_takeG (i := 5) (v := ?_) rfl (by kernel_rfl) (by kernel_rfl) hS ?_ ?_; rotate_left; focus (intro w hSw; have hk := HK.out w hSw; clear hSw; go_simp; try (with_reducible rfl))); (try simp only [Act.put, List.setIfInBounds_toArray, List.set_cons_zero, List.set_cons_succ]); (refine T_takeG (i := 6) (v := ?_) rfl (by kernel_rfl) (by kernel_rfl) hS ?_ ?_; rotate_left; focus (intro w hSw; have hk := HK.out w hSw; clear hSw; go_simp; try (with_reducible rfl))); (try simp only [Act.put, List.setIfInBounds_toArray, List.set_cons_zero, List.set_cons_succ]); (refine T_takeG (i := 7) (v := ?_) rfl (by kernel_rfl) (by kernel_rfl) hS ?_ ?_; rotate_left; focus (intro w hSw; have hk := HK.out w hSw; clear hSw; go_simp; try (with_reducible rfl))); (try simp only [Act.put, List.setIfInBounds_toArray, List.set_cons_zero, List.set_cons_succ]); (refine T_takeG (i := 8) (v := ?_) rfl (by kernel_rfl) (by kernel_rfl) hS ?_ ?_; rotate_left; focus (intro w hSw; have hk := HK.out w hSw; clear hSw; go_simp; try (with_reducible rfl))); (try simp only [Act.put, List.setIfInBounds_toArray, List.set_cons_zero, List.set_cons_succ]); (refine T_takeG (i := 9) (v := ?_) rfl (by kernel_rfl) (by kernel_rfl) hS ?_ ?_; rotate_left; focus (intro w hSw; have hk := HK.out w hSw; clear hSw; go_simp; try (with_reducible rfl))); (try simp only [Act.put, List.setIfInBounds_toArray, List.set_cons_zero, List.set_cons_succ]); (refine T_takeG (i := 10) (v := ?_) rfl (by kernel_rfl) (by kernel_rfl) hS ?_ ?_; rotate_left; focus (intro w hSw; have hk := HK.out w hSw; clear hSw; go_simp; try (with_reducible rfl))); (try simp only [Act.put, List.setIfInBounds_toArray, List.set_cons_zero, List.set_cons_succ]))
  clear hS
  refine T_onlyG (i := 11) rfl (by kernel_rfl) (by kernel_rfl) (fun K hK => ?_)
  go_simp
  refine (KCC.out _ (HWW.out.2.trans (show Ext W _ by exact extA))).mono ?_
  rintro e w5 ⟨rfl, h5⟩
  have H5 := Lib.hid h5
  clear h5
  (go_wp2_with fail; have hS : Ext W w5 := by exact extA); (refine hK.out _ _ (.inr hS) ?_; clear hK; (try simp only [Act.put, List.setIfInBounds_toArray, List.set_cons_zero, List.set_cons_succ]))
  ((refine T_takeG (i := 12) (v := ?_) rfl (by kernel_rfl) (by kernel_rfl) hS ?_ ?_; rotate_left; focus (intro w hSw; have hk := HK.out w hSw; clear hSw; go_simp; try (with_reducible rfl))); (try simp only [Act.put, List.setIfInBounds_toArray, List.set_cons_zero, List.set_cons_succ]); (refine T_takeG (i := 13) (v := ?_) rfl (by kernel_rfl) (by kernel_rfl) hS ?_ ?_; rotate_left; focus (intro w hSw; have hk := HK.out w hSw; clear hSw; go_simp; try (with_reducible rfl))); (try simp only [Act.put, List.setIfInBounds_toArray, List.set_cons_zero, List.set_cons_succ]); (refine T_takeG (i := 14) (v := ?_) rfl (by kernel_rfl) (by kernel_rfl) hS ?_ ?_; rotate_left; focus (intro w hSw; have hk := HK.out w hSw; clear hSw; go_simp; try (with_reducible rfl))); (try simp only [Act.put, List.setIfInBounds_toArray, List.set_cons_zero, List.set_cons_succ]); (refine T_takeG (i := 15) (v := ?_) rfl (by kernel_rfl) (by kernel_rfl) hS ?_ ?_; rotate_left; focus (intro w hSw; have hk := HK.out w hSw; clear hSw; go_simp; try (with_reducible rfl))); (try simp only [Act.put, List.setIfInBounds_toArray, List.set_cons_zero, List.set_cons_succ]); (refine T_takeG (i := 16) (v := ?_) rfl (by kernel_rfl) (by kernel_rfl) hS ?_ ?_; rotate_left; focus (intro w hSw; have hk := HK.out w hSw; clear hSw; go_simp; try (with_reducible rfl))); (try simp only [Act.put, List.setIfInBounds_toArray, List.set_cons_zero, List.set_cons_succ]); (refine T_takeG (i := 17) (v := ?_) rfl (by kernel_rfl) (by kernel_rfl) hS ?_ ?_; rotate_left; focus (intro w hSw; have hk := HK.out w hSw; clear hSw; go_simp; try (with_reducible rfl))); (try simp only [Act.put, List.setIfInBounds_toArray, List.set_cons_zero, List.set_cons_succ]); (refine T_takeG (i := 18) (v := ?_) rfl (by kernel_rfl) (by kernel_rfl) hS ?_ ?_; rotate_left; focus (intro w hSw; have hk := HK.out w hSw; clear hSw; go_simp; try (with_reducible rfl))); (try simp only [Act.put, List.setIfInBounds_toArray, List.set_cons_zero, List.set_cons_succ]); (refine T_takeG (i := 19) (v := ?_) rfl (by kernel_rfl) (by kernel_rfl) hS ?_ ?_; rotate_left; focus (intro w hSw; have hk := HK.out w hSw; clear hSw; go_simp; try (with_reducible rfl))); (try simp only [Act.put, List.setIfInBounds_toArray, List.set_cons_zero, List.set_cons_succ]); (refine T_takeG (i := 20) (v := ?_) rfl (by kernel_rfl) (by kernel_rfl) hS ?_ ?_; rotate_left; focus (intro w hSw; have hk := HK.out w hSw; clear hSw; go_simp; try (with_reducible rfl))); (try simp only [Act.put, List.setIfInBounds_toArray, List.set_cons_zero, List.set_cons_succ]); (refine T_takeG (i := 21) (v := ?_) rfl (by kernel_rfl) (by kernel_rfl) hS ?_ ?_; rotate_left; focus (intro w hSw; have hk := HK.out w hSw; clear hSw; go_simp; try (with_reducible rfl))); (try simp only [Act.put, List.setIfInBounds_toArray, List.set_cons_zero, List.set_cons_succ]); (refine T_takeG (i := 22) (v := ?_) rfl (by kernel_rfl) (by kernel_rfl) hS ?_ ?_; rotate_left; focus (intro w hSw; have hk := HK.out w hSw; clear hSw; go_simp; try (with_reducible rfl))); (try simp only [Act.put, List.setIfInBounds_toArray, List.set_cons_zero, List.set_cons_succ]); (refine T_takeG (i := 23) (v := ?_) rfl (by kernel_rfl) (by kernel_rfl) hS ?_ ?_; rotate_left; focus (intro w hSw; have hk := HK.out w hSw; clear hSw; go_simp; try (with_reducible rfl))); (try simp only [Act.put, List.setIfInBounds_toArray, List.set_cons_zero, List.set_cons_succ]); (refine T_takeG (i := 24) (v := ?_) rfl (by kernel_rfl) (by kernel_rfl) hS ?_ ?_; rotate_left; focus (intro w hSw; have hk := HK.out w hSw; clear hSw; go_simp; try (with_reducible rfl))); (try simp only [Act.put, List.setIfInBounds_toArray, List.set_cons_zero, List.set_cons_succ]); (refine T_takeG (i := 25) (v := ?_) rfl (by kernel_rfl) (by kernel_rfl) hS ?_ ?_; rotate_left; focus (intro w hSw; have hk := HK.out w hSw; clear hSw; go_simp; try (with_reducible rfl))); (try simp only [Act.put, List.setIfInBounds_toArray, List.set_cons_zero, List.set_cons_succ]); (refine T_takeG (i := 26) (v := ?_) rfl (by kernel_rfl) (by kernel_rfl) hS ?_ ?_; rotate_left; focus (intro w hSw; have hk := HK.out w hSw; clear hSw; go_simp; try (with_reducible rfl))); (try simp only [Act.put, List.setIfInBounds_toArray, List.set_cons_zero, List.set_cons_succ]); (refine T_takeG (i := 27) (v := ?_) rfl (by kernel_rfl) (by kernel_rfl) hS ?_ ?_; rotate_left; focus (intro w hSw; have hk := HK.out w hSw; clear hSw; go_simp; try (with_reducible rfl))); (try simp only [Act.put, List.setIfInBounds_toArray, List.set_cons_zero, List.set_cons_succ]); (refine T_takeG (i := 28) (v := ?_) rfl (by kernel_rfl) (by kernel_rfl) hS ?_ ?_; rotate_left; focus (intro w hSw; have hk := HK.out w hSw; clear hSw; go_simp; try (with_reducible rfl))); (try simp only [Act.put, List.setIfInBounds_toArray, List.set_cons_zero, List.set_cons_succ]); (refine T_takeG (i := 29) (v := ?_) rfl (by kernel_rfl) (by kernel_rfl) hS ?_ ?_; rotate_left; focus (intro w hSw; have hk := HK.out w hSw; clear hSw; go_simp; try (with_reducible rfl))); (try simp only [Act.put, List.setIfInBounds_toArray, List.set_cons_zero, List.set_cons_succ]); (refine T_takeG (i := 30) (v := ?_) rfl (by kernel_rfl) (by kernel_rfl) hS ?_ ?_; rotate_left; focus (intro w hSw; have hk := HK.out w hSw; clear hSw; go_simp; try (with_reducible rfl))); (try simp only [Act.put, List.setIfInBounds_toArray, List.set_cons_zero, List.set_cons_succ]); (refine T_takeG (i := 31) (v := ?_) rfl (by kernel_rfl) (by kernel_rfl) hS ?_ ?_; rotate_left; focus (intro w hSw; have hk := HK.out w hSw; clear hSw; go_simp; try (with_reducible rfl))); (try simp only [Act.put, List.setIfInBounds_toArray, List.set_cons_zero, List.set_cons_succ]); (refine T_takeG (i := 32) (v := ?_) rfl (by kernel_rfl) (by kernel_rfl) hS ?_ ?_; rotate_left; focus (intro w hSw; have hk := HK.out w hSw; clear hSw; go_simp; try (with_reducible rfl))); (try simp only [Act.put, List.setIfInBounds_toArray, List.set_cons_zero, List.set_cons_succ]); (refine T_takeG (i := 33) (v := ?_) rfl (by kernel_rfl) (by kernel_rfl) hS ?_ ?_; rotate_left; focus (intro w hSw; have hk := HK.out w hSw; clear hSw; go_simp; try (with_reducible rfl))); (try simp only [Act.put, List.setIfInBounds_toArray, List.set_cons_zero, List.set_cons_succ]); (refine T_takeG (i := 34) (v := ?_) rfl (by kernel_rfl) (by kernel_rfl) hS ?_ ?_; rotate_left; focus (intro w hSw; have hk := HK.out w hSw; clear hSw; go_simp; try (with_reducible rfl))); (try simp only [Act.put, List.setIfInBounds_toArray, List.set_cons_zero, List.set_cons_succ]); (refine T_takeG (i := 35) (v := ?_) rfl (by kernel_rfl) (by kernel_rfl) hS ?_ ?_; rotate_left; focus (intro w hSw; have hk := HK.out w hSw; clear hSw; go_simp; try (with_reducible rfl))); (try simp only [Act.put, List.setIfInBounds_toArray, List.set_cons_zero, List.set_cons_succ]); (refine T_takeG (i := 36) (v := ?_) rfl (by kernel_rfl) (by kernel_rfl) hS ?_ ?_; rotate_left; focus (intro w hSw; have hk := HK.out w hSw; clear hSw; go_simp; try (with_reducible rfl))); (try simp only [Act.put, List.setIfInBounds_toArray, List.set_cons_zero, List.set_cons_succ]); (refine T_takeG (i := 37) (v := ?_) rfl (by kernel_rfl) (by kernel_rfl) hS ?_ ?_; rotate_left; focus (intro w hSw; have hk := HK.out w hSw; clear hSw; go_simp; try (with_reducible rfl))); (try simp only [Act.put, List.setIfInBounds_toArray, List.set_cons_zero, List.set_cons_succ]); (refine T_takeG (i := 38) (v := ?_) rfl (by kernel_rfl) (by kernel_rfl) hS ?_ ?_; rotate_left; focus (intro w hSw; have hk := HK.out w hSw; clear hSw; go_simp; try (with_reducible rfl))); (try simp only [Act.put, List.setIfInBounds_toArray, List.set_cons_zero, List.set_cons_succ]); (refine T_takeG (i := 39) (v := ?_) rfl (by kernel_rfl) (by kernel_rfl) hS ?_ ?_; rotate_left; focus (intro w hSw; have hk := HK.out w hSw; clear hSw; go_simp; try (with_reducible rfl))); (try simp only [Act.put, List.setIfInBounds_toArray, List.set_cons_zero, List.set_cons_succ]); (refine T_takeG (i := 40) (v := ?_) rfl (by kernel_rfl) (by kernel_rfl) hS ?_ ?_; rotate_left; focus (intro w hSw; have hk := HK.out w hSw; clear hSw; go_simp; try (with_reducible rfl))); (try simp only [Act.put, List.setIfInBounds_toArray, List.set_cons_zero, List.set_cons_succ]); (refine T_takeG (i := 41) (v := ?_) rfl (by kernel_rfl) (by kernel_rfl) hS ?_ ?_; rotate_left; focus (intro w hSw; have hk := HK.out w hSw; clear hSw; go_simp; try (with_reducible rfl))); (try simp only [Act.put, List.setIfInBounds_toArray, List.set_cons_zero, List.set_cons_succ]); (refine T_takeG (i := 42) (v := ?_) rfl (by kernel_rfl) (by kernel_rfl) hS ?_ ?_; rotate_left; focus (intro w hSw; have hk := HK.out w hSw; clear hSw; go_simp; try (with_reducible rfl))); (try simp only [Act.put, List.setIfInBounds_toArray, List.set_cons_zero, List.set_cons_succ]); (refine T_takeG (i := 43) (v := ?_) rfl (by kernel_rfl) (by kernel_rfl) hS ?_ ?_; rotate_left; focus (intro w hSw; have hk := HK.out w hSw; clear hSw; go_simp; try (with_reducible rfl))); (try simp only [Act.put, List.setIfInBounds_toArray, List.set_cons_zero, List.set_cons_succ]); (refine T_takeG (i := 44) (v := ?_) rfl (by kernel_rfl) (by kernel_rfl) hS ?_ ?_; rotate_left; focus (intro w hSw; have hk := HK.out w hSw; clear hSw; go_simp; try (with_reducible rfl))); (try simp only [Act.put, List.setIfInBounds_toArray, List.set_cons_zero, List.set_cons_succ]); (refine T_takeG (i := 45) (v := ?_) rfl (by kernel_rfl) (by kernel_rfl) hS ?_ ?_; rotate_left; focus (intro w hSw; have hk := HK.out w hSw; clear hSw; go_simp; try (with_reducible rfl))); (try simp only [Act.put, List.setIfInBounds_toArray, List.set_cons_zero, List.set_cons_succ]))
  clear hS
  refine T_onlyG (i := 46) rfl (by kernel_rfl) (by kernel_rfl) (fun K hK => ?_)
  go_simp
  refine (KD.out _ (HWW.out.2.trans (show Ext W _ by exact extA))).mono ?_
  rintro e w6 ⟨rfl, h6⟩
  have H6 := Lib.hid h6
  clear h6
  (go_wp2_with fail; have hS : Ext W w6 := by exact extA); (refine hK.out _ _ (.inr hS) ?_; clear hK; (try simp only [Act.put, List.setIfInBounds_toArray, List.set_cons_zero, List.set_cons_succ]))
  ((refine T_takeG (i := 47) (v := ?_) rfl (by kernel_rfl) (by kernel_rfl) hS ?_ ?_; rotate_left; focus (intro w hSw; have hk := HK.out w hSw; clear hSw; go_simp; try (with_reducible rfl))); (try simp only [Act.put, List.setIfInBounds_toArray, List.set_cons_zero, List.set_cons_succ]))
  clear HK hS
  refine T_onlyG (i := 48) rfl (by kernel_rfl) (by kernel_rfl) (fun K hK => ?_)
  go_simp
  refine hK.out _ _ (.inl (by kernel_rfl)) ?_
  clear hK
  (try simp only [Act.put, List.setIfInBounds_toArray, List.set_cons_zero, List.set_cons_succ])
  refine T_done (by kernel_rfl) ?_ _
  have HW6 := Lib.hid (And.intro trivial (show Ext w4 w6 by exact extA))
  clear KCC KD q4_0 f4_0 l4_0 R4_0 q4_1 f4_1 l4_1 R4_1 x3 x4 x5
  (apply Row.use (w := w6) (g := w.heap.size); (focus (exact rowA)); intro q6_0 f6_0 l6_0 R6_0; (try simp only [List.setIfInBounds_toArray, List.set_cons_zero, List.set_cons_succ] at q6_0 R6_0); apply Row.use (w := w6) (g := w1.heap.size); (focus (exact rowA)); intro q6_1 f6_1 l6_1 R6_1; (try simp only [List.setIfInBounds_toArray, List.set_cons_zero, List.set_cons_succ] at q6_1 R6_1))
  obtain ⟨i0, ji, ji0, ji1, ji2⟩ := info_parts info_tp
  have HBD := Lib.hid (show gs.alone.length ≤ 12 ∧ AL.taps.length + T2.length ≤ 132 ∧ T2.length ≤ 72 ∧ AL.taps.length ≤ 60 from ⟨by omega, by omega, by omega, by omega⟩)
  have hal9 : gs.alone.length ≤ 9223372036854775807 := by omega
  clear h12 h72 ht60 hl3 hrl
  have HAT := Lib.hid (fun (w' : World) (h : Ext w6 w') => HO.out.tp.ext (H14.out.2.trans (HW6.out.2.trans h)))
  have HT2 := Lib.hid (fun (w' : World) (h : Ext w6 w') => HTO.out.ext (H14.out.2.trans (HW6.out.2.trans h)))
  have HAL := Lib.hid (fun (w' : World) (h : Ext w6 w') => HR1.out.ext (HW4.out.2.trans (HW6.out.2.trans h)))
  simp only at HAT HT2
  clear H5 H6 Rb_0 Rb_1 lb_0 lb_1 HW HWW
  go_wp2_with fail
  go_loopg [10, 11, 12, 13, 14] gs.alone.length (fun gg s10 _ _ _ _ wr => ∃ i : Nat, i ≤ gs.alone.length ∧ gs.alone.length - i ≤ gg ∧ s10 = .int .i64 i ∧ Aside (Ext w6 wr))
  case atStart => exact ⟨0, Nat.zero_le _, by omega, rfl, Ext.refl _⟩
  case round =>
    obtain ⟨wo, rfl⟩ : ∃ wo : World, wo = wr := ⟨_, rfl⟩
    obtain ⟨i, hi, hg, rfl, HA⟩ := hrel
    have HE := Lib.hid HA.out
    have HOE := Lib.hid (And.intro trivial (HW6.out.2.trans HA.out))
    clear HA
    have hbso : bs < wo.heap.size := by have := HOE.out.2.size; omega
    have k3 := (HOE.out.2.cells bs _ hbs4).trans y3
    (apply Row.use (w := wo) (g := w.heap.size); (focus (exact rowA)); intro qr_0 fr_0 lr_0 Rr_0; (try simp only [List.setIfInBounds_toArray, List.set_cons_zero, List.set_cons_succ] at qr_0 Rr_0); apply Row.use (w := wo) (g := w1.heap.size); (focus (exact rowA)); intro qr_1 fr_1 lr_1 Rr_1; (try simp only [List.setIfInBounds_toArray, List.set_cons_zero, List.set_cons_succ] at qr_1 Rr_1))
    clear q6_0 f6_0 l6_0 R6_0 q6_1 f6_1 l6_1 R6_1
    by_cases hlt2 : i < gs.alone.length
    · have hii : (i : Int) < (gs.alone.length : Int) := by omega
      have HC1 := Lib.hid (HCNT.out gs.alone[i] (List.getElem_mem hlt2))
      obtain ⟨ba, oa, hA, hba, p0, p1, p2, p3, p4⟩ := (HAL.out wo HE.out).tap_at rfl hlt2
      subst hA
      have hcc : (i : Int) < (c8 : Int) := by
        obtain ⟨A, c, h, h2, -⟩ := (HAL.out wo HE.out).form
        injection h with _ _ h3
        omega
      generalize gs.alone[i] = pp at *
      obtain ⟨x0, x1, x2, x3, x4⟩ := pp
      simp only at p0 p1 p2 p3 p4
      go_wp2_with (at_builtin; go_loud (refine wpList_append_rd (enc := tpc) (k := 5) _ rfl _ _ 23 rfl (wo.heap.size + 1) 57 i0 (.agg #[.int .i64 0, .int .i64 0, .int .i64 0, .int .i64 0, .int .i64 0]) 40 Tryz.underlying23 ji ji0 ji1 ji2 rfl (by decide) tpc_size _ ([] : List Tp) rfl (OwnL.made (base := wo.heap.size + 1) (by simp) (by simp)) _ AL.taps rfl (HAT.out _ (HE.out.trans (((Ext.refl _).alloc _).alloc _))) (tp_one _) ?g1 ?g2 (by simp) ?_))
      case g1 => have := HBD.out; unfold maxLen; simp; omega
      case g2 => have := HBD.out; simp; omega
      intro v8a w8a ho8a hg8a hn8a
      obtain ⟨B8a, d8a, rfl⟩ := ho8a.form
      have HO8a := Lib.hid ho8a
      have HE8a := Lib.hid (Ext.grown (((Ext.refl wo).alloc (.cells #[.int .i64 x0, .int .i64 x1, .int .i64 x2, .int .i64 x3, .int .i64 x4] 57)).alloc (.cells #[] 57)) hg8a (fun q hq => by simp [Value.ownBlock] at hq; omega))
      have HB8a := Lib.hid (show Row w8a wo.heap.size #[.int .i64 x0, .int .i64 x1, .int .i64 x2, .int .i64 x3, .int .i64 x4] from Row.grown (Row.alloc (Row.newAt rfl)) hg8a (fun h => by simp [Value.ownBlock] at h))
      clear ho8a hg8a hn8a
      go_wp2_with (at_builtin; go_loud (refine wpList_append_rd (enc := tpc) (k := 5) _ rfl _ _ 23 rfl (wo.heap.size + 1) 57 i0 (.agg #[.int .i64 0, .int .i64 0, .int .i64 0, .int .i64 0, .int .i64 0]) 40 Tryz.underlying23 ji ji0 ji1 ji2 rfl (by decide) tpc_size _ AL.taps rfl HO8a.out _ T2 rfl (HT2.out _ (HE.out.trans HE8a.out)) (tp_one _) ?g3 ?g4 (by have := HB8a.out.1; omega) ?_))
      case g3 => have := HBD.out; unfold maxLen; omega
      case g4 => have := HBD.out; omega
      intro v8 w8 ho8 hg8 hn8
      obtain ⟨B8', d8', rfl⟩ := ho8.form
      have hLn : (AL.taps ++ T2).length ≤ 132 := by have := HBD.out; simp; omega
      have HE8 := Lib.hid (HE8a.out.grown hg8 (fun q hq => by have := (HO8a.out.lt q hq).1; omega))
      have HB8 := Lib.hid (Row.grown HB8a.out hg8 (fun h => by have := (HO8a.out.lt _ h.symm).1; omega))
      have HX8 := Lib.hid (ho8.rd tpc_size)
      have hz8 := HE8.out.size
      clear ho8 hg8 hn8 HO8a HB8a HE8a
      generalize AL.taps ++ T2 = both at *
      have hb9 : both.length ≤ 9223372036854775807 := by omega
      have HB9 := Lib.hid (And.intro hLn hb9)
      clear hLn
      (apply Row.use (w := w8) (g := w.heap.size); (focus (exact rowA)); intro q8_0 f8_0 l8_0 R8_0; (try simp only [List.setIfInBounds_toArray, List.set_cons_zero, List.set_cons_succ] at q8_0 R8_0); apply Row.use (w := w8) (g := w1.heap.size); (focus (exact rowA)); intro q8_1 f8_1 l8_1 R8_1; (try simp only [List.setIfInBounds_toArray, List.set_cons_zero, List.set_cons_succ] at q8_1 R8_1); apply Row.use (w := w8) (g := wo.heap.size); (focus (exact rowA)); intro q8_2 f8_2 l8_2 R8_2; (try simp only [List.setIfInBounds_toArray, List.set_cons_zero, List.set_cons_succ] at q8_2 R8_2))
      clear qr_0 fr_0 lr_0 Rr_0 qr_1 fr_1 lr_1 Rr_1 k3 p0 p1 p2 p3 p4
      go_wp2_with fail
      go_loopg [12, 14] both.length (fun gg s12 s14 wr => ∃ k : Nat, k ≤ both.length ∧ both.length - k ≤ gg ∧ s12 = .int .i64 ((both.take k).count (⟨x0, x1, x2, x3, x4⟩ : Tp)) ∧ s14 = .int .i64 k ∧ Aside (Ext w8 wr))
      case atStart => exact ⟨0, Nat.zero_le _, by omega, rfl, rfl, Ext.refl _⟩
      case round =>
        obtain ⟨k, hk, hgk, rfl, rfl, HA⟩ := hrel
        have HEr := Lib.hid HA.out
        clear HA
        (apply Row.use (w := wr) (g := w.heap.size); (focus (exact rowA)); intro qs_0 fs_0 ls_0 Rs_0; (try simp only [List.setIfInBounds_toArray, List.set_cons_zero, List.set_cons_succ] at qs_0 Rs_0); apply Row.use (w := wr) (g := w1.heap.size); (focus (exact rowA)); intro qs_1 fs_1 ls_1 Rs_1; (try simp only [List.setIfInBounds_toArray, List.set_cons_zero, List.set_cons_succ] at qs_1 Rs_1); apply Row.use (w := wr) (g := wo.heap.size); (focus (exact rowA)); intro qs_2 fs_2 ls_2 Rs_2; (try simp only [List.setIfInBounds_toArray, List.set_cons_zero, List.set_cons_succ] at qs_2 Rs_2))
        by_cases hltk : k < both.length
        · have hkk : (k : Int) < (both.length : Int) := by omega
          have hct : (both.take (k + 1)).count (⟨x0, x1, x2, x3, x4⟩ : Tp) = (both.take k).count (⟨x0, x1, x2, x3, x4⟩ : Tp) + if both[k] = (⟨x0, x1, x2, x3, x4⟩ : Tp) then 1 else 0 := by
            rw [List.take_succ_eq_append_getElem hltk, List.count_append]
            by_cases hx : both[k] = (⟨x0, x1, x2, x3, x4⟩ : Tp)
            · rw [if_pos hx, hx]; simp
            · rw [if_neg hx, List.count_singleton]; simp [hx]
          have hcle : (both.take k).count (⟨x0, x1, x2, x3, x4⟩ : Tp) ≤ 132 := by have := List.count_le_length (a := (⟨x0, x1, x2, x3, x4⟩ : Tp)) (l := both.take k); have h2 := HB9.out.1; simp at this; omega
          obtain ⟨b2, o2, hB, hb2, d0, d1, d2, d3, d4⟩ := (HX8.out.ext HEr.out).tap_at rfl hltk
          subst hB
          have hcc2 : (k : Int) < (d8' : Int) := by
            obtain ⟨A, c, h, h2, -⟩ := (HX8.out.ext HEr.out).form
            injection h with _ _ h3
            omega
          generalize (both.take k).count (⟨x0, x1, x2, x3, x4⟩ : Tp) = cn at *
          have HCT := Lib.hid hct
          clear hct
          generalize both[k] = y at *
          obtain ⟨y0, y1, y2, y3', y4⟩ := y
          simp only at d0 d1 d2 d3 d4
          have hn := eql_tp y0 y1 y2 y3' y4 x0 x1 x2 x3 x4
          have hwn : IntKind.i64.wrap ((cn : Int) + 1) = (cn : Int) + 1 := IntWalk.i64_in _ (by omega)
          by_cases hx : (⟨y0, y1, y2, y3', y4⟩ : Tp) = ⟨x0, x1, x2, x3, x4⟩
          · rw [decide_eq_true hx] at hn
            have HC2 := Lib.hid (show (both.take (k + 1)).count (⟨x0, x1, x2, x3, x4⟩ : Tp) = cn + 1 by rw [HCT.out, if_pos hx])
            clear hx
            go_wp2_with fail
            go_quiet (fail)
            go_wp2_with fail
            go_roundg (both.length - (k + 1))
            case measure => omega
            case rel => exact ⟨k + 1, by omega, by omega, by rw [HC2.out]; go_num, by go_num, HEr.out.drewN _⟩
          · rw [decide_eq_false hx] at hn
            have HC2 := Lib.hid (show (both.take (k + 1)).count (⟨x0, x1, x2, x3, x4⟩ : Tp) = cn by rw [HCT.out, if_neg hx, Nat.add_zero])
            clear hx
            go_wp2_with fail
            go_quiet (fail)
            go_wp2_with fail
            go_roundg (both.length - (k + 1))
            case measure => omega
            case rel => exact ⟨k + 1, by omega, by omega, by rw [HC2.out], by go_num, HEr.out.drewN _⟩
        · have hkk : ¬ (k : Int) < (both.length : Int) := by omega
          have hone : (both.take k).count (⟨x0, x1, x2, x3, x4⟩ : Tp) = 1 := by rw [List.take_of_length_le (by omega)]; exact HC1.out
          rw [hone]
          clear hone
          go_wp2_with fail
          go_roundg (gs.alone.length - (i + 1))
          case measure => omega
          case rel => exact ⟨i + 1, by omega, by omega, by go_num, HE.out.trans (HE8.out.trans (show Ext w8 _ by exact extA))⟩
    · have hii : ¬ (i : Int) < (gs.alone.length : Int) := by omega
      clear HAT HAL HCNT
      have hT2 : T2.length ≤ 9223372036854775807 := by have := HBD.out; omega
      go_wp2_with fail
      go_loopg [15, 16, 17] T2.length (fun gg s15 _ _ wr => ∃ i : Nat, i ≤ T2.length ∧ T2.length - i ≤ gg ∧ s15 = .int .i64 i ∧ Aside (Ext wo wr))
      case atStart => exact ⟨0, Nat.zero_le _, by omega, rfl, Ext.refl _⟩
      case round =>
        obtain ⟨k, hk, hgk, rfl, HA⟩ := hrel
        have HEr := Lib.hid HA.out
        have HEW := Lib.hid (And.intro trivial (HW6.out.2.trans (HE.out.trans HA.out)))
        clear HA
        (apply Row.use (w := wr) (g := w.heap.size); (focus (exact rowA)); intro qs_0 fs_0 ls_0 Rs_0; (try simp only [List.setIfInBounds_toArray, List.set_cons_zero, List.set_cons_succ] at qs_0 Rs_0); apply Row.use (w := wr) (g := w1.heap.size); (focus (exact rowA)); intro qs_1 fs_1 ls_1 Rs_1; (try simp only [List.setIfInBounds_toArray, List.set_cons_zero, List.set_cons_succ] at qs_1 Rs_1))
        clear qr_0 fr_0 lr_0 Rr_0 qr_1 fr_1 lr_1 Rr_1
        by_cases hltk : k < T2.length
        · have hkk : (k : Int) < (T2.length : Int) := by omega
          have HTK := Lib.hid (HTOLD.out T2[k] (List.getElem_mem hltk))
          obtain ⟨b2, o2, hB, hb2, d0, -, -, -, -⟩ := (HT2.out wr (HE.out.trans HEr.out)).tap_at rfl hltk
          subst hB
          have hcc2 : (k : Int) < (kB6 : Int) := by
            obtain ⟨A, c, h, h2, -⟩ := (HT2.out wr (HE.out.trans HEr.out)).form
            injection h with _ _ h3
            omega
          have hhas : hasAll AD T2[k].ticket = (AD.ids.contains T2[k].ticket, 0) := by
            unfold hasAll
            rw [if_neg (by simpa using hckd), if_neg (by rw [HTK.out.1]; decide)]
          have KH := Lib.hid (fun (w' : World) (h : Ext wr w') => KHAS.out T2[k].ticket w' (HEW.out.2.trans h))
          rw [hhas] at KH
          have HRM := Lib.hid (show AD.ids.contains T2[k].ticket = true ∨ 12 ≤ AD.ids.length ∨ 999 ≤ AD.version by
            rcases HTK.out.2 with h | h | h
            · exact .inl (by simpa using h)
            · exact .inr (.inl h)
            · exact .inr (.inr h))
          generalize AD.ids.contains T2[k].ticket = zz at *
          generalize T2[k].ticket = tid at *
          clear hhas
          simp only at KH
          go_upto_region 24 with fail
          (apply wp_gen2 (w0 := wr) (g0 := w.heap.size) (g1 := w1.heap.size); (focus (exact rowA)); (focus (exact rowA)); (focus (exact extA)); intro Zt HZt hzZt Rt_0 Rt_1; (try simp only [List.setIfInBounds_toArray, List.set_cons_zero, List.set_cons_succ, World.size_alloc, size_set, World.heap_drewN, size_drew] at hzZt Rt_0 Rt_1); have lt_0 := Rt_0.out.size; have lt_1 := Rt_1.out.size)
          have HVX := Lib.hid (And.intro trivial HZt.out)
          have HK := Lib.hid (fun (w' : World) (h : Ext Zt w') => And.intro (Row.ext h Rt_0.out).2.1 (And.intro (Row.ext h Rt_1.out).2.1 ((((HZt.out.trans h).cells _ _ hb2).trans d0))))
          (refine T_begin (fun w' => Ext Zt w') 12 (by kernel_rfl) ((Ext.refl _).drew) (fun hS => ?_); simp only [List.length_cons, List.length_nil])
          ((refine T_take (i := 0) (v := ?_) rfl (by kernel_rfl) rfl hS ?_ ?_; rotate_left; focus (intro w hSw; have hk := HK.out w hSw; clear hSw; go_simp; try (with_reducible rfl))); (try simp only [Act.put, List.setIfInBounds_toArray, List.set_cons_zero, List.set_cons_succ]); (refine T_take (i := 1) (v := ?_) rfl (by kernel_rfl) rfl hS ?_ ?_; rotate_left; focus (intro w hSw; have hk := HK.out w hSw; clear hSw; go_simp; try (with_reducible rfl))); (try simp only [Act.put, List.setIfInBounds_toArray, List.set_cons_zero, List.set_cons_succ]); (refine T_take (i := 2) (v := ?_) rfl (by kernel_rfl) rfl hS ?_ ?_; rotate_left; focus (intro w hSw; have hk := HK.out w hSw; clear hSw; go_simp; try (with_reducible rfl))); (try simp only [Act.put, List.setIfInBounds_toArray, List.set_cons_zero, List.set_cons_succ]); (refine T_take (i := 3) (v := ?_) rfl (by kernel_rfl) rfl hS ?_ ?_; rotate_left; focus (intro w hSw; have hk := HK.out w hSw; clear hSw; go_simp; try (with_reducible rfl))); (try simp only [Act.put, List.setIfInBounds_toArray, List.set_cons_zero, List.set_cons_succ]); (refine T_take (i := 4) (v := ?_) rfl (by kernel_rfl) rfl hS ?_ ?_; rotate_left; focus (intro w hSw; have hk := HK.out w hSw; clear hSw; go_simp; try (with_reducible rfl))); (try simp only [Act.put, List.setIfInBounds_toArray, List.set_cons_zero, List.set_cons_succ]); (refine T_take (i := 5) (v := ?_) rfl (by kernel_rfl) rfl hS ?_ ?_; rotate_left; focus (intro w hSw; have hk := HK.out w hSw; clear hSw; go_simp; try (with_reducible rfl))); (try simp only [Act.put, List.setIfInBounds_toArray, List.set_cons_zero, List.set_cons_succ]); (refine T_take (i := 6) (v := ?_) rfl (by kernel_rfl) rfl hS ?_ ?_; rotate_left; focus (intro w hSw; have hk := HK.out w hSw; clear hSw; go_simp; try (with_reducible rfl))); (try simp only [Act.put, List.setIfInBounds_toArray, List.set_cons_zero, List.set_cons_succ]))
          (refine T_only (i := 7) rfl (by kernel_rfl) rfl (fun K hK => ?_); go_simp)
          refine (KH.out _ (HVX.out.2.trans (show Ext Zt _ by exact extA))).mono ?_
          rintro e w9 ⟨rfl, h9⟩
          have H9 := Lib.hid h9
          have HV9 := Lib.hid (And.intro trivial (HVX.out.2.trans (Ext.trans (show Ext Zt _ by exact extA) h9)))
          clear h9 hS
          have hS : Ext Zt w9 := by exact extA
          go_wp2_with fail
          (refine hK.out _ _ (.inr hS) ?_; clear hK; (try simp only [Act.put, List.setIfInBounds_toArray, List.set_cons_zero, List.set_cons_succ]))
          ((refine T_takeP (i := 8) (v := ?_) rfl (by kernel_rfl) (by first | exact wanted_none rfl | kernel_rfl) (by first | exact .inr hS | exact .inl (by kernel_rfl)) ?_ ?_; rotate_left; focus (intro w; go_simp; try (with_reducible rfl))); (try simp only [Act.put, List.setIfInBounds_toArray, List.set_cons_zero, List.set_cons_succ]); (refine T_takeP (i := 9) (v := ?_) rfl (by kernel_rfl) (by first | exact wanted_none rfl | kernel_rfl) (by first | exact .inr hS | exact .inl (by kernel_rfl)) ?_ ?_; rotate_left; focus (intro w; go_simp; try (with_reducible rfl))); (try simp only [Act.put, List.setIfInBounds_toArray, List.set_cons_zero, List.set_cons_succ]); (refine T_takeP (i := 10) (v := ?_) rfl (by kernel_rfl) (by first | exact wanted_none rfl | kernel_rfl) (by first | exact .inr hS | exact .inl (by kernel_rfl)) ?_ ?_; rotate_left; focus (intro w; go_simp; try (with_reducible rfl))); (try simp only [Act.put, List.setIfInBounds_toArray, List.set_cons_zero, List.set_cons_succ]))
          ((refine T_only (i := 11) rfl (by kernel_rfl) rfl (fun K hK => ?_); go_simp; refine hK.out _ _ (.inr hS) ?_; clear hK; (try simp only [Act.put, List.setIfInBounds_toArray, List.set_cons_zero, List.set_cons_succ])))
          (refine T_only (i := 12) rfl (by kernel_rfl) rfl (fun K hK => ?_); go_simp; refine hK.out _ _ (.inl (by kernel_rfl)) ?_; clear hK; (try simp only [Act.put, List.setIfInBounds_toArray, List.set_cons_zero, List.set_cons_succ]); refine T_done (by kernel_rfl) ?_ _)
          clear hS HK
          (apply Row.use (w := w9) (g := w.heap.size); (focus (exact rowA)); intro qu_0 fu_0 lu_0 Ru_0; (try simp only [List.setIfInBounds_toArray, List.set_cons_zero, List.set_cons_succ] at qu_0 Ru_0); apply Row.use (w := w9) (g := w1.heap.size); (focus (exact rowA)); intro qu_1 fu_1 lu_1 Ru_1; (try simp only [List.setIfInBounds_toArray, List.set_cons_zero, List.set_cons_succ] at qu_1 Ru_1))
          cases zz
          · have hrm : 12 ≤ AD.ids.length ∨ 999 ≤ AD.version := by
              rcases HRM.out with h | h
              · cases h
              · exact h
            by_cases h12' : (AD.ids.length : Int) < 12
            · have hve : ¬ AD.version < 999 := by omega
              go_wp2_with fail
              go_roundg (T2.length - (k + 1))
              case measure => omega
              case rel => exact ⟨k + 1, by omega, by omega, by go_num, HEr.out.trans (HV9.out.2.trans (show Ext w9 _ by exact extA))⟩
            · go_wp2_with fail
              go_roundg (T2.length - (k + 1))
              case measure => omega
              case rel => exact ⟨k + 1, by omega, by omega, by go_num, HEr.out.trans (HV9.out.2.trans (show Ext w9 _ by exact extA))⟩
          · go_wp2_with fail
            go_roundg (T2.length - (k + 1))
            case measure => omega
            case rel => exact ⟨k + 1, by omega, by omega, by go_num, HEr.out.trans (HV9.out.2.trans (show Ext w9 _ by exact extA))⟩
        · have hkk : ¬ (k : Int) < (T2.length : Int) := by omega
          go_wp2_with fail
          refine (KYY.out _ (by exact HEW.out.2.trans (by exact extA))).mono ?_
          rintro e w9 ⟨⟨t0, t1, t2, ti, tg, tv⟩, vt, rfl, h9, ho, hto⟩
          obtain ⟨D0, kD0, rfl⟩ : ∃ B d, t0 = .slice B AL.tickets.length d := ho.tk.form
          obtain ⟨D1, kD1, rfl⟩ : ∃ B d, t1 = .slice B AL.taps.length d := ho.tp.form
          obtain ⟨D2, kD2, rfl⟩ : ∃ B d, t2 = .slice B AL.verdicts.length d := ho.vd.form
          obtain ⟨D3, kD3, rfl⟩ : ∃ B d, ti = .slice B AD.ids.length d := ho.dn.form
          obtain ⟨D4, kD4, rfl⟩ : ∃ B d, tg = .slice B AG.length d := ho.gt.form
          obtain ⟨D5, kD5, rfl⟩ : ∃ B d, tv = .slice B AV.length d := ho.vw.form
          obtain ⟨D6, kD6, rfl⟩ : ∃ B d, vt = .slice B 0 d := hto.form
          have H9 := Lib.hid h9
          have HD := Lib.hid ho.rd
          have HE9 := Lib.hid (And.intro trivial (HEW.out.2.trans (Ext.trans (show Ext wr _ by exact extA) h9)))
          have hz9 := h9.size
          clear h9 ho hto KYY
          (apply Row.use (w := w9) (g := w.heap.size); (focus (exact rowA)); intro qv_0 fv_0 lv_0 Rv_0; (try simp only [List.setIfInBounds_toArray, List.set_cons_zero, List.set_cons_succ] at qv_0 Rv_0); apply Row.use (w := w9) (g := w1.heap.size); (focus (exact rowA)); intro qv_1 fv_1 lv_1 Rv_1; (try simp only [List.setIfInBounds_toArray, List.set_cons_zero, List.set_cons_succ] at qv_1 Rv_1))
          go_wp2_with fail
          refine (KSS.out ⟨.slice D0 AL.tickets.length kD0, .slice D1 AL.taps.length kD1, .slice D2 AL.verdicts.length kD2, .slice D3 AD.ids.length kD3, .slice D4 AG.length kD4, .slice D5 AV.length kD5⟩ _ (by exact HE9.out.2.trans (by exact extA)) (by exact HD.out.ext (by exact extA))).mono ?_
          rintro e w10 ⟨rfl, h10⟩
          have H10 := Lib.hid h10
          clear h10
          go_wp2_with fail
          go_ret
          exact ⟨rfl, HW4.out.2.trans (HE9.out.2.trans (show Ext w9 _ by exact extA))⟩
end Go.Proofs.YteojjbhadgkfgaaGreat

namespace Go.Proofs.YteojjbhadgkfgaaGreat
set_option linter.unusedSimpArgs false
set_option linter.unusedVariables false
open Go.ChangeShapes Go.WideShapes Go.ChangeAt Go.RowKit
open Go.ChangeMaps (open_string shut_string)

set_option maxRecDepth 100000 in
theorem stationFound_lifted (os : Os) (started : os.Started) (H : Type) (enc : TypeId × Value → H) :
    ReturnsInHanded {} Tryz.checked os 5 .any (Rows.stationFoundSpec.pre6 enc Tryz.prog Tryz.f5 Rows.stationFoundRow.domain false) (Rows.stationFoundSpec.post enc Tryz.prog Tryz.f5 false true false false) := by
  refine returnsInHanded_of_change (C := Tryz.checked) own started (by kernel_rfl) Tryz.func5
    (ChangeSpec.witness6 (enc := enc) (C := Tryz.checked) false ⟨#[], #[.agg #[.slice none 0 0, .slice none 0 0, .slice none 0 0, .int .i64 0, .slice none 0 0, .slice none 0 0, .slice none 0 0], .int .i64 0, .int .i64 0], []⟩ 8 (by kernel_rfl) (by kernel_rfl) (by kernel_rfl) (by kernel_rfl)) ?_
  intro W base args ds gs before hval0 hW hcnd _
  have hval : ∀ (j : Nat) t v, Tryz.f5.params[j]? = some t → args[j]? = some v → Value.okWide Tryz.prog W .any base t v := hval0
  have hW' := hW
  obtain ⟨p, q, hA0, hV, rfl, hfz, hnd⟩ := hW
  have hA : DataW.TrodAll enc Tryz.prog W 0 (fun _ => true) true Tryz.f5.params.toList args.toList ds p := hA0
  rw [Tryz.params5] at hA hval
  obtain ⟨v0, vs0, d0, ds0, p0, q0, hargs, rfl, rfl, h0, r0⟩ := trodAll_cons hA
  obtain ⟨v1, vs1, d1, ds1, p1, q1, rfl, rfl, rfl, h1, r1⟩ := trodAll_cons r0
  obtain ⟨v2, vs2, d2, ds2, p2, q2, rfl, rfl, rfl, h2, r2⟩ := trodAll_cons r1
  obtain ⟨rfl, rfl, rfl⟩ := trodAll_nil r2
  obtain rfl : args = #[v0, v1, v2] := by cases args; simp_all
  obtain ⟨rfl, rfl⟩ := trodVars_none hV
  have k0 := h0
  have lt0 : ∀ x ∈ p0, x.block < W.heap.size := by obtain ⟨m, hm⟩ := k0; exact DataW.trod_lt m _ _ _ hm
  have k1 := h1
  have lt1 : ∀ x ∈ p1, x.block < W.heap.size := by obtain ⟨m, hm⟩ := k1; exact DataW.trod_lt m _ _ _ hm
  have k2 := h2
  have lt2 : ∀ x ∈ p2, x.block < W.heap.size := by obtain ⟨m, hm⟩ := k2; exact DataW.trod_lt m _ _ _ hm
  obtain ⟨t0, x0, rfl, e0⟩ := open_st (hval 0 32 v0 rfl rfl) h0
  obtain ⟨a1, rfl, b1⟩ := open_i64 (hval 1 3 v1 rfl rfl) h1
  obtain ⟨a2, rfl, b2⟩ := open_i64 (hval 2 3 v2 rfl rfl) h2
  clear hA0 hval0
  refine (law_StationFound t0 x0 a1 a2 W e0).mono fun e W' ⟨he, bel⟩ => ?_
  subst he
  exact ⟨_, rfl, _, _, _, [], _, [], hW', trodAll_mk1 (shut_bool Tryz.underlying4 _), (trodAll_cons_mk (Below.trod laidOut (by kernel_rfl) (of_decide_eq_true (by kernel_rfl)) k0 bel lt0) (trodAll_cons_mk (Below.trod laidOut (by kernel_rfl) (of_decide_eq_true (by kernel_rfl)) k1 bel lt1) (trodAll_cons_mk (Below.trod laidOut (by kernel_rfl) (of_decide_eq_true (by kernel_rfl)) k2 bel lt2) trodAll_mk0))), rfl, bel.frame _, fun h => by cases h⟩

theorem stationFound_holds : Rows.StationFoundSaid :=
  OpenClaim.holds_of_wide 5 Tryz.f5 rfl rfl rfl rfl rfl rfl rfl ⟨rfl, rfl, rfl, rfl, rfl⟩ rfl rfl rfl rfl rfl (by kernel_rfl) Tryz.func5 (by kernel_rfl)
    (of_decide_eq_true (by kernel_rfl)) (by unfold Func.isWrapper; first | (rw [if_pos (by decide +kernel)]; kernel_rfl) | (rw [if_neg (by decide +kernel)]; exact ⟨rfl, rfl⟩))
    (fun os started H enc _ => stationFound_lifted os started H enc)

end Go.Proofs.YteojjbhadgkfgaaGreat
