/- My: parts of the proofs, laid together. -/
import Derived.Test.YteojjbhadgkfgaaGreatMs
import Derived.Test.YteojjbhadgkfgaaGreatMa
import Derived.Test.YteojjbhadgkfgaaGreatMe
import Derived.Test.YteojjbhadgkfgaaGreatMl
import Derived.Test.YteojjbhadgkfgaaGreatMw
/- The reference's SameStation. -/
namespace Go.Proofs.YteojjbhadgkfgaaGreat
set_option linter.unusedSimpArgs false
set_option linter.unusedVariables false
set_option maxRecDepth 100000
open Go Go.RowKit Lb

theorem drop_same {α : Type} [DecidableEq α] {l m : List α} {k : Nat} (h1 : k < l.length) (h2 : k < m.length) : decide (l.drop k = m.drop k) = (decide (l[k] = m[k]) && decide (l.drop (k + 1) = m.drop (k + 1))) := by
 have e1 := List.drop_eq_getElem_cons h1
 have e2 := List.drop_eq_getElem_cons h2
 rw [Bool.eq_iff_iff, decide_eq_true_eq, Bool.and_eq_true, decide_eq_true_eq, decide_eq_true_eq, e1, e2, List.cons.injEq]

set_option maxHeartbeats 16000000 in
theorem ref_SameStation (a b : St) (x y : Sv) (w : World) (ha : RdS w x a) (hb : RdS w y b) :
  Calls Tryz.prog 19 #[.agg (sta a x), .agg (sta b y)] w fun e w' => e = .returned (.bool (decide (a = b))) ∧ Ext w w' := by
 have K1 := Lib.hid (fun (w' : World) (h : Ext w w') => ref_SameLedger a.ledger b.ledger x.s0 x.s1 x.s2 y.s0 y.s1 y.s2 w' (ha.tk.ext h) (ha.tp.ext h) (ha.vd.ext h) (hb.tk.ext h) (hb.tp.ext h) (hb.vd.ext h))
 have K2 := Lib.hid (fun (w' : World) (h : Ext w w') => ref_SameDenied a.denied b.denied x.si y.si w' (ha.dn.ext h) (hb.dn.ext h))
 have K3 := Lib.hid (fun (w' : World) (h : Ext w w') => ref_SameViews a.views b.views x.sv y.sv w' (ha.vw.ext h) (hb.vw.ext h))
 have GA := Lib.hid ha.gt
 have GB := Lib.hid hb.gt
 have hres : decide (a = b) = (decide (a.ledger = b.ledger) && (sameDn a.denied b.denied && ((a.views == b.views) && (decide (a.gates.length = b.gates.length) && decide (a.gates.drop 0 = b.gates.drop 0))))) := by
  obtain ⟨a1, a2, a3, a4⟩ := a
  obtain ⟨b1, b2, b3, b4⟩ := b
  have h2 := @sameDn_iff a2 b2
  rw [Bool.eq_iff_iff]
  simp only [St.mk.injEq, decide_eq_true_eq, Bool.and_eq_true, h2, beq_iff_eq, List.drop_zero]
  constructor
  ·rintro ⟨h1, h2, h3, h4⟩; exact ⟨h1, h2, h4, by rw [h3], h3⟩
  ·rintro ⟨h1, h2, h4, -, h3⟩; exact ⟨h1, h2, h3, h4⟩
 generalize decide (a = b) = r at *
 generalize decide (a.ledger = b.ledger) = z1 at *
 generalize sameDn a.denied b.denied = z2 at *
 generalize (a.views == b.views) = z3 at *
 have HRES := Lib.hid hres
 clear hres
 obtain ⟨A0, c0, e0, -, -⟩ := ha.tk.form
 obtain ⟨A1, c1, e1, -, -⟩ := ha.tp.form
 obtain ⟨A2, c2, e2, -, -⟩ := ha.vd.form
 obtain ⟨A3, c3, e3, -, -⟩ := ha.dn.form
 obtain ⟨A4, c4, e4, hc4, -⟩ := ha.gt.form
 obtain ⟨A5, c5, e5, -, -⟩ := ha.vw.form
 obtain ⟨B0, d0, f0, -, -⟩ := hb.tk.form
 obtain ⟨B1, d1, f1, -, -⟩ := hb.tp.form
 obtain ⟨B2, d2, f2, -, -⟩ := hb.vd.form
 obtain ⟨B3, d3, f3, -, -⟩ := hb.dn.form
 obtain ⟨B4, d4, f4, hd4, hm4⟩ := hb.gt.form
 obtain ⟨B5, d5, f5, -, -⟩ := hb.vw.form
 obtain ⟨s0, s1, s2, si, sg, sv⟩ := x
 obtain ⟨t0, t1, t2, ti, tg, tv⟩ := y
 simp only at e0 e1 e2 e3 e4 e5 f0 f1 f2 f3 f4 f5
 obtain ⟨m, hm⟩ : ∃ m, m = b.gates.length := ⟨_, rfl⟩
 rw [← hm] at f4 hd4
 have HM := Lib.hid hm
 clear hm
 subst e0 e1 e2 e3 e4 e5 f0 f1 f2 f3 f4 f5
 have HC := Lib.hid (And.intro hc4 (And.intro hd4 hm4))
 clear ha hb hc4 hd4 hm4
 unfold sta
 simp only at K1 K2 K3 GA GB ⊢
 go_enter Tryz.func19, Tryz.ntmps19
 go_wp2_with fail
 (refine (K1.out _ (by exact extA)).mono ?_; rintro e w1 ⟨rfl, h1⟩; have H1 := Lib.hid h1; have hz1 := h1.size; clear h1; (try simp only [World.size_alloc, size_set, World.heap_drewN, size_drew] at hz1); apply Row.use (w := w1) (g := w.heap.size); (focus (exact rowA)); intro q1_0 f1_0 l1_0 R1_0; (try simp only [lSet] at q1_0 R1_0); apply Row.use (w := w1) (g := w.heap.size + 1); (focus (exact rowA)); intro q1_1 f1_1 l1_1 R1_1; (try simp only [lSet] at q1_1 R1_1))
 cases z1
 ·have HQ := Lib.hid (show r = false by rw [HRES.out]; rfl)
  go_wp2_with fail
  go_ret
  exact ⟨ret_bool HQ.out.symm, (show Ext w _ by exact extA)⟩
 go_wp2_with fail
 (refine (K2.out _ (by exact extA)).mono ?_; rintro e w2 ⟨rfl, h2⟩; have H2 := Lib.hid h2; have hz2 := h2.size; clear h2; (try simp only [World.size_alloc, size_set, World.heap_drewN, size_drew] at hz2); apply Row.use (w := w2) (g := w.heap.size); (focus (exact rowA)); intro q2_0 f2_0 l2_0 R2_0; (try simp only [lSet] at q2_0 R2_0); apply Row.use (w := w2) (g := w.heap.size + 1); (focus (exact rowA)); intro q2_1 f2_1 l2_1 R2_1; (try simp only [lSet] at q2_1 R2_1))
 cases z2
 ·have HQ := Lib.hid (show r = false by rw [HRES.out]; rfl)
  go_wp2_with fail
  go_ret
  exact ⟨ret_bool HQ.out.symm, (show Ext w _ by exact extA)⟩
 go_wp2_with fail
 (refine (K3.out _ (by exact extA)).mono ?_; rintro e w3 ⟨rfl, h3⟩; have H3 := Lib.hid h3; have hz3 := h3.size; clear h3; (try simp only [World.size_alloc, size_set, World.heap_drewN, size_drew] at hz3); apply Row.use (w := w3) (g := w.heap.size); (focus (exact rowA)); intro q3_0 f3_0 l3_0 R3_0; (try simp only [lSet] at q3_0 R3_0); apply Row.use (w := w3) (g := w.heap.size + 1); (focus (exact rowA)); intro q3_1 f3_1 l3_1 R3_1; (try simp only [lSet] at q3_1 R3_1))
 cases z3
 ·have HQ := Lib.hid (show r = false by rw [HRES.out]; rfl)
  go_wp2_with fail
  go_ret
  exact ⟨ret_bool HQ.out.symm, (show Ext w _ by exact extA)⟩
 by_cases hl : a.gates.length = m
 rotate_left
 ·have HQ := Lib.hid (show r = false by have := HM.out; rw [HRES.out]; simp [show ¬ a.gates.length = b.gates.length by omega])
  have hlb : ((a.gates.length : Int) == (m : Int)) = false := by rw [beq_eq_false_iff_ne]; omega
  clear hl
  go_wp2_with fail
  go_ret
  exact ⟨ret_bool HQ.out.symm, (show Ext w _ by exact extA)⟩
 subst hl
 have HQ := Lib.hid (show r = decide (a.gates.drop 0 = b.gates.drop 0) by rw [HRES.out]; simp [HM.out])
 have HL := Lib.hid HM.out
 have HW3 := Lib.hid (And.intro trivial (show Ext w w3 by exact extA))
 have hm3 : a.gates.length ≤ maxLen := by have := HC.out.2.1; have := HC.out.2.2; omega
 unfold maxLen at hm3
 clear HRES HM
 go_wp2_with fail
 go_loopg [5] a.gates.length (fun gg s5 wr => ∃ k : Nat, k ≤ a.gates.length ∧ a.gates.length - k ≤ gg ∧ s5 = .int .i64 k ∧ Aside (Ext w3 wr ∧ r = decide (a.gates.drop k = b.gates.drop k)))
 case atStart => exact ⟨0, Nat.zero_le _, by omega, rfl, Ext.refl _, HQ.out⟩
 case round =>
  obtain ⟨k, hk, hg, rfl, HA⟩ := hrel
  have HE := Lib.hid HA.out.1
  have HR := Lib.hid HA.out.2
  clear HA
  (apply Row.use (w := wr) (g := w.heap.size); (focus (exact rowA)); intro qr_0 fr_0 lr_0 Rr_0; (try simp only [lSet] at qr_0 Rr_0); apply Row.use (w := wr) (g := w.heap.size + 1); (focus (exact rowA)); intro qr_1 fr_1 lr_1 Rr_1; (try simp only [lSet] at qr_1 Rr_1))
  by_cases hlt : k < a.gates.length
  ·have hlt2 : k < b.gates.length := by have := HL.out; omega
   have hi1 : (k : Int) < (a.gates.length : Int) := by omega
   have hi2 : (k : Int) < (b.gates.length : Int) := by omega
   have hi3 : (k : Int) < (c4 : Int) := by have := HC.out; omega
   have hi4 : (k : Int) < (d4 : Int) := by have := HC.out; omega
   have hxw := HW3.out.2.trans HE.out
   obtain ⟨ba, oa, sa1, si1, rfl, hba, ra, rd, g0, g1, g2, g3, g4, g5, g6, g7⟩ := (GA.out.ext hxw).at_ rfl hlt
   obtain ⟨bb, ob, sa2, si2, rfl, hbb, ra2, rd2, h0, h1, h2, h3, h4, h5, h6, h7⟩ := (GB.out.ext hxw).at_ rfl hlt2
   have HD := Lib.hid (show r = (decide (a.gates[k] = b.gates[k]) && decide (a.gates.drop (k + 1) = b.gates.drop (k + 1))) by rw [HR.out, drop_same hlt hlt2])
   have KG := Lib.hid (fun (w' : World) (h : Ext wr w') => ref_SameGate a.gates[k] b.gates[k] sa1 si1 sa2 si2 w' (ra.ext h) (rd.ext h) (ra2.ext h) (rd2.ext h))
   obtain ⟨A8, c8, rfl, -, -⟩ := ra.form
   obtain ⟨A9, c9, rfl, -, -⟩ := rd.form
   obtain ⟨B8, d8, rfl, -, -⟩ := ra2.form
   obtain ⟨B9, d9, rfl, -, -⟩ := rd2.form
   clear ra rd ra2 rd2 hxw HR
   unfold gta at KG
   generalize decide (a.gates[k] = b.gates[k]) = z at *
   generalize a.gates[k] = ga at *
   generalize b.gates[k] = gb at *
   go_upto_region 6 with fail
   (apply wp_gen2 (w0 := wr) (g0 := w.heap.size) (g1 := w.heap.size + 1); (focus (exact rowA)); (focus (exact rowA)); (focus (exact extA)); intro W HW hzW Rz_0 Rz_1; (try simp only [lSet, World.size_alloc, size_set, World.heap_drewN, size_drew] at hzW Rz_0 Rz_1); have lz_0 := Rz_0.out.size; have lz_1 := Rz_1.out.size)
   have HK := Lib.hid (fun (w' : World) (h : Ext W w') => And.intro (Row.ext h Rz_0.out).2.1 (And.intro (Row.ext h Rz_1.out).2.1 (And.intro (((HW.out.trans h).cells _ _ hba).trans g0) (And.intro (((HW.out.trans h).cells _ _ hba).trans g1) (And.intro (((HW.out.trans h).cells _ _ hba).trans g2) (And.intro (((HW.out.trans h).cells _ _ hba).trans g3) (And.intro (((HW.out.trans h).cells _ _ hba).trans g4) (And.intro (((HW.out.trans h).cells _ _ hba).trans g5) (And.intro (((HW.out.trans h).cells _ _ hba).trans g6) (And.intro (((HW.out.trans h).cells _ _ hba).trans g7) (And.intro (((HW.out.trans h).cells _ _ hbb).trans h0) (And.intro (((HW.out.trans h).cells _ _ hbb).trans h1) (And.intro (((HW.out.trans h).cells _ _ hbb).trans h2) (And.intro (((HW.out.trans h).cells _ _ hbb).trans h3) (And.intro (((HW.out.trans h).cells _ _ hbb).trans h4) (And.intro (((HW.out.trans h).cells _ _ hbb).trans h5) (And.intro (((HW.out.trans h).cells _ _ hbb).trans h6) ((((HW.out.trans h).cells _ _ hbb).trans h7)))))))))))))))))))
   (refine T_begin (fun w' => Ext W w') 10 (by kernel_rfl) ((Ext.refl _).drew) (fun hS => ?_); simp only [List.length_cons, List.length_nil])
   (refine tkA 0 HK hS ?_; (try simp only [Act.put, lSet]); refine tkA 1 HK hS ?_; (try simp only [Act.put, lSet]); refine tkA 2 HK hS ?_; (try simp only [Act.put, lSet]); refine tkA 3 HK hS ?_; (try simp only [Act.put, lSet]); refine tkA 4 HK hS ?_; (try simp only [Act.put, lSet]); refine tkA 5 HK hS ?_; (try simp only [Act.put, lSet]); refine tkA 6 HK hS ?_; (try simp only [Act.put, lSet]); refine tkA 7 HK hS ?_; (try simp only [Act.put, lSet]); refine tkA 8 HK hS ?_; (try simp only [Act.put, lSet]); refine tkA 9 HK hS ?_; (try simp only [Act.put, lSet]))
   (refine T_only (i := 10) rfl (by kernel_rfl) rfl (fun K hK => ?_); go_simp)
   refine (KG.out _ (by exact extA)).mono ?_
   rintro e w5 ⟨rfl, hx⟩
   have H5 := Lib.hid hx
   have hz5 := hx.size
   clear hx hS
   (try simp only [size_drew] at hz5)
   go_wp2_with fail
   have hS : Ext W w5 := by exact extA
   refine hK.out _ _ (.inr hS) ?_
   clear hK
   (try simp only [Act.put, lSet])
   (refine T_only (i := 11) rfl (by kernel_rfl) rfl (fun K hK => ?_); go_simp; refine hK.out _ _ (.inl (by kernel_rfl)) ?_; clear hK; (try simp only [Act.put, lSet]); refine T_done (by kernel_rfl) ?_ _)
   clear HK g0 g1 g2 g3 g4 g5 g6 g7 h0 h1 h2 h3 h4 h5 h6 h7
   cases z
   ·have HQ2 := Lib.hid (show r = false by rw [HD.out]; rfl)
    have hq := HW3.out.2
    go_wp2_with fail
    go_ret
    exact ⟨ret_bool HQ2.out.symm, hq.trans (show Ext w3 _ by exact extA)⟩
   ·have HQ2 := Lib.hid (show r = decide (a.gates.drop (k + 1) = b.gates.drop (k + 1)) by rw [HD.out, Bool.true_and])
    go_wp2_with fail
    go_roundg (a.gates.length - (k + 1))
    case measure => omega
    case rel => exact ⟨k + 1, by omega, by omega, by go_num, (show Ext w3 _ by exact extA), HQ2.out⟩
  ·have hge : ¬ (k : Int) < (a.gates.length : Int) := by omega
   have HQ2 := Lib.hid (show r = true by
    have h1 := HL.out
    rw [HR.out, List.drop_eq_nil_of_le (by omega), List.drop_eq_nil_of_le (by omega)]; rfl)
   have hq := HW3.out.2
   go_wp2_with fail
   go_ret
   exact ⟨ret_bool HQ2.out.symm, hq.trans (show Ext w3 _ by exact extA)⟩
end Go.Proofs.YteojjbhadgkfgaaGreat

/- stationIs. -/
namespace Go.Proofs.YteojjbhadgkfgaaGreat
set_option linter.unusedSimpArgs false
set_option linter.unusedVariables false
set_option maxRecDepth 100000
open Go Go.RowKit Lb

theorem RdS.nil {w : World} : RdS w sv0 st0 := ⟨RdL.nil, RdL.nil, RdL.nil, RdL.nil, RdG.nil, RdL.nil⟩
set_option maxHeartbeats 8000000 in
theorem law_stationIs (a b : St) (e1 e2 : Int) (x y : Sv) (w : World) (ha : RdS w x a) (hb : RdS w y b) :
  Calls Tryz.prog 23 #[.agg (sta a x), .int .i64 e1, .int .i64 e2, .agg (sta b y)] w fun e w' => e = .returned (.bool (e1 == e2 && decide (a = if e2 ≠ 0 then st0 else b))) ∧ Ext w w' := by
 have HS := Lib.hid (fun (w' : World) (h : Ext w w') => ref_SameStation a b x y w' (ha.ext h) (hb.ext h))
 have HZ := Lib.hid (fun (w' : World) (h : Ext w w') => ref_SameStation a st0 x sv0 w' (ha.ext h) RdS.nil)
 obtain ⟨A0, c0, e0, -, -⟩ := ha.tk.form
 obtain ⟨A1, c1, e1_, -, -⟩ := ha.tp.form
 obtain ⟨A2, c2, e2_, -, -⟩ := ha.vd.form
 obtain ⟨A3, c3, e3, -, -⟩ := ha.dn.form
 obtain ⟨A4, c4, e4, -, -⟩ := ha.gt.form
 obtain ⟨A5, c5, e5, -, -⟩ := ha.vw.form
 obtain ⟨B0, d0, f0, -, -⟩ := hb.tk.form
 obtain ⟨B1, d1, f1, -, -⟩ := hb.tp.form
 obtain ⟨B2, d2, f2, -, -⟩ := hb.vd.form
 obtain ⟨B3, d3, f3, -, -⟩ := hb.dn.form
 obtain ⟨B4, d4, f4, -, -⟩ := hb.gt.form
 obtain ⟨B5, d5, f5, -, -⟩ := hb.vw.form
 obtain ⟨s0, s1, s2, si, sg, sv⟩ := x
 obtain ⟨t0, t1, t2, ti, tg, tv⟩ := y
 simp only at e0 e1_ e2_ e3 e4 e5 f0 f1 f2 f3 f4 f5
 subst e0 e1_ e2_ e3 e4 e5 f0 f1 f2 f3 f4 f5
 clear ha hb
 unfold sta at HS HZ
 unfold sv0 at HZ
 unfold sta
 have hif : (decide (a = if e2 ≠ 0 then st0 else b)) = if e2 ≠ 0 then decide (a = st0) else decide (a = b) := by split <;> rfl
 rw [hif]
 clear hif
 generalize decide (a = st0) = q0 at *
 generalize decide (a = b) = q1 at *
 simp only [st0, ld0, dn0, List.length_nil] at HS HZ ⊢
 by_cases h2 : e2 = 0
 ·have hb2 : (e2 != 0) = false := by simpa using h2
  rw [if_neg (by simpa using h2)]
  clear h2 HZ
  by_cases h1 : e1 = e2
  ·have hb1 : (e1 == e2) = true := by simpa using h1
   rw [hb1, Bool.true_and]
   clear h1
   go_enter Tryz.func23, Tryz.ntmps23
   go_wp2_with fail
   (refine (HS.out _ (by exact extA)).mono ?_; rintro e w1 ⟨rfl, h1⟩; have H1 := Lib.hid h1; have hz1 := h1.size; clear h1; (try simp only [World.size_alloc, size_set, World.heap_drewN, size_drew] at hz1))
   go_wp2_with fail
   go_ret
   refine ⟨ret_bool rfl, ?_⟩
   exact extA
  ·have hb1 : (e1 == e2) = false := by simpa using h1
   rw [hb1, Bool.false_and]
   clear h1
   go_enter Tryz.func23, Tryz.ntmps23
   go_wp2_with fail
   go_ret
   refine ⟨ret_bool rfl, ?_⟩
   exact extA
 ·have hb2 : (e2 != 0) = true := by simpa using h2
  rw [if_pos (by simpa using h2)]
  clear h2 HS
  by_cases h1 : e1 = e2
  ·have hb1 : (e1 == e2) = true := by simpa using h1
   rw [hb1, Bool.true_and]
   clear h1
   go_enter Tryz.func23, Tryz.ntmps23
   go_wp2_with fail
   (refine (HZ.out _ (by exact extA)).mono ?_; rintro e w1 ⟨rfl, h1⟩; have H1 := Lib.hid h1; have hz1 := h1.size; clear h1; (try simp only [World.size_alloc, size_set, World.heap_drewN, size_drew] at hz1))
   go_wp2_with fail
   go_ret
   refine ⟨ret_bool rfl, ?_⟩
   exact extA
  ·have hb1 : (e1 == e2) = false := by simpa using h1
   rw [hb1, Bool.false_and]
   clear h1
   go_enter Tryz.func23, Tryz.ntmps23
   go_wp2_with fail
   go_ret
   refine ⟨ret_bool rfl, ?_⟩
   exact extA
theorem law_stationIs_so (a b : St) (e1 : Int) (x y : Sv) (w : World) (ha : RdS w x a) (hb : RdS w y b) (h : a = if e1 ≠ 0 then st0 else b) :
  Calls Tryz.prog 23 #[.agg (sta a x), .int .i64 e1, .int .i64 e1, .agg (sta b y)] w fun e w' => e = .returned (.bool true) ∧ Ext w w' := by
 have := law_stationIs a b e1 e1 x y w ha hb
 rw [decide_eq_true h] at this
 simpa using this
end Go.Proofs.YteojjbhadgkfgaaGreat
