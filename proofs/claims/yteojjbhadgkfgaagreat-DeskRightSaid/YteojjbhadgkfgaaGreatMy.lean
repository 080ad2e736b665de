/- My: parts of the proofs, laid together. -/
import Derived.Test.YteojjbhadgkfgaaGreatMs
import Derived.Test.YteojjbhadgkfgaaGreatMa
import Derived.Test.YteojjbhadgkfgaaGreatMe
import Derived.Test.YteojjbhadgkfgaaGreatMl
import Derived.Test.YteojjbhadgkfgaaGreatMw
import Derived.Test.YteojjbhadgkfgaaGreatMx
import Derived.Test.YteojjbhadgkfgaaGreatMg
import Derived.Test.YteojjbhadgkfgaaGreatMc
import Derived.Test.YteojjbhadgkfgaaGreatMk
import Derived.Test.YteojjbhadgkfgaaGreatMu
/- The reference's SameStation. -/
namespace Go.Proofs.YteojjbhadgkfgaaGreat
set_option linter.unusedSimpArgs false
set_option linter.unusedVariables false
set_option maxRecDepth 100000
open Go Go.RowKit Lb

theorem drop_same {α : Type} [DecidableEq α] {l m : List α} {k : Nat} (h1 : k < l.length) (h2 : k < m.length) : decide (l.drop k = m.drop k) = (decide (l[k] = m[k]) && decide (l.drop (k + 1) = m.drop (k + 1))) := by
 have e1 := List.drop_eq_getElem_cons h1
 have e2 := List.drop_eq_getElem_cons h2
 rw [Bool.eq_iff_iff, decide_eq_true_eq, Bool.and_eq_true, decide_eq_true_eq, decide_eq_true_eq, e1, e2, List.cons.injEq]

set_option maxHeartbeats 16000000 in
theorem ref_SameStation (a b : St) (x y : Sv) (w : World) (ha : RdS w x a) (hb : RdS w y b) :
  Calls Tryz.prog 19 #[.agg (sta a x), .agg (sta b y)] w fun e w' => e = .returned (.bool (decide (a = b))) ∧ Ext w w' := by
 have K1 := Lib.hid (fun (w' : World) (h : Ext w w') => ref_SameLedger a.ledger b.ledger x.s0 x.s1 x.s2 y.s0 y.s1 y.s2 w' (ha.tk.ext h) (ha.tp.ext h) (ha.vd.ext h) (hb.tk.ext h) (hb.tp.ext h) (hb.vd.ext h))
 have K2 := Lib.hid (fun (w' : World) (h : Ext w w') => ref_SameDenied a.denied b.denied x.si y.si w' (ha.dn.ext h) (hb.dn.ext h))
 have K3 := Lib.hid (fun (w' : World) (h : Ext w w') => ref_SameViews a.views b.views x.sv y.sv w' (ha.vw.ext h) (hb.vw.ext h))
 have GA := Lib.hid ha.gt
 have GB := Lib.hid hb.gt
 have hres : decide (a = b) = (decide (a.ledger = b.ledger) && (sameDn a.denied b.denied && ((a.views == b.views) && (decide (a.gates.length = b.gates.length) && decide (a.gates.drop 0 = b.gates.drop 0))))) := by
  obtain ⟨a1, a2, a3, a4⟩ := a
  obtain ⟨b1, b2, b3, b4⟩ := b
  have h2 := @sameDn_iff a2 b2
  rw [Bool.eq_iff_iff]
  simp only [St.mk.injEq, decide_eq_true_eq, Bool.and_eq_true, h2, beq_iff_eq, List.drop_zero]
  constructor
  ·rintro ⟨h1, h2, h3, h4⟩; exact ⟨h1, h2, h4, by rw [h3], h3⟩
  ·rintro ⟨h1, h2, h4, -, h3⟩; exact ⟨h1, h2, h3, h4⟩
 generalize decide (a = b) = r at *
 generalize decide (a.ledger = b.ledger) = z1 at *
 generalize sameDn a.denied b.denied = z2 at *
 generalize (a.views == b.views) = z3 at *
 have HRES := Lib.hid hres
 clear hres
 obtain ⟨A0, c0, e0, -, -⟩ := ha.tk.form
 obtain ⟨A1, c1, e1, -, -⟩ := ha.tp.form
 obtain ⟨A2, c2, e2, -, -⟩ := ha.vd.form
 obtain ⟨A3, c3, e3, -, -⟩ := ha.dn.form
 obtain ⟨A4, c4, e4, hc4, -⟩ := ha.gt.form
 obtain ⟨A5, c5, e5, -, -⟩ := ha.vw.form
 obtain ⟨B0, d0, f0, -, -⟩ := hb.tk.form
 obtain ⟨B1, d1, f1, -, -⟩ := hb.tp.form
 obtain ⟨B2, d2, f2, -, -⟩ := hb.vd.form
 obtain ⟨B3, d3, f3, -, -⟩ := hb.dn.form
 obtain ⟨B4, d4, f4, hd4, hm4⟩ := hb.gt.form
 obtain ⟨B5, d5, f5, -, -⟩ := hb.vw.form
 obtain ⟨s0, s1, s2, si, sg, sv⟩ := x
 obtain ⟨t0, t1, t2, ti, tg, tv⟩ := y
 simp only at e0 e1 e2 e3 e4 e5 f0 f1 f2 f3 f4 f5
 obtain ⟨m, hm⟩ : ∃ m, m = b.gates.length := ⟨_, rfl⟩
 rw [← hm] at f4 hd4
 have HM := Lib.hid hm
 clear hm
 subst e0 e1 e2 e3 e4 e5 f0 f1 f2 f3 f4 f5
 have HC := Lib.hid (And.intro hc4 (And.intro hd4 hm4))
 clear ha hb hc4 hd4 hm4
 unfold sta
 simp only at K1 K2 K3 GA GB ⊢
 go_enter Tryz.func19, Tryz.ntmps19
 go_wp2_with fail
 (refine (K1.out _ (by exact extA)).mono ?_; rintro e w1 ⟨rfl, h1⟩; have H1 := Lib.hid h1; have hz1 := h1.size; clear h1; (try simp only [World.size_alloc, size_set, World.heap_drewN, size_drew] at hz1); apply Row.use (w := w1) (g := w.heap.size); (focus (exact rowA)); intro q1_0 f1_0 l1_0 R1_0; (try simp only [lSet] at q1_0 R1_0); apply Row.use (w := w1) (g := w.heap.size + 1); (focus (exact rowA)); intro q1_1 f1_1 l1_1 R1_1; (try simp only [lSet] at q1_1 R1_1))
 cases z1
 ·have HQ := Lib.hid (show r = false by rw [HRES.out]; rfl)
  go_wp2_with fail
  go_ret
  exact ⟨ret_bool HQ.out.symm, (show Ext w _ by exact extA)⟩
 go_wp2_with fail
 (refine (K2.out _ (by exact extA)).mono ?_; rintro e w2 ⟨rfl, h2⟩; have H2 := Lib.hid h2; have hz2 := h2.size; clear h2; (try simp only [World.size_alloc, size_set, World.heap_drewN, size_drew] at hz2); apply Row.use (w := w2) (g := w.heap.size); (focus (exact rowA)); intro q2_0 f2_0 l2_0 R2_0; (try simp only [lSet] at q2_0 R2_0); apply Row.use (w := w2) (g := w.heap.size + 1); (focus (exact rowA)); intro q2_1 f2_1 l2_1 R2_1; (try simp only [lSet] at q2_1 R2_1))
 cases z2
 ·have HQ := Lib.hid (show r = false by rw [HRES.out]; rfl)
  go_wp2_with fail
  go_ret
  exact ⟨ret_bool HQ.out.symm, (show Ext w _ by exact extA)⟩
 go_wp2_with fail
 (refine (K3.out _ (by exact extA)).mono ?_; rintro e w3 ⟨rfl, h3⟩; have H3 := Lib.hid h3; have hz3 := h3.size; clear h3; (try simp only [World.size_alloc, size_set, World.heap_drewN, size_drew] at hz3); apply Row.use (w := w3) (g := w.heap.size); (focus (exact rowA)); intro q3_0 f3_0 l3_0 R3_0; (try simp only [lSet] at q3_0 R3_0); apply Row.use (w := w3) (g := w.heap.size + 1); (focus (exact rowA)); intro q3_1 f3_1 l3_1 R3_1; (try simp only [lSet] at q3_1 R3_1))
 cases z3
 ·have HQ := Lib.hid (show r = false by rw [HRES.out]; rfl)
  go_wp2_with fail
  go_ret
  exact ⟨ret_bool HQ.out.symm, (show Ext w _ by exact extA)⟩
 by_cases hl : a.gates.length = m
 rotate_left
 ·have HQ := Lib.hid (show r = false by have := HM.out; rw [HRES.out]; simp [show ¬ a.gates.length = b.gates.length by omega])
  have hlb : ((a.gates.length : Int) == (m : Int)) = false := by rw [beq_eq_false_iff_ne]; omega
  clear hl
  go_wp2_with fail
  go_ret
  exact ⟨ret_bool HQ.out.symm, (show Ext w _ by exact extA)⟩
 subst hl
 have HQ := Lib.hid (show r = decide (a.gates.drop 0 = b.gates.drop 0) by rw [HRES.out]; simp [HM.out])
 have HL := Lib.hid HM.out
 have HW3 := Lib.hid (And.intro trivial (show Ext w w3 by exact extA))
 have hm3 : a.gates.length ≤ maxLen := by have := HC.out.2.1; have := HC.out.2.2; omega
 unfold maxLen at hm3
 clear HRES HM
 go_wp2_with fail
 go_loopg [5] a.gates.length (fun gg s5 wr => ∃ k : Nat, k ≤ a.gates.length ∧ a.gates.length - k ≤ gg ∧ s5 = .int .i64 k ∧ Aside (Ext w3 wr ∧ r = decide (a.gates.drop k = b.gates.drop k)))
 case atStart => exact ⟨0, Nat.zero_le _, by omega, rfl, Ext.refl _, HQ.out⟩
 case round =>
  obtain ⟨k, hk, hg, rfl, HA⟩ := hrel
  have HE := Lib.hid HA.out.1
  have HR := Lib.hid HA.out.2
  clear HA
  (apply Row.use (w := wr) (g := w.heap.size); (focus (exact rowA)); intro qr_0 fr_0 lr_0 Rr_0; (try simp only [lSet] at qr_0 Rr_0); apply Row.use (w := wr) (g := w.heap.size + 1); (focus (exact rowA)); intro qr_1 fr_1 lr_1 Rr_1; (try simp only [lSet] at qr_1 Rr_1))
  by_cases hlt : k < a.gates.length
  ·have hlt2 : k < b.gates.length := by have := HL.out; omega
   have hi1 : (k : Int) < (a.gates.length : Int) := by omega
   have hi2 : (k : Int) < (b.gates.length : Int) := by omega
   have hi3 : (k : Int) < (c4 : Int) := by have := HC.out; omega
   have hi4 : (k : Int) < (d4 : Int) := by have := HC.out; omega
   have hxw := HW3.out.2.trans HE.out
   obtain ⟨ba, oa, sa1, si1, rfl, hba, ra, rd, g0, g1, g2, g3, g4, g5, g6, g7⟩ := (GA.out.ext hxw).at_ rfl hlt
   obtain ⟨bb, ob, sa2, si2, rfl, hbb, ra2, rd2, h0, h1, h2, h3, h4, h5, h6, h7⟩ := (GB.out.ext hxw).at_ rfl hlt2
   have HD := Lib.hid (show r = (decide (a.gates[k] = b.gates[k]) && decide (a.gates.drop (k + 1) = b.gates.drop (k + 1))) by rw [HR.out, drop_same hlt hlt2])
   have KG := Lib.hid (fun (w' : World) (h : Ext wr w') => ref_SameGate a.gates[k] b.gates[k] sa1 si1 sa2 si2 w' (ra.ext h) (rd.ext h) (ra2.ext h) (rd2.ext h))
   obtain ⟨A8, c8, rfl, -, -⟩ := ra.form
   obtain ⟨A9, c9, rfl, -, -⟩ := rd.form
   obtain ⟨B8, d8, rfl, -, -⟩ := ra2.form
   obtain ⟨B9, d9, rfl, -, -⟩ := rd2.form
   clear ra rd ra2 rd2 hxw HR
   unfold gta at KG
   generalize decide (a.gates[k] = b.gates[k]) = z at *
   generalize a.gates[k] = ga at *
   generalize b.gates[k] = gb at *
   go_upto_region 6 with fail
   (apply wp_gen2 (w0 := wr) (g0 := w.heap.size) (g1 := w.heap.size + 1); (focus (exact rowA)); (focus (exact rowA)); (focus (exact extA)); intro W HW hzW Rz_0 Rz_1; (try simp only [lSet, World.size_alloc, size_set, World.heap_drewN, size_drew] at hzW Rz_0 Rz_1); have lz_0 := Rz_0.out.size; have lz_1 := Rz_1.out.size)
   have HK := Lib.hid (fun (w' : World) (h : Ext W w') => And.intro (Row.ext h Rz_0.out).2.1 (And.intro (Row.ext h Rz_1.out).2.1 (And.intro (((HW.out.trans h).cells _ _ hba).trans g0) (And.intro (((HW.out.trans h).cells _ _ hba).trans g1) (And.intro (((HW.out.trans h).cells _ _ hba).trans g2) (And.intro (((HW.out.trans h).cells _ _ hba).trans g3) (And.intro (((HW.out.trans h).cells _ _ hba).trans g4) (And.intro (((HW.out.trans h).cells _ _ hba).trans g5) (And.intro (((HW.out.trans h).cells _ _ hba).trans g6) (And.intro (((HW.out.trans h).cells _ _ hba).trans g7) (And.intro (((HW.out.trans h).cells _ _ hbb).trans h0) (And.intro (((HW.out.trans h).cells _ _ hbb).trans h1) (And.intro (((HW.out.trans h).cells _ _ hbb).trans h2) (And.intro (((HW.out.trans h).cells _ _ hbb).trans h3) (And.intro (((HW.out.trans h).cells _ _ hbb).trans h4) (And.intro (((HW.out.trans h).cells _ _ hbb).trans h5) (And.intro (((HW.out.trans h).cells _ _ hbb).trans h6) ((((HW.out.trans h).cells _ _ hbb).trans h7)))))))))))))))))))
   (refine T_begin (fun w' => Ext W w') 10 (by kernel_rfl) ((Ext.refl _).drew) (fun hS => ?_); simp only [List.length_cons, List.length_nil])
   ((refine T_take (i := 0) (v := ?_) rfl (by kernel_rfl) rfl hS ?_ ?_; rotate_left; focus (intro w hSw; have hk := HK.out w hSw; clear hSw; go_simp; try (with_reducible rfl))); (try simp only [Act.put, lSet]); (refine T_take (i := 1) (v := ?_) rfl (by kernel_rfl) rfl hS ?_ ?_; rotate_left; focus (intro w hSw; have hk := HK.out w hSw; clear hSw; go_simp; try (with_reducible rfl))); (try simp only [Act.put, lSet]); (refine T_take (i := 2) (v := ?_) rfl (by kernel_rfl) rfl hS ?_ ?_; rotate_left; focus (intro w hSw; have hk := HK.out w hSw; clear hSw; go_simp; try (with_reducible rfl))); (try simp only [Act.put, lSet]); (refine T_take (i := 3) (v := ?_) rfl (by kernel_rfl) rfl hS ?_ ?_; rotate_left; focus (intro w hSw; have hk := HK.out w hSw; clear hSw; go_simp; try (with_reducible rfl))); (try simp only [Act.put, lSet]); (refine T_take (i := 4) (v := ?_) rfl (by kernel_rfl) rfl hS ?_ ?_; rotate_left; focus (intro w hSw; have hk := HK.out w hSw; clear hSw; go_simp; try (with_reducible rfl))); (try simp only [Act.put, lSet]); (refine T_take (i := 5) (v := ?_) rfl (by kernel_rfl) rfl hS ?_ ?_; rotate_left; focus (intro w hSw; have hk := HK.out w hSw; clear hSw; go_simp; try (with_reducible rfl))); (try simp only [Act.put, lSet]); (refine T_take (i := 6) (v := ?_) rfl (by kernel_rfl) rfl hS ?_ ?_; rotate_left; focus (intro w hSw; have hk := HK.out w hSw; clear hSw; go_simp; try (with_reducible rfl))); (try simp only [Act.put, lSet]); (refine T_take (i := 7) (v := ?_) rfl (by kernel_rfl) rfl hS ?_ ?_; rotate_left; focus (intro w hSw; have hk := HK.out w hSw; clear hSw; go_simp; try (with_reducible rfl))); (try simp only [Act.put, lSet]); (refine T_take (i := 8) (v := ?_) rfl (by kernel_rfl) rfl hS ?_ ?_; rotate_left; focus (intro w hSw; have hk := HK.out w hSw; clear hSw; go_simp; try (with_reducible rfl))); (try simp only [Act.put, lSet]); (refine T_take (i := 9) (v := ?_) rfl (by kernel_rfl) rfl hS ?_ ?_; rotate_left; focus (intro w hSw; have hk := HK.out w hSw; clear hSw; go_simp; try (with_reducible rfl))); (try simp only [Act.put, lSet]))
   (refine T_only (i := 10) rfl (by kernel_rfl) rfl (fun K hK => ?_); go_simp)
   refine (KG.out _ (by exact extA)).mono ?_
   rintro e w5 ⟨rfl, hx⟩
   have H5 := Lib.hid hx
   have hz5 := hx.size
   clear hx hS
   (try simp only [size_drew] at hz5)
   go_wp2_with fail
   have hS : Ext W w5 := by exact extA
   refine hK.out _ _ (.inr hS) ?_
   clear hK
   (try simp only [Act.put, lSet])
   (refine T_only (i := 11) rfl (by kernel_rfl) rfl (fun K hK => ?_); go_simp; refine hK.out _ _ (.inl (by kernel_rfl)) ?_; clear hK; (try simp only [Act.put, lSet]); refine T_done (by kernel_rfl) ?_ _)
   clear HK g0 g1 g2 g3 g4 g5 g6 g7 h0 h1 h2 h3 h4 h5 h6 h7
   cases z
   ·have HQ2 := Lib.hid (show r = false by rw [HD.out]; rfl)
    have hq := HW3.out.2
    go_wp2_with fail
    go_ret
    exact ⟨ret_bool HQ2.out.symm, hq.trans (show Ext w3 _ by exact extA)⟩
   ·have HQ2 := Lib.hid (show r = decide (a.gates.drop (k + 1) = b.gates.drop (k + 1)) by rw [HD.out, Bool.true_and])
    go_wp2_with fail
    go_roundg (a.gates.length - (k + 1))
    case measure => omega
    case rel => exact ⟨k + 1, by omega, by omega, by go_num, (show Ext w3 _ by exact extA), HQ2.out⟩
  ·have hge : ¬ (k : Int) < (a.gates.length : Int) := by omega
   have HQ2 := Lib.hid (show r = true by
    have h1 := HL.out
    rw [HR.out, List.drop_eq_nil_of_le (by omega), List.drop_eq_nil_of_le (by omega)]; rfl)
   have hq := HW3.out.2
   go_wp2_with fail
   go_ret
   exact ⟨ret_bool HQ2.out.symm, hq.trans (show Ext w3 _ by exact extA)⟩
end Go.Proofs.YteojjbhadgkfgaaGreat

/- stationIs. -/
namespace Go.Proofs.YteojjbhadgkfgaaGreat
set_option linter.unusedSimpArgs false
set_option linter.unusedVariables false
set_option maxRecDepth 100000
open Go Go.RowKit Lb

theorem RdS.nil {w : World} : RdS w sv0 st0 := ⟨RdL.nil, RdL.nil, RdL.nil, RdL.nil, RdG.nil, RdL.nil⟩
end Go.Proofs.YteojjbhadgkfgaaGreat

/- desk.Run. -/
namespace Go.Proofs.YteojjbhadgkfgaaGreat
set_option linter.unusedSimpArgs false
set_option linter.unusedVariables false
set_option maxRecDepth 100000
open Go Go.RowKit Lb

def runAll (l : List Ac) : St × List Int × Int := if 40 < l.length then (st0, [], 2) else ((runS newS l).1, (runS newS l).2, 0)
theorem info_er : (Tryz.prog.info? 35).map (fun i => (i.zero, i.size, i.bytes)) = some (some (.int .i64 0), 1, 8) := by kernel_rfl
theorem er_one (l : List Int) : ∀ u ∈ encs inc l, u.oneCell' = true := by
 intro u hu
 obtain ⟨x, -, hx⟩ := List.mem_flatMap.1 hu
 simp [inc] at hx
 subst hx
 rfl
theorem Ck.fr {own : Nat → Prop} {base p : Nat} {w w' : World} {y : Sv} {s : St} {n : Int} (hk : Ck base w p y s n) (hf : Fr own w w') (hp : ¬ own p) (hn : ∀ q, own q → ∃ e2 cs, Bx w q e2 cs ∧ e2 ∉ spT) : Ck base w' p y s n := ⟨hk.box.fr hf hp, hk.ge, hk.own.keep hf hn⟩
set_option maxHeartbeats 16000000 in
theorem desk_Run (l : List Ac) (v : Value) (w : World) (hr : RdL 10 acc w v l) :
  Calls Tryz.prog 41 #[v] w fun e w' => ∃ x' u, e = .returned (.tuple #[.agg (sta (runAll l).1 x'), u, .int .i64 (runAll l).2.2]) ∧ Ext w w' ∧ OwnS w.heap.size w' x' (runAll l).1 ∧ OwnL 35 1 inc w.heap.size w' u (runAll l).2.1 := by
 obtain ⟨A, c, rfl, hlc, hmc⟩ := hr.form
 have hres : runAll l = if 40 < l.length then (st0, [], 2) else ((runS newS l).1, (runS newS l).2, 0) := rfl
 generalize runAll l = R at *
 have HRL := Lib.hid hr
 have hl9 : l.length ≤ 9223372036854775807 := by unfold maxLen at hmc; omega
 have HLC := Lib.hid hlc
 clear hr hlc hmc
 by_cases h40 : 40 < l.length
 case pos =>
  rw [if_pos h40] at hres
  subst hres
  have h4i : (40 : Int) < (l.length : Int) := by omega
  clear h40
  go_enter Tryz.func41, Tryz.ntmps41
  go_wp2_with fail
  exact bodyPost_ret (v := .tuple #[.agg #[.slice none 0 0, .slice none 0 0, .slice none 0 0, .int .i64 0, .slice none 0 0, .slice none 0 0, .slice none 0 0], .slice none 0 0, .int .i64 2]) (by simp [results, Tryz.results41, go_sem, *]) rfl ⟨sv0, _, rfl, (show Ext w _ by exact extA), OwnS.nil, OwnL.nil⟩
 rw [if_neg h40] at hres
 have H40 := Lib.hid h40
 have h4i : ¬ (40 : Int) < (l.length : Int) := by omega
 obtain ⟨RS, hRS⟩ : ∃ r, r = runS newS l := ⟨_, rfl⟩
 rw [← hRS] at hres
 have HRS := Lib.hid hRS
 subst hres
 simp only
 clear hRS h40
 obtain ⟨i0, ji, ji0, ji1, ji2⟩ := info_parts info_er
 go_enter Tryz.func41, Tryz.ntmps41
 go_wp2_with fail
 refine (station_New_own _).mono ?_
 rintro e w1 ⟨⟨t0, t1, t2, ti, tg, tv⟩, rfl, h1, ho⟩
 obtain ⟨B0, kB0, rfl⟩ : ∃ B d, t0 = .slice B 0 d := ho.tk.form
 obtain ⟨B1, kB1, rfl⟩ : ∃ B d, t1 = .slice B 0 d := ho.tp.form
 obtain ⟨B2, kB2, rfl⟩ : ∃ B d, t2 = .slice B 0 d := ho.vd.form
 obtain ⟨B3, kB3, rfl⟩ : ∃ B d, ti = .slice B 0 d := ho.dn.form
 obtain ⟨B4, kB4, rfl⟩ : ∃ B d, tg = .slice B 3 d := ho.gt.form
 obtain ⟨B5, kB5, rfl⟩ : ∃ B d, tv = .slice B 3 d := ho.vw.form
 rw [show sta newS ⟨.slice B0 0 kB0, .slice B1 0 kB1, .slice B2 0 kB2, .slice B3 0 kB3, .slice B4 3 kB4, .slice B5 3 kB5⟩ = #[.slice B0 0 kB0, .slice B1 0 kB1, .slice B2 0 kB2, .int .i64 0, .slice B3 0 kB3, .slice B4 3 kB4, .slice B5 3 kB5] from rfl]
 have H1 := Lib.hid h1
 have hz1 := h1.size
 have HO := Lib.hid ho
 (try simp only [World.size_alloc] at hz1 HO)
 have HW1 := Lib.hid (And.intro trivial (show Ext w w1 by exact extA))
 have HR1 := Lib.hid (show Row (w1.alloc (.cells #[.slice B0 0 kB0, .slice B1 0 kB1, .slice B2 0 kB2, .int .i64 0, .slice B3 0 kB3, .slice B4 3 kB4, .slice B5 3 kB5, .int .i64 0] 126)) w.heap.size #[.slice none 0 0, .slice none 0 0, .slice none 0 0, .int .i64 0, .slice none 0 0, .slice none 0 0, .slice none 0 0] from Row.alloc (Row.ext h1 (Row.newAt rfl)))
 have HCK := Lib.hid (show Ck (w.heap.size + 1) (w1.alloc (.cells #[.slice B0 0 kB0, .slice B1 0 kB1, .slice B2 0 kB2, .int .i64 0, .slice B3 0 kB3, .slice B4 3 kB4, .slice B5 3 kB5, .int .i64 0] 126)) w1.heap.size ⟨.slice B0 0 kB0, .slice B1 0 kB1, .slice B2 0 kB2, .slice B3 0 kB3, .slice B4 3 kB4, .slice B5 3 kB5⟩ newS 0 from ⟨Bx.new, by omega, HO.out.ext ((Ext.refl _).alloc _)⟩)
 obtain ⟨p, hp⟩ : ∃ p, p = w1.heap.size := ⟨_, rfl⟩
 have hpw : w.heap.size + 1 ≤ p := by omega
 clear h1 ho HO
 go_wp2_with fail
 go_loopg [6, 8, 18] l.length (fun gg s6 _ s18 wr => ∃ (k : Nat) (sk : St) (nk : Int) (y : Sv) (dn : List Int) (D : Option Addr) (d : Nat), k ≤ l.length ∧ l.length - k ≤ gg ∧ s6 = .slice D dn.length d ∧ s18 = .int .i64 k ∧ Aside (Ext w wr ∧ Row wr w.heap.size #[.slice none 0 0, .slice none 0 0, .slice none 0 0, .int .i64 0, .slice none 0 0, .slice none 0 0, .slice none 0 0] ∧ Ck (w.heap.size + 1) wr w1.heap.size y sk nk ∧ RightS sk ∧ OwnL 35 1 inc (w.heap.size + 1) wr (.slice D dn.length d) dn ∧ dn.length = k ∧ RS.1 = (runS sk (l.drop k)).1 ∧ RS.2 = dn ++ (runS sk (l.drop k)).2))
 case atStart => exact ⟨0, newS, 0, _, [], none, 0, Nat.zero_le _, by omega, rfl, rfl, HW1.out.2.alloc _, HR1.out, HCK.out, newS_right, OwnL.nil, rfl, by rw [HRS.out]; rfl, by rw [HRS.out]; rfl⟩
 case round =>
  obtain ⟨k, sk, nk, y, dn, D, d, hk, hg, rfl, rfl, HA⟩ := hrel
  obtain ⟨hx, hrw, hck, hrs, hod, hdk, hr1, hr2⟩ := HA.out
  have HX := Lib.hid hx
  have HRW := Lib.hid hrw
  have HK := Lib.hid hck
  have HRT := Lib.hid hrs
  have HOD := Lib.hid hod
  have HDK := Lib.hid hdk
  have HR1' := Lib.hid hr1
  have HR2' := Lib.hid hr2
  have hxs := hx.size
  have hpr := hck.box.lt
  have hwr := hrw.1
  clear HA hx hrw hck hrs hod hdk hr1 hr2 HCK HR1
  by_cases hlt : k < l.length
  ·have hli : (k : Int) < (l.length : Int) := by omega
   obtain ⟨b, o, c', hv, hb, hc⟩ := (HRL.out.ext HX.out).at_ hlt
   injection hv with hA hA2 hA3
   subst hA hA3
   clear hA2
   have hkc : (k : Int) < (c : Int) := by have := HLC.out; omega
   have HS1 := Lib.hid (show RS.1 = (runS (doS sk nk l[k]).1 (l.drop (k + 1))).1 by
    rw [HR1'.out, List.drop_eq_getElem_cons hlt]
    show (runS (doS sk 0 l[k]).1 (l.drop (k + 1))).1 = _
    rw [(doS_n sk nk 0 l[k]).1])
   have HS2 := Lib.hid (show RS.2 = (dn ++ [(doS sk nk l[k]).2.2]) ++ (runS (doS sk nk l[k]).1 (l.drop (k + 1))).2 by
    rw [HR2'.out, List.drop_eq_getElem_cons hlt]
    show dn ++ ((doS sk 0 l[k]).2.2 :: (runS (doS sk 0 l[k]).1 (l.drop (k + 1))).2) = _
    rw [(doS_n sk nk 0 l[k]).1, (doS_n sk nk 0 l[k]).2]
    simp)
   have HRT2 := Lib.hid (doS_right (n := nk) (a := l[k]) HRT.out)
   have c0 : wr.cell? ⟨b, o + k * 10, none⟩ = some (.int .i64 l[k].kind) := hc 0 _ rfl
   have c1 : wr.cell? ⟨b, o + k * 10 + 1, none⟩ = some (.int .i64 l[k].id) := hc 1 _ rfl
   have c2 : wr.cell? ⟨b, o + k * 10 + 2, none⟩ = some (.int .i64 l[k].of) := hc 2 _ rfl
   have c3 : wr.cell? ⟨b, o + k * 10 + 3, none⟩ = some (.int .i64 l[k].time) := hc 3 _ rfl
   have c4 : wr.cell? ⟨b, o + k * 10 + 4, none⟩ = some (.int .i64 l[k].ticket.id) := hc 4 _ rfl
   have c5 : wr.cell? ⟨b, o + k * 10 + 5, none⟩ = some (.int .i64 l[k].ticket.kind) := hc 5 _ rfl
   have c6 : wr.cell? ⟨b, o + k * 10 + 6, none⟩ = some (.int .i64 l[k].ticket.frm) := hc 6 _ rfl
   have c7 : wr.cell? ⟨b, o + k * 10 + 7, none⟩ = some (.int .i64 l[k].ticket.til) := hc 7 _ rfl
   have c8 : wr.cell? ⟨b, o + k * 10 + 8, none⟩ = some (.int .i64 l[k].ticket.zones) := hc 8 _ rfl
   have c9 : wr.cell? ⟨b, o + k * 10 + 9, none⟩ = some (.int .i64 l[k].ticket.rides) := hc 9 _ rfl
   have KD := Lib.hid (fun (W : World) (h : Ck (w.heap.size + 1) W w1.heap.size y sk nk) => clerk_do sk y nk l[k] w1.heap.size (w.heap.size + 1) W h HRT.out)
   generalize doS sk nk l[k] = Q at *
   generalize l[k] = x at *
   obtain ⟨xk, xi, xo, xt, ⟨t0, t1, t2, t3, t4, t5⟩⟩ := x
   obtain ⟨Q1, Q2, Q3⟩ := Q
   unfold acc at KD
   simp only at KD HS1 HS2 HRT2 c0 c1 c2 c3 c4 c5 c6 c7 c8 c9
   clear hc HR1' HR2'
   go_wp2_with fail
   refine (KD.out _ (by exact HK.out.ext ((Ext.refl _).alloc _))).mono ?_
   rintro e w4 ⟨rfl, hf, y4, hk4⟩
   have hfx : Fr (fun q => q = w1.heap.size) wr w4 := (Fr.ofExt ((Ext.refl wr).alloc (.cells #[.int .i64 xk, .int .i64 xi, .int .i64 xo, .int .i64 xt, .int .i64 t0, .int .i64 t1, .int .i64 t2, .int .i64 t3, .int .i64 t4, .int .i64 t5] 71))).trans hf
   have HX4 := Lib.hid (Ext.fr HX.out hfx (fun q h => by have h2 : q = w1.heap.size := h; omega))
   have HRW4 := Lib.hid (hfx.row (g := w.heap.size) (fun h => by have h2 : w.heap.size = w1.heap.size := h; omega) HRW.out)
   have HK4 := Lib.hid hk4
   have HO4 := Lib.hid (HOD.out.keepT hfx (by rintro q rfl; exact ⟨_, _, HK.out.box, by decide⟩))
   have hz4 := HX4.out.size
   clear hf hfx hk4 KD c0 c1 c2 c3 c4 c5 c6 c7 c8 c9
   go_wp2_with (at_builtin; go_loud (refine wpList_append_rd (enc := inc) (k := 1) _ rfl _ _ 75 rfl (w.heap.size + 1) 35 i0 (.int .i64 0) 8 Tryz.underlying75 ji ji0 ji1 ji2 rfl (by decide) inc_size _ dn rfl (HO4.out.alloc _) _ [Q3] rfl (RdL.lit (enc := inc) Q3 rfl rfl) (er_one _) ?g1 ?g2 (by simp; omega) ?_))
   case g1 => have := HDK.out; have := H40.out; unfold maxLen; simp; omega
   case g2 => have := HDK.out; have := H40.out; simp; omega
   intro v8 w8 ho8 hg8 hn8
   obtain ⟨B8, d8, rfl⟩ := ho8.form
   have hf8 := row_fr hg8
   have hbx8 : ∀ q, (fun q => (Value.slice D dn.length d).ownBlock = some q) q → ∃ cs, Bx (w4.alloc (.cells #[.int .i64 Q3] 35)) q 35 cs := fun q hq => OwnL.bx (HO4.out.alloc _) q hq
   have hnp : ¬ (fun q => (Value.slice D dn.length d).ownBlock = some q) w1.heap.size := by
    intro h
    obtain ⟨cs, hb8⟩ := hbx8 _ h
    have h2 := (HK4.out.ext ((Ext.refl _).alloc (.cells #[.int .i64 Q3] 35))).box
    unfold Bx at hb8 h2
    rw [hb8] at h2
    simp at h2
   have HK8 := Lib.hid ((HK4.out.ext ((Ext.refl _).alloc (.cells #[.int .i64 Q3] 35))).fr hf8 hnp (fun q hq => by obtain ⟨cs, h⟩ := hbx8 q hq; exact ⟨_, _, h, by decide⟩))
   have hlo : ∀ q, (fun q => (Value.slice D dn.length d).ownBlock = some q) q → w.heap.size + 1 ≤ q := fun q hq => (HO4.out.lt q hq).1
   have HX8 := Lib.hid (Ext.fr (HX4.out.alloc (.cells #[.int .i64 Q3] 35)) hf8 (fun q h => by have := hlo q h; omega))
   have HRW8 := Lib.hid (hf8.row (g := w.heap.size) (fun h => by have := hlo _ h; omega) (Row.alloc HRW4.out))
   have HO8 := Lib.hid ho8
   clear ho8 hg8 hn8 hf8 hbx8 hnp hlo
   go_wp2_with fail
   go_roundg (l.length - (k + 1))
   case measure => omega
   case rel => exact ⟨k + 1, Q1, Q2, y4, dn ++ [Q3], B8, d8, by omega, by omega, rfl, by go_num, HX8.out, HRW8.out, HK8.out, HRT2.out, HO8.out, by have := HDK.out; simp; omega, HS1.out, HS2.out⟩
  ·have hli : ¬ (k : Int) < (l.length : Int) := by omega
   have hnil : l.drop k = [] := List.drop_eq_nil_of_le (by omega)
   have hr1 := HR1'.out
   have hr2 := HR2'.out
   rw [hnil] at hr1 hr2
   have HQ1 := Lib.hid (show RS.1 = sk from hr1)
   have HQ2 := Lib.hid (show RS.2 = dn by rw [hr2]; simp [runS])
   clear hnil hr1 hr2 HR1' HR2'
   obtain ⟨u0, u1, u2, ui, ug, uv⟩ := y
   obtain ⟨C0, k0, rfl⟩ : ∃ B d, u0 = .slice B sk.ledger.tickets.length d := HK.out.own.tk.form
   obtain ⟨C1, k1, rfl⟩ : ∃ B d, u1 = .slice B sk.ledger.taps.length d := HK.out.own.tp.form
   obtain ⟨C2, k2, rfl⟩ : ∃ B d, u2 = .slice B sk.ledger.verdicts.length d := HK.out.own.vd.form
   obtain ⟨C3, k3, rfl⟩ : ∃ B d, ui = .slice B sk.denied.ids.length d := HK.out.own.dn.form
   obtain ⟨C4, k4, rfl⟩ : ∃ B d, ug = .slice B sk.gates.length d := HK.out.own.gt.form
   obtain ⟨C5, k5, rfl⟩ : ∃ B d, uv = .slice B sk.views.length d := HK.out.own.vw.form
   have RB := Lib.hid HK.out.box.row
   unfold cka at RB
   simp only at RB
   have qp := RB.out.2.1
   have fp := RB.out.2.2
   have q2 := HRW.out.2.1
   have f2 := HRW.out.2.2
   go_wp2_with fail
   rw [HQ1.out, HQ2.out]
   refine bodyPost_ret (v := .tuple #[.agg #[.slice C0 sk.ledger.tickets.length k0, .slice C1 sk.ledger.taps.length k1, .slice C2 sk.ledger.verdicts.length k2, .int .i64 sk.denied.version, .slice C3 sk.denied.ids.length k3, .slice C4 sk.gates.length k4, .slice C5 sk.views.length k5], .slice D dn.length d, .int .i64 0]) (by simp [results, Tryz.results41, go_sem, *]) rfl ⟨⟨.slice C0 sk.ledger.tickets.length k0, .slice C1 sk.ledger.taps.length k1, .slice C2 sk.ledger.verdicts.length k2, .slice C3 sk.denied.ids.length k3, .slice C4 sk.gates.length k4, .slice C5 sk.views.length k5⟩, .slice D dn.length d, rfl, ext7 (Nat.le_refl _) HX.out, (own7 (g := w.heap.size) (base := w.heap.size + 1) (by omega) HK.out.own).lower (by omega), ?_⟩
   exact ((((((((HOD.out.setC (a := ⟨w.heap.size, 0, none⟩) (by simp)).setC (a := ⟨w.heap.size, 1, none⟩) (by simp)).setC (a := ⟨w.heap.size, 2, none⟩) (by simp)).setC (a := ⟨w.heap.size, 3, none⟩) (by simp)).setC (a := ⟨w.heap.size, 4, none⟩) (by simp)).setC (a := ⟨w.heap.size, 5, none⟩) (by simp)).setC (a := ⟨w.heap.size, 6, none⟩) (by simp))).lower (by omega)
end Go.Proofs.YteojjbhadgkfgaaGreat

/- script, deskBegun. -/
namespace Go.Proofs.YteojjbhadgkfgaaGreat
set_option linter.unusedSimpArgs false
set_option linter.unusedVariables false
set_option maxRecDepth 100000
open Go Go.RowKit Lb

def scriptL : List Ac := [⟨7, 0, 0, 0, tk0⟩, ⟨1, 0, 0, 0, single 1⟩, ⟨6, 0, 0, 0, tk0⟩, ⟨2, 1, 0, 20, tk0⟩, ⟨2, 1, 1, 90, tk0⟩, ⟨5, 0, 0, 0, tk0⟩, ⟨4, 0, 0, 95, tk0⟩, ⟨4, 0, 1, 96, tk0⟩, ⟨2, 1, 2, 97, tk0⟩]
theorem scr_a : (runAll scriptL).2 = ([0, 0, 0, 0, 0, 0, 0, 0, 11], 0) := by decide
theorem scr_b : (runAll scriptL).1.gates.length = 3 := by decide
theorem scr_c : (runAll scriptL).1.ledger.taps.length = 1 := by decide
theorem scr_d : (runAll scriptL).1.denied.ids.contains 1 = true := by decide
theorem scr_e : (doAll (runAll scriptL).1 ⟨7, 0, 1, 0, tk0⟩).2 = (1, 0) := by decide
set_option maxHeartbeats 4000000 in
theorem law_script (w : World) : Calls Tryz.prog 94 #[] w fun e w' => ∃ g, e = .returned (.slice (some ⟨g, 0, none⟩) 9 9) ∧ Ext w w' ∧ RdL 10 acc w' (.slice (some ⟨g, 0, none⟩) 9 9) scriptL := by
 go_enter Tryz.func94, Tryz.ntmps94
 go_wp2_with fail
 refine (law_single 1 _).mono ?_
 rintro e w1 ⟨rfl, h1⟩
 have H1 := Lib.hid h1
 clear h1
 rw [show tkc (single 1) = #[.int .i64 1, .int .i64 1, .int .i64 10, .int .i64 500, .int .i64 15, .int .i64 0] from rfl]
 go_wp2_with fail
 refine bodyPost_ret (v := .slice (some ⟨w1.heap.size, 0, none⟩) 9 9) (by simp [results, Tryz.results94, go_sem, *]) rfl ⟨w1.heap.size, rfl, (show Ext w _ by exact extA), ?_⟩
 exact OwnL.rd (own_lit (base := 0) (e := 71) rfl (Nat.zero_le _) rfl (by unfold maxLen; omega) rfl rfl) acc_size
set_option maxHeartbeats 16000000 in
theorem law_deskBegun (w : World) : Calls Tryz.prog 40 #[] w fun e w' => e = .returned (.bool true) ∧ Ext w w' := by
 have hA := scr_a
 have hB := scr_b
 have hC := scr_c
 have hD := scr_d
 have hE := scr_e
 have KR := Lib.hid (fun (g : Nat) (w' : World) (h : RdL 10 acc w' (.slice (some ⟨g, 0, none⟩) 9 9) scriptL) => desk_Run scriptL _ w' h)
 have KD := Lib.hid (fun (x : Sv) (w' : World) (h : RdS w' x (runAll scriptL).1) => desk_Do (runAll scriptL).1 x ⟨7, 0, 1, 0, tk0⟩ w' h)
 generalize runAll scriptL = R at *
 obtain ⟨S, R2⟩ := R
 simp only at hA hB hC hD hE KR KD
 subst hA
 have KH := Lib.hid (fun (v : Value) (w' : World) (h : RdL 1 inc w' v S.denied.ids) => (hD ▸ ref_HasInt S.denied.ids 1 v w' h : Calls Tryz.prog 32 #[v, .int .i64 1] w' fun e w'' => e = .returned (.bool true) ∧ w' = w''))
 generalize doAll S ⟨7, 0, 1, 0, tk0⟩ = Q at *
 obtain ⟨Q1, Q2⟩ := Q
 simp only at hE KD KR
 subst hE
 have HB := Lib.hid hB
 have HC := Lib.hid hC
 clear hB hC hD
 unfold acc tk0 at KD
 simp only at KD
 go_enter Tryz.func40, Tryz.ntmps40
 go_wp2_with fail
 refine (law_script _).mono ?_
 rintro e w1 ⟨g1, rfl, h1, hr1⟩
 have H1 := Lib.hid h1
 have HR1 := Lib.hid hr1
 clear h1 hr1
 go_wp2_with fail
 refine (KR.out _ _ (by exact HR1.out.ext (by exact extA))).mono ?_
 rintro e w2 ⟨⟨t0, t1, t2, ti, tg, tv⟩, u, rfl, h2, ho, hu⟩
 obtain ⟨B0, kB0, rfl⟩ : ∃ B d, t0 = .slice B S.ledger.tickets.length d := ho.tk.form
 obtain ⟨B1, kB1, rfl⟩ : ∃ B d, t1 = .slice B 1 d := by have := ho.tp.form; rw [HC.out] at this; exact this
 obtain ⟨B2, kB2, rfl⟩ : ∃ B d, t2 = .slice B S.ledger.verdicts.length d := ho.vd.form
 obtain ⟨B3, kB3, rfl⟩ : ∃ B d, ti = .slice B S.denied.ids.length d := ho.dn.form
 obtain ⟨B4, kB4, rfl⟩ : ∃ B d, tg = .slice B 3 d := by have := ho.gt.form; rw [HB.out] at this; exact this
 obtain ⟨B5, kB5, rfl⟩ : ∃ B d, tv = .slice B S.views.length d := ho.vw.form
 obtain ⟨g6, c6, hu6, -, hg6, h9c⟩ := hu.slot (by decide)
 have hu6' : u = .slice (some ⟨g6, 0, none⟩) 9 c6 := hu6
 subst hu6'
 clear hu6
 rw [show sta S ⟨.slice B0 S.ledger.tickets.length kB0, .slice B1 1 kB1, .slice B2 S.ledger.verdicts.length kB2, .slice B3 S.denied.ids.length kB3, .slice B4 3 kB4, .slice B5 S.views.length kB5⟩ = #[.slice B0 S.ledger.tickets.length kB0, .slice B1 1 kB1, .slice B2 S.ledger.verdicts.length kB2, .int .i64 S.denied.version, .slice B3 S.denied.ids.length kB3, .slice B4 3 kB4, .slice B5 S.views.length kB5] from rfl]
 have HU := Lib.hid (fun (k : Nat) (hk : k < 9) => show w2.cell? ⟨g6, k, none⟩ = some (.int .i64 (if k = 8 then 11 else 0)) by
  have h := (OwnL.field inc_size hu k 0 hk (by decide) (.int .i64 ([0, 0, 0, 0, 0, 0, 0, 0, 11] : List Int)[k]) rfl).1
  have e1 : k * 1 + 0 = k := by omega
  rw [e1] at h
  rw [h]
  have : ([0, 0, 0, 0, 0, 0, 0, 0, 11] : List Int)[k] = (if k = 8 then 11 else 0) := by
   obtain rfl | rfl | rfl | rfl | rfl | rfl | rfl | rfl | rfl : k = 0 ∨ k = 1 ∨ k = 2 ∨ k = 3 ∨ k = 4 ∨ k = 5 ∨ k = 6 ∨ k = 7 ∨ k = 8 := by omega
   all_goals rfl
  rw [this])
 have H2 := Lib.hid h2
 have HO := Lib.hid ho.rd
 have h9i : (9 : Int) ≤ (c6 : Int) := by have : 9 ≤ c6 := h9c; omega
 clear h2 ho hu KR h9c
 go_wp2_with fail
 go_loopg [4] 8 (fun gg s4 wr => ∃ k : Nat, k ≤ 8 ∧ 8 - k ≤ gg ∧ s4 = .int .i64 k ∧ Aside (Ext (w2.alloc (.cells #[.slice B0 S.ledger.tickets.length kB0, .slice B1 1 kB1, .slice B2 S.ledger.verdicts.length kB2, .int .i64 S.denied.version, .slice B3 S.denied.ids.length kB3, .slice B4 3 kB4, .slice B5 S.views.length kB5] 32)) wr))
 case atStart => exact ⟨0, by omega, by omega, rfl, Ext.refl _⟩
 case round =>
  obtain ⟨k, hk, hg, rfl, HA⟩ := hrel
  have HE := Lib.hid HA.out
  have HW := Lib.hid (And.intro trivial (((Ext.refl w2).alloc _).trans HA.out))
  have HR := Lib.hid (show Row wr w2.heap.size #[.slice B0 S.ledger.tickets.length kB0, .slice B1 1 kB1, .slice B2 S.ledger.verdicts.length kB2, .int .i64 S.denied.version, .slice B3 S.denied.ids.length kB3, .slice B4 3 kB4, .slice B5 S.views.length kB5] from Row.ext HA.out (Row.newAt rfl))
  have q1 := HR.out.2.1
  have l1 := HR.out.1
  clear HA
  by_cases hlt : k < 8
  ·have hki : (k : Int) < (8 : Int) := by omega
   have hk9 : (k : Int) < (9 : Int) := by omega
   have hcl : wr.cell? ⟨g6, k, none⟩ = some (.int .i64 0) := by
    rw [HW.out.2.cells g6 _ hg6, HU.out k (by omega), if_neg (by omega)]
   go_wp2_with fail
   go_roundg (8 - (k + 1))
   case measure => omega
   case rel => exact ⟨k + 1, by omega, by omega, by go_num, HE.out.trans (show Ext wr _ by exact extA)⟩
  ·have hki : ¬ (k : Int) < (8 : Int) := by omega
   go_wp2_with fail
   refine (KD.out ⟨.slice B0 S.ledger.tickets.length kB0, .slice B1 1 kB1, .slice B2 S.ledger.verdicts.length kB2, .slice B3 S.denied.ids.length kB3, .slice B4 3 kB4, .slice B5 S.views.length kB5⟩ _ (by exact HO.out.ext (HW.out.2.trans (by exact extA)))).mono ?_
   rintro e w3 ⟨⟨t0, t1, t2, ti, tg, tv⟩, rfl, h3, ho⟩
   obtain ⟨D0, kD0, rfl⟩ : ∃ B d, t0 = .slice B Q1.ledger.tickets.length d := ho.tk.form
   obtain ⟨D1, kD1, rfl⟩ : ∃ B d, t1 = .slice B Q1.ledger.taps.length d := ho.tp.form
   obtain ⟨D2, kD2, rfl⟩ : ∃ B d, t2 = .slice B Q1.ledger.verdicts.length d := ho.vd.form
   obtain ⟨D3, kD3, rfl⟩ : ∃ B d, ti = .slice B Q1.denied.ids.length d := ho.dn.form
   obtain ⟨D4, kD4, rfl⟩ : ∃ B d, tg = .slice B Q1.gates.length d := ho.gt.form
   obtain ⟨D5, kD5, rfl⟩ : ∃ B d, tv = .slice B Q1.views.length d := ho.vw.form
   rw [show sta Q1 ⟨.slice D0 Q1.ledger.tickets.length kD0, .slice D1 Q1.ledger.taps.length kD1, .slice D2 Q1.ledger.verdicts.length kD2, .slice D3 Q1.denied.ids.length kD3, .slice D4 Q1.gates.length kD4, .slice D5 Q1.views.length kD5⟩ = #[.slice D0 Q1.ledger.tickets.length kD0, .slice D1 Q1.ledger.taps.length kD1, .slice D2 Q1.ledger.verdicts.length kD2, .int .i64 Q1.denied.version, .slice D3 Q1.denied.ids.length kD3, .slice D4 Q1.gates.length kD4, .slice D5 Q1.views.length kD5] from rfl]
   have hc8 : w3.cell? ⟨g6, 8, none⟩ = some (.int .i64 11) := by
    rw [(HW.out.2.trans (Ext.trans (show Ext wr _ by exact extA) h3)).cells g6 _ hg6, HU.out 8 (by decide), if_pos rfl]
   have H3 := Lib.hid h3
   have HW3 := Lib.hid (And.intro trivial (HW.out.2.trans (Ext.trans (show Ext wr _ by exact extA) h3)))
   have hg63 : g6 < w3.heap.size := by have := HW3.out.2.size; omega
   clear h3 ho KD
   (apply Row.use (w := w3) (g := w2.heap.size); (focus (exact rowA)); intro qz_0 fz_0 lz_0 Rz_0; (try simp only [lSet] at qz_0 Rz_0))
   go_wp2_with fail
   refine (KH.out (.slice B3 S.denied.ids.length kB3) _ (by exact HO.out.dn.ext (HW3.out.2.trans (by exact extA)))).mono ?_
   rintro e w4 ⟨rfl, rfl⟩
   go_wp2_with fail
   go_ret
   exact ⟨rfl, (show Ext w w2 by exact extA).trans (HW3.out.2.trans (show Ext w3 _ by exact extA))⟩
end Go.Proofs.YteojjbhadgkfgaaGreat

/- DeskRight: the walk. -/
namespace Go.Proofs.YteojjbhadgkfgaaGreat
set_option linter.unusedSimpArgs false
set_option linter.unusedVariables false
set_option maxRecDepth 100000
open Go Go.RowKit Lb

theorem any_listed {P : Program} {l : Array Oper} {Q : Exit → Act → World → Prop} {md : Region.Mode} {S : World → Prop} {n fuel : Nat} {l1 l2 : Array Bool} {a : Act} {w : World} (h : l1 = l2) (k : wpAnyT P md l (NoPanic Q) S n fuel l2 a w) : wpAnyT P md l (NoPanic Q) S n fuel l1 a w := h ▸ k
theorem split14 {G : Value → Value → Value → Value → World → Nat → Option Addr → Nat → Option Addr → Nat → Option Addr → Nat → Option Addr → Nat → Option Addr → Nat → Option Addr → Nat → Option Addr → Nat → Prop} {goal : Prop} (main : (∀ p q r s X g a b c d e f h i j k l m n o, G p q r s X g a b c d e f h i j k l m n o) → goal) (pf : ∀ p q r s X g a b c d e f h i j k l m n o, G p q r s X g a b c d e f h i j k l m n o) : goal := main pf
theorem info_ac : (Tryz.prog.info? 71).map (fun i => (i.zero, i.size, i.bytes)) = some (some (.agg #[.int .i64 0, .int .i64 0, .int .i64 0, .int .i64 0, .int .i64 0, .int .i64 0, .int .i64 0, .int .i64 0, .int .i64 0, .int .i64 0]), 10, 80) := by kernel_rfl
theorem ac_one (l : List Ac) : ∀ u ∈ encs acc l, u.oneCell' = true := by
 intro u hu
 obtain ⟨x, -, hx⟩ := List.mem_flatMap.1 hu
 simp [acc] at hx
 (rcases hx with rfl | rfl | rfl | rfl | rfl | rfl | rfl | rfl | rfl | rfl) <;> rfl
set_option maxHeartbeats 64000000 in
theorem law_DeskRight (l : List Ac) (v : Value) (a : Ac) (w : World) (hr : RdL 10 acc w v l) :
  Calls Tryz.prog 9 #[v, .agg (acc a)] w fun e w' => e = .returned (.bool true) ∧ Ext w w' := by
 have KR := Lib.hid (fun (w' : World) (h : Ext w w') => desk_Run l v w' (hr.ext h))
 obtain ⟨A, c, rfl, hlc, hmc⟩ := hr.form
 have HRL0 := Lib.hid hr
 have hl9 : l.length ≤ 9223372036854775807 := by unfold maxLen at hmc; omega
 obtain ⟨k, id, of, time, ⟨t0, t1, t2, t3, t4, t5⟩⟩ := a
 rw [show acc (⟨k, id, of, time, ⟨t0, t1, t2, t3, t4, t5⟩⟩ : Ac) = #[.int .i64 k, .int .i64 id, .int .i64 of, .int .i64 time, .int .i64 t0, .int .i64 t1, .int .i64 t2, .int .i64 t3, .int .i64 t4, .int .i64 t5] from rfl]
 by_cases h40 : 40 < l.length
 case pos =>
  have hR : runAll l = (st0, [], 2) := by unfold runAll; rw [if_pos h40]
  rw [hR] at KR
  have h4i : (40 : Int) < (l.length : Int) := by omega
  simp only at KR
  clear hR h40 hr hlc hmc
  go_enter Tryz.func9, Tryz.ntmps9
  go_wp2_with fail
  refine (KR.out _ (by exact extA)).mono ?_
  rintro e w1 ⟨⟨t0', t1', t2', ti, tg, tv⟩, u, rfl, h1, ho, hu⟩
  obtain ⟨B0, kB0, rfl⟩ : ∃ B d, t0' = .slice B 0 d := ho.tk.form
  obtain ⟨B1, kB1, rfl⟩ : ∃ B d, t1' = .slice B 0 d := ho.tp.form
  obtain ⟨B2, kB2, rfl⟩ : ∃ B d, t2' = .slice B 0 d := ho.vd.form
  obtain ⟨B3, kB3, rfl⟩ : ∃ B d, ti = .slice B 0 d := ho.dn.form
  obtain ⟨B4, kB4, rfl⟩ : ∃ B d, tg = .slice B 0 d := ho.gt.form
  obtain ⟨B5, kB5, rfl⟩ : ∃ B d, tv = .slice B 0 d := ho.vw.form
  obtain ⟨B6, kB6, rfl⟩ : ∃ B d, u = .slice B 0 d := hu.form
  rw [show sta st0 ⟨.slice B0 0 kB0, .slice B1 0 kB1, .slice B2 0 kB2, .slice B3 0 kB3, .slice B4 0 kB4, .slice B5 0 kB5⟩ = #[.slice B0 0 kB0, .slice B1 0 kB1, .slice B2 0 kB2, .int .i64 0, .slice B3 0 kB3, .slice B4 0 kB4, .slice B5 0 kB5] from rfl]
  have H1 := Lib.hid h1
  clear h1 ho hu
  go_wp2_with fail
  (refine (law_deskBegun _).mono ?_; rintro e w2 ⟨rfl, h2⟩; have H2 := Lib.hid h2; have hz2 := h2.size; clear h2; (try simp only [World.size_alloc, size_set, World.heap_drewN, size_drew] at hz2))
  go_wp2_with fail
  (refine (law_stationBegun _).mono ?_; rintro e w3 ⟨rfl, h3⟩; have H3 := Lib.hid h3; have hz3 := h3.size; clear h3; (try simp only [World.size_alloc, size_set, World.heap_drewN, size_drew] at hz3))
  go_wp2_with fail
  go_ret
  exact ⟨rfl, (show Ext w _ by exact extA)⟩
 have hR : runAll l = ((runS newS l).1, (runS newS l).2, 0) := by unfold runAll; rw [if_neg h40]
 have hR2 : runAll (l ++ [(⟨k, id, of, time, ⟨t0, t1, t2, t3, t4, t5⟩⟩ : Ac)]) = if l.length = 40 then (st0, [], 2) else ((doS (runS newS l).1 0 (⟨k, id, of, time, ⟨t0, t1, t2, t3, t4, t5⟩⟩ : Ac)).1, (runS newS l).2 ++ [(doS (runS newS l).1 0 (⟨k, id, of, time, ⟨t0, t1, t2, t3, t4, t5⟩⟩ : Ac)).2.2], 0) := by
  unfold runAll
  rw [runS_snoc]
  by_cases h : l.length = 40
  ·rw [if_pos h, if_pos (by simp; omega)]
  ·rw [if_neg h, if_neg (by simp; omega)]
 rw [hR] at KR
 have rs := runS_right l newS_right
 have KC := Lib.hid (fun (x' : Sv) (w' : World) (h : RdS w' x' (runS newS l).1) => (rightS_iff.2 rs) ▸ station_Check (runS newS l).1 x' w' h)
 have hdo : doAll (runS newS l).1 (⟨k, id, of, time, ⟨t0, t1, t2, t3, t4, t5⟩⟩ : Ac) = if (doS (runS newS l).1 0 (⟨k, id, of, time, ⟨t0, t1, t2, t3, t4, t5⟩⟩ : Ac)).2.2 ≠ 0 then (st0, (doS (runS newS l).1 0 (⟨k, id, of, time, ⟨t0, t1, t2, t3, t4, t5⟩⟩ : Ac)).2.1, (doS (runS newS l).1 0 (⟨k, id, of, time, ⟨t0, t1, t2, t3, t4, t5⟩⟩ : Ac)).2.2) else doS (runS newS l).1 0 (⟨k, id, of, time, ⟨t0, t1, t2, t3, t4, t5⟩⟩ : Ac) := by
  unfold doAll
  rw [if_neg (by simpa using rightS_iff.2 rs)]
 have KD := Lib.hid (fun (x' : Sv) (w' : World) (h : RdS w' x' (runS newS l).1) => desk_Do (runS newS l).1 x' (⟨k, id, of, time, ⟨t0, t1, t2, t3, t4, t5⟩⟩ : Ac) w' h)
 have KR2 := Lib.hid (fun (u : Value) (w' : World) (h : RdL 10 acc w' u (l ++ [(⟨k, id, of, time, ⟨t0, t1, t2, t3, t4, t5⟩⟩ : Ac)])) => hR2 ▸ desk_Run (l ++ [(⟨k, id, of, time, ⟨t0, t1, t2, t3, t4, t5⟩⟩ : Ac)]) u w' h)
 have hdl : (runS newS l).2.length = l.length := runS_len l newS
 have hrd := doS_right (n := 0) (a := (⟨k, id, of, time, ⟨t0, t1, t2, t3, t4, t5⟩⟩ : Ac)) rs
 have herr := @doS_err (runS newS l).1 0 (⟨k, id, of, time, ⟨t0, t1, t2, t3, t4, t5⟩⟩ : Ac)
 have hkeep := @doS_keeps (runS newS l).1 0 (⟨k, id, of, time, ⟨t0, t1, t2, t3, t4, t5⟩⟩ : Ac) rs
 have KC2 := Lib.hid (fun (x' : Sv) (w' : World) (h : RdS w' x' (doS (runS newS l).1 0 (⟨k, id, of, time, ⟨t0, t1, t2, t3, t4, t5⟩⟩ : Ac)).1) => (rightS_iff.2 hrd) ▸ station_Check (doS (runS newS l).1 0 (⟨k, id, of, time, ⟨t0, t1, t2, t3, t4, t5⟩⟩ : Ac)).1 x' w' h)
 generalize doAll (runS newS l).1 (⟨k, id, of, time, ⟨t0, t1, t2, t3, t4, t5⟩⟩ : Ac) = DA at *
 generalize doS (runS newS l).1 0 (⟨k, id, of, time, ⟨t0, t1, t2, t3, t4, t5⟩⟩ : Ac) = Q at *
 generalize runS newS l = RR at *
 obtain ⟨S, dn⟩ := RR
 obtain ⟨Q1, Q2, Q3⟩ := Q
 obtain ⟨SX, NX, EX⟩ := DA
 simp only at KR KC KD KR2 hdl herr hkeep KC2 hdo
 have HDA := Lib.hid hdo
 have HD0 := Lib.hid (And.intro hdl (And.intro herr hkeep))
 have HBD := Lib.hid (show l.length ≤ 40 by omega)
 obtain ⟨L3, hL3⟩ : ∃ n, n = (l ++ [(⟨k, id, of, time, ⟨t0, t1, t2, t3, t4, t5⟩⟩ : Ac)]).length := ⟨_, rfl⟩
 have HL3 := Lib.hid hL3
 clear hL3
 have h4i : ¬ (40 : Int) < (l.length : Int) := by omega
 have hwl : IntKind.i64.wrap ((l.length : Int) + 1) = (l.length : Int) + 1 := IntWalk.i64_in _ (by omega)
 clear hR hR2 h40 hr hlc hmc rs hdo hrd hdl herr hkeep
 unfold acc at KD
 simp only at KD
 go_enter Tryz.func9, Tryz.ntmps9
 go_wp2_with fail
 refine (KR.out _ (by exact extA)).mono ?_
 rintro e w1 ⟨⟨t0', t1', t2', ti, tg, tv⟩, u, rfl, h1, ho, hu⟩
 obtain ⟨B0, kB0, rfl⟩ : ∃ B d, t0' = .slice B S.ledger.tickets.length d := ho.tk.form
 obtain ⟨B1, kB1, rfl⟩ : ∃ B d, t1' = .slice B S.ledger.taps.length d := ho.tp.form
 obtain ⟨B2, kB2, rfl⟩ : ∃ B d, t2' = .slice B S.ledger.verdicts.length d := ho.vd.form
 obtain ⟨B3, kB3, rfl⟩ : ∃ B d, ti = .slice B S.denied.ids.length d := ho.dn.form
 obtain ⟨B4, kB4, rfl⟩ : ∃ B d, tg = .slice B S.gates.length d := ho.gt.form
 obtain ⟨B5, kB5, rfl⟩ : ∃ B d, tv = .slice B S.views.length d := ho.vw.form
 rw [show sta S ⟨.slice B0 S.ledger.tickets.length kB0, .slice B1 S.ledger.taps.length kB1, .slice B2 S.ledger.verdicts.length kB2, .slice B3 S.denied.ids.length kB3, .slice B4 S.gates.length kB4, .slice B5 S.views.length kB5⟩ = #[.slice B0 S.ledger.tickets.length kB0, .slice B1 S.ledger.taps.length kB1, .slice B2 S.ledger.verdicts.length kB2, .int .i64 S.denied.version, .slice B3 S.denied.ids.length kB3, .slice B4 S.gates.length kB4, .slice B5 S.views.length kB5] from rfl]
 obtain ⟨B6, kB6, rfl⟩ : ∃ B d, u = .slice B l.length d := by have := hu.form; rw [HD0.out.1] at this; exact this
 have H1 := Lib.hid h1
 have hz1 := h1.size
 have HO := Lib.hid ho.rd
 have HU := Lib.hid hu
 clear h1 ho hu KR
 (apply Row.use (w := w1) (g := w.heap.size); (focus (exact rowA)); intro q1_0 f1_0 l1_0 R1_0; (try simp only [lSet] at q1_0 R1_0))
 go_wp2_with fail
 (refine (law_deskBegun _).mono ?_; rintro e w2 ⟨rfl, h2⟩; have H2 := Lib.hid h2; have hz2 := h2.size; clear h2; (try simp only [World.size_alloc, size_set, World.heap_drewN, size_drew] at hz2); apply Row.use (w := w2) (g := w.heap.size); (focus (exact rowA)); intro q2_0 f2_0 l2_0 R2_0; (try simp only [lSet] at q2_0 R2_0); apply Row.use (w := w2) (g := w1.heap.size); (focus (exact rowA)); intro q2_1 f2_1 l2_1 R2_1; (try simp only [lSet] at q2_1 R2_1))
 go_wp2_with fail
 (refine (law_stationBegun _).mono ?_; rintro e w3 ⟨rfl, h3⟩; have H3 := Lib.hid h3; have hz3 := h3.size; clear h3; (try simp only [World.size_alloc, size_set, World.heap_drewN, size_drew] at hz3); apply Row.use (w := w3) (g := w.heap.size); (focus (exact rowA)); intro q3_0 f3_0 l3_0 R3_0; (try simp only [lSet] at q3_0 R3_0); apply Row.use (w := w3) (g := w1.heap.size); (focus (exact rowA)); intro q3_1 f3_1 l3_1 R3_1; (try simp only [lSet] at q3_1 R3_1))
 clear q1_0 f1_0 l1_0 R1_0 q2_0 f2_0 l2_0 R2_0 q2_1 f2_1 l2_1 R2_1
 go_wp2_with fail
 refine (KC.out ⟨.slice B0 S.ledger.tickets.length kB0, .slice B1 S.ledger.taps.length kB1, .slice B2 S.ledger.verdicts.length kB2, .slice B3 S.denied.ids.length kB3, .slice B4 S.gates.length kB4, .slice B5 S.views.length kB5⟩ _ (by exact HO.out.ext (by exact extA))).mono ?_
 rintro e w4 ⟨rfl, h4⟩
 have H4 := Lib.hid h4
 clear h4 KC
 (apply Row.use (w := w4) (g := w.heap.size); (focus (exact rowA)); intro q4_0 f4_0 l4_0 R4_0; (try simp only [lSet] at q4_0 R4_0); apply Row.use (w := w4) (g := w1.heap.size); (focus (exact rowA)); intro q4_1 f4_1 l4_1 R4_1; (try simp only [lSet] at q4_1 R4_1))
 go_wp2_with fail
 refine (KD.out ⟨.slice B0 S.ledger.tickets.length kB0, .slice B1 S.ledger.taps.length kB1, .slice B2 S.ledger.verdicts.length kB2, .slice B3 S.denied.ids.length kB3, .slice B4 S.gates.length kB4, .slice B5 S.views.length kB5⟩ _ (by exact HO.out.ext (by exact extA))).mono ?_
 obtain ⟨S2, all, er, hrr⟩ : ∃ S2 all er, (S2, all, er) = (if l.length = 40 then (st0, [], 2) else (Q1, dn ++ [Q3], 0) : St × List Int × Int) := ⟨_, _, _, rfl⟩
 rw [← hrr] at KR2
 have HRR := Lib.hid hrr
 simp only at KR2
 clear hrr
 rintro e w5 ⟨⟨t0', t1', t2', ti, tg, tv⟩, rfl, h5, ho⟩
 obtain ⟨C0, kC0, rfl⟩ : ∃ B d, t0' = .slice B SX.ledger.tickets.length d := ho.tk.form
 obtain ⟨C1, kC1, rfl⟩ : ∃ B d, t1' = .slice B SX.ledger.taps.length d := ho.tp.form
 obtain ⟨C2, kC2, rfl⟩ : ∃ B d, t2' = .slice B SX.ledger.verdicts.length d := ho.vd.form
 obtain ⟨C3, kC3, rfl⟩ : ∃ B d, ti = .slice B SX.denied.ids.length d := ho.dn.form
 obtain ⟨C4, kC4, rfl⟩ : ∃ B d, tg = .slice B SX.gates.length d := ho.gt.form
 obtain ⟨C5, kC5, rfl⟩ : ∃ B d, tv = .slice B SX.views.length d := ho.vw.form
 rw [show sta SX ⟨.slice C0 SX.ledger.tickets.length kC0, .slice C1 SX.ledger.taps.length kC1, .slice C2 SX.ledger.verdicts.length kC2, .slice C3 SX.denied.ids.length kC3, .slice C4 SX.gates.length kC4, .slice C5 SX.views.length kC5⟩ = #[.slice C0 SX.ledger.tickets.length kC0, .slice C1 SX.ledger.taps.length kC1, .slice C2 SX.ledger.verdicts.length kC2, .int .i64 SX.denied.version, .slice C3 SX.denied.ids.length kC3, .slice C4 SX.gates.length kC4, .slice C5 SX.views.length kC5] from rfl]
 have H5 := Lib.hid h5
 have hz5 := h5.size
 have HC := Lib.hid ho.rd
 clear h5 ho KD
 (apply Row.use (w := w5) (g := w.heap.size); (focus (exact rowA)); intro q5_0 f5_0 l5_0 R5_0; (try simp only [lSet] at q5_0 R5_0); apply Row.use (w := w5) (g := w1.heap.size); (focus (exact rowA)); intro q5_1 f5_1 l5_1 R5_1; (try simp only [lSet] at q5_1 R5_1))
 clear q4_0 f4_0 l4_0 R4_0 q4_1 f4_1 l4_1 R4_1 q3_0 f3_0 l3_0 R3_0 q3_1 f3_1 l3_1 R3_1
 go_upto_region 9 with fail
 refine wp_genP (S := fun W => Ext w5 W ∧ Row W w.heap.size #[.int .i64 k, .int .i64 id, .int .i64 of, .int .i64 time, .int .i64 t0, .int .i64 t1, .int .i64 t2, .int .i64 t3, .int .i64 t4, .int .i64 t5] ∧ Row W w1.heap.size #[.slice B0 S.ledger.tickets.length kB0, .slice B1 S.ledger.taps.length kB1, .slice B2 S.ledger.verdicts.length kB2, .int .i64 S.denied.version, .slice B3 S.denied.ids.length kB3, .slice B4 S.gates.length kB4, .slice B5 S.views.length kB5] ∧ Row W w5.heap.size #[.slice C0 SX.ledger.tickets.length kC0, .slice C1 SX.ledger.taps.length kC1, .slice C2 SX.ledger.verdicts.length kC2, .int .i64 SX.denied.version, .slice C3 SX.denied.ids.length kC3, .slice C4 SX.gates.length kC4, .slice C5 SX.views.length kC5]) ⟨by exact extA, by exact rowA, by exact rowA, by exact rowA⟩ ?_
 intro W hW
 obtain ⟨hxw, hr0, hr5, hr8⟩ := hW.out
 have HXW := Lib.hid hxw
 have HWW := Lib.hid (And.intro trivial (Ext.trans (show Ext w w5 by exact extA) hxw))
 have HW15 := Lib.hid (And.intro trivial (Ext.trans (show Ext w1 w5 by exact extA) hxw))
 have RW0 := Lib.hid hr0
 have RW5 := Lib.hid hr5
 have RW8 := Lib.hid hr8
 have hzW := hxw.size
 clear hW hxw hr0 hr5 hr8 q5_0 f5_0 l5_0 R5_0 q5_1 f5_1 l5_1 R5_1 H1 H2 H3 H4 H5
 have HRL := Lib.hid (fun (X : World) (h : Ext W X) => HRL0.out.ext (HWW.out.2.trans h))
 obtain ⟨i1, jj, jj0, jj1, jj2⟩ := info_parts info_ac
 have HK := Lib.hid (fun (X : World) (h : Ext W X) => (Row.ext h RW0.out).2.1)
 (refine T_begin (fun w' => Ext W w') 14 (by kernel_rfl) ((Ext.refl _).drew) (fun hS => ?_); simp only [List.length_cons, List.length_nil])
 ((refine T_take (i := 1) (v := ?_) rfl (by kernel_rfl) rfl hS ?_ ?_; rotate_left; focus (intro w hSw; have hk := HK.out w hSw; clear hSw; go_simp; try (with_reducible rfl))); (try simp only [Act.put, lSet]); (refine T_take (i := 3) (v := ?_) rfl (by kernel_rfl) rfl hS ?_ ?_; rotate_left; focus (intro w hSw; have hk := HK.out w hSw; clear hSw; go_simp; try (with_reducible rfl))); (try simp only [Act.put, lSet]))
 clear HK
 have HS0 := Lib.hid hS
 clear hS
 apply split14
 ·intro key
  refine any_genP (S2 := fun X => Ext W X) HS0.out ?_
  intro X0 hX
  have hx := hX.out
  have HX0 := Lib.hid hx
  have hzX0 := hx.size
  clear hX hx
  refine T_three (i := 0) (j := 4) (k := 11) rfl rfl rfl (by kernel_rfl) rfl rfl rfl (fun K hK => ?_) (fun K hK => ?_) (fun K hK => ?_)
  ·go_simp
   refine hK.out _ _ (.inr (show Ext W _ by exact extA)) ?_
   clear hK
   (try simp only [Act.put, lSet])
   obtain ⟨g0, hgg0⟩ : ∃ g, g = X0.heap.size := ⟨_, rfl⟩
   rw [← hgg0]
   refine any_genP (S2 := fun X => Ext W X ∧ OwnL 71 10 acc W.heap.size X (.slice (some ⟨g0, 0, none⟩) 0 0) []) ⟨(by exact extA), (OwnL.made hgg0 (by omega))⟩ ?_
   intro X1 hX
   obtain ⟨hx, hfo0⟩ := hX.out
   have HX1 := Lib.hid hx
   have hzX1 := hx.size
   have HFo0 := Lib.hid hfo0
   clear hfo0
   clear hX hx
   refine T_three (i := 2) (j := 4) (k := 11) rfl rfl rfl (by kernel_rfl) rfl rfl rfl (fun K hK => ?_) (fun K hK => ?_) (fun K hK => ?_)
   ·refine wp_append_rd (enc := acc) (k := 10) _ _ _ 74 rfl W.heap.size 71 i1 (.agg #[.int .i64 0, .int .i64 0, .int .i64 0, .int .i64 0, .int .i64 0, .int .i64 0, .int .i64 0, .int .i64 0, .int .i64 0, .int .i64 0]) 80 Tryz.underlying74 jj jj0 jj1 jj2 rfl (by decide) acc_size _ ([] : List Ac) (by simp [Act.eval, Act.put]) HFo0.out _ l (by simp [Act.eval, Act.put]) (HRL.out _ (by exact extA)) (ac_one _) ?hb2a ?hb2b (by omega) ?_
    case hb2a => have := HBD.out; unfold maxLen; simp; omega
    case hb2b => have := HBD.out; simp; omega
    intro v8 y2 ho8 hg8 hn8
    obtain ⟨D1, d1, rfl⟩ := ho8.form
    simp only [List.nil_append] at ho8 ⊢
    have hf8 := row_fr hg8
    have HX8 := Lib.hid (Ext.fr HX1.out hf8 (fun q h => by have h2 := (HFo0.out.lt q h).1; omega))
    have HO8 := Lib.hid ho8
    refine hK.out _ _ (.inr HX8.out) ?_
    clear hK hf8 hg8 hn8 ho8
    (try simp only [Act.put, lSet])
    refine any_genP (S2 := fun X => Ext W X ∧ OwnL 71 10 acc W.heap.size X (.slice D1 l.length d1) l) ⟨HX8.out, HO8.out⟩ ?_
    intro X2 hX
    clear HFo0
    obtain ⟨hx, hfo1⟩ := hX.out
    have HX2 := Lib.hid hx
    have hzX2 := hx.size
    have HFo1 := Lib.hid hfo1
    clear hfo1
    clear hX hx
    refine T_two (i := 4) (j := 11) rfl rfl (by kernel_rfl) rfl rfl (fun K hK => ?_) (fun K hK => ?_)
    ·go_simp
     refine hK.out _ _ (.inr (show Ext W _ by exact extA)) ?_
     clear hK
     (try simp only [Act.put, lSet])
     obtain ⟨g1, hgg1⟩ : ∃ g, g = X2.heap.size := ⟨_, rfl⟩
     rw [← hgg1]
     refine any_genP (S2 := fun X => Ext W X ∧ OwnL 71 10 acc W.heap.size X (.slice D1 l.length d1) l ∧ OwnL 71 10 acc W.heap.size X (.slice (some ⟨g1, 0, none⟩) 1 1) [(⟨k, id, of, time, ⟨t0, t1, t2, t3, t4, t5⟩⟩ : Ac)]) ⟨(by exact extA), (HFo1.out.ext ((Ext.refl _).alloc _)), (own_lit hgg1 (by omega) rfl (by unfold maxLen; omega) rfl rfl)⟩ ?_
     intro X3 hX
     clear HFo1
     obtain ⟨hx, hfo1, hfo2⟩ := hX.out
     have HX3 := Lib.hid hx
     have hzX3 := hx.size
     have HFo1 := Lib.hid hfo1
     clear hfo1
     have HFo2 := Lib.hid hfo2
     clear hfo2
     clear hX hx
     refine T_two (i := 5) (j := 11) rfl rfl (by kernel_rfl) rfl rfl (fun K hK => ?_) (fun K hK => ?_)
     ·refine wp_append_rd (enc := acc) (k := 10) _ _ _ 74 rfl W.heap.size 71 i1 (.agg #[.int .i64 0, .int .i64 0, .int .i64 0, .int .i64 0, .int .i64 0, .int .i64 0, .int .i64 0, .int .i64 0, .int .i64 0, .int .i64 0]) 80 Tryz.underlying74 jj jj0 jj1 jj2 rfl (by decide) acc_size _ l (by simp [Act.eval, Act.put]) HFo1.out _ [(⟨k, id, of, time, ⟨t0, t1, t2, t3, t4, t5⟩⟩ : Ac)] (by simp [Act.eval, Act.put]) (HFo2.out.rd acc_size) (ac_one _) ?hb4a ?hb4b (by omega) ?_
      case hb4a => have := HBD.out; unfold maxLen; simp; omega
      case hb4b => have := HBD.out; simp; omega
      intro v8 y4 ho8 hg8 hn8
      obtain ⟨D3, d3, rfl⟩ := ho8.form
      rw [← HL3.out] at ho8 ⊢
      have hf8 := row_fr hg8
      have HX8 := Lib.hid (Ext.fr HX3.out hf8 (fun q h => by have h2 := (HFo1.out.lt q h).1; omega))
      have HO8 := Lib.hid ho8
      refine hK.out _ _ (.inr HX8.out) ?_
      clear hK hf8 hg8 hn8 ho8
      (try simp only [Act.put, lSet])
      refine any_genP (S2 := fun X => Ext W X ∧ OwnL 71 10 acc W.heap.size X (.slice D3 L3 d3) (l ++ [(⟨k, id, of, time, ⟨t0, t1, t2, t3, t4, t5⟩⟩ : Ac)])) ⟨HX8.out, HO8.out⟩ ?_
      intro X4 hX
      clear HFo1 HFo2
      obtain ⟨hx, hfo3⟩ := hX.out
      have HX4 := Lib.hid hx
      have hzX4 := hx.size
      have HFo3 := Lib.hid hfo3
      clear hfo3
      clear hX hx
      refine T_two (i := 6) (j := 11) rfl rfl (by kernel_rfl) rfl rfl (fun K hK => ?_) (fun K hK => ?_)
      ·go_simp
       refine (KR2.out _ _ (HFo3.out.rd acc_size)).mono ?_
       rintro e y5 ⟨⟨t0', t1', t2', ti, tg, tv⟩, u, rfl, h1, ho, hu⟩
       obtain ⟨F0, kF0, rfl⟩ : ∃ B d, t0' = .slice B S2.ledger.tickets.length d := ho.tk.form
       obtain ⟨F1, kF1, rfl⟩ : ∃ B d, t1' = .slice B S2.ledger.taps.length d := ho.tp.form
       obtain ⟨F2, kF2, rfl⟩ : ∃ B d, t2' = .slice B S2.ledger.verdicts.length d := ho.vd.form
       obtain ⟨F3, kF3, rfl⟩ : ∃ B d, ti = .slice B S2.denied.ids.length d := ho.dn.form
       obtain ⟨F4, kF4, rfl⟩ : ∃ B d, tg = .slice B S2.gates.length d := ho.gt.form
       obtain ⟨F5, kF5, rfl⟩ : ∃ B d, tv = .slice B S2.views.length d := ho.vw.form
       rw [show sta S2 ⟨.slice F0 S2.ledger.tickets.length kF0, .slice F1 S2.ledger.taps.length kF1, .slice F2 S2.ledger.verdicts.length kF2, .slice F3 S2.denied.ids.length kF3, .slice F4 S2.gates.length kF4, .slice F5 S2.views.length kF5⟩ = #[.slice F0 S2.ledger.tickets.length kF0, .slice F1 S2.ledger.taps.length kF1, .slice F2 S2.ledger.verdicts.length kF2, .int .i64 S2.denied.version, .slice F3 S2.denied.ids.length kF3, .slice F4 S2.gates.length kF4, .slice F5 S2.views.length kF5] from rfl]
       obtain ⟨U, ku, rfl⟩ : ∃ B d, u = .slice B all.length d := hu.form
       have HX8 := Lib.hid (And.intro trivial (HX4.out.trans h1))
       have HS8 := Lib.hid (show OwnS W.heap.size y5 ⟨.slice F0 S2.ledger.tickets.length kF0, .slice F1 S2.ledger.taps.length kF1, .slice F2 S2.ledger.verdicts.length kF2, .slice F3 S2.denied.ids.length kF3, .slice F4 S2.gates.length kF4, .slice F5 S2.views.length kF5⟩ S2 from ho.lower (by omega))
       have HU8 := Lib.hid (show OwnL 35 1 inc W.heap.size y5 (.slice U all.length ku) all from hu.lower (by omega))
       clear h1 ho hu
       go_wp2_with fail
       refine hK.out _ _ (.inr HX8.out.2) ?_
       clear hK
       (try simp only [Act.put, lSet])
       refine any_genP (S2 := fun X => Ext W X ∧ OwnS W.heap.size X ⟨.slice F0 S2.ledger.tickets.length kF0, .slice F1 S2.ledger.taps.length kF1, .slice F2 S2.ledger.verdicts.length kF2, .slice F3 S2.denied.ids.length kF3, .slice F4 S2.gates.length kF4, .slice F5 S2.views.length kF5⟩ S2 ∧ OwnL 35 1 inc W.heap.size X (.slice U all.length ku) all) ⟨HX8.out.2, HS8.out, HU8.out⟩ ?_
       intro X5 hX
       clear HFo3
       obtain ⟨hx, hfs, hfu⟩ := hX.out
       have HX5 := Lib.hid hx
       have hzX5 := hx.size
       have HFs := Lib.hid hfs
       clear hfs
       have HFu := Lib.hid hfu
       clear hfu
       have hS : Ext W X5 := hx
       clear hX hx
       ((refine T_takeP (i := 7) (v := ?_) rfl (by kernel_rfl) (by first | exact wanted_none rfl | kernel_rfl) (by first | exact .inr hS | exact .inl (by kernel_rfl)) ?_ ?_; rotate_left; focus (intro w; go_simp; try (with_reducible rfl))); (try simp only [Act.put, lSet]); (refine T_takeP (i := 8) (v := ?_) rfl (by kernel_rfl) (by first | exact wanted_none rfl | kernel_rfl) (by first | exact .inr hS | exact .inl (by kernel_rfl)) ?_ ?_; rotate_left; focus (intro w; go_simp; try (with_reducible rfl))); (try simp only [Act.put, lSet]); (refine T_takeP (i := 9) (v := ?_) rfl (by kernel_rfl) (by first | exact wanted_none rfl | kernel_rfl) (by first | exact .inr hS | exact .inl (by kernel_rfl)) ?_ ?_; rotate_left; focus (intro w; go_simp; try (with_reducible rfl))); (try simp only [Act.put, lSet]); (refine T_takeP (i := 10) (v := ?_) rfl (by kernel_rfl) (by first | exact wanted_none rfl | kernel_rfl) (by first | exact .inr hS | exact .inl (by kernel_rfl)) ?_ ?_; rotate_left; focus (intro w; go_simp; try (with_reducible rfl))); (try simp only [Act.put, lSet]))
       clear hS
       refine T_only (i := 11) rfl (by kernel_rfl) rfl (fun K hK => ?_)
       go_simp
       refine hK.out _ _ (.inr (show Ext W _ by exact extA)) ?_
       clear hK
       (try simp only [Act.put, lSet])
       obtain ⟨g11, hgg11⟩ : ∃ g, g = X5.heap.size := ⟨_, rfl⟩
       rw [← hgg11]
       have hw11 : W.heap.size ≤ g11 := by omega
       refine any_genP (S2 := fun X => Ext W X ∧ OwnS W.heap.size X ⟨.slice F0 S2.ledger.tickets.length kF0, .slice F1 S2.ledger.taps.length kF1, .slice F2 S2.ledger.verdicts.length kF2, .slice F3 S2.denied.ids.length kF3, .slice F4 S2.gates.length kF4, .slice F5 S2.views.length kF5⟩ S2 ∧ OwnL 35 1 inc W.heap.size X (.slice U all.length ku) all ∧ Bx X g11 32 #[.slice none 0 0, .slice none 0 0, .slice none 0 0, .int .i64 0, .slice none 0 0, .slice none 0 0, .slice none 0 0]) ⟨(by exact extA), (HFs.out.ext ((Ext.refl _).alloc _)), (HFu.out.ext ((Ext.refl _).alloc _)), (Bx.newAt hgg11)⟩ ?_
       intro X6 hX
       clear HFs HFu
       obtain ⟨hx, hfs, hfu, hfb⟩ := hX.out
       have HX6 := Lib.hid hx
       have hzX6 := hx.size
       have HFs := Lib.hid hfs
       clear hfs
       have HFu := Lib.hid hfu
       clear hfu
       have HFb := Lib.hid hfb
       clear hfb
       clear hX hx
       have HALL := Lib.hid (show Ext W X6 ∧ W.heap.size ≤ g11 ∧ OwnS W.heap.size X6 ⟨.slice F0 S2.ledger.tickets.length kF0, .slice F1 S2.ledger.taps.length kF1, .slice F2 S2.ledger.verdicts.length kF2, .slice F3 S2.denied.ids.length kF3, .slice F4 S2.gates.length kF4, .slice F5 S2.views.length kF5⟩ S2 ∧ OwnL 35 1 inc W.heap.size X6 (.slice U all.length ku) all ∧ Bx X6 g11 32 #[.slice none 0 0, .slice none 0 0, .slice none 0 0, .int .i64 0, .slice none 0 0, .slice none 0 0, .slice none 0 0] from ⟨HX6.out, hw11, HFs.out, HFu.out, HFb.out⟩)
       try rw [← hgg0]
       try rw [← hgg1]
       try rw [← hgg11]
       generalize (Value.slice (some ⟨g0, 0, none⟩) 0 0) = r56
       generalize (Value.slice D1 l.length d1) = r58
       generalize (Value.slice (some ⟨g1, 0, none⟩) 1 1) = r60
       generalize (Value.slice D3 L3 d3) = r61
       refine any_listed (l2 := #[true, true, true, true, true, true, true, true, true, true, true, true, false, false, false]) (by kernel_rfl) ?_
       revert HALL
       exact key r56 r58 r60 r61 X6 g11 F0 kF0 F1 kF1 F2 kF2 F3 kF3 F4 kF4 F5 kF5 U ku
      ·go_simp
       refine hK.out _ _ (.inr (show Ext W _ by exact extA)) ?_
       clear hK
       (try simp only [Act.put, lSet])
       obtain ⟨g11, hgg11⟩ : ∃ g, g = X4.heap.size := ⟨_, rfl⟩
       rw [← hgg11]
       have hw11 : W.heap.size ≤ g11 := by omega
       refine any_genP (S2 := fun X => Ext W X ∧ OwnL 71 10 acc W.heap.size X (.slice D3 L3 d3) (l ++ [(⟨k, id, of, time, ⟨t0, t1, t2, t3, t4, t5⟩⟩ : Ac)]) ∧ Bx X g11 32 #[.slice none 0 0, .slice none 0 0, .slice none 0 0, .int .i64 0, .slice none 0 0, .slice none 0 0, .slice none 0 0]) ⟨(by exact extA), (HFo3.out.ext ((Ext.refl _).alloc _)), (Bx.newAt hgg11)⟩ ?_
       intro X7 hX
       clear HFo3
       obtain ⟨hx, hfo3, hfb⟩ := hX.out
       have HX7 := Lib.hid hx
       have hzX7 := hx.size
       have HFo3 := Lib.hid hfo3
       clear hfo3
       have HFb := Lib.hid hfb
       clear hfb
       clear hX hx
       refine T_only (i := 6) rfl (by kernel_rfl) rfl (fun K hK => ?_)
       go_simp
       refine (KR2.out _ _ (HFo3.out.rd acc_size)).mono ?_
       rintro e y8 ⟨⟨t0', t1', t2', ti, tg, tv⟩, u, rfl, h1, ho, hu⟩
       obtain ⟨F0, kF0, rfl⟩ : ∃ B d, t0' = .slice B S2.ledger.tickets.length d := ho.tk.form
       obtain ⟨F1, kF1, rfl⟩ : ∃ B d, t1' = .slice B S2.ledger.taps.length d := ho.tp.form
       obtain ⟨F2, kF2, rfl⟩ : ∃ B d, t2' = .slice B S2.ledger.verdicts.length d := ho.vd.form
       obtain ⟨F3, kF3, rfl⟩ : ∃ B d, ti = .slice B S2.denied.ids.length d := ho.dn.form
       obtain ⟨F4, kF4, rfl⟩ : ∃ B d, tg = .slice B S2.gates.length d := ho.gt.form
       obtain ⟨F5, kF5, rfl⟩ : ∃ B d, tv = .slice B S2.views.length d := ho.vw.form
       rw [show sta S2 ⟨.slice F0 S2.ledger.tickets.length kF0, .slice F1 S2.ledger.taps.length kF1, .slice F2 S2.ledger.verdicts.length kF2, .slice F3 S2.denied.ids.length kF3, .slice F4 S2.gates.length kF4, .slice F5 S2.views.length kF5⟩ = #[.slice F0 S2.ledger.tickets.length kF0, .slice F1 S2.ledger.taps.length kF1, .slice F2 S2.ledger.verdicts.length kF2, .int .i64 S2.denied.version, .slice F3 S2.denied.ids.length kF3, .slice F4 S2.gates.length kF4, .slice F5 S2.views.length kF5] from rfl]
       obtain ⟨U, ku, rfl⟩ : ∃ B d, u = .slice B all.length d := hu.form
       have HX8 := Lib.hid (And.intro trivial (HX7.out.trans h1))
       have HS8 := Lib.hid (show OwnS W.heap.size y8 ⟨.slice F0 S2.ledger.tickets.length kF0, .slice F1 S2.ledger.taps.length kF1, .slice F2 S2.ledger.verdicts.length kF2, .slice F3 S2.denied.ids.length kF3, .slice F4 S2.gates.length kF4, .slice F5 S2.views.length kF5⟩ S2 from ho.lower (by omega))
       have HU8 := Lib.hid (show OwnL 35 1 inc W.heap.size y8 (.slice U all.length ku) all from hu.lower (by omega))
       have HB8 := Lib.hid (HFb.out.ext h1)
       clear h1 ho hu
       go_wp2_with fail
       refine hK.out _ _ (.inr HX8.out.2) ?_
       clear hK
       (try simp only [Act.put, lSet])
       refine any_genP (S2 := fun X => Ext W X ∧ OwnS W.heap.size X ⟨.slice F0 S2.ledger.tickets.length kF0, .slice F1 S2.ledger.taps.length kF1, .slice F2 S2.ledger.verdicts.length kF2, .slice F3 S2.denied.ids.length kF3, .slice F4 S2.gates.length kF4, .slice F5 S2.views.length kF5⟩ S2 ∧ OwnL 35 1 inc W.heap.size X (.slice U all.length ku) all ∧ Bx X g11 32 #[.slice none 0 0, .slice none 0 0, .slice none 0 0, .int .i64 0, .slice none 0 0, .slice none 0 0, .slice none 0 0]) ⟨HX8.out.2, HS8.out, HU8.out, HB8.out⟩ ?_
       intro X8 hX
       clear HFo3 HFb
       obtain ⟨hx, hfs, hfu, hfb⟩ := hX.out
       have HX8 := Lib.hid hx
       have hzX8 := hx.size
       have HFs := Lib.hid hfs
       clear hfs
       have HFu := Lib.hid hfu
       clear hfu
       have HFb := Lib.hid hfb
       clear hfb
       have hS : Ext W X8 := hx
       clear hX hx
       ((refine T_takeP (i := 7) (v := ?_) rfl (by kernel_rfl) (by first | exact wanted_none rfl | kernel_rfl) (by first | exact .inr hS | exact .inl (by kernel_rfl)) ?_ ?_; rotate_left; focus (intro w; go_simp; try (with_reducible rfl))); (try simp only [Act.put, lSet]); (refine T_takeP (i := 8) (v := ?_) rfl (by kernel_rfl) (by first | exact wanted_none rfl | kernel_rfl) (by first | exact .inr hS | exact .inl (by kernel_rfl)) ?_ ?_; rotate_left; focus (intro w; go_simp; try (with_reducible rfl))); (try simp only [Act.put, lSet]); (refine T_takeP (i := 9) (v := ?_) rfl (by kernel_rfl) (by first | exact wanted_none rfl | kernel_rfl) (by first | exact .inr hS | exact .inl (by kernel_rfl)) ?_ ?_; rotate_left; focus (intro w; go_simp; try (with_reducible rfl))); (try simp only [Act.put, lSet]); (refine T_takeP (i := 10) (v := ?_) rfl (by kernel_rfl) (by first | exact wanted_none rfl | kernel_rfl) (by first | exact .inr hS | exact .inl (by kernel_rfl)) ?_ ?_; rotate_left; focus (intro w; go_simp; try (with_reducible rfl))); (try simp only [Act.put, lSet]))
       clear hS
       have HALL := Lib.hid (show Ext W X8 ∧ W.heap.size ≤ g11 ∧ OwnS W.heap.size X8 ⟨.slice F0 S2.ledger.tickets.length kF0, .slice F1 S2.ledger.taps.length kF1, .slice F2 S2.ledger.verdicts.length kF2, .slice F3 S2.denied.ids.length kF3, .slice F4 S2.gates.length kF4, .slice F5 S2.views.length kF5⟩ S2 ∧ OwnL 35 1 inc W.heap.size X8 (.slice U all.length ku) all ∧ Bx X8 g11 32 #[.slice none 0 0, .slice none 0 0, .slice none 0 0, .int .i64 0, .slice none 0 0, .slice none 0 0, .slice none 0 0] from ⟨HX8.out, hw11, HFs.out, HFu.out, HFb.out⟩)
       try rw [← hgg0]
       try rw [← hgg1]
       try rw [← hgg11]
       generalize (Value.slice (some ⟨g0, 0, none⟩) 0 0) = r56
       generalize (Value.slice D1 l.length d1) = r58
       generalize (Value.slice (some ⟨g1, 0, none⟩) 1 1) = r60
       generalize (Value.slice D3 L3 d3) = r61
       refine any_listed (l2 := #[true, true, true, true, true, true, true, true, true, true, true, true, false, false, false]) (by kernel_rfl) ?_
       revert HALL
       exact key r56 r58 r60 r61 X8 g11 F0 kF0 F1 kF1 F2 kF2 F3 kF3 F4 kF4 F5 kF5 U ku
     ·go_simp
      refine hK.out _ _ (.inr (show Ext W _ by exact extA)) ?_
      clear hK
      (try simp only [Act.put, lSet])
      obtain ⟨g11, hgg11⟩ : ∃ g, g = X3.heap.size := ⟨_, rfl⟩
      rw [← hgg11]
      have hw11 : W.heap.size ≤ g11 := by omega
      refine any_genP (S2 := fun X => Ext W X ∧ OwnL 71 10 acc W.heap.size X (.slice D1 l.length d1) l ∧ OwnL 71 10 acc W.heap.size X (.slice (some ⟨g1, 0, none⟩) 1 1) [(⟨k, id, of, time, ⟨t0, t1, t2, t3, t4, t5⟩⟩ : Ac)] ∧ Bx X g11 32 #[.slice none 0 0, .slice none 0 0, .slice none 0 0, .int .i64 0, .slice none 0 0, .slice none 0 0, .slice none 0 0]) ⟨(by exact extA), (HFo1.out.ext ((Ext.refl _).alloc _)), (HFo2.out.ext ((Ext.refl _).alloc _)), (Bx.newAt hgg11)⟩ ?_
      intro X9 hX
      clear HFo1 HFo2
      obtain ⟨hx, hfo1, hfo2, hfb⟩ := hX.out
      have HX9 := Lib.hid hx
      have hzX9 := hx.size
      have HFo1 := Lib.hid hfo1
      clear hfo1
      have HFo2 := Lib.hid hfo2
      clear hfo2
      have HFb := Lib.hid hfb
      clear hfb
      clear hX hx
      refine T_only (i := 5) rfl (by kernel_rfl) rfl (fun K hK => ?_)
      refine wp_append_rd (enc := acc) (k := 10) _ _ _ 74 rfl W.heap.size 71 i1 (.agg #[.int .i64 0, .int .i64 0, .int .i64 0, .int .i64 0, .int .i64 0, .int .i64 0, .int .i64 0, .int .i64 0, .int .i64 0, .int .i64 0]) 80 Tryz.underlying74 jj jj0 jj1 jj2 rfl (by decide) acc_size _ l (by simp [Act.eval, Act.put]) HFo1.out _ [(⟨k, id, of, time, ⟨t0, t1, t2, t3, t4, t5⟩⟩ : Ac)] (by simp [Act.eval, Act.put]) (HFo2.out.rd acc_size) (ac_one _) ?hb10a ?hb10b (by omega) ?_
      case hb10a => have := HBD.out; unfold maxLen; simp; omega
      case hb10b => have := HBD.out; simp; omega
      intro v8 y10 ho8 hg8 hn8
      obtain ⟨D3, d3, rfl⟩ := ho8.form
      rw [← HL3.out] at ho8 ⊢
      have hf8 := row_fr hg8
      have HX8 := Lib.hid (Ext.fr HX9.out hf8 (fun q h => by have h2 := (HFo1.out.lt q h).1; omega))
      have HB8 := Lib.hid (HFb.out.fr hf8 (fun h => by obtain ⟨cs, h2⟩ := OwnL.bx HFo1.out _ h; have h3 := HFb.out; unfold Bx at h2 h3; rw [h2] at h3; simp at h3))
      have HO8 := Lib.hid ho8
      refine hK.out _ _ (.inr HX8.out) ?_
      clear hK hf8 hg8 hn8 ho8
      (try simp only [Act.put, lSet])
      refine any_genP (S2 := fun X => Ext W X ∧ OwnL 71 10 acc W.heap.size X (.slice D3 L3 d3) (l ++ [(⟨k, id, of, time, ⟨t0, t1, t2, t3, t4, t5⟩⟩ : Ac)]) ∧ Bx X g11 32 #[.slice none 0 0, .slice none 0 0, .slice none 0 0, .int .i64 0, .slice none 0 0, .slice none 0 0, .slice none 0 0]) ⟨HX8.out, HO8.out, HB8.out⟩ ?_
      intro X10 hX
      clear HFo1 HFo2 HFb
      obtain ⟨hx, hfo3, hfb⟩ := hX.out
      have HX10 := Lib.hid hx
      have hzX10 := hx.size
      have HFo3 := Lib.hid hfo3
      clear hfo3
      have HFb := Lib.hid hfb
      clear hfb
      clear hX hx
      refine T_only (i := 6) rfl (by kernel_rfl) rfl (fun K hK => ?_)
      go_simp
      refine (KR2.out _ _ (HFo3.out.rd acc_size)).mono ?_
      rintro e y11 ⟨⟨t0', t1', t2', ti, tg, tv⟩, u, rfl, h1, ho, hu⟩
      obtain ⟨F0, kF0, rfl⟩ : ∃ B d, t0' = .slice B S2.ledger.tickets.length d := ho.tk.form
      obtain ⟨F1, kF1, rfl⟩ : ∃ B d, t1' = .slice B S2.ledger.taps.length d := ho.tp.form
      obtain ⟨F2, kF2, rfl⟩ : ∃ B d, t2' = .slice B S2.ledger.verdicts.length d := ho.vd.form
      obtain ⟨F3, kF3, rfl⟩ : ∃ B d, ti = .slice B S2.denied.ids.length d := ho.dn.form
      obtain ⟨F4, kF4, rfl⟩ : ∃ B d, tg = .slice B S2.gates.length d := ho.gt.form
      obtain ⟨F5, kF5, rfl⟩ : ∃ B d, tv = .slice B S2.views.length d := ho.vw.form
      rw [show sta S2 ⟨.slice F0 S2.ledger.tickets.length kF0, .slice F1 S2.ledger.taps.length kF1, .slice F2 S2.ledger.verdicts.length kF2, .slice F3 S2.denied.ids.length kF3, .slice F4 S2.gates.length kF4, .slice F5 S2.views.length kF5⟩ = #[.slice F0 S2.ledger.tickets.length kF0, .slice F1 S2.ledger.taps.length kF1, .slice F2 S2.ledger.verdicts.length kF2, .int .i64 S2.denied.version, .slice F3 S2.denied.ids.length kF3, .slice F4 S2.gates.length kF4, .slice F5 S2.views.length kF5] from rfl]
      obtain ⟨U, ku, rfl⟩ : ∃ B d, u = .slice B all.length d := hu.form
      have HX8 := Lib.hid (And.intro trivial (HX10.out.trans h1))
      have HS8 := Lib.hid (show OwnS W.heap.size y11 ⟨.slice F0 S2.ledger.tickets.length kF0, .slice F1 S2.ledger.taps.length kF1, .slice F2 S2.ledger.verdicts.length kF2, .slice F3 S2.denied.ids.length kF3, .slice F4 S2.gates.length kF4, .slice F5 S2.views.length kF5⟩ S2 from ho.lower (by omega))
      have HU8 := Lib.hid (show OwnL 35 1 inc W.heap.size y11 (.slice U all.length ku) all from hu.lower (by omega))
      have HB8 := Lib.hid (HFb.out.ext h1)
      clear h1 ho hu
      go_wp2_with fail
      refine hK.out _ _ (.inr HX8.out.2) ?_
      clear hK
      (try simp only [Act.put, lSet])
      refine any_genP (S2 := fun X => Ext W X ∧ OwnS W.heap.size X ⟨.slice F0 S2.ledger.tickets.length kF0, .slice F1 S2.ledger.taps.length kF1, .slice F2 S2.ledger.verdicts.length kF2, .slice F3 S2.denied.ids.length kF3, .slice F4 S2.gates.length kF4, .slice F5 S2.views.length kF5⟩ S2 ∧ OwnL 35 1 inc W.heap.size X (.slice U all.length ku) all ∧ Bx X g11 32 #[.slice none 0 0, .slice none 0 0, .slice none 0 0, .int .i64 0, .slice none 0 0, .slice none 0 0, .slice none 0 0]) ⟨HX8.out.2, HS8.out, HU8.out, HB8.out⟩ ?_
      intro X11 hX
      clear HFo3 HFb
      obtain ⟨hx, hfs, hfu, hfb⟩ := hX.out
      have HX11 := Lib.hid hx
      have hzX11 := hx.size
      have HFs := Lib.hid hfs
      clear hfs
      have HFu := Lib.hid hfu
      clear hfu
      have HFb := Lib.hid hfb
      clear hfb
      have hS : Ext W X11 := hx
      clear hX hx
      ((refine T_takeP (i := 7) (v := ?_) rfl (by kernel_rfl) (by first | exact wanted_none rfl | kernel_rfl) (by first | exact .inr hS | exact .inl (by kernel_rfl)) ?_ ?_; rotate_left; focus (intro w; go_simp; try (with_reducible rfl))); (try simp only [Act.put, lSet]); (refine T_takeP (i := 8) (v := ?_) rfl (by kernel_rfl) (by first | exact wanted_none rfl | kernel_rfl) (by first | exact .inr hS | exact .inl (by kernel_rfl)) ?_ ?_; rotate_left; focus (intro w; go_simp; try (with_reducible rfl))); (try simp only [Act.put, lSet]); (refine T_takeP (i := 9) (v := ?_) rfl (by kernel_rfl) (by first | exact wanted_none rfl | kernel_rfl) (by first | exact .inr hS | exact .inl (by kernel_rfl)) ?_ ?_; rotate_left; focus (intro w; go_simp; try (with_reducible rfl))); (try simp only [Act.put, lSet]); (refine T_takeP (i := 10) (v := ?_) rfl (by kernel_rfl) (by first | exact wanted_none rfl | kernel_rfl) (by first | exact .inr hS | exact .inl (by kernel_rfl)) ?_ ?_; rotate_left; focus (intro w; go_simp; try (with_reducible rfl))); (try simp only [Act.put, lSet]))
      clear hS
      have HALL := Lib.hid (show Ext W X11 ∧ W.heap.size ≤ g11 ∧ OwnS W.heap.size X11 ⟨.slice F0 S2.ledger.tickets.length kF0, .slice F1 S2.ledger.taps.length kF1, .slice F2 S2.ledger.verdicts.length kF2, .slice F3 S2.denied.ids.length kF3, .slice F4 S2.gates.length kF4, .slice F5 S2.views.length kF5⟩ S2 ∧ OwnL 35 1 inc W.heap.size X11 (.slice U all.length ku) all ∧ Bx X11 g11 32 #[.slice none 0 0, .slice none 0 0, .slice none 0 0, .int .i64 0, .slice none 0 0, .slice none 0 0, .slice none 0 0] from ⟨HX11.out, hw11, HFs.out, HFu.out, HFb.out⟩)
      try rw [← hgg0]
      try rw [← hgg1]
      try rw [← hgg11]
      generalize (Value.slice (some ⟨g0, 0, none⟩) 0 0) = r56
      generalize (Value.slice D1 l.length d1) = r58
      generalize (Value.slice (some ⟨g1, 0, none⟩) 1 1) = r60
      generalize (Value.slice D3 L3 d3) = r61
      refine any_listed (l2 := #[true, true, true, true, true, true, true, true, true, true, true, true, false, false, false]) (by kernel_rfl) ?_
      revert HALL
      exact key r56 r58 r60 r61 X11 g11 F0 kF0 F1 kF1 F2 kF2 F3 kF3 F4 kF4 F5 kF5 U ku
    ·go_simp
     refine hK.out _ _ (.inr (show Ext W _ by exact extA)) ?_
     clear hK
     (try simp only [Act.put, lSet])
     obtain ⟨g11, hgg11⟩ : ∃ g, g = X2.heap.size := ⟨_, rfl⟩
     rw [← hgg11]
     have hw11 : W.heap.size ≤ g11 := by omega
     refine any_genP (S2 := fun X => Ext W X ∧ OwnL 71 10 acc W.heap.size X (.slice D1 l.length d1) l ∧ Bx X g11 32 #[.slice none 0 0, .slice none 0 0, .slice none 0 0, .int .i64 0, .slice none 0 0, .slice none 0 0, .slice none 0 0]) ⟨(by exact extA), (HFo1.out.ext ((Ext.refl _).alloc _)), (Bx.newAt hgg11)⟩ ?_
     intro X12 hX
     clear HFo1
     obtain ⟨hx, hfo1, hfb⟩ := hX.out
     have HX12 := Lib.hid hx
     have hzX12 := hx.size
     have HFo1 := Lib.hid hfo1
     clear hfo1
     have HFb := Lib.hid hfb
     clear hfb
     clear hX hx
     refine T_only (i := 4) rfl (by kernel_rfl) rfl (fun K hK => ?_)
     go_simp
     refine hK.out _ _ (.inr (show Ext W _ by exact extA)) ?_
     clear hK
     (try simp only [Act.put, lSet])
     obtain ⟨g1, hgg1⟩ : ∃ g, g = X12.heap.size := ⟨_, rfl⟩
     rw [← hgg1]
     refine any_genP (S2 := fun X => Ext W X ∧ OwnL 71 10 acc W.heap.size X (.slice D1 l.length d1) l ∧ OwnL 71 10 acc W.heap.size X (.slice (some ⟨g1, 0, none⟩) 1 1) [(⟨k, id, of, time, ⟨t0, t1, t2, t3, t4, t5⟩⟩ : Ac)] ∧ Bx X g11 32 #[.slice none 0 0, .slice none 0 0, .slice none 0 0, .int .i64 0, .slice none 0 0, .slice none 0 0, .slice none 0 0]) ⟨(by exact extA), (HFo1.out.ext ((Ext.refl _).alloc _)), (own_lit hgg1 (by omega) rfl (by unfold maxLen; omega) rfl rfl), (HFb.out.alloc _)⟩ ?_
     intro X13 hX
     clear HFo1 HFb
     obtain ⟨hx, hfo1, hfo2, hfb⟩ := hX.out
     have HX13 := Lib.hid hx
     have hzX13 := hx.size
     have HFo1 := Lib.hid hfo1
     clear hfo1
     have HFo2 := Lib.hid hfo2
     clear hfo2
     have HFb := Lib.hid hfb
     clear hfb
     clear hX hx
     refine T_only (i := 5) rfl (by kernel_rfl) rfl (fun K hK => ?_)
     refine wp_append_rd (enc := acc) (k := 10) _ _ _ 74 rfl W.heap.size 71 i1 (.agg #[.int .i64 0, .int .i64 0, .int .i64 0, .int .i64 0, .int .i64 0, .int .i64 0, .int .i64 0, .int .i64 0, .int .i64 0, .int .i64 0]) 80 Tryz.underlying74 jj jj0 jj1 jj2 rfl (by decide) acc_size _ l (by simp [Act.eval, Act.put]) HFo1.out _ [(⟨k, id, of, time, ⟨t0, t1, t2, t3, t4, t5⟩⟩ : Ac)] (by simp [Act.eval, Act.put]) (HFo2.out.rd acc_size) (ac_one _) ?hb14a ?hb14b (by omega) ?_
     case hb14a => have := HBD.out; unfold maxLen; simp; omega
     case hb14b => have := HBD.out; simp; omega
     intro v8 y14 ho8 hg8 hn8
     obtain ⟨D3, d3, rfl⟩ := ho8.form
     rw [← HL3.out] at ho8 ⊢
     have hf8 := row_fr hg8
     have HX8 := Lib.hid (Ext.fr HX13.out hf8 (fun q h => by have h2 := (HFo1.out.lt q h).1; omega))
     have HB8 := Lib.hid (HFb.out.fr hf8 (fun h => by obtain ⟨cs, h2⟩ := OwnL.bx HFo1.out _ h; have h3 := HFb.out; unfold Bx at h2 h3; rw [h2] at h3; simp at h3))
     have HO8 := Lib.hid ho8
     refine hK.out _ _ (.inr HX8.out) ?_
     clear hK hf8 hg8 hn8 ho8
     (try simp only [Act.put, lSet])
     refine any_genP (S2 := fun X => Ext W X ∧ OwnL 71 10 acc W.heap.size X (.slice D3 L3 d3) (l ++ [(⟨k, id, of, time, ⟨t0, t1, t2, t3, t4, t5⟩⟩ : Ac)]) ∧ Bx X g11 32 #[.slice none 0 0, .slice none 0 0, .slice none 0 0, .int .i64 0, .slice none 0 0, .slice none 0 0, .slice none 0 0]) ⟨HX8.out, HO8.out, HB8.out⟩ ?_
     intro X14 hX
     clear HFo1 HFo2 HFb
     obtain ⟨hx, hfo3, hfb⟩ := hX.out
     have HX14 := Lib.hid hx
     have hzX14 := hx.size
     have HFo3 := Lib.hid hfo3
     clear hfo3
     have HFb := Lib.hid hfb
     clear hfb
     clear hX hx
     refine T_only (i := 6) rfl (by kernel_rfl) rfl (fun K hK => ?_)
     go_simp
     refine (KR2.out _ _ (HFo3.out.rd acc_size)).mono ?_
     rintro e y15 ⟨⟨t0', t1', t2', ti, tg, tv⟩, u, rfl, h1, ho, hu⟩
     obtain ⟨F0, kF0, rfl⟩ : ∃ B d, t0' = .slice B S2.ledger.tickets.length d := ho.tk.form
     obtain ⟨F1, kF1, rfl⟩ : ∃ B d, t1' = .slice B S2.ledger.taps.length d := ho.tp.form
     obtain ⟨F2, kF2, rfl⟩ : ∃ B d, t2' = .slice B S2.ledger.verdicts.length d := ho.vd.form
     obtain ⟨F3, kF3, rfl⟩ : ∃ B d, ti = .slice B S2.denied.ids.length d := ho.dn.form
     obtain ⟨F4, kF4, rfl⟩ : ∃ B d, tg = .slice B S2.gates.length d := ho.gt.form
     obtain ⟨F5, kF5, rfl⟩ : ∃ B d, tv = .slice B S2.views.length d := ho.vw.form
     rw [show sta S2 ⟨.slice F0 S2.ledger.tickets.length kF0, .slice F1 S2.ledger.taps.length kF1, .slice F2 S2.ledger.verdicts.length kF2, .slice F3 S2.denied.ids.length kF3, .slice F4 S2.gates.length kF4, .slice F5 S2.views.length kF5⟩ = #[.slice F0 S2.ledger.tickets.length kF0, .slice F1 S2.ledger.taps.length kF1, .slice F2 S2.ledger.verdicts.length kF2, .int .i64 S2.denied.version, .slice F3 S2.denied.ids.length kF3, .slice F4 S2.gates.length kF4, .slice F5 S2.views.length kF5] from rfl]
     obtain ⟨U, ku, rfl⟩ : ∃ B d, u = .slice B all.length d := hu.form
     have HX8 := Lib.hid (And.intro trivial (HX14.out.trans h1))
     have HS8 := Lib.hid (show OwnS W.heap.size y15 ⟨.slice F0 S2.ledger.tickets.length kF0, .slice F1 S2.ledger.taps.length kF1, .slice F2 S2.ledger.verdicts.length kF2, .slice F3 S2.denied.ids.length kF3, .slice F4 S2.gates.length kF4, .slice F5 S2.views.length kF5⟩ S2 from ho.lower (by omega))
     have HU8 := Lib.hid (show OwnL 35 1 inc W.heap.size y15 (.slice U all.length ku) all from hu.lower (by omega))
     have HB8 := Lib.hid (HFb.out.ext h1)
     clear h1 ho hu
     go_wp2_with fail
     refine hK.out _ _ (.inr HX8.out.2) ?_
     clear hK
     (try simp only [Act.put, lSet])
     refine any_genP (S2 := fun X => Ext W X ∧ OwnS W.heap.size X ⟨.slice F0 S2.ledger.tickets.length kF0, .slice F1 S2.ledger.taps.length kF1, .slice F2 S2.ledger.verdicts.length kF2, .slice F3 S2.denied.ids.length kF3, .slice F4 S2.gates.length kF4, .slice F5 S2.views.length kF5⟩ S2 ∧ OwnL 35 1 inc W.heap.size X (.slice U all.length ku) all ∧ Bx X g11 32 #[.slice none 0 0, .slice none 0 0, .slice none 0 0, .int .i64 0, .slice none 0 0, .slice none 0 0, .slice none 0 0]) ⟨HX8.out.2, HS8.out, HU8.out, HB8.out⟩ ?_
     intro X15 hX
     clear HFo3 HFb
     obtain ⟨hx, hfs, hfu, hfb⟩ := hX.out
     have HX15 := Lib.hid hx
     have hzX15 := hx.size
     have HFs := Lib.hid hfs
     clear hfs
     have HFu := Lib.hid hfu
     clear hfu
     have HFb := Lib.hid hfb
     clear hfb
     have hS : Ext W X15 := hx
     clear hX hx
     ((refine T_takeP (i := 7) (v := ?_) rfl (by kernel_rfl) (by first | exact wanted_none rfl | kernel_rfl) (by first | exact .inr hS | exact .inl (by kernel_rfl)) ?_ ?_; rotate_left; focus (intro w; go_simp; try (with_reducible rfl))); (try simp only [Act.put, lSet]); (refine T_takeP (i := 8) (v := ?_) rfl (by kernel_rfl) (by first | exact wanted_none rfl | kernel_rfl) (by first | exact .inr hS | exact .inl (by kernel_rfl)) ?_ ?_; rotate_left; focus (intro w; go_simp; try (with_reducible rfl))); (try simp only [Act.put, lSet]); (refine T_takeP (i := 9) (v := ?_) rfl (by kernel_rfl) (by first | exact wanted_none rfl | kernel_rfl) (by first | exact .inr hS | exact .inl (by kernel_rfl)) ?_ ?_; rotate_left; focus (intro w; go_simp; try (with_reducible rfl))); (try simp only [Act.put, lSet]); (refine T_takeP (i := 10) (v := ?_) rfl (by kernel_rfl) (by first | exact wanted_none rfl | kernel_rfl) (by first | exact .inr hS | exact .inl (by kernel_rfl)) ?_ ?_; rotate_left; focus (intro w; go_simp; try (with_reducible rfl))); (try simp only [Act.put, lSet]))
     clear hS
     have HALL := Lib.hid (show Ext W X15 ∧ W.heap.size ≤ g11 ∧ OwnS W.heap.size X15 ⟨.slice F0 S2.ledger.tickets.length kF0, .slice F1 S2.ledger.taps.length kF1, .slice F2 S2.ledger.verdicts.length kF2, .slice F3 S2.denied.ids.length kF3, .slice F4 S2.gates.length kF4, .slice F5 S2.views.length kF5⟩ S2 ∧ OwnL 35 1 inc W.heap.size X15 (.slice U all.length ku) all ∧ Bx X15 g11 32 #[.slice none 0 0, .slice none 0 0, .slice none 0 0, .int .i64 0, .slice none 0 0, .slice none 0 0, .slice none 0 0] from ⟨HX15.out, hw11, HFs.out, HFu.out, HFb.out⟩)
     try rw [← hgg0]
     try rw [← hgg1]
     try rw [← hgg11]
     generalize (Value.slice (some ⟨g0, 0, none⟩) 0 0) = r56
     generalize (Value.slice D1 l.length d1) = r58
     generalize (Value.slice (some ⟨g1, 0, none⟩) 1 1) = r60
     generalize (Value.slice D3 L3 d3) = r61
     refine any_listed (l2 := #[true, true, true, true, true, true, true, true, true, true, true, true, false, false, false]) (by kernel_rfl) ?_
     revert HALL
     exact key r56 r58 r60 r61 X15 g11 F0 kF0 F1 kF1 F2 kF2 F3 kF3 F4 kF4 F5 kF5 U ku
   ·go_simp
    refine hK.out _ _ (.inr (show Ext W _ by exact extA)) ?_
    clear hK
    (try simp only [Act.put, lSet])
    obtain ⟨g1, hgg1⟩ : ∃ g, g = X1.heap.size := ⟨_, rfl⟩
    rw [← hgg1]
    have h01 : g1 ≠ g0 := by have := (HFo0.out.lt g0 rfl).2; omega
    refine any_genP (S2 := fun X => Ext W X ∧ OwnL 71 10 acc W.heap.size X (.slice (some ⟨g0, 0, none⟩) 0 0) [] ∧ OwnL 71 10 acc W.heap.size X (.slice (some ⟨g1, 0, none⟩) 1 1) [(⟨k, id, of, time, ⟨t0, t1, t2, t3, t4, t5⟩⟩ : Ac)]) ⟨(by exact extA), (HFo0.out.ext ((Ext.refl _).alloc _)), (own_lit hgg1 (by omega) rfl (by unfold maxLen; omega) rfl rfl)⟩ ?_
    intro X16 hX
    clear HFo0
    obtain ⟨hx, hfo0, hfo2⟩ := hX.out
    have HX16 := Lib.hid hx
    have hzX16 := hx.size
    have HFo0 := Lib.hid hfo0
    clear hfo0
    have HFo2 := Lib.hid hfo2
    clear hfo2
    clear hX hx
    refine T_two (i := 2) (j := 11) rfl rfl (by kernel_rfl) rfl rfl (fun K hK => ?_) (fun K hK => ?_)
    ·refine wp_append_rd (enc := acc) (k := 10) _ _ _ 74 rfl W.heap.size 71 i1 (.agg #[.int .i64 0, .int .i64 0, .int .i64 0, .int .i64 0, .int .i64 0, .int .i64 0, .int .i64 0, .int .i64 0, .int .i64 0, .int .i64 0]) 80 Tryz.underlying74 jj jj0 jj1 jj2 rfl (by decide) acc_size _ ([] : List Ac) (by simp [Act.eval, Act.put]) HFo0.out _ l (by simp [Act.eval, Act.put]) (HRL.out _ (by exact extA)) (ac_one _) ?hb17a ?hb17b (by omega) ?_
     case hb17a => have := HBD.out; unfold maxLen; simp; omega
     case hb17b => have := HBD.out; simp; omega
     intro v8 y17 ho8 hg8 hn8
     obtain ⟨D1, d1, rfl⟩ := ho8.form
     simp only [List.nil_append] at ho8 ⊢
     have hf8 := row_fr hg8
     have HX8 := Lib.hid (Ext.fr HX16.out hf8 (fun q h => by have h2 := (HFo0.out.lt q h).1; omega))
     have HO28 := Lib.hid (HFo2.out.kept' hg8 (fun q hq => by simp [Value.ownBlock] at hq ⊢; omega))
     have HO8 := Lib.hid ho8
     refine hK.out _ _ (.inr HX8.out) ?_
     clear hK hf8 hg8 hn8 ho8
     (try simp only [Act.put, lSet])
     refine any_genP (S2 := fun X => Ext W X ∧ OwnL 71 10 acc W.heap.size X (.slice D1 l.length d1) l ∧ OwnL 71 10 acc W.heap.size X (.slice (some ⟨g1, 0, none⟩) 1 1) [(⟨k, id, of, time, ⟨t0, t1, t2, t3, t4, t5⟩⟩ : Ac)]) ⟨HX8.out, HO8.out, HO28.out⟩ ?_
     intro X17 hX
     clear HFo0 HFo2
     obtain ⟨hx, hfo1, hfo2⟩ := hX.out
     have HX17 := Lib.hid hx
     have hzX17 := hx.size
     have HFo1 := Lib.hid hfo1
     clear hfo1
     have HFo2 := Lib.hid hfo2
     clear hfo2
     clear hX hx
     refine T_two (i := 5) (j := 11) rfl rfl (by kernel_rfl) rfl rfl (fun K hK => ?_) (fun K hK => ?_)
     ·refine wp_append_rd (enc := acc) (k := 10) _ _ _ 74 rfl W.heap.size 71 i1 (.agg #[.int .i64 0, .int .i64 0, .int .i64 0, .int .i64 0, .int .i64 0, .int .i64 0, .int .i64 0, .int .i64 0, .int .i64 0, .int .i64 0]) 80 Tryz.underlying74 jj jj0 jj1 jj2 rfl (by decide) acc_size _ l (by simp [Act.eval, Act.put]) HFo1.out _ [(⟨k, id, of, time, ⟨t0, t1, t2, t3, t4, t5⟩⟩ : Ac)] (by simp [Act.eval, Act.put]) (HFo2.out.rd acc_size) (ac_one _) ?hb18a ?hb18b (by omega) ?_
      case hb18a => have := HBD.out; unfold maxLen; simp; omega
      case hb18b => have := HBD.out; simp; omega
      intro v8 y18 ho8 hg8 hn8
      obtain ⟨D3, d3, rfl⟩ := ho8.form
      rw [← HL3.out] at ho8 ⊢
      have hf8 := row_fr hg8
      have HX8 := Lib.hid (Ext.fr HX17.out hf8 (fun q h => by have h2 := (HFo1.out.lt q h).1; omega))
      have HO8 := Lib.hid ho8
      refine hK.out _ _ (.inr HX8.out) ?_
      clear hK hf8 hg8 hn8 ho8
      (try simp only [Act.put, lSet])
      refine any_genP (S2 := fun X => Ext W X ∧ OwnL 71 10 acc W.heap.size X (.slice D3 L3 d3) (l ++ [(⟨k, id, of, time, ⟨t0, t1, t2, t3, t4, t5⟩⟩ : Ac)])) ⟨HX8.out, HO8.out⟩ ?_
      intro X18 hX
      clear HFo1 HFo2
      obtain ⟨hx, hfo3⟩ := hX.out
      have HX18 := Lib.hid hx
      have hzX18 := hx.size
      have HFo3 := Lib.hid hfo3
      clear hfo3
      clear hX hx
      refine T_two (i := 6) (j := 11) rfl rfl (by kernel_rfl) rfl rfl (fun K hK => ?_) (fun K hK => ?_)
      ·go_simp
       refine (KR2.out _ _ (HFo3.out.rd acc_size)).mono ?_
       rintro e y19 ⟨⟨t0', t1', t2', ti, tg, tv⟩, u, rfl, h1, ho, hu⟩
       obtain ⟨F0, kF0, rfl⟩ : ∃ B d, t0' = .slice B S2.ledger.tickets.length d := ho.tk.form
       obtain ⟨F1, kF1, rfl⟩ : ∃ B d, t1' = .slice B S2.ledger.taps.length d := ho.tp.form
       obtain ⟨F2, kF2, rfl⟩ : ∃ B d, t2' = .slice B S2.ledger.verdicts.length d := ho.vd.form
       obtain ⟨F3, kF3, rfl⟩ : ∃ B d, ti = .slice B S2.denied.ids.length d := ho.dn.form
       obtain ⟨F4, kF4, rfl⟩ : ∃ B d, tg = .slice B S2.gates.length d := ho.gt.form
       obtain ⟨F5, kF5, rfl⟩ : ∃ B d, tv = .slice B S2.views.length d := ho.vw.form
       rw [show sta S2 ⟨.slice F0 S2.ledger.tickets.length kF0, .slice F1 S2.ledger.taps.length kF1, .slice F2 S2.ledger.verdicts.length kF2, .slice F3 S2.denied.ids.length kF3, .slice F4 S2.gates.length kF4, .slice F5 S2.views.length kF5⟩ = #[.slice F0 S2.ledger.tickets.length kF0, .slice F1 S2.ledger.taps.length kF1, .slice F2 S2.ledger.verdicts.length kF2, .int .i64 S2.denied.version, .slice F3 S2.denied.ids.length kF3, .slice F4 S2.gates.length kF4, .slice F5 S2.views.length kF5] from rfl]
       obtain ⟨U, ku, rfl⟩ : ∃ B d, u = .slice B all.length d := hu.form
       have HX8 := Lib.hid (And.intro trivial (HX18.out.trans h1))
       have HS8 := Lib.hid (show OwnS W.heap.size y19 ⟨.slice F0 S2.ledger.tickets.length kF0, .slice F1 S2.ledger.taps.length kF1, .slice F2 S2.ledger.verdicts.length kF2, .slice F3 S2.denied.ids.length kF3, .slice F4 S2.gates.length kF4, .slice F5 S2.views.length kF5⟩ S2 from ho.lower (by omega))
       have HU8 := Lib.hid (show OwnL 35 1 inc W.heap.size y19 (.slice U all.length ku) all from hu.lower (by omega))
       clear h1 ho hu
       go_wp2_with fail
       refine hK.out _ _ (.inr HX8.out.2) ?_
       clear hK
       (try simp only [Act.put, lSet])
       refine any_genP (S2 := fun X => Ext W X ∧ OwnS W.heap.size X ⟨.slice F0 S2.ledger.tickets.length kF0, .slice F1 S2.ledger.taps.length kF1, .slice F2 S2.ledger.verdicts.length kF2, .slice F3 S2.denied.ids.length kF3, .slice F4 S2.gates.length kF4, .slice F5 S2.views.length kF5⟩ S2 ∧ OwnL 35 1 inc W.heap.size X (.slice U all.length ku) all) ⟨HX8.out.2, HS8.out, HU8.out⟩ ?_
       intro X19 hX
       clear HFo3
       obtain ⟨hx, hfs, hfu⟩ := hX.out
       have HX19 := Lib.hid hx
       have hzX19 := hx.size
       have HFs := Lib.hid hfs
       clear hfs
       have HFu := Lib.hid hfu
       clear hfu
       have hS : Ext W X19 := hx
       clear hX hx
       ((refine T_takeP (i := 7) (v := ?_) rfl (by kernel_rfl) (by first | exact wanted_none rfl | kernel_rfl) (by first | exact .inr hS | exact .inl (by kernel_rfl)) ?_ ?_; rotate_left; focus (intro w; go_simp; try (with_reducible rfl))); (try simp only [Act.put, lSet]); (refine T_takeP (i := 8) (v := ?_) rfl (by kernel_rfl) (by first | exact wanted_none rfl | kernel_rfl) (by first | exact .inr hS | exact .inl (by kernel_rfl)) ?_ ?_; rotate_left; focus (intro w; go_simp; try (with_reducible rfl))); (try simp only [Act.put, lSet]); (refine T_takeP (i := 9) (v := ?_) rfl (by kernel_rfl) (by first | exact wanted_none rfl | kernel_rfl) (by first | exact .inr hS | exact .inl (by kernel_rfl)) ?_ ?_; rotate_left; focus (intro w; go_simp; try (with_reducible rfl))); (try simp only [Act.put, lSet]); (refine T_takeP (i := 10) (v := ?_) rfl (by kernel_rfl) (by first | exact wanted_none rfl | kernel_rfl) (by first | exact .inr hS | exact .inl (by kernel_rfl)) ?_ ?_; rotate_left; focus (intro w; go_simp; try (with_reducible rfl))); (try simp only [Act.put, lSet]))
       clear hS
       refine T_only (i := 11) rfl (by kernel_rfl) rfl (fun K hK => ?_)
       go_simp
       refine hK.out _ _ (.inr (show Ext W _ by exact extA)) ?_
       clear hK
       (try simp only [Act.put, lSet])
       obtain ⟨g11, hgg11⟩ : ∃ g, g = X19.heap.size := ⟨_, rfl⟩
       rw [← hgg11]
       have hw11 : W.heap.size ≤ g11 := by omega
       refine any_genP (S2 := fun X => Ext W X ∧ OwnS W.heap.size X ⟨.slice F0 S2.ledger.tickets.length kF0, .slice F1 S2.ledger.taps.length kF1, .slice F2 S2.ledger.verdicts.length kF2, .slice F3 S2.denied.ids.length kF3, .slice F4 S2.gates.length kF4, .slice F5 S2.views.length kF5⟩ S2 ∧ OwnL 35 1 inc W.heap.size X (.slice U all.length ku) all ∧ Bx X g11 32 #[.slice none 0 0, .slice none 0 0, .slice none 0 0, .int .i64 0, .slice none 0 0, .slice none 0 0, .slice none 0 0]) ⟨(by exact extA), (HFs.out.ext ((Ext.refl _).alloc _)), (HFu.out.ext ((Ext.refl _).alloc _)), (Bx.newAt hgg11)⟩ ?_
       intro X20 hX
       clear HFs HFu
       obtain ⟨hx, hfs, hfu, hfb⟩ := hX.out
       have HX20 := Lib.hid hx
       have hzX20 := hx.size
       have HFs := Lib.hid hfs
       clear hfs
       have HFu := Lib.hid hfu
       clear hfu
       have HFb := Lib.hid hfb
       clear hfb
       clear hX hx
       have HALL := Lib.hid (show Ext W X20 ∧ W.heap.size ≤ g11 ∧ OwnS W.heap.size X20 ⟨.slice F0 S2.ledger.tickets.length kF0, .slice F1 S2.ledger.taps.length kF1, .slice F2 S2.ledger.verdicts.length kF2, .slice F3 S2.denied.ids.length kF3, .slice F4 S2.gates.length kF4, .slice F5 S2.views.length kF5⟩ S2 ∧ OwnL 35 1 inc W.heap.size X20 (.slice U all.length ku) all ∧ Bx X20 g11 32 #[.slice none 0 0, .slice none 0 0, .slice none 0 0, .int .i64 0, .slice none 0 0, .slice none 0 0, .slice none 0 0] from ⟨HX20.out, hw11, HFs.out, HFu.out, HFb.out⟩)
       try rw [← hgg0]
       try rw [← hgg1]
       try rw [← hgg11]
       generalize (Value.slice (some ⟨g0, 0, none⟩) 0 0) = r56
       generalize (Value.slice D1 l.length d1) = r58
       generalize (Value.slice (some ⟨g1, 0, none⟩) 1 1) = r60
       generalize (Value.slice D3 L3 d3) = r61
       refine any_listed (l2 := #[true, true, true, true, true, true, true, true, true, true, true, true, false, false, false]) (by kernel_rfl) ?_
       revert HALL
       exact key r56 r58 r60 r61 X20 g11 F0 kF0 F1 kF1 F2 kF2 F3 kF3 F4 kF4 F5 kF5 U ku
      ·go_simp
       refine hK.out _ _ (.inr (show Ext W _ by exact extA)) ?_
       clear hK
       (try simp only [Act.put, lSet])
       obtain ⟨g11, hgg11⟩ : ∃ g, g = X18.heap.size := ⟨_, rfl⟩
       rw [← hgg11]
       have hw11 : W.heap.size ≤ g11 := by omega
       refine any_genP (S2 := fun X => Ext W X ∧ OwnL 71 10 acc W.heap.size X (.slice D3 L3 d3) (l ++ [(⟨k, id, of, time, ⟨t0, t1, t2, t3, t4, t5⟩⟩ : Ac)]) ∧ Bx X g11 32 #[.slice none 0 0, .slice none 0 0, .slice none 0 0, .int .i64 0, .slice none 0 0, .slice none 0 0, .slice none 0 0]) ⟨(by exact extA), (HFo3.out.ext ((Ext.refl _).alloc _)), (Bx.newAt hgg11)⟩ ?_
       intro X21 hX
       clear HFo3
       obtain ⟨hx, hfo3, hfb⟩ := hX.out
       have HX21 := Lib.hid hx
       have hzX21 := hx.size
       have HFo3 := Lib.hid hfo3
       clear hfo3
       have HFb := Lib.hid hfb
       clear hfb
       clear hX hx
       refine T_only (i := 6) rfl (by kernel_rfl) rfl (fun K hK => ?_)
       go_simp
       refine (KR2.out _ _ (HFo3.out.rd acc_size)).mono ?_
       rintro e y22 ⟨⟨t0', t1', t2', ti, tg, tv⟩, u, rfl, h1, ho, hu⟩
       obtain ⟨F0, kF0, rfl⟩ : ∃ B d, t0' = .slice B S2.ledger.tickets.length d := ho.tk.form
       obtain ⟨F1, kF1, rfl⟩ : ∃ B d, t1' = .slice B S2.ledger.taps.length d := ho.tp.form
       obtain ⟨F2, kF2, rfl⟩ : ∃ B d, t2' = .slice B S2.ledger.verdicts.length d := ho.vd.form
       obtain ⟨F3, kF3, rfl⟩ : ∃ B d, ti = .slice B S2.denied.ids.length d := ho.dn.form
       obtain ⟨F4, kF4, rfl⟩ : ∃ B d, tg = .slice B S2.gates.length d := ho.gt.form
       obtain ⟨F5, kF5, rfl⟩ : ∃ B d, tv = .slice B S2.views.length d := ho.vw.form
       rw [show sta S2 ⟨.slice F0 S2.ledger.tickets.length kF0, .slice F1 S2.ledger.taps.length kF1, .slice F2 S2.ledger.verdicts.length kF2, .slice F3 S2.denied.ids.length kF3, .slice F4 S2.gates.length kF4, .slice F5 S2.views.length kF5⟩ = #[.slice F0 S2.ledger.tickets.length kF0, .slice F1 S2.ledger.taps.length kF1, .slice F2 S2.ledger.verdicts.length kF2, .int .i64 S2.denied.version, .slice F3 S2.denied.ids.length kF3, .slice F4 S2.gates.length kF4, .slice F5 S2.views.length kF5] from rfl]
       obtain ⟨U, ku, rfl⟩ : ∃ B d, u = .slice B all.length d := hu.form
       have HX8 := Lib.hid (And.intro trivial (HX21.out.trans h1))
       have HS8 := Lib.hid (show OwnS W.heap.size y22 ⟨.slice F0 S2.ledger.tickets.length kF0, .slice F1 S2.ledger.taps.length kF1, .slice F2 S2.ledger.verdicts.length kF2, .slice F3 S2.denied.ids.length kF3, .slice F4 S2.gates.length kF4, .slice F5 S2.views.length kF5⟩ S2 from ho.lower (by omega))
       have HU8 := Lib.hid (show OwnL 35 1 inc W.heap.size y22 (.slice U all.length ku) all from hu.lower (by omega))
       have HB8 := Lib.hid (HFb.out.ext h1)
       clear h1 ho hu
       go_wp2_with fail
       refine hK.out _ _ (.inr HX8.out.2) ?_
       clear hK
       (try simp only [Act.put, lSet])
       refine any_genP (S2 := fun X => Ext W X ∧ OwnS W.heap.size X ⟨.slice F0 S2.ledger.tickets.length kF0, .slice F1 S2.ledger.taps.length kF1, .slice F2 S2.ledger.verdicts.length kF2, .slice F3 S2.denied.ids.length kF3, .slice F4 S2.gates.length kF4, .slice F5 S2.views.length kF5⟩ S2 ∧ OwnL 35 1 inc W.heap.size X (.slice U all.length ku) all ∧ Bx X g11 32 #[.slice none 0 0, .slice none 0 0, .slice none 0 0, .int .i64 0, .slice none 0 0, .slice none 0 0, .slice none 0 0]) ⟨HX8.out.2, HS8.out, HU8.out, HB8.out⟩ ?_
       intro X22 hX
       clear HFo3 HFb
       obtain ⟨hx, hfs, hfu, hfb⟩ := hX.out
       have HX22 := Lib.hid hx
       have hzX22 := hx.size
       have HFs := Lib.hid hfs
       clear hfs
       have HFu := Lib.hid hfu
       clear hfu
       have HFb := Lib.hid hfb
       clear hfb
       have hS : Ext W X22 := hx
       clear hX hx
       ((refine T_takeP (i := 7) (v := ?_) rfl (by kernel_rfl) (by first | exact wanted_none rfl | kernel_rfl) (by first | exact .inr hS | exact .inl (by kernel_rfl)) ?_ ?_; rotate_left; focus (intro w; go_simp; try (with_reducible rfl))); (try simp only [Act.put, lSet]); (refine T_takeP (i := 8) (v := ?_) rfl (by kernel_rfl) (by first | exact wanted_none rfl | kernel_rfl) (by first | exact .inr hS | exact .inl (by kernel_rfl)) ?_ ?_; rotate_left; focus (intro w; go_simp; try (with_reducible rfl))); (try simp only [Act.put, lSet]); (refine T_takeP (i := 9) (v := ?_) rfl (by kernel_rfl) (by first | exact wanted_none rfl | kernel_rfl) (by first | exact .inr hS | exact .inl (by kernel_rfl)) ?_ ?_; rotate_left; focus (intro w; go_simp; try (with_reducible rfl))); (try simp only [Act.put, lSet]); (refine T_takeP (i := 10) (v := ?_) rfl (by kernel_rfl) (by first | exact wanted_none rfl | kernel_rfl) (by first | exact .inr hS | exact .inl (by kernel_rfl)) ?_ ?_; rotate_left; focus (intro w; go_simp; try (with_reducible rfl))); (try simp only [Act.put, lSet]))
       clear hS
       have HALL := Lib.hid (show Ext W X22 ∧ W.heap.size ≤ g11 ∧ OwnS W.heap.size X22 ⟨.slice F0 S2.ledger.tickets.length kF0, .slice F1 S2.ledger.taps.length kF1, .slice F2 S2.ledger.verdicts.length kF2, .slice F3 S2.denied.ids.length kF3, .slice F4 S2.gates.length kF4, .slice F5 S2.views.length kF5⟩ S2 ∧ OwnL 35 1 inc W.heap.size X22 (.slice U all.length ku) all ∧ Bx X22 g11 32 #[.slice none 0 0, .slice none 0 0, .slice none 0 0, .int .i64 0, .slice none 0 0, .slice none 0 0, .slice none 0 0] from ⟨HX22.out, hw11, HFs.out, HFu.out, HFb.out⟩)
       try rw [← hgg0]
       try rw [← hgg1]
       try rw [← hgg11]
       generalize (Value.slice (some ⟨g0, 0, none⟩) 0 0) = r56
       generalize (Value.slice D1 l.length d1) = r58
       generalize (Value.slice (some ⟨g1, 0, none⟩) 1 1) = r60
       generalize (Value.slice D3 L3 d3) = r61
       refine any_listed (l2 := #[true, true, true, true, true, true, true, true, true, true, true, true, false, false, false]) (by kernel_rfl) ?_
       revert HALL
       exact key r56 r58 r60 r61 X22 g11 F0 kF0 F1 kF1 F2 kF2 F3 kF3 F4 kF4 F5 kF5 U ku
     ·go_simp
      refine hK.out _ _ (.inr (show Ext W _ by exact extA)) ?_
      clear hK
      (try simp only [Act.put, lSet])
      obtain ⟨g11, hgg11⟩ : ∃ g, g = X17.heap.size := ⟨_, rfl⟩
      rw [← hgg11]
      have hw11 : W.heap.size ≤ g11 := by omega
      refine any_genP (S2 := fun X => Ext W X ∧ OwnL 71 10 acc W.heap.size X (.slice D1 l.length d1) l ∧ OwnL 71 10 acc W.heap.size X (.slice (some ⟨g1, 0, none⟩) 1 1) [(⟨k, id, of, time, ⟨t0, t1, t2, t3, t4, t5⟩⟩ : Ac)] ∧ Bx X g11 32 #[.slice none 0 0, .slice none 0 0, .slice none 0 0, .int .i64 0, .slice none 0 0, .slice none 0 0, .slice none 0 0]) ⟨(by exact extA), (HFo1.out.ext ((Ext.refl _).alloc _)), (HFo2.out.ext ((Ext.refl _).alloc _)), (Bx.newAt hgg11)⟩ ?_
      intro X23 hX
      clear HFo1 HFo2
      obtain ⟨hx, hfo1, hfo2, hfb⟩ := hX.out
      have HX23 := Lib.hid hx
      have hzX23 := hx.size
      have HFo1 := Lib.hid hfo1
      clear hfo1
      have HFo2 := Lib.hid hfo2
      clear hfo2
      have HFb := Lib.hid hfb
      clear hfb
      clear hX hx
      refine T_only (i := 5) rfl (by kernel_rfl) rfl (fun K hK => ?_)
      refine wp_append_rd (enc := acc) (k := 10) _ _ _ 74 rfl W.heap.size 71 i1 (.agg #[.int .i64 0, .int .i64 0, .int .i64 0, .int .i64 0, .int .i64 0, .int .i64 0, .int .i64 0, .int .i64 0, .int .i64 0, .int .i64 0]) 80 Tryz.underlying74 jj jj0 jj1 jj2 rfl (by decide) acc_size _ l (by simp [Act.eval, Act.put]) HFo1.out _ [(⟨k, id, of, time, ⟨t0, t1, t2, t3, t4, t5⟩⟩ : Ac)] (by simp [Act.eval, Act.put]) (HFo2.out.rd acc_size) (ac_one _) ?hb24a ?hb24b (by omega) ?_
      case hb24a => have := HBD.out; unfold maxLen; simp; omega
      case hb24b => have := HBD.out; simp; omega
      intro v8 y24 ho8 hg8 hn8
      obtain ⟨D3, d3, rfl⟩ := ho8.form
      rw [← HL3.out] at ho8 ⊢
      have hf8 := row_fr hg8
      have HX8 := Lib.hid (Ext.fr HX23.out hf8 (fun q h => by have h2 := (HFo1.out.lt q h).1; omega))
      have HB8 := Lib.hid (HFb.out.fr hf8 (fun h => by obtain ⟨cs, h2⟩ := OwnL.bx HFo1.out _ h; have h3 := HFb.out; unfold Bx at h2 h3; rw [h2] at h3; simp at h3))
      have HO8 := Lib.hid ho8
      refine hK.out _ _ (.inr HX8.out) ?_
      clear hK hf8 hg8 hn8 ho8
      (try simp only [Act.put, lSet])
      refine any_genP (S2 := fun X => Ext W X ∧ OwnL 71 10 acc W.heap.size X (.slice D3 L3 d3) (l ++ [(⟨k, id, of, time, ⟨t0, t1, t2, t3, t4, t5⟩⟩ : Ac)]) ∧ Bx X g11 32 #[.slice none 0 0, .slice none 0 0, .slice none 0 0, .int .i64 0, .slice none 0 0, .slice none 0 0, .slice none 0 0]) ⟨HX8.out, HO8.out, HB8.out⟩ ?_
      intro X24 hX
      clear HFo1 HFo2 HFb
      obtain ⟨hx, hfo3, hfb⟩ := hX.out
      have HX24 := Lib.hid hx
      have hzX24 := hx.size
      have HFo3 := Lib.hid hfo3
      clear hfo3
      have HFb := Lib.hid hfb
      clear hfb
      clear hX hx
      refine T_only (i := 6) rfl (by kernel_rfl) rfl (fun K hK => ?_)
      go_simp
      refine (KR2.out _ _ (HFo3.out.rd acc_size)).mono ?_
      rintro e y25 ⟨⟨t0', t1', t2', ti, tg, tv⟩, u, rfl, h1, ho, hu⟩
      obtain ⟨F0, kF0, rfl⟩ : ∃ B d, t0' = .slice B S2.ledger.tickets.length d := ho.tk.form
      obtain ⟨F1, kF1, rfl⟩ : ∃ B d, t1' = .slice B S2.ledger.taps.length d := ho.tp.form
      obtain ⟨F2, kF2, rfl⟩ : ∃ B d, t2' = .slice B S2.ledger.verdicts.length d := ho.vd.form
      obtain ⟨F3, kF3, rfl⟩ : ∃ B d, ti = .slice B S2.denied.ids.length d := ho.dn.form
      obtain ⟨F4, kF4, rfl⟩ : ∃ B d, tg = .slice B S2.gates.length d := ho.gt.form
      obtain ⟨F5, kF5, rfl⟩ : ∃ B d, tv = .slice B S2.views.length d := ho.vw.form
      rw [show sta S2 ⟨.slice F0 S2.ledger.tickets.length kF0, .slice F1 S2.ledger.taps.length kF1, .slice F2 S2.ledger.verdicts.length kF2, .slice F3 S2.denied.ids.length kF3, .slice F4 S2.gates.length kF4, .slice F5 S2.views.length kF5⟩ = #[.slice F0 S2.ledger.tickets.length kF0, .slice F1 S2.ledger.taps.length kF1, .slice F2 S2.ledger.verdicts.length kF2, .int .i64 S2.denied.version, .slice F3 S2.denied.ids.length kF3, .slice F4 S2.gates.length kF4, .slice F5 S2.views.length kF5] from rfl]
      obtain ⟨U, ku, rfl⟩ : ∃ B d, u = .slice B all.length d := hu.form
      have HX8 := Lib.hid (And.intro trivial (HX24.out.trans h1))
      have HS8 := Lib.hid (show OwnS W.heap.size y25 ⟨.slice F0 S2.ledger.tickets.length kF0, .slice F1 S2.ledger.taps.length kF1, .slice F2 S2.ledger.verdicts.length kF2, .slice F3 S2.denied.ids.length kF3, .slice F4 S2.gates.length kF4, .slice F5 S2.views.length kF5⟩ S2 from ho.lower (by omega))
      have HU8 := Lib.hid (show OwnL 35 1 inc W.heap.size y25 (.slice U all.length ku) all from hu.lower (by omega))
      have HB8 := Lib.hid (HFb.out.ext h1)
      clear h1 ho hu
      go_wp2_with fail
      refine hK.out _ _ (.inr HX8.out.2) ?_
      clear hK
      (try simp only [Act.put, lSet])
      refine any_genP (S2 := fun X => Ext W X ∧ OwnS W.heap.size X ⟨.slice F0 S2.ledger.tickets.length kF0, .slice F1 S2.ledger.taps.length kF1, .slice F2 S2.ledger.verdicts.length kF2, .slice F3 S2.denied.ids.length kF3, .slice F4 S2.gates.length kF4, .slice F5 S2.views.length kF5⟩ S2 ∧ OwnL 35 1 inc W.heap.size X (.slice U all.length ku) all ∧ Bx X g11 32 #[.slice none 0 0, .slice none 0 0, .slice none 0 0, .int .i64 0, .slice none 0 0, .slice none 0 0, .slice none 0 0]) ⟨HX8.out.2, HS8.out, HU8.out, HB8.out⟩ ?_
      intro X25 hX
      clear HFo3 HFb
      obtain ⟨hx, hfs, hfu, hfb⟩ := hX.out
      have HX25 := Lib.hid hx
      have hzX25 := hx.size
      have HFs := Lib.hid hfs
      clear hfs
      have HFu := Lib.hid hfu
      clear hfu
      have HFb := Lib.hid hfb
      clear hfb
      have hS : Ext W X25 := hx
      clear hX hx
      ((refine T_takeP (i := 7) (v := ?_) rfl (by kernel_rfl) (by first | exact wanted_none rfl | kernel_rfl) (by first | exact .inr hS | exact .inl (by kernel_rfl)) ?_ ?_; rotate_left; focus (intro w; go_simp; try (with_reducible rfl))); (try simp only [Act.put, lSet]); (refine T_takeP (i := 8) (v := ?_) rfl (by kernel_rfl) (by first | exact wanted_none rfl | kernel_rfl) (by first | exact .inr hS | exact .inl (by kernel_rfl)) ?_ ?_; rotate_left; focus (intro w; go_simp; try (with_reducible rfl))); (try simp only [Act.put, lSet]); (refine T_takeP (i := 9) (v := ?_) rfl (by kernel_rfl) (by first | exact wanted_none rfl | kernel_rfl) (by first | exact .inr hS | exact .inl (by kernel_rfl)) ?_ ?_; rotate_left; focus (intro w; go_simp; try (with_reducible rfl))); (try simp only [Act.put, lSet]); (refine T_takeP (i := 10) (v := ?_) rfl (by kernel_rfl) (by first | exact wanted_none rfl | kernel_rfl) (by first | exact .inr hS | exact .inl (by kernel_rfl)) ?_ ?_; rotate_left; focus (intro w; go_simp; try (with_reducible rfl))); (try simp only [Act.put, lSet]))
      clear hS
      have HALL := Lib.hid (show Ext W X25 ∧ W.heap.size ≤ g11 ∧ OwnS W.heap.size X25 ⟨.slice F0 S2.ledger.tickets.length kF0, .slice F1 S2.ledger.taps.length kF1, .slice F2 S2.ledger.verdicts.length kF2, .slice F3 S2.denied.ids.length kF3, .slice F4 S2.gates.length kF4, .slice F5 S2.views.length kF5⟩ S2 ∧ OwnL 35 1 inc W.heap.size X25 (.slice U all.length ku) all ∧ Bx X25 g11 32 #[.slice none 0 0, .slice none 0 0, .slice none 0 0, .int .i64 0, .slice none 0 0, .slice none 0 0, .slice none 0 0] from ⟨HX25.out, hw11, HFs.out, HFu.out, HFb.out⟩)
      try rw [← hgg0]
      try rw [← hgg1]
      try rw [← hgg11]
      generalize (Value.slice (some ⟨g0, 0, none⟩) 0 0) = r56
      generalize (Value.slice D1 l.length d1) = r58
      generalize (Value.slice (some ⟨g1, 0, none⟩) 1 1) = r60
      generalize (Value.slice D3 L3 d3) = r61
      refine any_listed (l2 := #[true, true, true, true, true, true, true, true, true, true, true, true, false, false, false]) (by kernel_rfl) ?_
      revert HALL
      exact key r56 r58 r60 r61 X25 g11 F0 kF0 F1 kF1 F2 kF2 F3 kF3 F4 kF4 F5 kF5 U ku
    ·go_simp
     refine hK.out _ _ (.inr (show Ext W _ by exact extA)) ?_
     clear hK
     (try simp only [Act.put, lSet])
     obtain ⟨g11, hgg11⟩ : ∃ g, g = X16.heap.size := ⟨_, rfl⟩
     rw [← hgg11]
     have hw11 : W.heap.size ≤ g11 := by omega
     refine any_genP (S2 := fun X => Ext W X ∧ OwnL 71 10 acc W.heap.size X (.slice (some ⟨g0, 0, none⟩) 0 0) [] ∧ OwnL 71 10 acc W.heap.size X (.slice (some ⟨g1, 0, none⟩) 1 1) [(⟨k, id, of, time, ⟨t0, t1, t2, t3, t4, t5⟩⟩ : Ac)] ∧ Bx X g11 32 #[.slice none 0 0, .slice none 0 0, .slice none 0 0, .int .i64 0, .slice none 0 0, .slice none 0 0, .slice none 0 0]) ⟨(by exact extA), (HFo0.out.ext ((Ext.refl _).alloc _)), (HFo2.out.ext ((Ext.refl _).alloc _)), (Bx.newAt hgg11)⟩ ?_
     intro X26 hX
     clear HFo0 HFo2
     obtain ⟨hx, hfo0, hfo2, hfb⟩ := hX.out
     have HX26 := Lib.hid hx
     have hzX26 := hx.size
     have HFo0 := Lib.hid hfo0
     clear hfo0
     have HFo2 := Lib.hid hfo2
     clear hfo2
     have HFb := Lib.hid hfb
     clear hfb
     clear hX hx
     refine T_only (i := 2) rfl (by kernel_rfl) rfl (fun K hK => ?_)
     refine wp_append_rd (enc := acc) (k := 10) _ _ _ 74 rfl W.heap.size 71 i1 (.agg #[.int .i64 0, .int .i64 0, .int .i64 0, .int .i64 0, .int .i64 0, .int .i64 0, .int .i64 0, .int .i64 0, .int .i64 0, .int .i64 0]) 80 Tryz.underlying74 jj jj0 jj1 jj2 rfl (by decide) acc_size _ ([] : List Ac) (by simp [Act.eval, Act.put]) HFo0.out _ l (by simp [Act.eval, Act.put]) (HRL.out _ (by exact extA)) (ac_one _) ?hb27a ?hb27b (by omega) ?_
     case hb27a => have := HBD.out; unfold maxLen; simp; omega
     case hb27b => have := HBD.out; simp; omega
     intro v8 y27 ho8 hg8 hn8
     obtain ⟨D1, d1, rfl⟩ := ho8.form
     simp only [List.nil_append] at ho8 ⊢
     have hf8 := row_fr hg8
     have HX8 := Lib.hid (Ext.fr HX26.out hf8 (fun q h => by have h2 := (HFo0.out.lt q h).1; omega))
     have HB8 := Lib.hid (HFb.out.fr hf8 (fun h => by obtain ⟨cs, h2⟩ := OwnL.bx HFo0.out _ h; have h3 := HFb.out; unfold Bx at h2 h3; rw [h2] at h3; simp at h3))
     have HO28 := Lib.hid (HFo2.out.kept' hg8 (fun q hq => by simp [Value.ownBlock] at hq ⊢; omega))
     have HO8 := Lib.hid ho8
     refine hK.out _ _ (.inr HX8.out) ?_
     clear hK hf8 hg8 hn8 ho8
     (try simp only [Act.put, lSet])
     refine any_genP (S2 := fun X => Ext W X ∧ OwnL 71 10 acc W.heap.size X (.slice D1 l.length d1) l ∧ OwnL 71 10 acc W.heap.size X (.slice (some ⟨g1, 0, none⟩) 1 1) [(⟨k, id, of, time, ⟨t0, t1, t2, t3, t4, t5⟩⟩ : Ac)] ∧ Bx X g11 32 #[.slice none 0 0, .slice none 0 0, .slice none 0 0, .int .i64 0, .slice none 0 0, .slice none 0 0, .slice none 0 0]) ⟨HX8.out, HO8.out, HO28.out, HB8.out⟩ ?_
     intro X27 hX
     clear HFo0 HFo2 HFb
     obtain ⟨hx, hfo1, hfo2, hfb⟩ := hX.out
     have HX27 := Lib.hid hx
     have hzX27 := hx.size
     have HFo1 := Lib.hid hfo1
     clear hfo1
     have HFo2 := Lib.hid hfo2
     clear hfo2
     have HFb := Lib.hid hfb
     clear hfb
     clear hX hx
     refine T_only (i := 5) rfl (by kernel_rfl) rfl (fun K hK => ?_)
     refine wp_append_rd (enc := acc) (k := 10) _ _ _ 74 rfl W.heap.size 71 i1 (.agg #[.int .i64 0, .int .i64 0, .int .i64 0, .int .i64 0, .int .i64 0, .int .i64 0, .int .i64 0, .int .i64 0, .int .i64 0, .int .i64 0]) 80 Tryz.underlying74 jj jj0 jj1 jj2 rfl (by decide) acc_size _ l (by simp [Act.eval, Act.put]) HFo1.out _ [(⟨k, id, of, time, ⟨t0, t1, t2, t3, t4, t5⟩⟩ : Ac)] (by simp [Act.eval, Act.put]) (HFo2.out.rd acc_size) (ac_one _) ?hb28a ?hb28b (by omega) ?_
     case hb28a => have := HBD.out; unfold maxLen; simp; omega
     case hb28b => have := HBD.out; simp; omega
     intro v8 y28 ho8 hg8 hn8
     obtain ⟨D3, d3, rfl⟩ := ho8.form
     rw [← HL3.out] at ho8 ⊢
     have hf8 := row_fr hg8
     have HX8 := Lib.hid (Ext.fr HX27.out hf8 (fun q h => by have h2 := (HFo1.out.lt q h).1; omega))
     have HB8 := Lib.hid (HFb.out.fr hf8 (fun h => by obtain ⟨cs, h2⟩ := OwnL.bx HFo1.out _ h; have h3 := HFb.out; unfold Bx at h2 h3; rw [h2] at h3; simp at h3))
     have HO8 := Lib.hid ho8
     refine hK.out _ _ (.inr HX8.out) ?_
     clear hK hf8 hg8 hn8 ho8
     (try simp only [Act.put, lSet])
     refine any_genP (S2 := fun X => Ext W X ∧ OwnL 71 10 acc W.heap.size X (.slice D3 L3 d3) (l ++ [(⟨k, id, of, time, ⟨t0, t1, t2, t3, t4, t5⟩⟩ : Ac)]) ∧ Bx X g11 32 #[.slice none 0 0, .slice none 0 0, .slice none 0 0, .int .i64 0, .slice none 0 0, .slice none 0 0, .slice none 0 0]) ⟨HX8.out, HO8.out, HB8.out⟩ ?_
     intro X28 hX
     clear HFo1 HFo2 HFb
     obtain ⟨hx, hfo3, hfb⟩ := hX.out
     have HX28 := Lib.hid hx
     have hzX28 := hx.size
     have HFo3 := Lib.hid hfo3
     clear hfo3
     have HFb := Lib.hid hfb
     clear hfb
     clear hX hx
     refine T_only (i := 6) rfl (by kernel_rfl) rfl (fun K hK => ?_)
     go_simp
     refine (KR2.out _ _ (HFo3.out.rd acc_size)).mono ?_
     rintro e y29 ⟨⟨t0', t1', t2', ti, tg, tv⟩, u, rfl, h1, ho, hu⟩
     obtain ⟨F0, kF0, rfl⟩ : ∃ B d, t0' = .slice B S2.ledger.tickets.length d := ho.tk.form
     obtain ⟨F1, kF1, rfl⟩ : ∃ B d, t1' = .slice B S2.ledger.taps.length d := ho.tp.form
     obtain ⟨F2, kF2, rfl⟩ : ∃ B d, t2' = .slice B S2.ledger.verdicts.length d := ho.vd.form
     obtain ⟨F3, kF3, rfl⟩ : ∃ B d, ti = .slice B S2.denied.ids.length d := ho.dn.form
     obtain ⟨F4, kF4, rfl⟩ : ∃ B d, tg = .slice B S2.gates.length d := ho.gt.form
     obtain ⟨F5, kF5, rfl⟩ : ∃ B d, tv = .slice B S2.views.length d := ho.vw.form
     rw [show sta S2 ⟨.slice F0 S2.ledger.tickets.length kF0, .slice F1 S2.ledger.taps.length kF1, .slice F2 S2.ledger.verdicts.length kF2, .slice F3 S2.denied.ids.length kF3, .slice F4 S2.gates.length kF4, .slice F5 S2.views.length kF5⟩ = #[.slice F0 S2.ledger.tickets.length kF0, .slice F1 S2.ledger.taps.length kF1, .slice F2 S2.ledger.verdicts.length kF2, .int .i64 S2.denied.version, .slice F3 S2.denied.ids.length kF3, .slice F4 S2.gates.length kF4, .slice F5 S2.views.length kF5] from rfl]
     obtain ⟨U, ku, rfl⟩ : ∃ B d, u = .slice B all.length d := hu.form
     have HX8 := Lib.hid (And.intro trivial (HX28.out.trans h1))
     have HS8 := Lib.hid (show OwnS W.heap.size y29 ⟨.slice F0 S2.ledger.tickets.length kF0, .slice F1 S2.ledger.taps.length kF1, .slice F2 S2.ledger.verdicts.length kF2, .slice F3 S2.denied.ids.length kF3, .slice F4 S2.gates.length kF4, .slice F5 S2.views.length kF5⟩ S2 from ho.lower (by omega))
     have HU8 := Lib.hid (show OwnL 35 1 inc W.heap.size y29 (.slice U all.length ku) all from hu.lower (by omega))
     have HB8 := Lib.hid (HFb.out.ext h1)
     clear h1 ho hu
     go_wp2_with fail
     refine hK.out _ _ (.inr HX8.out.2) ?_
     clear hK
     (try simp only [Act.put, lSet])
     refine any_genP (S2 := fun X => Ext W X ∧ OwnS W.heap.size X ⟨.slice F0 S2.ledger.tickets.length kF0, .slice F1 S2.ledger.taps.length kF1, .slice F2 S2.ledger.verdicts.length kF2, .slice F3 S2.denied.ids.length kF3, .slice F4 S2.gates.length kF4, .slice F5 S2.views.length kF5⟩ S2 ∧ OwnL 35 1 inc W.heap.size X (.slice U all.length ku) all ∧ Bx X g11 32 #[.slice none 0 0, .slice none 0 0, .slice none 0 0, .int .i64 0, .slice none 0 0, .slice none 0 0, .slice none 0 0]) ⟨HX8.out.2, HS8.out, HU8.out, HB8.out⟩ ?_
     intro X29 hX
     clear HFo3 HFb
     obtain ⟨hx, hfs, hfu, hfb⟩ := hX.out
     have HX29 := Lib.hid hx
     have hzX29 := hx.size
     have HFs := Lib.hid hfs
     clear hfs
     have HFu := Lib.hid hfu
     clear hfu
     have HFb := Lib.hid hfb
     clear hfb
     have hS : Ext W X29 := hx
     clear hX hx
     ((refine T_takeP (i := 7) (v := ?_) rfl (by kernel_rfl) (by first | exact wanted_none rfl | kernel_rfl) (by first | exact .inr hS | exact .inl (by kernel_rfl)) ?_ ?_; rotate_left; focus (intro w; go_simp; try (with_reducible rfl))); (try simp only [Act.put, lSet]); (refine T_takeP (i := 8) (v := ?_) rfl (by kernel_rfl) (by first | exact wanted_none rfl | kernel_rfl) (by first | exact .inr hS | exact .inl (by kernel_rfl)) ?_ ?_; rotate_left; focus (intro w; go_simp; try (with_reducible rfl))); (try simp only [Act.put, lSet]); (refine T_takeP (i := 9) (v := ?_) rfl (by kernel_rfl) (by first | exact wanted_none rfl | kernel_rfl) (by first | exact .inr hS | exact .inl (by kernel_rfl)) ?_ ?_; rotate_left; focus (intro w; go_simp; try (with_reducible rfl))); (try simp only [Act.put, lSet]); (refine T_takeP (i := 10) (v := ?_) rfl (by kernel_rfl) (by first | exact wanted_none rfl | kernel_rfl) (by first | exact .inr hS | exact .inl (by kernel_rfl)) ?_ ?_; rotate_left; focus (intro w; go_simp; try (with_reducible rfl))); (try simp only [Act.put, lSet]))
     clear hS
     have HALL := Lib.hid (show Ext W X29 ∧ W.heap.size ≤ g11 ∧ OwnS W.heap.size X29 ⟨.slice F0 S2.ledger.tickets.length kF0, .slice F1 S2.ledger.taps.length kF1, .slice F2 S2.ledger.verdicts.length kF2, .slice F3 S2.denied.ids.length kF3, .slice F4 S2.gates.length kF4, .slice F5 S2.views.length kF5⟩ S2 ∧ OwnL 35 1 inc W.heap.size X29 (.slice U all.length ku) all ∧ Bx X29 g11 32 #[.slice none 0 0, .slice none 0 0, .slice none 0 0, .int .i64 0, .slice none 0 0, .slice none 0 0, .slice none 0 0] from ⟨HX29.out, hw11, HFs.out, HFu.out, HFb.out⟩)
     try rw [← hgg0]
     try rw [← hgg1]
     try rw [← hgg11]
     generalize (Value.slice (some ⟨g0, 0, none⟩) 0 0) = r56
     generalize (Value.slice D1 l.length d1) = r58
     generalize (Value.slice (some ⟨g1, 0, none⟩) 1 1) = r60
     generalize (Value.slice D3 L3 d3) = r61
     refine any_listed (l2 := #[true, true, true, true, true, true, true, true, true, true, true, true, false, false, false]) (by kernel_rfl) ?_
     revert HALL
     exact key r56 r58 r60 r61 X29 g11 F0 kF0 F1 kF1 F2 kF2 F3 kF3 F4 kF4 F5 kF5 U ku
   ·go_simp
    refine hK.out _ _ (.inr (show Ext W _ by exact extA)) ?_
    clear hK
    (try simp only [Act.put, lSet])
    obtain ⟨g11, hgg11⟩ : ∃ g, g = X1.heap.size := ⟨_, rfl⟩
    rw [← hgg11]
    have hw11 : W.heap.size ≤ g11 := by omega
    refine any_genP (S2 := fun X => Ext W X ∧ OwnL 71 10 acc W.heap.size X (.slice (some ⟨g0, 0, none⟩) 0 0) [] ∧ Bx X g11 32 #[.slice none 0 0, .slice none 0 0, .slice none 0 0, .int .i64 0, .slice none 0 0, .slice none 0 0, .slice none 0 0]) ⟨(by exact extA), (HFo0.out.ext ((Ext.refl _).alloc _)), (Bx.newAt hgg11)⟩ ?_
    intro X30 hX
    clear HFo0
    obtain ⟨hx, hfo0, hfb⟩ := hX.out
    have HX30 := Lib.hid hx
    have hzX30 := hx.size
    have HFo0 := Lib.hid hfo0
    clear hfo0
    have HFb := Lib.hid hfb
    clear hfb
    clear hX hx
    refine T_two (i := 2) (j := 4) rfl rfl (by kernel_rfl) rfl rfl (fun K hK => ?_) (fun K hK => ?_)
    ·refine wp_append_rd (enc := acc) (k := 10) _ _ _ 74 rfl W.heap.size 71 i1 (.agg #[.int .i64 0, .int .i64 0, .int .i64 0, .int .i64 0, .int .i64 0, .int .i64 0, .int .i64 0, .int .i64 0, .int .i64 0, .int .i64 0]) 80 Tryz.underlying74 jj jj0 jj1 jj2 rfl (by decide) acc_size _ ([] : List Ac) (by simp [Act.eval, Act.put]) HFo0.out _ l (by simp [Act.eval, Act.put]) (HRL.out _ (by exact extA)) (ac_one _) ?hb31a ?hb31b (by omega) ?_
     case hb31a => have := HBD.out; unfold maxLen; simp; omega
     case hb31b => have := HBD.out; simp; omega
     intro v8 y31 ho8 hg8 hn8
     obtain ⟨D1, d1, rfl⟩ := ho8.form
     simp only [List.nil_append] at ho8 ⊢
     have hf8 := row_fr hg8
     have HX8 := Lib.hid (Ext.fr HX30.out hf8 (fun q h => by have h2 := (HFo0.out.lt q h).1; omega))
     have HB8 := Lib.hid (HFb.out.fr hf8 (fun h => by obtain ⟨cs, h2⟩ := OwnL.bx HFo0.out _ h; have h3 := HFb.out; unfold Bx at h2 h3; rw [h2] at h3; simp at h3))
     have HO8 := Lib.hid ho8
     refine hK.out _ _ (.inr HX8.out) ?_
     clear hK hf8 hg8 hn8 ho8
     (try simp only [Act.put, lSet])
     refine any_genP (S2 := fun X => Ext W X ∧ OwnL 71 10 acc W.heap.size X (.slice D1 l.length d1) l ∧ Bx X g11 32 #[.slice none 0 0, .slice none 0 0, .slice none 0 0, .int .i64 0, .slice none 0 0, .slice none 0 0, .slice none 0 0]) ⟨HX8.out, HO8.out, HB8.out⟩ ?_
     intro X31 hX
     clear HFo0 HFb
     obtain ⟨hx, hfo1, hfb⟩ := hX.out
     have HX31 := Lib.hid hx
     have hzX31 := hx.size
     have HFo1 := Lib.hid hfo1
     clear hfo1
     have HFb := Lib.hid hfb
     clear hfb
     clear hX hx
     refine T_only (i := 4) rfl (by kernel_rfl) rfl (fun K hK => ?_)
     go_simp
     refine hK.out _ _ (.inr (show Ext W _ by exact extA)) ?_
     clear hK
     (try simp only [Act.put, lSet])
     obtain ⟨g1, hgg1⟩ : ∃ g, g = X31.heap.size := ⟨_, rfl⟩
     rw [← hgg1]
     refine any_genP (S2 := fun X => Ext W X ∧ OwnL 71 10 acc W.heap.size X (.slice D1 l.length d1) l ∧ OwnL 71 10 acc W.heap.size X (.slice (some ⟨g1, 0, none⟩) 1 1) [(⟨k, id, of, time, ⟨t0, t1, t2, t3, t4, t5⟩⟩ : Ac)] ∧ Bx X g11 32 #[.slice none 0 0, .slice none 0 0, .slice none 0 0, .int .i64 0, .slice none 0 0, .slice none 0 0, .slice none 0 0]) ⟨(by exact extA), (HFo1.out.ext ((Ext.refl _).alloc _)), (own_lit hgg1 (by omega) rfl (by unfold maxLen; omega) rfl rfl), (HFb.out.alloc _)⟩ ?_
     intro X32 hX
     clear HFo1 HFb
     obtain ⟨hx, hfo1, hfo2, hfb⟩ := hX.out
     have HX32 := Lib.hid hx
     have hzX32 := hx.size
     have HFo1 := Lib.hid hfo1
     clear hfo1
     have HFo2 := Lib.hid hfo2
     clear hfo2
     have HFb := Lib.hid hfb
     clear hfb
     clear hX hx
     refine T_only (i := 5) rfl (by kernel_rfl) rfl (fun K hK => ?_)
     refine wp_append_rd (enc := acc) (k := 10) _ _ _ 74 rfl W.heap.size 71 i1 (.agg #[.int .i64 0, .int .i64 0, .int .i64 0, .int .i64 0, .int .i64 0, .int .i64 0, .int .i64 0, .int .i64 0, .int .i64 0, .int .i64 0]) 80 Tryz.underlying74 jj jj0 jj1 jj2 rfl (by decide) acc_size _ l (by simp [Act.eval, Act.put]) HFo1.out _ [(⟨k, id, of, time, ⟨t0, t1, t2, t3, t4, t5⟩⟩ : Ac)] (by simp [Act.eval, Act.put]) (HFo2.out.rd acc_size) (ac_one _) ?hb33a ?hb33b (by omega) ?_
     case hb33a => have := HBD.out; unfold maxLen; simp; omega
     case hb33b => have := HBD.out; simp; omega
     intro v8 y33 ho8 hg8 hn8
     obtain ⟨D3, d3, rfl⟩ := ho8.form
     rw [← HL3.out] at ho8 ⊢
     have hf8 := row_fr hg8
     have HX8 := Lib.hid (Ext.fr HX32.out hf8 (fun q h => by have h2 := (HFo1.out.lt q h).1; omega))
     have HB8 := Lib.hid (HFb.out.fr hf8 (fun h => by obtain ⟨cs, h2⟩ := OwnL.bx HFo1.out _ h; have h3 := HFb.out; unfold Bx at h2 h3; rw [h2] at h3; simp at h3))
     have HO8 := Lib.hid ho8
     refine hK.out _ _ (.inr HX8.out) ?_
     clear hK hf8 hg8 hn8 ho8
     (try simp only [Act.put, lSet])
     refine any_genP (S2 := fun X => Ext W X ∧ OwnL 71 10 acc W.heap.size X (.slice D3 L3 d3) (l ++ [(⟨k, id, of, time, ⟨t0, t1, t2, t3, t4, t5⟩⟩ : Ac)]) ∧ Bx X g11 32 #[.slice none 0 0, .slice none 0 0, .slice none 0 0, .int .i64 0, .slice none 0 0, .slice none 0 0, .slice none 0 0]) ⟨HX8.out, HO8.out, HB8.out⟩ ?_
     intro X33 hX
     clear HFo1 HFo2 HFb
     obtain ⟨hx, hfo3, hfb⟩ := hX.out
     have HX33 := Lib.hid hx
     have hzX33 := hx.size
     have HFo3 := Lib.hid hfo3
     clear hfo3
     have HFb := Lib.hid hfb
     clear hfb
     clear hX hx
     refine T_only (i := 6) rfl (by kernel_rfl) rfl (fun K hK => ?_)
     go_simp
     refine (KR2.out _ _ (HFo3.out.rd acc_size)).mono ?_
     rintro e y34 ⟨⟨t0', t1', t2', ti, tg, tv⟩, u, rfl, h1, ho, hu⟩
     obtain ⟨F0, kF0, rfl⟩ : ∃ B d, t0' = .slice B S2.ledger.tickets.length d := ho.tk.form
     obtain ⟨F1, kF1, rfl⟩ : ∃ B d, t1' = .slice B S2.ledger.taps.length d := ho.tp.form
     obtain ⟨F2, kF2, rfl⟩ : ∃ B d, t2' = .slice B S2.ledger.verdicts.length d := ho.vd.form
     obtain ⟨F3, kF3, rfl⟩ : ∃ B d, ti = .slice B S2.denied.ids.length d := ho.dn.form
     obtain ⟨F4, kF4, rfl⟩ : ∃ B d, tg = .slice B S2.gates.length d := ho.gt.form
     obtain ⟨F5, kF5, rfl⟩ : ∃ B d, tv = .slice B S2.views.length d := ho.vw.form
     rw [show sta S2 ⟨.slice F0 S2.ledger.tickets.length kF0, .slice F1 S2.ledger.taps.length kF1, .slice F2 S2.ledger.verdicts.length kF2, .slice F3 S2.denied.ids.length kF3, .slice F4 S2.gates.length kF4, .slice F5 S2.views.length kF5⟩ = #[.slice F0 S2.ledger.tickets.length kF0, .slice F1 S2.ledger.taps.length kF1, .slice F2 S2.ledger.verdicts.length kF2, .int .i64 S2.denied.version, .slice F3 S2.denied.ids.length kF3, .slice F4 S2.gates.length kF4, .slice F5 S2.views.length kF5] from rfl]
     obtain ⟨U, ku, rfl⟩ : ∃ B d, u = .slice B all.length d := hu.form
     have HX8 := Lib.hid (And.intro trivial (HX33.out.trans h1))
     have HS8 := Lib.hid (show OwnS W.heap.size y34 ⟨.slice F0 S2.ledger.tickets.length kF0, .slice F1 S2.ledger.taps.length kF1, .slice F2 S2.ledger.verdicts.length kF2, .slice F3 S2.denied.ids.length kF3, .slice F4 S2.gates.length kF4, .slice F5 S2.views.length kF5⟩ S2 from ho.lower (by omega))
     have HU8 := Lib.hid (show OwnL 35 1 inc W.heap.size y34 (.slice U all.length ku) all from hu.lower (by omega))
     have HB8 := Lib.hid (HFb.out.ext h1)
     clear h1 ho hu
     go_wp2_with fail
     refine hK.out _ _ (.inr HX8.out.2) ?_
     clear hK
     (try simp only [Act.put, lSet])
     refine any_genP (S2 := fun X => Ext W X ∧ OwnS W.heap.size X ⟨.slice F0 S2.ledger.tickets.length kF0, .slice F1 S2.ledger.taps.length kF1, .slice F2 S2.ledger.verdicts.length kF2, .slice F3 S2.denied.ids.length kF3, .slice F4 S2.gates.length kF4, .slice F5 S2.views.length kF5⟩ S2 ∧ OwnL 35 1 inc W.heap.size X (.slice U all.length ku) all ∧ Bx X g11 32 #[.slice none 0 0, .slice none 0 0, .slice none 0 0, .int .i64 0, .slice none 0 0, .slice none 0 0, .slice none 0 0]) ⟨HX8.out.2, HS8.out, HU8.out, HB8.out⟩ ?_
     intro X34 hX
     clear HFo3 HFb
     obtain ⟨hx, hfs, hfu, hfb⟩ := hX.out
     have HX34 := Lib.hid hx
     have hzX34 := hx.size
     have HFs := Lib.hid hfs
     clear hfs
     have HFu := Lib.hid hfu
     clear hfu
     have HFb := Lib.hid hfb
     clear hfb
     have hS : Ext W X34 := hx
     clear hX hx
     ((refine T_takeP (i := 7) (v := ?_) rfl (by kernel_rfl) (by first | exact wanted_none rfl | kernel_rfl) (by first | exact .inr hS | exact .inl (by kernel_rfl)) ?_ ?_; rotate_left; focus (intro w; go_simp; try (with_reducible rfl))); (try simp only [Act.put, lSet]); (refine T_takeP (i := 8) (v := ?_) rfl (by kernel_rfl) (by first | exact wanted_none rfl | kernel_rfl) (by first | exact .inr hS | exact .inl (by kernel_rfl)) ?_ ?_; rotate_left; focus (intro w; go_simp; try (with_reducible rfl))); (try simp only [Act.put, lSet]); (refine T_takeP (i := 9) (v := ?_) rfl (by kernel_rfl) (by first | exact wanted_none rfl | kernel_rfl) (by first | exact .inr hS | exact .inl (by kernel_rfl)) ?_ ?_; rotate_left; focus (intro w; go_simp; try (with_reducible rfl))); (try simp only [Act.put, lSet]); (refine T_takeP (i := 10) (v := ?_) rfl (by kernel_rfl) (by first | exact wanted_none rfl | kernel_rfl) (by first | exact .inr hS | exact .inl (by kernel_rfl)) ?_ ?_; rotate_left; focus (intro w; go_simp; try (with_reducible rfl))); (try simp only [Act.put, lSet]))
     clear hS
     have HALL := Lib.hid (show Ext W X34 ∧ W.heap.size ≤ g11 ∧ OwnS W.heap.size X34 ⟨.slice F0 S2.ledger.tickets.length kF0, .slice F1 S2.ledger.taps.length kF1, .slice F2 S2.ledger.verdicts.length kF2, .slice F3 S2.denied.ids.length kF3, .slice F4 S2.gates.length kF4, .slice F5 S2.views.length kF5⟩ S2 ∧ OwnL 35 1 inc W.heap.size X34 (.slice U all.length ku) all ∧ Bx X34 g11 32 #[.slice none 0 0, .slice none 0 0, .slice none 0 0, .int .i64 0, .slice none 0 0, .slice none 0 0, .slice none 0 0] from ⟨HX34.out, hw11, HFs.out, HFu.out, HFb.out⟩)
     try rw [← hgg0]
     try rw [← hgg1]
     try rw [← hgg11]
     generalize (Value.slice (some ⟨g0, 0, none⟩) 0 0) = r56
     generalize (Value.slice D1 l.length d1) = r58
     generalize (Value.slice (some ⟨g1, 0, none⟩) 1 1) = r60
     generalize (Value.slice D3 L3 d3) = r61
     refine any_listed (l2 := #[true, true, true, true, true, true, true, true, true, true, true, true, false, false, false]) (by kernel_rfl) ?_
     revert HALL
     exact key r56 r58 r60 r61 X34 g11 F0 kF0 F1 kF1 F2 kF2 F3 kF3 F4 kF4 F5 kF5 U ku
    ·go_simp
     refine hK.out _ _ (.inr (show Ext W _ by exact extA)) ?_
     clear hK
     (try simp only [Act.put, lSet])
     obtain ⟨g1, hgg1⟩ : ∃ g, g = X30.heap.size := ⟨_, rfl⟩
     rw [← hgg1]
     have h01 : g1 ≠ g0 := by have := (HFo0.out.lt g0 rfl).2; omega
     refine any_genP (S2 := fun X => Ext W X ∧ OwnL 71 10 acc W.heap.size X (.slice (some ⟨g0, 0, none⟩) 0 0) [] ∧ OwnL 71 10 acc W.heap.size X (.slice (some ⟨g1, 0, none⟩) 1 1) [(⟨k, id, of, time, ⟨t0, t1, t2, t3, t4, t5⟩⟩ : Ac)] ∧ Bx X g11 32 #[.slice none 0 0, .slice none 0 0, .slice none 0 0, .int .i64 0, .slice none 0 0, .slice none 0 0, .slice none 0 0]) ⟨(by exact extA), (HFo0.out.ext ((Ext.refl _).alloc _)), (own_lit hgg1 (by omega) rfl (by unfold maxLen; omega) rfl rfl), (HFb.out.alloc _)⟩ ?_
     intro X35 hX
     clear HFo0 HFb
     obtain ⟨hx, hfo0, hfo2, hfb⟩ := hX.out
     have HX35 := Lib.hid hx
     have hzX35 := hx.size
     have HFo0 := Lib.hid hfo0
     clear hfo0
     have HFo2 := Lib.hid hfo2
     clear hfo2
     have HFb := Lib.hid hfb
     clear hfb
     clear hX hx
     refine T_only (i := 2) rfl (by kernel_rfl) rfl (fun K hK => ?_)
     refine wp_append_rd (enc := acc) (k := 10) _ _ _ 74 rfl W.heap.size 71 i1 (.agg #[.int .i64 0, .int .i64 0, .int .i64 0, .int .i64 0, .int .i64 0, .int .i64 0, .int .i64 0, .int .i64 0, .int .i64 0, .int .i64 0]) 80 Tryz.underlying74 jj jj0 jj1 jj2 rfl (by decide) acc_size _ ([] : List Ac) (by simp [Act.eval, Act.put]) HFo0.out _ l (by simp [Act.eval, Act.put]) (HRL.out _ (by exact extA)) (ac_one _) ?hb36a ?hb36b (by omega) ?_
     case hb36a => have := HBD.out; unfold maxLen; simp; omega
     case hb36b => have := HBD.out; simp; omega
     intro v8 y36 ho8 hg8 hn8
     obtain ⟨D1, d1, rfl⟩ := ho8.form
     simp only [List.nil_append] at ho8 ⊢
     have hf8 := row_fr hg8
     have HX8 := Lib.hid (Ext.fr HX35.out hf8 (fun q h => by have h2 := (HFo0.out.lt q h).1; omega))
     have HB8 := Lib.hid (HFb.out.fr hf8 (fun h => by obtain ⟨cs, h2⟩ := OwnL.bx HFo0.out _ h; have h3 := HFb.out; unfold Bx at h2 h3; rw [h2] at h3; simp at h3))
     have HO28 := Lib.hid (HFo2.out.kept' hg8 (fun q hq => by simp [Value.ownBlock] at hq ⊢; omega))
     have HO8 := Lib.hid ho8
     refine hK.out _ _ (.inr HX8.out) ?_
     clear hK hf8 hg8 hn8 ho8
     (try simp only [Act.put, lSet])
     refine any_genP (S2 := fun X => Ext W X ∧ OwnL 71 10 acc W.heap.size X (.slice D1 l.length d1) l ∧ OwnL 71 10 acc W.heap.size X (.slice (some ⟨g1, 0, none⟩) 1 1) [(⟨k, id, of, time, ⟨t0, t1, t2, t3, t4, t5⟩⟩ : Ac)] ∧ Bx X g11 32 #[.slice none 0 0, .slice none 0 0, .slice none 0 0, .int .i64 0, .slice none 0 0, .slice none 0 0, .slice none 0 0]) ⟨HX8.out, HO8.out, HO28.out, HB8.out⟩ ?_
     intro X36 hX
     clear HFo0 HFo2 HFb
     obtain ⟨hx, hfo1, hfo2, hfb⟩ := hX.out
     have HX36 := Lib.hid hx
     have hzX36 := hx.size
     have HFo1 := Lib.hid hfo1
     clear hfo1
     have HFo2 := Lib.hid hfo2
     clear hfo2
     have HFb := Lib.hid hfb
     clear hfb
     clear hX hx
     refine T_only (i := 5) rfl (by kernel_rfl) rfl (fun K hK => ?_)
     refine wp_append_rd (enc := acc) (k := 10) _ _ _ 74 rfl W.heap.size 71 i1 (.agg #[.int .i64 0, .int .i64 0, .int .i64 0, .int .i64 0, .int .i64 0, .int .i64 0, .int .i64 0, .int .i64 0, .int .i64 0, .int .i64 0]) 80 Tryz.underlying74 jj jj0 jj1 jj2 rfl (by decide) acc_size _ l (by simp [Act.eval, Act.put]) HFo1.out _ [(⟨k, id, of, time, ⟨t0, t1, t2, t3, t4, t5⟩⟩ : Ac)] (by simp [Act.eval, Act.put]) (HFo2.out.rd acc_size) (ac_one _) ?hb37a ?hb37b (by omega) ?_
     case hb37a => have := HBD.out; unfold maxLen; simp; omega
     case hb37b => have := HBD.out; simp; omega
     intro v8 y37 ho8 hg8 hn8
     obtain ⟨D3, d3, rfl⟩ := ho8.form
     rw [← HL3.out] at ho8 ⊢
     have hf8 := row_fr hg8
     have HX8 := Lib.hid (Ext.fr HX36.out hf8 (fun q h => by have h2 := (HFo1.out.lt q h).1; omega))
     have HB8 := Lib.hid (HFb.out.fr hf8 (fun h => by obtain ⟨cs, h2⟩ := OwnL.bx HFo1.out _ h; have h3 := HFb.out; unfold Bx at h2 h3; rw [h2] at h3; simp at h3))
     have HO8 := Lib.hid ho8
     refine hK.out _ _ (.inr HX8.out) ?_
     clear hK hf8 hg8 hn8 ho8
     (try simp only [Act.put, lSet])
     refine any_genP (S2 := fun X => Ext W X ∧ OwnL 71 10 acc W.heap.size X (.slice D3 L3 d3) (l ++ [(⟨k, id, of, time, ⟨t0, t1, t2, t3, t4, t5⟩⟩ : Ac)]) ∧ Bx X g11 32 #[.slice none 0 0, .slice none 0 0, .slice none 0 0, .int .i64 0, .slice none 0 0, .slice none 0 0, .slice none 0 0]) ⟨HX8.out, HO8.out, HB8.out⟩ ?_
     intro X37 hX
     clear HFo1 HFo2 HFb
     obtain ⟨hx, hfo3, hfb⟩ := hX.out
     have HX37 := Lib.hid hx
     have hzX37 := hx.size
     have HFo3 := Lib.hid hfo3
     clear hfo3
     have HFb := Lib.hid hfb
     clear hfb
     clear hX hx
     refine T_only (i := 6) rfl (by kernel_rfl) rfl (fun K hK => ?_)
     go_simp
     refine (KR2.out _ _ (HFo3.out.rd acc_size)).mono ?_
     rintro e y38 ⟨⟨t0', t1', t2', ti, tg, tv⟩, u, rfl, h1, ho, hu⟩
     obtain ⟨F0, kF0, rfl⟩ : ∃ B d, t0' = .slice B S2.ledger.tickets.length d := ho.tk.form
     obtain ⟨F1, kF1, rfl⟩ : ∃ B d, t1' = .slice B S2.ledger.taps.length d := ho.tp.form
     obtain ⟨F2, kF2, rfl⟩ : ∃ B d, t2' = .slice B S2.ledger.verdicts.length d := ho.vd.form
     obtain ⟨F3, kF3, rfl⟩ : ∃ B d, ti = .slice B S2.denied.ids.length d := ho.dn.form
     obtain ⟨F4, kF4, rfl⟩ : ∃ B d, tg = .slice B S2.gates.length d := ho.gt.form
     obtain ⟨F5, kF5, rfl⟩ : ∃ B d, tv = .slice B S2.views.length d := ho.vw.form
     rw [show sta S2 ⟨.slice F0 S2.ledger.tickets.length kF0, .slice F1 S2.ledger.taps.length kF1, .slice F2 S2.ledger.verdicts.length kF2, .slice F3 S2.denied.ids.length kF3, .slice F4 S2.gates.length kF4, .slice F5 S2.views.length kF5⟩ = #[.slice F0 S2.ledger.tickets.length kF0, .slice F1 S2.ledger.taps.length kF1, .slice F2 S2.ledger.verdicts.length kF2, .int .i64 S2.denied.version, .slice F3 S2.denied.ids.length kF3, .slice F4 S2.gates.length kF4, .slice F5 S2.views.length kF5] from rfl]
     obtain ⟨U, ku, rfl⟩ : ∃ B d, u = .slice B all.length d := hu.form
     have HX8 := Lib.hid (And.intro trivial (HX37.out.trans h1))
     have HS8 := Lib.hid (show OwnS W.heap.size y38 ⟨.slice F0 S2.ledger.tickets.length kF0, .slice F1 S2.ledger.taps.length kF1, .slice F2 S2.ledger.verdicts.length kF2, .slice F3 S2.denied.ids.length kF3, .slice F4 S2.gates.length kF4, .slice F5 S2.views.length kF5⟩ S2 from ho.lower (by omega))
     have HU8 := Lib.hid (show OwnL 35 1 inc W.heap.size y38 (.slice U all.length ku) all from hu.lower (by omega))
     have HB8 := Lib.hid (HFb.out.ext h1)
     clear h1 ho hu
     go_wp2_with fail
     refine hK.out _ _ (.inr HX8.out.2) ?_
     clear hK
     (try simp only [Act.put, lSet])
     refine any_genP (S2 := fun X => Ext W X ∧ OwnS W.heap.size X ⟨.slice F0 S2.ledger.tickets.length kF0, .slice F1 S2.ledger.taps.length kF1, .slice F2 S2.ledger.verdicts.length kF2, .slice F3 S2.denied.ids.length kF3, .slice F4 S2.gates.length kF4, .slice F5 S2.views.length kF5⟩ S2 ∧ OwnL 35 1 inc W.heap.size X (.slice U all.length ku) all ∧ Bx X g11 32 #[.slice none 0 0, .slice none 0 0, .slice none 0 0, .int .i64 0, .slice none 0 0, .slice none 0 0, .slice none 0 0]) ⟨HX8.out.2, HS8.out, HU8.out, HB8.out⟩ ?_
     intro X38 hX
     clear HFo3 HFb
     obtain ⟨hx, hfs, hfu, hfb⟩ := hX.out
     have HX38 := Lib.hid hx
     have hzX38 := hx.size
     have HFs := Lib.hid hfs
     clear hfs
     have HFu := Lib.hid hfu
     clear hfu
     have HFb := Lib.hid hfb
     clear hfb
     have hS : Ext W X38 := hx
     clear hX hx
     ((refine T_takeP (i := 7) (v := ?_) rfl (by kernel_rfl) (by first | exact wanted_none rfl | kernel_rfl) (by first | exact .inr hS | exact .inl (by kernel_rfl)) ?_ ?_; rotate_left; focus (intro w; go_simp; try (with_reducible rfl))); (try simp only [Act.put, lSet]); (refine T_takeP (i := 8) (v := ?_) rfl (by kernel_rfl) (by first | exact wanted_none rfl | kernel_rfl) (by first | exact .inr hS | exact .inl (by kernel_rfl)) ?_ ?_; rotate_left; focus (intro w; go_simp; try (with_reducible rfl))); (try simp only [Act.put, lSet]); (refine T_takeP (i := 9) (v := ?_) rfl (by kernel_rfl) (by first | exact wanted_none rfl | kernel_rfl) (by first | exact .inr hS | exact .inl (by kernel_rfl)) ?_ ?_; rotate_left; focus (intro w; go_simp; try (with_reducible rfl))); (try simp only [Act.put, lSet]); (refine T_takeP (i := 10) (v := ?_) rfl (by kernel_rfl) (by first | exact wanted_none rfl | kernel_rfl) (by first | exact .inr hS | exact .inl (by kernel_rfl)) ?_ ?_; rotate_left; focus (intro w; go_simp; try (with_reducible rfl))); (try simp only [Act.put, lSet]))
     clear hS
     have HALL := Lib.hid (show Ext W X38 ∧ W.heap.size ≤ g11 ∧ OwnS W.heap.size X38 ⟨.slice F0 S2.ledger.tickets.length kF0, .slice F1 S2.ledger.taps.length kF1, .slice F2 S2.ledger.verdicts.length kF2, .slice F3 S2.denied.ids.length kF3, .slice F4 S2.gates.length kF4, .slice F5 S2.views.length kF5⟩ S2 ∧ OwnL 35 1 inc W.heap.size X38 (.slice U all.length ku) all ∧ Bx X38 g11 32 #[.slice none 0 0, .slice none 0 0, .slice none 0 0, .int .i64 0, .slice none 0 0, .slice none 0 0, .slice none 0 0] from ⟨HX38.out, hw11, HFs.out, HFu.out, HFb.out⟩)
     try rw [← hgg0]
     try rw [← hgg1]
     try rw [← hgg11]
     generalize (Value.slice (some ⟨g0, 0, none⟩) 0 0) = r56
     generalize (Value.slice D1 l.length d1) = r58
     generalize (Value.slice (some ⟨g1, 0, none⟩) 1 1) = r60
     generalize (Value.slice D3 L3 d3) = r61
     refine any_listed (l2 := #[true, true, true, true, true, true, true, true, true, true, true, true, false, false, false]) (by kernel_rfl) ?_
     revert HALL
     exact key r56 r58 r60 r61 X38 g11 F0 kF0 F1 kF1 F2 kF2 F3 kF3 F4 kF4 F5 kF5 U ku
  ·go_simp
   refine hK.out _ _ (.inr (show Ext W _ by exact extA)) ?_
   clear hK
   (try simp only [Act.put, lSet])
   obtain ⟨g1, hgg1⟩ : ∃ g, g = X0.heap.size := ⟨_, rfl⟩
   rw [← hgg1]
   refine any_genP (S2 := fun X => Ext W X ∧ OwnL 71 10 acc W.heap.size X (.slice (some ⟨g1, 0, none⟩) 1 1) [(⟨k, id, of, time, ⟨t0, t1, t2, t3, t4, t5⟩⟩ : Ac)]) ⟨(by exact extA), (own_lit hgg1 (by omega) rfl (by unfold maxLen; omega) rfl rfl)⟩ ?_
   intro X39 hX
   obtain ⟨hx, hfo2⟩ := hX.out
   have HX39 := Lib.hid hx
   have hzX39 := hx.size
   have HFo2 := Lib.hid hfo2
   clear hfo2
   clear hX hx
   refine T_two (i := 0) (j := 11) rfl rfl (by kernel_rfl) rfl rfl (fun K hK => ?_) (fun K hK => ?_)
   ·go_simp
    refine hK.out _ _ (.inr (show Ext W _ by exact extA)) ?_
    clear hK
    (try simp only [Act.put, lSet])
    obtain ⟨g0, hgg0⟩ : ∃ g, g = X39.heap.size := ⟨_, rfl⟩
    rw [← hgg0]
    have h01 : g1 ≠ g0 := by have := (HFo2.out.lt g1 rfl).2; omega
    refine any_genP (S2 := fun X => Ext W X ∧ OwnL 71 10 acc W.heap.size X (.slice (some ⟨g0, 0, none⟩) 0 0) [] ∧ OwnL 71 10 acc W.heap.size X (.slice (some ⟨g1, 0, none⟩) 1 1) [(⟨k, id, of, time, ⟨t0, t1, t2, t3, t4, t5⟩⟩ : Ac)]) ⟨(by exact extA), (OwnL.made hgg0 (by omega)), (HFo2.out.ext ((Ext.refl _).alloc _))⟩ ?_
    intro X40 hX
    clear HFo2
    obtain ⟨hx, hfo0, hfo2⟩ := hX.out
    have HX40 := Lib.hid hx
    have hzX40 := hx.size
    have HFo0 := Lib.hid hfo0
    clear hfo0
    have HFo2 := Lib.hid hfo2
    clear hfo2
    clear hX hx
    refine T_two (i := 2) (j := 11) rfl rfl (by kernel_rfl) rfl rfl (fun K hK => ?_) (fun K hK => ?_)
    ·refine wp_append_rd (enc := acc) (k := 10) _ _ _ 74 rfl W.heap.size 71 i1 (.agg #[.int .i64 0, .int .i64 0, .int .i64 0, .int .i64 0, .int .i64 0, .int .i64 0, .int .i64 0, .int .i64 0, .int .i64 0, .int .i64 0]) 80 Tryz.underlying74 jj jj0 jj1 jj2 rfl (by decide) acc_size _ ([] : List Ac) (by simp [Act.eval, Act.put]) HFo0.out _ l (by simp [Act.eval, Act.put]) (HRL.out _ (by exact extA)) (ac_one _) ?hb41a ?hb41b (by omega) ?_
     case hb41a => have := HBD.out; unfold maxLen; simp; omega
     case hb41b => have := HBD.out; simp; omega
     intro v8 y41 ho8 hg8 hn8
     obtain ⟨D1, d1, rfl⟩ := ho8.form
     simp only [List.nil_append] at ho8 ⊢
     have hf8 := row_fr hg8
     have HX8 := Lib.hid (Ext.fr HX40.out hf8 (fun q h => by have h2 := (HFo0.out.lt q h).1; omega))
     have HO28 := Lib.hid (HFo2.out.kept' hg8 (fun q hq => by simp [Value.ownBlock] at hq ⊢; omega))
     have HO8 := Lib.hid ho8
     refine hK.out _ _ (.inr HX8.out) ?_
     clear hK hf8 hg8 hn8 ho8
     (try simp only [Act.put, lSet])
     refine any_genP (S2 := fun X => Ext W X ∧ OwnL 71 10 acc W.heap.size X (.slice D1 l.length d1) l ∧ OwnL 71 10 acc W.heap.size X (.slice (some ⟨g1, 0, none⟩) 1 1) [(⟨k, id, of, time, ⟨t0, t1, t2, t3, t4, t5⟩⟩ : Ac)]) ⟨HX8.out, HO8.out, HO28.out⟩ ?_
     intro X41 hX
     clear HFo0 HFo2
     obtain ⟨hx, hfo1, hfo2⟩ := hX.out
     have HX41 := Lib.hid hx
     have hzX41 := hx.size
     have HFo1 := Lib.hid hfo1
     clear hfo1
     have HFo2 := Lib.hid hfo2
     clear hfo2
     clear hX hx
     refine T_two (i := 5) (j := 11) rfl rfl (by kernel_rfl) rfl rfl (fun K hK => ?_) (fun K hK => ?_)
     ·refine wp_append_rd (enc := acc) (k := 10) _ _ _ 74 rfl W.heap.size 71 i1 (.agg #[.int .i64 0, .int .i64 0, .int .i64 0, .int .i64 0, .int .i64 0, .int .i64 0, .int .i64 0, .int .i64 0, .int .i64 0, .int .i64 0]) 80 Tryz.underlying74 jj jj0 jj1 jj2 rfl (by decide) acc_size _ l (by simp [Act.eval, Act.put]) HFo1.out _ [(⟨k, id, of, time, ⟨t0, t1, t2, t3, t4, t5⟩⟩ : Ac)] (by simp [Act.eval, Act.put]) (HFo2.out.rd acc_size) (ac_one _) ?hb42a ?hb42b (by omega) ?_
      case hb42a => have := HBD.out; unfold maxLen; simp; omega
      case hb42b => have := HBD.out; simp; omega
      intro v8 y42 ho8 hg8 hn8
      obtain ⟨D3, d3, rfl⟩ := ho8.form
      rw [← HL3.out] at ho8 ⊢
      have hf8 := row_fr hg8
      have HX8 := Lib.hid (Ext.fr HX41.out hf8 (fun q h => by have h2 := (HFo1.out.lt q h).1; omega))
      have HO8 := Lib.hid ho8
      refine hK.out _ _ (.inr HX8.out) ?_
      clear hK hf8 hg8 hn8 ho8
      (try simp only [Act.put, lSet])
      refine any_genP (S2 := fun X => Ext W X ∧ OwnL 71 10 acc W.heap.size X (.slice D3 L3 d3) (l ++ [(⟨k, id, of, time, ⟨t0, t1, t2, t3, t4, t5⟩⟩ : Ac)])) ⟨HX8.out, HO8.out⟩ ?_
      intro X42 hX
      clear HFo1 HFo2
      obtain ⟨hx, hfo3⟩ := hX.out
      have HX42 := Lib.hid hx
      have hzX42 := hx.size
      have HFo3 := Lib.hid hfo3
      clear hfo3
      clear hX hx
      refine T_two (i := 6) (j := 11) rfl rfl (by kernel_rfl) rfl rfl (fun K hK => ?_) (fun K hK => ?_)
      ·go_simp
       refine (KR2.out _ _ (HFo3.out.rd acc_size)).mono ?_
       rintro e y43 ⟨⟨t0', t1', t2', ti, tg, tv⟩, u, rfl, h1, ho, hu⟩
       obtain ⟨F0, kF0, rfl⟩ : ∃ B d, t0' = .slice B S2.ledger.tickets.length d := ho.tk.form
       obtain ⟨F1, kF1, rfl⟩ : ∃ B d, t1' = .slice B S2.ledger.taps.length d := ho.tp.form
       obtain ⟨F2, kF2, rfl⟩ : ∃ B d, t2' = .slice B S2.ledger.verdicts.length d := ho.vd.form
       obtain ⟨F3, kF3, rfl⟩ : ∃ B d, ti = .slice B S2.denied.ids.length d := ho.dn.form
       obtain ⟨F4, kF4, rfl⟩ : ∃ B d, tg = .slice B S2.gates.length d := ho.gt.form
       obtain ⟨F5, kF5, rfl⟩ : ∃ B d, tv = .slice B S2.views.length d := ho.vw.form
       rw [show sta S2 ⟨.slice F0 S2.ledger.tickets.length kF0, .slice F1 S2.ledger.taps.length kF1, .slice F2 S2.ledger.verdicts.length kF2, .slice F3 S2.denied.ids.length kF3, .slice F4 S2.gates.length kF4, .slice F5 S2.views.length kF5⟩ = #[.slice F0 S2.ledger.tickets.length kF0, .slice F1 S2.ledger.taps.length kF1, .slice F2 S2.ledger.verdicts.length kF2, .int .i64 S2.denied.version, .slice F3 S2.denied.ids.length kF3, .slice F4 S2.gates.length kF4, .slice F5 S2.views.length kF5] from rfl]
       obtain ⟨U, ku, rfl⟩ : ∃ B d, u = .slice B all.length d := hu.form
       have HX8 := Lib.hid (And.intro trivial (HX42.out.trans h1))
       have HS8 := Lib.hid (show OwnS W.heap.size y43 ⟨.slice F0 S2.ledger.tickets.length kF0, .slice F1 S2.ledger.taps.length kF1, .slice F2 S2.ledger.verdicts.length kF2, .slice F3 S2.denied.ids.length kF3, .slice F4 S2.gates.length kF4, .slice F5 S2.views.length kF5⟩ S2 from ho.lower (by omega))
       have HU8 := Lib.hid (show OwnL 35 1 inc W.heap.size y43 (.slice U all.length ku) all from hu.lower (by omega))
       clear h1 ho hu
       go_wp2_with fail
       refine hK.out _ _ (.inr HX8.out.2) ?_
       clear hK
       (try simp only [Act.put, lSet])
       refine any_genP (S2 := fun X => Ext W X ∧ OwnS W.heap.size X ⟨.slice F0 S2.ledger.tickets.length kF0, .slice F1 S2.ledger.taps.length kF1, .slice F2 S2.ledger.verdicts.length kF2, .slice F3 S2.denied.ids.length kF3, .slice F4 S2.gates.length kF4, .slice F5 S2.views.length kF5⟩ S2 ∧ OwnL 35 1 inc W.heap.size X (.slice U all.length ku) all) ⟨HX8.out.2, HS8.out, HU8.out⟩ ?_
       intro X43 hX
       clear HFo3
       obtain ⟨hx, hfs, hfu⟩ := hX.out
       have HX43 := Lib.hid hx
       have hzX43 := hx.size
       have HFs := Lib.hid hfs
       clear hfs
       have HFu := Lib.hid hfu
       clear hfu
       have hS : Ext W X43 := hx
       clear hX hx
       ((refine T_takeP (i := 7) (v := ?_) rfl (by kernel_rfl) (by first | exact wanted_none rfl | kernel_rfl) (by first | exact .inr hS | exact .inl (by kernel_rfl)) ?_ ?_; rotate_left; focus (intro w; go_simp; try (with_reducible rfl))); (try simp only [Act.put, lSet]); (refine T_takeP (i := 8) (v := ?_) rfl (by kernel_rfl) (by first | exact wanted_none rfl | kernel_rfl) (by first | exact .inr hS | exact .inl (by kernel_rfl)) ?_ ?_; rotate_left; focus (intro w; go_simp; try (with_reducible rfl))); (try simp only [Act.put, lSet]); (refine T_takeP (i := 9) (v := ?_) rfl (by kernel_rfl) (by first | exact wanted_none rfl | kernel_rfl) (by first | exact .inr hS | exact .inl (by kernel_rfl)) ?_ ?_; rotate_left; focus (intro w; go_simp; try (with_reducible rfl))); (try simp only [Act.put, lSet]); (refine T_takeP (i := 10) (v := ?_) rfl (by kernel_rfl) (by first | exact wanted_none rfl | kernel_rfl) (by first | exact .inr hS | exact .inl (by kernel_rfl)) ?_ ?_; rotate_left; focus (intro w; go_simp; try (with_reducible rfl))); (try simp only [Act.put, lSet]))
       clear hS
       refine T_only (i := 11) rfl (by kernel_rfl) rfl (fun K hK => ?_)
       go_simp
       refine hK.out _ _ (.inr (show Ext W _ by exact extA)) ?_
       clear hK
       (try simp only [Act.put, lSet])
       obtain ⟨g11, hgg11⟩ : ∃ g, g = X43.heap.size := ⟨_, rfl⟩
       rw [← hgg11]
       have hw11 : W.heap.size ≤ g11 := by omega
       refine any_genP (S2 := fun X => Ext W X ∧ OwnS W.heap.size X ⟨.slice F0 S2.ledger.tickets.length kF0, .slice F1 S2.ledger.taps.length kF1, .slice F2 S2.ledger.verdicts.length kF2, .slice F3 S2.denied.ids.length kF3, .slice F4 S2.gates.length kF4, .slice F5 S2.views.length kF5⟩ S2 ∧ OwnL 35 1 inc W.heap.size X (.slice U all.length ku) all ∧ Bx X g11 32 #[.slice none 0 0, .slice none 0 0, .slice none 0 0, .int .i64 0, .slice none 0 0, .slice none 0 0, .slice none 0 0]) ⟨(by exact extA), (HFs.out.ext ((Ext.refl _).alloc _)), (HFu.out.ext ((Ext.refl _).alloc _)), (Bx.newAt hgg11)⟩ ?_
       intro X44 hX
       clear HFs HFu
       obtain ⟨hx, hfs, hfu, hfb⟩ := hX.out
       have HX44 := Lib.hid hx
       have hzX44 := hx.size
       have HFs := Lib.hid hfs
       clear hfs
       have HFu := Lib.hid hfu
       clear hfu
       have HFb := Lib.hid hfb
       clear hfb
       clear hX hx
       have HALL := Lib.hid (show Ext W X44 ∧ W.heap.size ≤ g11 ∧ OwnS W.heap.size X44 ⟨.slice F0 S2.ledger.tickets.length kF0, .slice F1 S2.ledger.taps.length kF1, .slice F2 S2.ledger.verdicts.length kF2, .slice F3 S2.denied.ids.length kF3, .slice F4 S2.gates.length kF4, .slice F5 S2.views.length kF5⟩ S2 ∧ OwnL 35 1 inc W.heap.size X44 (.slice U all.length ku) all ∧ Bx X44 g11 32 #[.slice none 0 0, .slice none 0 0, .slice none 0 0, .int .i64 0, .slice none 0 0, .slice none 0 0, .slice none 0 0] from ⟨HX44.out, hw11, HFs.out, HFu.out, HFb.out⟩)
       try rw [← hgg0]
       try rw [← hgg1]
       try rw [← hgg11]
       generalize (Value.slice (some ⟨g0, 0, none⟩) 0 0) = r56
       generalize (Value.slice D1 l.length d1) = r58
       generalize (Value.slice (some ⟨g1, 0, none⟩) 1 1) = r60
       generalize (Value.slice D3 L3 d3) = r61
       refine any_listed (l2 := #[true, true, true, true, true, true, true, true, true, true, true, true, false, false, false]) (by kernel_rfl) ?_
       revert HALL
       exact key r56 r58 r60 r61 X44 g11 F0 kF0 F1 kF1 F2 kF2 F3 kF3 F4 kF4 F5 kF5 U ku
      ·go_simp
       refine hK.out _ _ (.inr (show Ext W _ by exact extA)) ?_
       clear hK
       (try simp only [Act.put, lSet])
       obtain ⟨g11, hgg11⟩ : ∃ g, g = X42.heap.size := ⟨_, rfl⟩
       rw [← hgg11]
       have hw11 : W.heap.size ≤ g11 := by omega
       refine any_genP (S2 := fun X => Ext W X ∧ OwnL 71 10 acc W.heap.size X (.slice D3 L3 d3) (l ++ [(⟨k, id, of, time, ⟨t0, t1, t2, t3, t4, t5⟩⟩ : Ac)]) ∧ Bx X g11 32 #[.slice none 0 0, .slice none 0 0, .slice none 0 0, .int .i64 0, .slice none 0 0, .slice none 0 0, .slice none 0 0]) ⟨(by exact extA), (HFo3.out.ext ((Ext.refl _).alloc _)), (Bx.newAt hgg11)⟩ ?_
       intro X45 hX
       clear HFo3
       obtain ⟨hx, hfo3, hfb⟩ := hX.out
       have HX45 := Lib.hid hx
       have hzX45 := hx.size
       have HFo3 := Lib.hid hfo3
       clear hfo3
       have HFb := Lib.hid hfb
       clear hfb
       clear hX hx
       refine T_only (i := 6) rfl (by kernel_rfl) rfl (fun K hK => ?_)
       go_simp
       refine (KR2.out _ _ (HFo3.out.rd acc_size)).mono ?_
       rintro e y46 ⟨⟨t0', t1', t2', ti, tg, tv⟩, u, rfl, h1, ho, hu⟩
       obtain ⟨F0, kF0, rfl⟩ : ∃ B d, t0' = .slice B S2.ledger.tickets.length d := ho.tk.form
       obtain ⟨F1, kF1, rfl⟩ : ∃ B d, t1' = .slice B S2.ledger.taps.length d := ho.tp.form
       obtain ⟨F2, kF2, rfl⟩ : ∃ B d, t2' = .slice B S2.ledger.verdicts.length d := ho.vd.form
       obtain ⟨F3, kF3, rfl⟩ : ∃ B d, ti = .slice B S2.denied.ids.length d := ho.dn.form
       obtain ⟨F4, kF4, rfl⟩ : ∃ B d, tg = .slice B S2.gates.length d := ho.gt.form
       obtain ⟨F5, kF5, rfl⟩ : ∃ B d, tv = .slice B S2.views.length d := ho.vw.form
       rw [show sta S2 ⟨.slice F0 S2.ledger.tickets.length kF0, .slice F1 S2.ledger.taps.length kF1, .slice F2 S2.ledger.verdicts.length kF2, .slice F3 S2.denied.ids.length kF3, .slice F4 S2.gates.length kF4, .slice F5 S2.views.length kF5⟩ = #[.slice F0 S2.ledger.tickets.length kF0, .slice F1 S2.ledger.taps.length kF1, .slice F2 S2.ledger.verdicts.length kF2, .int .i64 S2.denied.version, .slice F3 S2.denied.ids.length kF3, .slice F4 S2.gates.length kF4, .slice F5 S2.views.length kF5] from rfl]
       obtain ⟨U, ku, rfl⟩ : ∃ B d, u = .slice B all.length d := hu.form
       have HX8 := Lib.hid (And.intro trivial (HX45.out.trans h1))
       have HS8 := Lib.hid (show OwnS W.heap.size y46 ⟨.slice F0 S2.ledger.tickets.length kF0, .slice F1 S2.ledger.taps.length kF1, .slice F2 S2.ledger.verdicts.length kF2, .slice F3 S2.denied.ids.length kF3, .slice F4 S2.gates.length kF4, .slice F5 S2.views.length kF5⟩ S2 from ho.lower (by omega))
       have HU8 := Lib.hid (show OwnL 35 1 inc W.heap.size y46 (.slice U all.length ku) all from hu.lower (by omega))
       have HB8 := Lib.hid (HFb.out.ext h1)
       clear h1 ho hu
       go_wp2_with fail
       refine hK.out _ _ (.inr HX8.out.2) ?_
       clear hK
       (try simp only [Act.put, lSet])
       refine any_genP (S2 := fun X => Ext W X ∧ OwnS W.heap.size X ⟨.slice F0 S2.ledger.tickets.length kF0, .slice F1 S2.ledger.taps.length kF1, .slice F2 S2.ledger.verdicts.length kF2, .slice F3 S2.denied.ids.length kF3, .slice F4 S2.gates.length kF4, .slice F5 S2.views.length kF5⟩ S2 ∧ OwnL 35 1 inc W.heap.size X (.slice U all.length ku) all ∧ Bx X g11 32 #[.slice none 0 0, .slice none 0 0, .slice none 0 0, .int .i64 0, .slice none 0 0, .slice none 0 0, .slice none 0 0]) ⟨HX8.out.2, HS8.out, HU8.out, HB8.out⟩ ?_
       intro X46 hX
       clear HFo3 HFb
       obtain ⟨hx, hfs, hfu, hfb⟩ := hX.out
       have HX46 := Lib.hid hx
       have hzX46 := hx.size
       have HFs := Lib.hid hfs
       clear hfs
       have HFu := Lib.hid hfu
       clear hfu
       have HFb := Lib.hid hfb
       clear hfb
       have hS : Ext W X46 := hx
       clear hX hx
       ((refine T_takeP (i := 7) (v := ?_) rfl (by kernel_rfl) (by first | exact wanted_none rfl | kernel_rfl) (by first | exact .inr hS | exact .inl (by kernel_rfl)) ?_ ?_; rotate_left; focus (intro w; go_simp; try (with_reducible rfl))); (try simp only [Act.put, lSet]); (refine T_takeP (i := 8) (v := ?_) rfl (by kernel_rfl) (by first | exact wanted_none rfl | kernel_rfl) (by first | exact .inr hS | exact .inl (by kernel_rfl)) ?_ ?_; rotate_left; focus (intro w; go_simp; try (with_reducible rfl))); (try simp only [Act.put, lSet]); (refine T_takeP (i := 9) (v := ?_) rfl (by kernel_rfl) (by first | exact wanted_none rfl | kernel_rfl) (by first | exact .inr hS | exact .inl (by kernel_rfl)) ?_ ?_; rotate_left; focus (intro w; go_simp; try (with_reducible rfl))); (try simp only [Act.put, lSet]); (refine T_takeP (i := 10) (v := ?_) rfl (by kernel_rfl) (by first | exact wanted_none rfl | kernel_rfl) (by first | exact .inr hS | exact .inl (by kernel_rfl)) ?_ ?_; rotate_left; focus (intro w; go_simp; try (with_reducible rfl))); (try simp only [Act.put, lSet]))
       clear hS
       have HALL := Lib.hid (show Ext W X46 ∧ W.heap.size ≤ g11 ∧ OwnS W.heap.size X46 ⟨.slice F0 S2.ledger.tickets.length kF0, .slice F1 S2.ledger.taps.length kF1, .slice F2 S2.ledger.verdicts.length kF2, .slice F3 S2.denied.ids.length kF3, .slice F4 S2.gates.length kF4, .slice F5 S2.views.length kF5⟩ S2 ∧ OwnL 35 1 inc W.heap.size X46 (.slice U all.length ku) all ∧ Bx X46 g11 32 #[.slice none 0 0, .slice none 0 0, .slice none 0 0, .int .i64 0, .slice none 0 0, .slice none 0 0, .slice none 0 0] from ⟨HX46.out, hw11, HFs.out, HFu.out, HFb.out⟩)
       try rw [← hgg0]
       try rw [← hgg1]
       try rw [← hgg11]
       generalize (Value.slice (some ⟨g0, 0, none⟩) 0 0) = r56
       generalize (Value.slice D1 l.length d1) = r58
       generalize (Value.slice (some ⟨g1, 0, none⟩) 1 1) = r60
       generalize (Value.slice D3 L3 d3) = r61
       refine any_listed (l2 := #[true, true, true, true, true, true, true, true, true, true, true, true, false, false, false]) (by kernel_rfl) ?_
       revert HALL
       exact key r56 r58 r60 r61 X46 g11 F0 kF0 F1 kF1 F2 kF2 F3 kF3 F4 kF4 F5 kF5 U ku
     ·go_simp
      refine hK.out _ _ (.inr (show Ext W _ by exact extA)) ?_
      clear hK
      (try simp only [Act.put, lSet])
      obtain ⟨g11, hgg11⟩ : ∃ g, g = X41.heap.size := ⟨_, rfl⟩
      rw [← hgg11]
      have hw11 : W.heap.size ≤ g11 := by omega
      refine any_genP (S2 := fun X => Ext W X ∧ OwnL 71 10 acc W.heap.size X (.slice D1 l.length d1) l ∧ OwnL 71 10 acc W.heap.size X (.slice (some ⟨g1, 0, none⟩) 1 1) [(⟨k, id, of, time, ⟨t0, t1, t2, t3, t4, t5⟩⟩ : Ac)] ∧ Bx X g11 32 #[.slice none 0 0, .slice none 0 0, .slice none 0 0, .int .i64 0, .slice none 0 0, .slice none 0 0, .slice none 0 0]) ⟨(by exact extA), (HFo1.out.ext ((Ext.refl _).alloc _)), (HFo2.out.ext ((Ext.refl _).alloc _)), (Bx.newAt hgg11)⟩ ?_
      intro X47 hX
      clear HFo1 HFo2
      obtain ⟨hx, hfo1, hfo2, hfb⟩ := hX.out
      have HX47 := Lib.hid hx
      have hzX47 := hx.size
      have HFo1 := Lib.hid hfo1
      clear hfo1
      have HFo2 := Lib.hid hfo2
      clear hfo2
      have HFb := Lib.hid hfb
      clear hfb
      clear hX hx
      refine T_only (i := 5) rfl (by kernel_rfl) rfl (fun K hK => ?_)
      refine wp_append_rd (enc := acc) (k := 10) _ _ _ 74 rfl W.heap.size 71 i1 (.agg #[.int .i64 0, .int .i64 0, .int .i64 0, .int .i64 0, .int .i64 0, .int .i64 0, .int .i64 0, .int .i64 0, .int .i64 0, .int .i64 0]) 80 Tryz.underlying74 jj jj0 jj1 jj2 rfl (by decide) acc_size _ l (by simp [Act.eval, Act.put]) HFo1.out _ [(⟨k, id, of, time, ⟨t0, t1, t2, t3, t4, t5⟩⟩ : Ac)] (by simp [Act.eval, Act.put]) (HFo2.out.rd acc_size) (ac_one _) ?hb48a ?hb48b (by omega) ?_
      case hb48a => have := HBD.out; unfold maxLen; simp; omega
      case hb48b => have := HBD.out; simp; omega
      intro v8 y48 ho8 hg8 hn8
      obtain ⟨D3, d3, rfl⟩ := ho8.form
      rw [← HL3.out] at ho8 ⊢
      have hf8 := row_fr hg8
      have HX8 := Lib.hid (Ext.fr HX47.out hf8 (fun q h => by have h2 := (HFo1.out.lt q h).1; omega))
      have HB8 := Lib.hid (HFb.out.fr hf8 (fun h => by obtain ⟨cs, h2⟩ := OwnL.bx HFo1.out _ h; have h3 := HFb.out; unfold Bx at h2 h3; rw [h2] at h3; simp at h3))
      have HO8 := Lib.hid ho8
      refine hK.out _ _ (.inr HX8.out) ?_
      clear hK hf8 hg8 hn8 ho8
      (try simp only [Act.put, lSet])
      refine any_genP (S2 := fun X => Ext W X ∧ OwnL 71 10 acc W.heap.size X (.slice D3 L3 d3) (l ++ [(⟨k, id, of, time, ⟨t0, t1, t2, t3, t4, t5⟩⟩ : Ac)]) ∧ Bx X g11 32 #[.slice none 0 0, .slice none 0 0, .slice none 0 0, .int .i64 0, .slice none 0 0, .slice none 0 0, .slice none 0 0]) ⟨HX8.out, HO8.out, HB8.out⟩ ?_
      intro X48 hX
      clear HFo1 HFo2 HFb
      obtain ⟨hx, hfo3, hfb⟩ := hX.out
      have HX48 := Lib.hid hx
      have hzX48 := hx.size
      have HFo3 := Lib.hid hfo3
      clear hfo3
      have HFb := Lib.hid hfb
      clear hfb
      clear hX hx
      refine T_only (i := 6) rfl (by kernel_rfl) rfl (fun K hK => ?_)
      go_simp
      refine (KR2.out _ _ (HFo3.out.rd acc_size)).mono ?_
      rintro e y49 ⟨⟨t0', t1', t2', ti, tg, tv⟩, u, rfl, h1, ho, hu⟩
      obtain ⟨F0, kF0, rfl⟩ : ∃ B d, t0' = .slice B S2.ledger.tickets.length d := ho.tk.form
      obtain ⟨F1, kF1, rfl⟩ : ∃ B d, t1' = .slice B S2.ledger.taps.length d := ho.tp.form
      obtain ⟨F2, kF2, rfl⟩ : ∃ B d, t2' = .slice B S2.ledger.verdicts.length d := ho.vd.form
      obtain ⟨F3, kF3, rfl⟩ : ∃ B d, ti = .slice B S2.denied.ids.length d := ho.dn.form
      obtain ⟨F4, kF4, rfl⟩ : ∃ B d, tg = .slice B S2.gates.length d := ho.gt.form
      obtain ⟨F5, kF5, rfl⟩ : ∃ B d, tv = .slice B S2.views.length d := ho.vw.form
      rw [show sta S2 ⟨.slice F0 S2.ledger.tickets.length kF0, .slice F1 S2.ledger.taps.length kF1, .slice F2 S2.ledger.verdicts.length kF2, .slice F3 S2.denied.ids.length kF3, .slice F4 S2.gates.length kF4, .slice F5 S2.views.length kF5⟩ = #[.slice F0 S2.ledger.tickets.length kF0, .slice F1 S2.ledger.taps.length kF1, .slice F2 S2.ledger.verdicts.length kF2, .int .i64 S2.denied.version, .slice F3 S2.denied.ids.length kF3, .slice F4 S2.gates.length kF4, .slice F5 S2.views.length kF5] from rfl]
      obtain ⟨U, ku, rfl⟩ : ∃ B d, u = .slice B all.length d := hu.form
      have HX8 := Lib.hid (And.intro trivial (HX48.out.trans h1))
      have HS8 := Lib.hid (show OwnS W.heap.size y49 ⟨.slice F0 S2.ledger.tickets.length kF0, .slice F1 S2.ledger.taps.length kF1, .slice F2 S2.ledger.verdicts.length kF2, .slice F3 S2.denied.ids.length kF3, .slice F4 S2.gates.length kF4, .slice F5 S2.views.length kF5⟩ S2 from ho.lower (by omega))
      have HU8 := Lib.hid (show OwnL 35 1 inc W.heap.size y49 (.slice U all.length ku) all from hu.lower (by omega))
      have HB8 := Lib.hid (HFb.out.ext h1)
      clear h1 ho hu
      go_wp2_with fail
      refine hK.out _ _ (.inr HX8.out.2) ?_
      clear hK
      (try simp only [Act.put, lSet])
      refine any_genP (S2 := fun X => Ext W X ∧ OwnS W.heap.size X ⟨.slice F0 S2.ledger.tickets.length kF0, .slice F1 S2.ledger.taps.length kF1, .slice F2 S2.ledger.verdicts.length kF2, .slice F3 S2.denied.ids.length kF3, .slice F4 S2.gates.length kF4, .slice F5 S2.views.length kF5⟩ S2 ∧ OwnL 35 1 inc W.heap.size X (.slice U all.length ku) all ∧ Bx X g11 32 #[.slice none 0 0, .slice none 0 0, .slice none 0 0, .int .i64 0, .slice none 0 0, .slice none 0 0, .slice none 0 0]) ⟨HX8.out.2, HS8.out, HU8.out, HB8.out⟩ ?_
      intro X49 hX
      clear HFo3 HFb
      obtain ⟨hx, hfs, hfu, hfb⟩ := hX.out
      have HX49 := Lib.hid hx
      have hzX49 := hx.size
      have HFs := Lib.hid hfs
      clear hfs
      have HFu := Lib.hid hfu
      clear hfu
      have HFb := Lib.hid hfb
      clear hfb
      have hS : Ext W X49 := hx
      clear hX hx
      ((refine T_takeP (i := 7) (v := ?_) rfl (by kernel_rfl) (by first | exact wanted_none rfl | kernel_rfl) (by first | exact .inr hS | exact .inl (by kernel_rfl)) ?_ ?_; rotate_left; focus (intro w; go_simp; try (with_reducible rfl))); (try simp only [Act.put, lSet]); (refine T_takeP (i := 8) (v := ?_) rfl (by kernel_rfl) (by first | exact wanted_none rfl | kernel_rfl) (by first | exact .inr hS | exact .inl (by kernel_rfl)) ?_ ?_; rotate_left; focus (intro w; go_simp; try (with_reducible rfl))); (try simp only [Act.put, lSet]); (refine T_takeP (i := 9) (v := ?_) rfl (by kernel_rfl) (by first | exact wanted_none rfl | kernel_rfl) (by first | exact .inr hS | exact .inl (by kernel_rfl)) ?_ ?_; rotate_left; focus (intro w; go_simp; try (with_reducible rfl))); (try simp only [Act.put, lSet]); (refine T_takeP (i := 10) (v := ?_) rfl (by kernel_rfl) (by first | exact wanted_none rfl | kernel_rfl) (by first | exact .inr hS | exact .inl (by kernel_rfl)) ?_ ?_; rotate_left; focus (intro w; go_simp; try (with_reducible rfl))); (try simp only [Act.put, lSet]))
      clear hS
      have HALL := Lib.hid (show Ext W X49 ∧ W.heap.size ≤ g11 ∧ OwnS W.heap.size X49 ⟨.slice F0 S2.ledger.tickets.length kF0, .slice F1 S2.ledger.taps.length kF1, .slice F2 S2.ledger.verdicts.length kF2, .slice F3 S2.denied.ids.length kF3, .slice F4 S2.gates.length kF4, .slice F5 S2.views.length kF5⟩ S2 ∧ OwnL 35 1 inc W.heap.size X49 (.slice U all.length ku) all ∧ Bx X49 g11 32 #[.slice none 0 0, .slice none 0 0, .slice none 0 0, .int .i64 0, .slice none 0 0, .slice none 0 0, .slice none 0 0] from ⟨HX49.out, hw11, HFs.out, HFu.out, HFb.out⟩)
      try rw [← hgg0]
      try rw [← hgg1]
      try rw [← hgg11]
      generalize (Value.slice (some ⟨g0, 0, none⟩) 0 0) = r56
      generalize (Value.slice D1 l.length d1) = r58
      generalize (Value.slice (some ⟨g1, 0, none⟩) 1 1) = r60
      generalize (Value.slice D3 L3 d3) = r61
      refine any_listed (l2 := #[true, true, true, true, true, true, true, true, true, true, true, true, false, false, false]) (by kernel_rfl) ?_
      revert HALL
      exact key r56 r58 r60 r61 X49 g11 F0 kF0 F1 kF1 F2 kF2 F3 kF3 F4 kF4 F5 kF5 U ku
    ·go_simp
     refine hK.out _ _ (.inr (show Ext W _ by exact extA)) ?_
     clear hK
     (try simp only [Act.put, lSet])
     obtain ⟨g11, hgg11⟩ : ∃ g, g = X40.heap.size := ⟨_, rfl⟩
     rw [← hgg11]
     have hw11 : W.heap.size ≤ g11 := by omega
     refine any_genP (S2 := fun X => Ext W X ∧ OwnL 71 10 acc W.heap.size X (.slice (some ⟨g0, 0, none⟩) 0 0) [] ∧ OwnL 71 10 acc W.heap.size X (.slice (some ⟨g1, 0, none⟩) 1 1) [(⟨k, id, of, time, ⟨t0, t1, t2, t3, t4, t5⟩⟩ : Ac)] ∧ Bx X g11 32 #[.slice none 0 0, .slice none 0 0, .slice none 0 0, .int .i64 0, .slice none 0 0, .slice none 0 0, .slice none 0 0]) ⟨(by exact extA), (HFo0.out.ext ((Ext.refl _).alloc _)), (HFo2.out.ext ((Ext.refl _).alloc _)), (Bx.newAt hgg11)⟩ ?_
     intro X50 hX
     clear HFo0 HFo2
     obtain ⟨hx, hfo0, hfo2, hfb⟩ := hX.out
     have HX50 := Lib.hid hx
     have hzX50 := hx.size
     have HFo0 := Lib.hid hfo0
     clear hfo0
     have HFo2 := Lib.hid hfo2
     clear hfo2
     have HFb := Lib.hid hfb
     clear hfb
     clear hX hx
     refine T_only (i := 2) rfl (by kernel_rfl) rfl (fun K hK => ?_)
     refine wp_append_rd (enc := acc) (k := 10) _ _ _ 74 rfl W.heap.size 71 i1 (.agg #[.int .i64 0, .int .i64 0, .int .i64 0, .int .i64 0, .int .i64 0, .int .i64 0, .int .i64 0, .int .i64 0, .int .i64 0, .int .i64 0]) 80 Tryz.underlying74 jj jj0 jj1 jj2 rfl (by decide) acc_size _ ([] : List Ac) (by simp [Act.eval, Act.put]) HFo0.out _ l (by simp [Act.eval, Act.put]) (HRL.out _ (by exact extA)) (ac_one _) ?hb51a ?hb51b (by omega) ?_
     case hb51a => have := HBD.out; unfold maxLen; simp; omega
     case hb51b => have := HBD.out; simp; omega
     intro v8 y51 ho8 hg8 hn8
     obtain ⟨D1, d1, rfl⟩ := ho8.form
     simp only [List.nil_append] at ho8 ⊢
     have hf8 := row_fr hg8
     have HX8 := Lib.hid (Ext.fr HX50.out hf8 (fun q h => by have h2 := (HFo0.out.lt q h).1; omega))
     have HB8 := Lib.hid (HFb.out.fr hf8 (fun h => by obtain ⟨cs, h2⟩ := OwnL.bx HFo0.out _ h; have h3 := HFb.out; unfold Bx at h2 h3; rw [h2] at h3; simp at h3))
     have HO28 := Lib.hid (HFo2.out.kept' hg8 (fun q hq => by simp [Value.ownBlock] at hq ⊢; omega))
     have HO8 := Lib.hid ho8
     refine hK.out _ _ (.inr HX8.out) ?_
     clear hK hf8 hg8 hn8 ho8
     (try simp only [Act.put, lSet])
     refine any_genP (S2 := fun X => Ext W X ∧ OwnL 71 10 acc W.heap.size X (.slice D1 l.length d1) l ∧ OwnL 71 10 acc W.heap.size X (.slice (some ⟨g1, 0, none⟩) 1 1) [(⟨k, id, of, time, ⟨t0, t1, t2, t3, t4, t5⟩⟩ : Ac)] ∧ Bx X g11 32 #[.slice none 0 0, .slice none 0 0, .slice none 0 0, .int .i64 0, .slice none 0 0, .slice none 0 0, .slice none 0 0]) ⟨HX8.out, HO8.out, HO28.out, HB8.out⟩ ?_
     intro X51 hX
     clear HFo0 HFo2 HFb
     obtain ⟨hx, hfo1, hfo2, hfb⟩ := hX.out
     have HX51 := Lib.hid hx
     have hzX51 := hx.size
     have HFo1 := Lib.hid hfo1
     clear hfo1
     have HFo2 := Lib.hid hfo2
     clear hfo2
     have HFb := Lib.hid hfb
     clear hfb
     clear hX hx
     refine T_only (i := 5) rfl (by kernel_rfl) rfl (fun K hK => ?_)
     refine wp_append_rd (enc := acc) (k := 10) _ _ _ 74 rfl W.heap.size 71 i1 (.agg #[.int .i64 0, .int .i64 0, .int .i64 0, .int .i64 0, .int .i64 0, .int .i64 0, .int .i64 0, .int .i64 0, .int .i64 0, .int .i64 0]) 80 Tryz.underlying74 jj jj0 jj1 jj2 rfl (by decide) acc_size _ l (by simp [Act.eval, Act.put]) HFo1.out _ [(⟨k, id, of, time, ⟨t0, t1, t2, t3, t4, t5⟩⟩ : Ac)] (by simp [Act.eval, Act.put]) (HFo2.out.rd acc_size) (ac_one _) ?hb52a ?hb52b (by omega) ?_
     case hb52a => have := HBD.out; unfold maxLen; simp; omega
     case hb52b => have := HBD.out; simp; omega
     intro v8 y52 ho8 hg8 hn8
     obtain ⟨D3, d3, rfl⟩ := ho8.form
     rw [← HL3.out] at ho8 ⊢
     have hf8 := row_fr hg8
     have HX8 := Lib.hid (Ext.fr HX51.out hf8 (fun q h => by have h2 := (HFo1.out.lt q h).1; omega))
     have HB8 := Lib.hid (HFb.out.fr hf8 (fun h => by obtain ⟨cs, h2⟩ := OwnL.bx HFo1.out _ h; have h3 := HFb.out; unfold Bx at h2 h3; rw [h2] at h3; simp at h3))
     have HO8 := Lib.hid ho8
     refine hK.out _ _ (.inr HX8.out) ?_
     clear hK hf8 hg8 hn8 ho8
     (try simp only [Act.put, lSet])
     refine any_genP (S2 := fun X => Ext W X ∧ OwnL 71 10 acc W.heap.size X (.slice D3 L3 d3) (l ++ [(⟨k, id, of, time, ⟨t0, t1, t2, t3, t4, t5⟩⟩ : Ac)]) ∧ Bx X g11 32 #[.slice none 0 0, .slice none 0 0, .slice none 0 0, .int .i64 0, .slice none 0 0, .slice none 0 0, .slice none 0 0]) ⟨HX8.out, HO8.out, HB8.out⟩ ?_
     intro X52 hX
     clear HFo1 HFo2 HFb
     obtain ⟨hx, hfo3, hfb⟩ := hX.out
     have HX52 := Lib.hid hx
     have hzX52 := hx.size
     have HFo3 := Lib.hid hfo3
     clear hfo3
     have HFb := Lib.hid hfb
     clear hfb
     clear hX hx
     refine T_only (i := 6) rfl (by kernel_rfl) rfl (fun K hK => ?_)
     go_simp
     refine (KR2.out _ _ (HFo3.out.rd acc_size)).mono ?_
     rintro e y53 ⟨⟨t0', t1', t2', ti, tg, tv⟩, u, rfl, h1, ho, hu⟩
     obtain ⟨F0, kF0, rfl⟩ : ∃ B d, t0' = .slice B S2.ledger.tickets.length d := ho.tk.form
     obtain ⟨F1, kF1, rfl⟩ : ∃ B d, t1' = .slice B S2.ledger.taps.length d := ho.tp.form
     obtain ⟨F2, kF2, rfl⟩ : ∃ B d, t2' = .slice B S2.ledger.verdicts.length d := ho.vd.form
     obtain ⟨F3, kF3, rfl⟩ : ∃ B d, ti = .slice B S2.denied.ids.length d := ho.dn.form
     obtain ⟨F4, kF4, rfl⟩ : ∃ B d, tg = .slice B S2.gates.length d := ho.gt.form
     obtain ⟨F5, kF5, rfl⟩ : ∃ B d, tv = .slice B S2.views.length d := ho.vw.form
     rw [show sta S2 ⟨.slice F0 S2.ledger.tickets.length kF0, .slice F1 S2.ledger.taps.length kF1, .slice F2 S2.ledger.verdicts.length kF2, .slice F3 S2.denied.ids.length kF3, .slice F4 S2.gates.length kF4, .slice F5 S2.views.length kF5⟩ = #[.slice F0 S2.ledger.tickets.length kF0, .slice F1 S2.ledger.taps.length kF1, .slice F2 S2.ledger.verdicts.length kF2, .int .i64 S2.denied.version, .slice F3 S2.denied.ids.length kF3, .slice F4 S2.gates.length kF4, .slice F5 S2.views.length kF5] from rfl]
     obtain ⟨U, ku, rfl⟩ : ∃ B d, u = .slice B all.length d := hu.form
     have HX8 := Lib.hid (And.intro trivial (HX52.out.trans h1))
     have HS8 := Lib.hid (show OwnS W.heap.size y53 ⟨.slice F0 S2.ledger.tickets.length kF0, .slice F1 S2.ledger.taps.length kF1, .slice F2 S2.ledger.verdicts.length kF2, .slice F3 S2.denied.ids.length kF3, .slice F4 S2.gates.length kF4, .slice F5 S2.views.length kF5⟩ S2 from ho.lower (by omega))
     have HU8 := Lib.hid (show OwnL 35 1 inc W.heap.size y53 (.slice U all.length ku) all from hu.lower (by omega))
     have HB8 := Lib.hid (HFb.out.ext h1)
     clear h1 ho hu
     go_wp2_with fail
     refine hK.out _ _ (.inr HX8.out.2) ?_
     clear hK
     (try simp only [Act.put, lSet])
     refine any_genP (S2 := fun X => Ext W X ∧ OwnS W.heap.size X ⟨.slice F0 S2.ledger.tickets.length kF0, .slice F1 S2.ledger.taps.length kF1, .slice F2 S2.ledger.verdicts.length kF2, .slice F3 S2.denied.ids.length kF3, .slice F4 S2.gates.length kF4, .slice F5 S2.views.length kF5⟩ S2 ∧ OwnL 35 1 inc W.heap.size X (.slice U all.length ku) all ∧ Bx X g11 32 #[.slice none 0 0, .slice none 0 0, .slice none 0 0, .int .i64 0, .slice none 0 0, .slice none 0 0, .slice none 0 0]) ⟨HX8.out.2, HS8.out, HU8.out, HB8.out⟩ ?_
     intro X53 hX
     clear HFo3 HFb
     obtain ⟨hx, hfs, hfu, hfb⟩ := hX.out
     have HX53 := Lib.hid hx
     have hzX53 := hx.size
     have HFs := Lib.hid hfs
     clear hfs
     have HFu := Lib.hid hfu
     clear hfu
     have HFb := Lib.hid hfb
     clear hfb
     have hS : Ext W X53 := hx
     clear hX hx
     ((refine T_takeP (i := 7) (v := ?_) rfl (by kernel_rfl) (by first | exact wanted_none rfl | kernel_rfl) (by first | exact .inr hS | exact .inl (by kernel_rfl)) ?_ ?_; rotate_left; focus (intro w; go_simp; try (with_reducible rfl))); (try simp only [Act.put, lSet]); (refine T_takeP (i := 8) (v := ?_) rfl (by kernel_rfl) (by first | exact wanted_none rfl | kernel_rfl) (by first | exact .inr hS | exact .inl (by kernel_rfl)) ?_ ?_; rotate_left; focus (intro w; go_simp; try (with_reducible rfl))); (try simp only [Act.put, lSet]); (refine T_takeP (i := 9) (v := ?_) rfl (by kernel_rfl) (by first | exact wanted_none rfl | kernel_rfl) (by first | exact .inr hS | exact .inl (by kernel_rfl)) ?_ ?_; rotate_left; focus (intro w; go_simp; try (with_reducible rfl))); (try simp only [Act.put, lSet]); (refine T_takeP (i := 10) (v := ?_) rfl (by kernel_rfl) (by first | exact wanted_none rfl | kernel_rfl) (by first | exact .inr hS | exact .inl (by kernel_rfl)) ?_ ?_; rotate_left; focus (intro w; go_simp; try (with_reducible rfl))); (try simp only [Act.put, lSet]))
     clear hS
     have HALL := Lib.hid (show Ext W X53 ∧ W.heap.size ≤ g11 ∧ OwnS W.heap.size X53 ⟨.slice F0 S2.ledger.tickets.length kF0, .slice F1 S2.ledger.taps.length kF1, .slice F2 S2.ledger.verdicts.length kF2, .slice F3 S2.denied.ids.length kF3, .slice F4 S2.gates.length kF4, .slice F5 S2.views.length kF5⟩ S2 ∧ OwnL 35 1 inc W.heap.size X53 (.slice U all.length ku) all ∧ Bx X53 g11 32 #[.slice none 0 0, .slice none 0 0, .slice none 0 0, .int .i64 0, .slice none 0 0, .slice none 0 0, .slice none 0 0] from ⟨HX53.out, hw11, HFs.out, HFu.out, HFb.out⟩)
     try rw [← hgg0]
     try rw [← hgg1]
     try rw [← hgg11]
     generalize (Value.slice (some ⟨g0, 0, none⟩) 0 0) = r56
     generalize (Value.slice D1 l.length d1) = r58
     generalize (Value.slice (some ⟨g1, 0, none⟩) 1 1) = r60
     generalize (Value.slice D3 L3 d3) = r61
     refine any_listed (l2 := #[true, true, true, true, true, true, true, true, true, true, true, true, false, false, false]) (by kernel_rfl) ?_
     revert HALL
     exact key r56 r58 r60 r61 X53 g11 F0 kF0 F1 kF1 F2 kF2 F3 kF3 F4 kF4 F5 kF5 U ku
   ·go_simp
    refine hK.out _ _ (.inr (show Ext W _ by exact extA)) ?_
    clear hK
    (try simp only [Act.put, lSet])
    obtain ⟨g11, hgg11⟩ : ∃ g, g = X39.heap.size := ⟨_, rfl⟩
    rw [← hgg11]
    have hw11 : W.heap.size ≤ g11 := by omega
    refine any_genP (S2 := fun X => Ext W X ∧ OwnL 71 10 acc W.heap.size X (.slice (some ⟨g1, 0, none⟩) 1 1) [(⟨k, id, of, time, ⟨t0, t1, t2, t3, t4, t5⟩⟩ : Ac)] ∧ Bx X g11 32 #[.slice none 0 0, .slice none 0 0, .slice none 0 0, .int .i64 0, .slice none 0 0, .slice none 0 0, .slice none 0 0]) ⟨(by exact extA), (HFo2.out.ext ((Ext.refl _).alloc _)), (Bx.newAt hgg11)⟩ ?_
    intro X54 hX
    clear HFo2
    obtain ⟨hx, hfo2, hfb⟩ := hX.out
    have HX54 := Lib.hid hx
    have hzX54 := hx.size
    have HFo2 := Lib.hid hfo2
    clear hfo2
    have HFb := Lib.hid hfb
    clear hfb
    clear hX hx
    refine T_only (i := 0) rfl (by kernel_rfl) rfl (fun K hK => ?_)
    go_simp
    refine hK.out _ _ (.inr (show Ext W _ by exact extA)) ?_
    clear hK
    (try simp only [Act.put, lSet])
    obtain ⟨g0, hgg0⟩ : ∃ g, g = X54.heap.size := ⟨_, rfl⟩
    rw [← hgg0]
    have h01 : g1 ≠ g0 := by have := (HFo2.out.lt g1 rfl).2; omega
    refine any_genP (S2 := fun X => Ext W X ∧ OwnL 71 10 acc W.heap.size X (.slice (some ⟨g0, 0, none⟩) 0 0) [] ∧ OwnL 71 10 acc W.heap.size X (.slice (some ⟨g1, 0, none⟩) 1 1) [(⟨k, id, of, time, ⟨t0, t1, t2, t3, t4, t5⟩⟩ : Ac)] ∧ Bx X g11 32 #[.slice none 0 0, .slice none 0 0, .slice none 0 0, .int .i64 0, .slice none 0 0, .slice none 0 0, .slice none 0 0]) ⟨(by exact extA), (OwnL.made hgg0 (by omega)), (HFo2.out.ext ((Ext.refl _).alloc _)), (HFb.out.alloc _)⟩ ?_
    intro X55 hX
    clear HFo2 HFb
    obtain ⟨hx, hfo0, hfo2, hfb⟩ := hX.out
    have HX55 := Lib.hid hx
    have hzX55 := hx.size
    have HFo0 := Lib.hid hfo0
    clear hfo0
    have HFo2 := Lib.hid hfo2
    clear hfo2
    have HFb := Lib.hid hfb
    clear hfb
    clear hX hx
    refine T_only (i := 2) rfl (by kernel_rfl) rfl (fun K hK => ?_)
    refine wp_append_rd (enc := acc) (k := 10) _ _ _ 74 rfl W.heap.size 71 i1 (.agg #[.int .i64 0, .int .i64 0, .int .i64 0, .int .i64 0, .int .i64 0, .int .i64 0, .int .i64 0, .int .i64 0, .int .i64 0, .int .i64 0]) 80 Tryz.underlying74 jj jj0 jj1 jj2 rfl (by decide) acc_size _ ([] : List Ac) (by simp [Act.eval, Act.put]) HFo0.out _ l (by simp [Act.eval, Act.put]) (HRL.out _ (by exact extA)) (ac_one _) ?hb56a ?hb56b (by omega) ?_
    case hb56a => have := HBD.out; unfold maxLen; simp; omega
    case hb56b => have := HBD.out; simp; omega
    intro v8 y56 ho8 hg8 hn8
    obtain ⟨D1, d1, rfl⟩ := ho8.form
    simp only [List.nil_append] at ho8 ⊢
    have hf8 := row_fr hg8
    have HX8 := Lib.hid (Ext.fr HX55.out hf8 (fun q h => by have h2 := (HFo0.out.lt q h).1; omega))
    have HB8 := Lib.hid (HFb.out.fr hf8 (fun h => by obtain ⟨cs, h2⟩ := OwnL.bx HFo0.out _ h; have h3 := HFb.out; unfold Bx at h2 h3; rw [h2] at h3; simp at h3))
    have HO28 := Lib.hid (HFo2.out.kept' hg8 (fun q hq => by simp [Value.ownBlock] at hq ⊢; omega))
    have HO8 := Lib.hid ho8
    refine hK.out _ _ (.inr HX8.out) ?_
    clear hK hf8 hg8 hn8 ho8
    (try simp only [Act.put, lSet])
    refine any_genP (S2 := fun X => Ext W X ∧ OwnL 71 10 acc W.heap.size X (.slice D1 l.length d1) l ∧ OwnL 71 10 acc W.heap.size X (.slice (some ⟨g1, 0, none⟩) 1 1) [(⟨k, id, of, time, ⟨t0, t1, t2, t3, t4, t5⟩⟩ : Ac)] ∧ Bx X g11 32 #[.slice none 0 0, .slice none 0 0, .slice none 0 0, .int .i64 0, .slice none 0 0, .slice none 0 0, .slice none 0 0]) ⟨HX8.out, HO8.out, HO28.out, HB8.out⟩ ?_
    intro X56 hX
    clear HFo0 HFo2 HFb
    obtain ⟨hx, hfo1, hfo2, hfb⟩ := hX.out
    have HX56 := Lib.hid hx
    have hzX56 := hx.size
    have HFo1 := Lib.hid hfo1
    clear hfo1
    have HFo2 := Lib.hid hfo2
    clear hfo2
    have HFb := Lib.hid hfb
    clear hfb
    clear hX hx
    refine T_only (i := 5) rfl (by kernel_rfl) rfl (fun K hK => ?_)
    refine wp_append_rd (enc := acc) (k := 10) _ _ _ 74 rfl W.heap.size 71 i1 (.agg #[.int .i64 0, .int .i64 0, .int .i64 0, .int .i64 0, .int .i64 0, .int .i64 0, .int .i64 0, .int .i64 0, .int .i64 0, .int .i64 0]) 80 Tryz.underlying74 jj jj0 jj1 jj2 rfl (by decide) acc_size _ l (by simp [Act.eval, Act.put]) HFo1.out _ [(⟨k, id, of, time, ⟨t0, t1, t2, t3, t4, t5⟩⟩ : Ac)] (by simp [Act.eval, Act.put]) (HFo2.out.rd acc_size) (ac_one _) ?hb57a ?hb57b (by omega) ?_
    case hb57a => have := HBD.out; unfold maxLen; simp; omega
    case hb57b => have := HBD.out; simp; omega
    intro v8 y57 ho8 hg8 hn8
    obtain ⟨D3, d3, rfl⟩ := ho8.form
    rw [← HL3.out] at ho8 ⊢
    have hf8 := row_fr hg8
    have HX8 := Lib.hid (Ext.fr HX56.out hf8 (fun q h => by have h2 := (HFo1.out.lt q h).1; omega))
    have HB8 := Lib.hid (HFb.out.fr hf8 (fun h => by obtain ⟨cs, h2⟩ := OwnL.bx HFo1.out _ h; have h3 := HFb.out; unfold Bx at h2 h3; rw [h2] at h3; simp at h3))
    have HO8 := Lib.hid ho8
    refine hK.out _ _ (.inr HX8.out) ?_
    clear hK hf8 hg8 hn8 ho8
    (try simp only [Act.put, lSet])
    refine any_genP (S2 := fun X => Ext W X ∧ OwnL 71 10 acc W.heap.size X (.slice D3 L3 d3) (l ++ [(⟨k, id, of, time, ⟨t0, t1, t2, t3, t4, t5⟩⟩ : Ac)]) ∧ Bx X g11 32 #[.slice none 0 0, .slice none 0 0, .slice none 0 0, .int .i64 0, .slice none 0 0, .slice none 0 0, .slice none 0 0]) ⟨HX8.out, HO8.out, HB8.out⟩ ?_
    intro X57 hX
    clear HFo1 HFo2 HFb
    obtain ⟨hx, hfo3, hfb⟩ := hX.out
    have HX57 := Lib.hid hx
    have hzX57 := hx.size
    have HFo3 := Lib.hid hfo3
    clear hfo3
    have HFb := Lib.hid hfb
    clear hfb
    clear hX hx
    refine T_only (i := 6) rfl (by kernel_rfl) rfl (fun K hK => ?_)
    go_simp
    refine (KR2.out _ _ (HFo3.out.rd acc_size)).mono ?_
    rintro e y58 ⟨⟨t0', t1', t2', ti, tg, tv⟩, u, rfl, h1, ho, hu⟩
    obtain ⟨F0, kF0, rfl⟩ : ∃ B d, t0' = .slice B S2.ledger.tickets.length d := ho.tk.form
    obtain ⟨F1, kF1, rfl⟩ : ∃ B d, t1' = .slice B S2.ledger.taps.length d := ho.tp.form
    obtain ⟨F2, kF2, rfl⟩ : ∃ B d, t2' = .slice B S2.ledger.verdicts.length d := ho.vd.form
    obtain ⟨F3, kF3, rfl⟩ : ∃ B d, ti = .slice B S2.denied.ids.length d := ho.dn.form
    obtain ⟨F4, kF4, rfl⟩ : ∃ B d, tg = .slice B S2.gates.length d := ho.gt.form
    obtain ⟨F5, kF5, rfl⟩ : ∃ B d, tv = .slice B S2.views.length d := ho.vw.form
    rw [show sta S2 ⟨.slice F0 S2.ledger.tickets.length kF0, .slice F1 S2.ledger.taps.length kF1, .slice F2 S2.ledger.verdicts.length kF2, .slice F3 S2.denied.ids.length kF3, .slice F4 S2.gates.length kF4, .slice F5 S2.views.length kF5⟩ = #[.slice F0 S2.ledger.tickets.length kF0, .slice F1 S2.ledger.taps.length kF1, .slice F2 S2.ledger.verdicts.length kF2, .int .i64 S2.denied.version, .slice F3 S2.denied.ids.length kF3, .slice F4 S2.gates.length kF4, .slice F5 S2.views.length kF5] from rfl]
    obtain ⟨U, ku, rfl⟩ : ∃ B d, u = .slice B all.length d := hu.form
    have HX8 := Lib.hid (And.intro trivial (HX57.out.trans h1))
    have HS8 := Lib.hid (show OwnS W.heap.size y58 ⟨.slice F0 S2.ledger.tickets.length kF0, .slice F1 S2.ledger.taps.length kF1, .slice F2 S2.ledger.verdicts.length kF2, .slice F3 S2.denied.ids.length kF3, .slice F4 S2.gates.length kF4, .slice F5 S2.views.length kF5⟩ S2 from ho.lower (by omega))
    have HU8 := Lib.hid (show OwnL 35 1 inc W.heap.size y58 (.slice U all.length ku) all from hu.lower (by omega))
    have HB8 := Lib.hid (HFb.out.ext h1)
    clear h1 ho hu
    go_wp2_with fail
    refine hK.out _ _ (.inr HX8.out.2) ?_
    clear hK
    (try simp only [Act.put, lSet])
    refine any_genP (S2 := fun X => Ext W X ∧ OwnS W.heap.size X ⟨.slice F0 S2.ledger.tickets.length kF0, .slice F1 S2.ledger.taps.length kF1, .slice F2 S2.ledger.verdicts.length kF2, .slice F3 S2.denied.ids.length kF3, .slice F4 S2.gates.length kF4, .slice F5 S2.views.length kF5⟩ S2 ∧ OwnL 35 1 inc W.heap.size X (.slice U all.length ku) all ∧ Bx X g11 32 #[.slice none 0 0, .slice none 0 0, .slice none 0 0, .int .i64 0, .slice none 0 0, .slice none 0 0, .slice none 0 0]) ⟨HX8.out.2, HS8.out, HU8.out, HB8.out⟩ ?_
    intro X58 hX
    clear HFo3 HFb
    obtain ⟨hx, hfs, hfu, hfb⟩ := hX.out
    have HX58 := Lib.hid hx
    have hzX58 := hx.size
    have HFs := Lib.hid hfs
    clear hfs
    have HFu := Lib.hid hfu
    clear hfu
    have HFb := Lib.hid hfb
    clear hfb
    have hS : Ext W X58 := hx
    clear hX hx
    ((refine T_takeP (i := 7) (v := ?_) rfl (by kernel_rfl) (by first | exact wanted_none rfl | kernel_rfl) (by first | exact .inr hS | exact .inl (by kernel_rfl)) ?_ ?_; rotate_left; focus (intro w; go_simp; try (with_reducible rfl))); (try simp only [Act.put, lSet]); (refine T_takeP (i := 8) (v := ?_) rfl (by kernel_rfl) (by first | exact wanted_none rfl | kernel_rfl) (by first | exact .inr hS | exact .inl (by kernel_rfl)) ?_ ?_; rotate_left; focus (intro w; go_simp; try (with_reducible rfl))); (try simp only [Act.put, lSet]); (refine T_takeP (i := 9) (v := ?_) rfl (by kernel_rfl) (by first | exact wanted_none rfl | kernel_rfl) (by first | exact .inr hS | exact .inl (by kernel_rfl)) ?_ ?_; rotate_left; focus (intro w; go_simp; try (with_reducible rfl))); (try simp only [Act.put, lSet]); (refine T_takeP (i := 10) (v := ?_) rfl (by kernel_rfl) (by first | exact wanted_none rfl | kernel_rfl) (by first | exact .inr hS | exact .inl (by kernel_rfl)) ?_ ?_; rotate_left; focus (intro w; go_simp; try (with_reducible rfl))); (try simp only [Act.put, lSet]))
    clear hS
    have HALL := Lib.hid (show Ext W X58 ∧ W.heap.size ≤ g11 ∧ OwnS W.heap.size X58 ⟨.slice F0 S2.ledger.tickets.length kF0, .slice F1 S2.ledger.taps.length kF1, .slice F2 S2.ledger.verdicts.length kF2, .slice F3 S2.denied.ids.length kF3, .slice F4 S2.gates.length kF4, .slice F5 S2.views.length kF5⟩ S2 ∧ OwnL 35 1 inc W.heap.size X58 (.slice U all.length ku) all ∧ Bx X58 g11 32 #[.slice none 0 0, .slice none 0 0, .slice none 0 0, .int .i64 0, .slice none 0 0, .slice none 0 0, .slice none 0 0] from ⟨HX58.out, hw11, HFs.out, HFu.out, HFb.out⟩)
    try rw [← hgg0]
    try rw [← hgg1]
    try rw [← hgg11]
    generalize (Value.slice (some ⟨g0, 0, none⟩) 0 0) = r56
    generalize (Value.slice D1 l.length d1) = r58
    generalize (Value.slice (some ⟨g1, 0, none⟩) 1 1) = r60
    generalize (Value.slice D3 L3 d3) = r61
    refine any_listed (l2 := #[true, true, true, true, true, true, true, true, true, true, true, true, false, false, false]) (by kernel_rfl) ?_
    revert HALL
    exact key r56 r58 r60 r61 X58 g11 F0 kF0 F1 kF1 F2 kF2 F3 kF3 F4 kF4 F5 kF5 U ku
  ·go_simp
   refine hK.out _ _ (.inr (show Ext W _ by exact extA)) ?_
   clear hK
   (try simp only [Act.put, lSet])
   obtain ⟨g11, hgg11⟩ : ∃ g, g = X0.heap.size := ⟨_, rfl⟩
   rw [← hgg11]
   have hw11 : W.heap.size ≤ g11 := by omega
   refine any_genP (S2 := fun X => Ext W X ∧ Bx X g11 32 #[.slice none 0 0, .slice none 0 0, .slice none 0 0, .int .i64 0, .slice none 0 0, .slice none 0 0, .slice none 0 0]) ⟨(by exact extA), (Bx.newAt hgg11)⟩ ?_
   intro X59 hX
   obtain ⟨hx, hfb⟩ := hX.out
   have HX59 := Lib.hid hx
   have hzX59 := hx.size
   have HFb := Lib.hid hfb
   clear hfb
   clear hX hx
   refine T_two (i := 0) (j := 4) rfl rfl (by kernel_rfl) rfl rfl (fun K hK => ?_) (fun K hK => ?_)
   ·go_simp
    refine hK.out _ _ (.inr (show Ext W _ by exact extA)) ?_
    clear hK
    (try simp only [Act.put, lSet])
    obtain ⟨g0, hgg0⟩ : ∃ g, g = X59.heap.size := ⟨_, rfl⟩
    rw [← hgg0]
    refine any_genP (S2 := fun X => Ext W X ∧ OwnL 71 10 acc W.heap.size X (.slice (some ⟨g0, 0, none⟩) 0 0) [] ∧ Bx X g11 32 #[.slice none 0 0, .slice none 0 0, .slice none 0 0, .int .i64 0, .slice none 0 0, .slice none 0 0, .slice none 0 0]) ⟨(by exact extA), (OwnL.made hgg0 (by omega)), (HFb.out.alloc _)⟩ ?_
    intro X60 hX
    clear HFb
    obtain ⟨hx, hfo0, hfb⟩ := hX.out
    have HX60 := Lib.hid hx
    have hzX60 := hx.size
    have HFo0 := Lib.hid hfo0
    clear hfo0
    have HFb := Lib.hid hfb
    clear hfb
    clear hX hx
    refine T_two (i := 2) (j := 4) rfl rfl (by kernel_rfl) rfl rfl (fun K hK => ?_) (fun K hK => ?_)
    ·refine wp_append_rd (enc := acc) (k := 10) _ _ _ 74 rfl W.heap.size 71 i1 (.agg #[.int .i64 0, .int .i64 0, .int .i64 0, .int .i64 0, .int .i64 0, .int .i64 0, .int .i64 0, .int .i64 0, .int .i64 0, .int .i64 0]) 80 Tryz.underlying74 jj jj0 jj1 jj2 rfl (by decide) acc_size _ ([] : List Ac) (by simp [Act.eval, Act.put]) HFo0.out _ l (by simp [Act.eval, Act.put]) (HRL.out _ (by exact extA)) (ac_one _) ?hb61a ?hb61b (by omega) ?_
     case hb61a => have := HBD.out; unfold maxLen; simp; omega
     case hb61b => have := HBD.out; simp; omega
     intro v8 y61 ho8 hg8 hn8
     obtain ⟨D1, d1, rfl⟩ := ho8.form
     simp only [List.nil_append] at ho8 ⊢
     have hf8 := row_fr hg8
     have HX8 := Lib.hid (Ext.fr HX60.out hf8 (fun q h => by have h2 := (HFo0.out.lt q h).1; omega))
     have HB8 := Lib.hid (HFb.out.fr hf8 (fun h => by obtain ⟨cs, h2⟩ := OwnL.bx HFo0.out _ h; have h3 := HFb.out; unfold Bx at h2 h3; rw [h2] at h3; simp at h3))
     have HO8 := Lib.hid ho8
     refine hK.out _ _ (.inr HX8.out) ?_
     clear hK hf8 hg8 hn8 ho8
     (try simp only [Act.put, lSet])
     refine any_genP (S2 := fun X => Ext W X ∧ OwnL 71 10 acc W.heap.size X (.slice D1 l.length d1) l ∧ Bx X g11 32 #[.slice none 0 0, .slice none 0 0, .slice none 0 0, .int .i64 0, .slice none 0 0, .slice none 0 0, .slice none 0 0]) ⟨HX8.out, HO8.out, HB8.out⟩ ?_
     intro X61 hX
     clear HFo0 HFb
     obtain ⟨hx, hfo1, hfb⟩ := hX.out
     have HX61 := Lib.hid hx
     have hzX61 := hx.size
     have HFo1 := Lib.hid hfo1
     clear hfo1
     have HFb := Lib.hid hfb
     clear hfb
     clear hX hx
     refine T_only (i := 4) rfl (by kernel_rfl) rfl (fun K hK => ?_)
     go_simp
     refine hK.out _ _ (.inr (show Ext W _ by exact extA)) ?_
     clear hK
     (try simp only [Act.put, lSet])
     obtain ⟨g1, hgg1⟩ : ∃ g, g = X61.heap.size := ⟨_, rfl⟩
     rw [← hgg1]
     refine any_genP (S2 := fun X => Ext W X ∧ OwnL 71 10 acc W.heap.size X (.slice D1 l.length d1) l ∧ OwnL 71 10 acc W.heap.size X (.slice (some ⟨g1, 0, none⟩) 1 1) [(⟨k, id, of, time, ⟨t0, t1, t2, t3, t4, t5⟩⟩ : Ac)] ∧ Bx X g11 32 #[.slice none 0 0, .slice none 0 0, .slice none 0 0, .int .i64 0, .slice none 0 0, .slice none 0 0, .slice none 0 0]) ⟨(by exact extA), (HFo1.out.ext ((Ext.refl _).alloc _)), (own_lit hgg1 (by omega) rfl (by unfold maxLen; omega) rfl rfl), (HFb.out.alloc _)⟩ ?_
     intro X62 hX
     clear HFo1 HFb
     obtain ⟨hx, hfo1, hfo2, hfb⟩ := hX.out
     have HX62 := Lib.hid hx
     have hzX62 := hx.size
     have HFo1 := Lib.hid hfo1
     clear hfo1
     have HFo2 := Lib.hid hfo2
     clear hfo2
     have HFb := Lib.hid hfb
     clear hfb
     clear hX hx
     refine T_only (i := 5) rfl (by kernel_rfl) rfl (fun K hK => ?_)
     refine wp_append_rd (enc := acc) (k := 10) _ _ _ 74 rfl W.heap.size 71 i1 (.agg #[.int .i64 0, .int .i64 0, .int .i64 0, .int .i64 0, .int .i64 0, .int .i64 0, .int .i64 0, .int .i64 0, .int .i64 0, .int .i64 0]) 80 Tryz.underlying74 jj jj0 jj1 jj2 rfl (by decide) acc_size _ l (by simp [Act.eval, Act.put]) HFo1.out _ [(⟨k, id, of, time, ⟨t0, t1, t2, t3, t4, t5⟩⟩ : Ac)] (by simp [Act.eval, Act.put]) (HFo2.out.rd acc_size) (ac_one _) ?hb63a ?hb63b (by omega) ?_
     case hb63a => have := HBD.out; unfold maxLen; simp; omega
     case hb63b => have := HBD.out; simp; omega
     intro v8 y63 ho8 hg8 hn8
     obtain ⟨D3, d3, rfl⟩ := ho8.form
     rw [← HL3.out] at ho8 ⊢
     have hf8 := row_fr hg8
     have HX8 := Lib.hid (Ext.fr HX62.out hf8 (fun q h => by have h2 := (HFo1.out.lt q h).1; omega))
     have HB8 := Lib.hid (HFb.out.fr hf8 (fun h => by obtain ⟨cs, h2⟩ := OwnL.bx HFo1.out _ h; have h3 := HFb.out; unfold Bx at h2 h3; rw [h2] at h3; simp at h3))
     have HO8 := Lib.hid ho8
     refine hK.out _ _ (.inr HX8.out) ?_
     clear hK hf8 hg8 hn8 ho8
     (try simp only [Act.put, lSet])
     refine any_genP (S2 := fun X => Ext W X ∧ OwnL 71 10 acc W.heap.size X (.slice D3 L3 d3) (l ++ [(⟨k, id, of, time, ⟨t0, t1, t2, t3, t4, t5⟩⟩ : Ac)]) ∧ Bx X g11 32 #[.slice none 0 0, .slice none 0 0, .slice none 0 0, .int .i64 0, .slice none 0 0, .slice none 0 0, .slice none 0 0]) ⟨HX8.out, HO8.out, HB8.out⟩ ?_
     intro X63 hX
     clear HFo1 HFo2 HFb
     obtain ⟨hx, hfo3, hfb⟩ := hX.out
     have HX63 := Lib.hid hx
     have hzX63 := hx.size
     have HFo3 := Lib.hid hfo3
     clear hfo3
     have HFb := Lib.hid hfb
     clear hfb
     clear hX hx
     refine T_only (i := 6) rfl (by kernel_rfl) rfl (fun K hK => ?_)
     go_simp
     refine (KR2.out _ _ (HFo3.out.rd acc_size)).mono ?_
     rintro e y64 ⟨⟨t0', t1', t2', ti, tg, tv⟩, u, rfl, h1, ho, hu⟩
     obtain ⟨F0, kF0, rfl⟩ : ∃ B d, t0' = .slice B S2.ledger.tickets.length d := ho.tk.form
     obtain ⟨F1, kF1, rfl⟩ : ∃ B d, t1' = .slice B S2.ledger.taps.length d := ho.tp.form
     obtain ⟨F2, kF2, rfl⟩ : ∃ B d, t2' = .slice B S2.ledger.verdicts.length d := ho.vd.form
     obtain ⟨F3, kF3, rfl⟩ : ∃ B d, ti = .slice B S2.denied.ids.length d := ho.dn.form
     obtain ⟨F4, kF4, rfl⟩ : ∃ B d, tg = .slice B S2.gates.length d := ho.gt.form
     obtain ⟨F5, kF5, rfl⟩ : ∃ B d, tv = .slice B S2.views.length d := ho.vw.form
     rw [show sta S2 ⟨.slice F0 S2.ledger.tickets.length kF0, .slice F1 S2.ledger.taps.length kF1, .slice F2 S2.ledger.verdicts.length kF2, .slice F3 S2.denied.ids.length kF3, .slice F4 S2.gates.length kF4, .slice F5 S2.views.length kF5⟩ = #[.slice F0 S2.ledger.tickets.length kF0, .slice F1 S2.ledger.taps.length kF1, .slice F2 S2.ledger.verdicts.length kF2, .int .i64 S2.denied.version, .slice F3 S2.denied.ids.length kF3, .slice F4 S2.gates.length kF4, .slice F5 S2.views.length kF5] from rfl]
     obtain ⟨U, ku, rfl⟩ : ∃ B d, u = .slice B all.length d := hu.form
     have HX8 := Lib.hid (And.intro trivial (HX63.out.trans h1))
     have HS8 := Lib.hid (show OwnS W.heap.size y64 ⟨.slice F0 S2.ledger.tickets.length kF0, .slice F1 S2.ledger.taps.length kF1, .slice F2 S2.ledger.verdicts.length kF2, .slice F3 S2.denied.ids.length kF3, .slice F4 S2.gates.length kF4, .slice F5 S2.views.length kF5⟩ S2 from ho.lower (by omega))
     have HU8 := Lib.hid (show OwnL 35 1 inc W.heap.size y64 (.slice U all.length ku) all from hu.lower (by omega))
     have HB8 := Lib.hid (HFb.out.ext h1)
     clear h1 ho hu
     go_wp2_with fail
     refine hK.out _ _ (.inr HX8.out.2) ?_
     clear hK
     (try simp only [Act.put, lSet])
     refine any_genP (S2 := fun X => Ext W X ∧ OwnS W.heap.size X ⟨.slice F0 S2.ledger.tickets.length kF0, .slice F1 S2.ledger.taps.length kF1, .slice F2 S2.ledger.verdicts.length kF2, .slice F3 S2.denied.ids.length kF3, .slice F4 S2.gates.length kF4, .slice F5 S2.views.length kF5⟩ S2 ∧ OwnL 35 1 inc W.heap.size X (.slice U all.length ku) all ∧ Bx X g11 32 #[.slice none 0 0, .slice none 0 0, .slice none 0 0, .int .i64 0, .slice none 0 0, .slice none 0 0, .slice none 0 0]) ⟨HX8.out.2, HS8.out, HU8.out, HB8.out⟩ ?_
     intro X64 hX
     clear HFo3 HFb
     obtain ⟨hx, hfs, hfu, hfb⟩ := hX.out
     have HX64 := Lib.hid hx
     have hzX64 := hx.size
     have HFs := Lib.hid hfs
     clear hfs
     have HFu := Lib.hid hfu
     clear hfu
     have HFb := Lib.hid hfb
     clear hfb
     have hS : Ext W X64 := hx
     clear hX hx
     ((refine T_takeP (i := 7) (v := ?_) rfl (by kernel_rfl) (by first | exact wanted_none rfl | kernel_rfl) (by first | exact .inr hS | exact .inl (by kernel_rfl)) ?_ ?_; rotate_left; focus (intro w; go_simp; try (with_reducible rfl))); (try simp only [Act.put, lSet]); (refine T_takeP (i := 8) (v := ?_) rfl (by kernel_rfl) (by first | exact wanted_none rfl | kernel_rfl) (by first | exact .inr hS | exact .inl (by kernel_rfl)) ?_ ?_; rotate_left; focus (intro w; go_simp; try (with_reducible rfl))); (try simp only [Act.put, lSet]); (refine T_takeP (i := 9) (v := ?_) rfl (by kernel_rfl) (by first | exact wanted_none rfl | kernel_rfl) (by first | exact .inr hS | exact .inl (by kernel_rfl)) ?_ ?_; rotate_left; focus (intro w; go_simp; try (with_reducible rfl))); (try simp only [Act.put, lSet]); (refine T_takeP (i := 10) (v := ?_) rfl (by kernel_rfl) (by first | exact wanted_none rfl | kernel_rfl) (by first | exact .inr hS | exact .inl (by kernel_rfl)) ?_ ?_; rotate_left; focus (intro w; go_simp; try (with_reducible rfl))); (try simp only [Act.put, lSet]))
     clear hS
     have HALL := Lib.hid (show Ext W X64 ∧ W.heap.size ≤ g11 ∧ OwnS W.heap.size X64 ⟨.slice F0 S2.ledger.tickets.length kF0, .slice F1 S2.ledger.taps.length kF1, .slice F2 S2.ledger.verdicts.length kF2, .slice F3 S2.denied.ids.length kF3, .slice F4 S2.gates.length kF4, .slice F5 S2.views.length kF5⟩ S2 ∧ OwnL 35 1 inc W.heap.size X64 (.slice U all.length ku) all ∧ Bx X64 g11 32 #[.slice none 0 0, .slice none 0 0, .slice none 0 0, .int .i64 0, .slice none 0 0, .slice none 0 0, .slice none 0 0] from ⟨HX64.out, hw11, HFs.out, HFu.out, HFb.out⟩)
     try rw [← hgg0]
     try rw [← hgg1]
     try rw [← hgg11]
     generalize (Value.slice (some ⟨g0, 0, none⟩) 0 0) = r56
     generalize (Value.slice D1 l.length d1) = r58
     generalize (Value.slice (some ⟨g1, 0, none⟩) 1 1) = r60
     generalize (Value.slice D3 L3 d3) = r61
     refine any_listed (l2 := #[true, true, true, true, true, true, true, true, true, true, true, true, false, false, false]) (by kernel_rfl) ?_
     revert HALL
     exact key r56 r58 r60 r61 X64 g11 F0 kF0 F1 kF1 F2 kF2 F3 kF3 F4 kF4 F5 kF5 U ku
    ·go_simp
     refine hK.out _ _ (.inr (show Ext W _ by exact extA)) ?_
     clear hK
     (try simp only [Act.put, lSet])
     obtain ⟨g1, hgg1⟩ : ∃ g, g = X60.heap.size := ⟨_, rfl⟩
     rw [← hgg1]
     have h01 : g1 ≠ g0 := by have := (HFo0.out.lt g0 rfl).2; omega
     refine any_genP (S2 := fun X => Ext W X ∧ OwnL 71 10 acc W.heap.size X (.slice (some ⟨g0, 0, none⟩) 0 0) [] ∧ OwnL 71 10 acc W.heap.size X (.slice (some ⟨g1, 0, none⟩) 1 1) [(⟨k, id, of, time, ⟨t0, t1, t2, t3, t4, t5⟩⟩ : Ac)] ∧ Bx X g11 32 #[.slice none 0 0, .slice none 0 0, .slice none 0 0, .int .i64 0, .slice none 0 0, .slice none 0 0, .slice none 0 0]) ⟨(by exact extA), (HFo0.out.ext ((Ext.refl _).alloc _)), (own_lit hgg1 (by omega) rfl (by unfold maxLen; omega) rfl rfl), (HFb.out.alloc _)⟩ ?_
     intro X65 hX
     clear HFo0 HFb
     obtain ⟨hx, hfo0, hfo2, hfb⟩ := hX.out
     have HX65 := Lib.hid hx
     have hzX65 := hx.size
     have HFo0 := Lib.hid hfo0
     clear hfo0
     have HFo2 := Lib.hid hfo2
     clear hfo2
     have HFb := Lib.hid hfb
     clear hfb
     clear hX hx
     refine T_only (i := 2) rfl (by kernel_rfl) rfl (fun K hK => ?_)
     refine wp_append_rd (enc := acc) (k := 10) _ _ _ 74 rfl W.heap.size 71 i1 (.agg #[.int .i64 0, .int .i64 0, .int .i64 0, .int .i64 0, .int .i64 0, .int .i64 0, .int .i64 0, .int .i64 0, .int .i64 0, .int .i64 0]) 80 Tryz.underlying74 jj jj0 jj1 jj2 rfl (by decide) acc_size _ ([] : List Ac) (by simp [Act.eval, Act.put]) HFo0.out _ l (by simp [Act.eval, Act.put]) (HRL.out _ (by exact extA)) (ac_one _) ?hb66a ?hb66b (by omega) ?_
     case hb66a => have := HBD.out; unfold maxLen; simp; omega
     case hb66b => have := HBD.out; simp; omega
     intro v8 y66 ho8 hg8 hn8
     obtain ⟨D1, d1, rfl⟩ := ho8.form
     simp only [List.nil_append] at ho8 ⊢
     have hf8 := row_fr hg8
     have HX8 := Lib.hid (Ext.fr HX65.out hf8 (fun q h => by have h2 := (HFo0.out.lt q h).1; omega))
     have HB8 := Lib.hid (HFb.out.fr hf8 (fun h => by obtain ⟨cs, h2⟩ := OwnL.bx HFo0.out _ h; have h3 := HFb.out; unfold Bx at h2 h3; rw [h2] at h3; simp at h3))
     have HO28 := Lib.hid (HFo2.out.kept' hg8 (fun q hq => by simp [Value.ownBlock] at hq ⊢; omega))
     have HO8 := Lib.hid ho8
     refine hK.out _ _ (.inr HX8.out) ?_
     clear hK hf8 hg8 hn8 ho8
     (try simp only [Act.put, lSet])
     refine any_genP (S2 := fun X => Ext W X ∧ OwnL 71 10 acc W.heap.size X (.slice D1 l.length d1) l ∧ OwnL 71 10 acc W.heap.size X (.slice (some ⟨g1, 0, none⟩) 1 1) [(⟨k, id, of, time, ⟨t0, t1, t2, t3, t4, t5⟩⟩ : Ac)] ∧ Bx X g11 32 #[.slice none 0 0, .slice none 0 0, .slice none 0 0, .int .i64 0, .slice none 0 0, .slice none 0 0, .slice none 0 0]) ⟨HX8.out, HO8.out, HO28.out, HB8.out⟩ ?_
     intro X66 hX
     clear HFo0 HFo2 HFb
     obtain ⟨hx, hfo1, hfo2, hfb⟩ := hX.out
     have HX66 := Lib.hid hx
     have hzX66 := hx.size
     have HFo1 := Lib.hid hfo1
     clear hfo1
     have HFo2 := Lib.hid hfo2
     clear hfo2
     have HFb := Lib.hid hfb
     clear hfb
     clear hX hx
     refine T_only (i := 5) rfl (by kernel_rfl) rfl (fun K hK => ?_)
     refine wp_append_rd (enc := acc) (k := 10) _ _ _ 74 rfl W.heap.size 71 i1 (.agg #[.int .i64 0, .int .i64 0, .int .i64 0, .int .i64 0, .int .i64 0, .int .i64 0, .int .i64 0, .int .i64 0, .int .i64 0, .int .i64 0]) 80 Tryz.underlying74 jj jj0 jj1 jj2 rfl (by decide) acc_size _ l (by simp [Act.eval, Act.put]) HFo1.out _ [(⟨k, id, of, time, ⟨t0, t1, t2, t3, t4, t5⟩⟩ : Ac)] (by simp [Act.eval, Act.put]) (HFo2.out.rd acc_size) (ac_one _) ?hb67a ?hb67b (by omega) ?_
     case hb67a => have := HBD.out; unfold maxLen; simp; omega
     case hb67b => have := HBD.out; simp; omega
     intro v8 y67 ho8 hg8 hn8
     obtain ⟨D3, d3, rfl⟩ := ho8.form
     rw [← HL3.out] at ho8 ⊢
     have hf8 := row_fr hg8
     have HX8 := Lib.hid (Ext.fr HX66.out hf8 (fun q h => by have h2 := (HFo1.out.lt q h).1; omega))
     have HB8 := Lib.hid (HFb.out.fr hf8 (fun h => by obtain ⟨cs, h2⟩ := OwnL.bx HFo1.out _ h; have h3 := HFb.out; unfold Bx at h2 h3; rw [h2] at h3; simp at h3))
     have HO8 := Lib.hid ho8
     refine hK.out _ _ (.inr HX8.out) ?_
     clear hK hf8 hg8 hn8 ho8
     (try simp only [Act.put, lSet])
     refine any_genP (S2 := fun X => Ext W X ∧ OwnL 71 10 acc W.heap.size X (.slice D3 L3 d3) (l ++ [(⟨k, id, of, time, ⟨t0, t1, t2, t3, t4, t5⟩⟩ : Ac)]) ∧ Bx X g11 32 #[.slice none 0 0, .slice none 0 0, .slice none 0 0, .int .i64 0, .slice none 0 0, .slice none 0 0, .slice none 0 0]) ⟨HX8.out, HO8.out, HB8.out⟩ ?_
     intro X67 hX
     clear HFo1 HFo2 HFb
     obtain ⟨hx, hfo3, hfb⟩ := hX.out
     have HX67 := Lib.hid hx
     have hzX67 := hx.size
     have HFo3 := Lib.hid hfo3
     clear hfo3
     have HFb := Lib.hid hfb
     clear hfb
     clear hX hx
     refine T_only (i := 6) rfl (by kernel_rfl) rfl (fun K hK => ?_)
     go_simp
     refine (KR2.out _ _ (HFo3.out.rd acc_size)).mono ?_
     rintro e y68 ⟨⟨t0', t1', t2', ti, tg, tv⟩, u, rfl, h1, ho, hu⟩
     obtain ⟨F0, kF0, rfl⟩ : ∃ B d, t0' = .slice B S2.ledger.tickets.length d := ho.tk.form
     obtain ⟨F1, kF1, rfl⟩ : ∃ B d, t1' = .slice B S2.ledger.taps.length d := ho.tp.form
     obtain ⟨F2, kF2, rfl⟩ : ∃ B d, t2' = .slice B S2.ledger.verdicts.length d := ho.vd.form
     obtain ⟨F3, kF3, rfl⟩ : ∃ B d, ti = .slice B S2.denied.ids.length d := ho.dn.form
     obtain ⟨F4, kF4, rfl⟩ : ∃ B d, tg = .slice B S2.gates.length d := ho.gt.form
     obtain ⟨F5, kF5, rfl⟩ : ∃ B d, tv = .slice B S2.views.length d := ho.vw.form
     rw [show sta S2 ⟨.slice F0 S2.ledger.tickets.length kF0, .slice F1 S2.ledger.taps.length kF1, .slice F2 S2.ledger.verdicts.length kF2, .slice F3 S2.denied.ids.length kF3, .slice F4 S2.gates.length kF4, .slice F5 S2.views.length kF5⟩ = #[.slice F0 S2.ledger.tickets.length kF0, .slice F1 S2.ledger.taps.length kF1, .slice F2 S2.ledger.verdicts.length kF2, .int .i64 S2.denied.version, .slice F3 S2.denied.ids.length kF3, .slice F4 S2.gates.length kF4, .slice F5 S2.views.length kF5] from rfl]
     obtain ⟨U, ku, rfl⟩ : ∃ B d, u = .slice B all.length d := hu.form
     have HX8 := Lib.hid (And.intro trivial (HX67.out.trans h1))
     have HS8 := Lib.hid (show OwnS W.heap.size y68 ⟨.slice F0 S2.ledger.tickets.length kF0, .slice F1 S2.ledger.taps.length kF1, .slice F2 S2.ledger.verdicts.length kF2, .slice F3 S2.denied.ids.length kF3, .slice F4 S2.gates.length kF4, .slice F5 S2.views.length kF5⟩ S2 from ho.lower (by omega))
     have HU8 := Lib.hid (show OwnL 35 1 inc W.heap.size y68 (.slice U all.length ku) all from hu.lower (by omega))
     have HB8 := Lib.hid (HFb.out.ext h1)
     clear h1 ho hu
     go_wp2_with fail
     refine hK.out _ _ (.inr HX8.out.2) ?_
     clear hK
     (try simp only [Act.put, lSet])
     refine any_genP (S2 := fun X => Ext W X ∧ OwnS W.heap.size X ⟨.slice F0 S2.ledger.tickets.length kF0, .slice F1 S2.ledger.taps.length kF1, .slice F2 S2.ledger.verdicts.length kF2, .slice F3 S2.denied.ids.length kF3, .slice F4 S2.gates.length kF4, .slice F5 S2.views.length kF5⟩ S2 ∧ OwnL 35 1 inc W.heap.size X (.slice U all.length ku) all ∧ Bx X g11 32 #[.slice none 0 0, .slice none 0 0, .slice none 0 0, .int .i64 0, .slice none 0 0, .slice none 0 0, .slice none 0 0]) ⟨HX8.out.2, HS8.out, HU8.out, HB8.out⟩ ?_
     intro X68 hX
     clear HFo3 HFb
     obtain ⟨hx, hfs, hfu, hfb⟩ := hX.out
     have HX68 := Lib.hid hx
     have hzX68 := hx.size
     have HFs := Lib.hid hfs
     clear hfs
     have HFu := Lib.hid hfu
     clear hfu
     have HFb := Lib.hid hfb
     clear hfb
     have hS : Ext W X68 := hx
     clear hX hx
     ((refine T_takeP (i := 7) (v := ?_) rfl (by kernel_rfl) (by first | exact wanted_none rfl | kernel_rfl) (by first | exact .inr hS | exact .inl (by kernel_rfl)) ?_ ?_; rotate_left; focus (intro w; go_simp; try (with_reducible rfl))); (try simp only [Act.put, lSet]); (refine T_takeP (i := 8) (v := ?_) rfl (by kernel_rfl) (by first | exact wanted_none rfl | kernel_rfl) (by first | exact .inr hS | exact .inl (by kernel_rfl)) ?_ ?_; rotate_left; focus (intro w; go_simp; try (with_reducible rfl))); (try simp only [Act.put, lSet]); (refine T_takeP (i := 9) (v := ?_) rfl (by kernel_rfl) (by first | exact wanted_none rfl | kernel_rfl) (by first | exact .inr hS | exact .inl (by kernel_rfl)) ?_ ?_; rotate_left; focus (intro w; go_simp; try (with_reducible rfl))); (try simp only [Act.put, lSet]); (refine T_takeP (i := 10) (v := ?_) rfl (by kernel_rfl) (by first | exact wanted_none rfl | kernel_rfl) (by first | exact .inr hS | exact .inl (by kernel_rfl)) ?_ ?_; rotate_left; focus (intro w; go_simp; try (with_reducible rfl))); (try simp only [Act.put, lSet]))
     clear hS
     have HALL := Lib.hid (show Ext W X68 ∧ W.heap.size ≤ g11 ∧ OwnS W.heap.size X68 ⟨.slice F0 S2.ledger.tickets.length kF0, .slice F1 S2.ledger.taps.length kF1, .slice F2 S2.ledger.verdicts.length kF2, .slice F3 S2.denied.ids.length kF3, .slice F4 S2.gates.length kF4, .slice F5 S2.views.length kF5⟩ S2 ∧ OwnL 35 1 inc W.heap.size X68 (.slice U all.length ku) all ∧ Bx X68 g11 32 #[.slice none 0 0, .slice none 0 0, .slice none 0 0, .int .i64 0, .slice none 0 0, .slice none 0 0, .slice none 0 0] from ⟨HX68.out, hw11, HFs.out, HFu.out, HFb.out⟩)
     try rw [← hgg0]
     try rw [← hgg1]
     try rw [← hgg11]
     generalize (Value.slice (some ⟨g0, 0, none⟩) 0 0) = r56
     generalize (Value.slice D1 l.length d1) = r58
     generalize (Value.slice (some ⟨g1, 0, none⟩) 1 1) = r60
     generalize (Value.slice D3 L3 d3) = r61
     refine any_listed (l2 := #[true, true, true, true, true, true, true, true, true, true, true, true, false, false, false]) (by kernel_rfl) ?_
     revert HALL
     exact key r56 r58 r60 r61 X68 g11 F0 kF0 F1 kF1 F2 kF2 F3 kF3 F4 kF4 F5 kF5 U ku
   ·go_simp
    refine hK.out _ _ (.inr (show Ext W _ by exact extA)) ?_
    clear hK
    (try simp only [Act.put, lSet])
    obtain ⟨g1, hgg1⟩ : ∃ g, g = X59.heap.size := ⟨_, rfl⟩
    rw [← hgg1]
    refine any_genP (S2 := fun X => Ext W X ∧ OwnL 71 10 acc W.heap.size X (.slice (some ⟨g1, 0, none⟩) 1 1) [(⟨k, id, of, time, ⟨t0, t1, t2, t3, t4, t5⟩⟩ : Ac)] ∧ Bx X g11 32 #[.slice none 0 0, .slice none 0 0, .slice none 0 0, .int .i64 0, .slice none 0 0, .slice none 0 0, .slice none 0 0]) ⟨(by exact extA), (own_lit hgg1 (by omega) rfl (by unfold maxLen; omega) rfl rfl), (HFb.out.alloc _)⟩ ?_
    intro X69 hX
    clear HFb
    obtain ⟨hx, hfo2, hfb⟩ := hX.out
    have HX69 := Lib.hid hx
    have hzX69 := hx.size
    have HFo2 := Lib.hid hfo2
    clear hfo2
    have HFb := Lib.hid hfb
    clear hfb
    clear hX hx
    refine T_only (i := 0) rfl (by kernel_rfl) rfl (fun K hK => ?_)
    go_simp
    refine hK.out _ _ (.inr (show Ext W _ by exact extA)) ?_
    clear hK
    (try simp only [Act.put, lSet])
    obtain ⟨g0, hgg0⟩ : ∃ g, g = X69.heap.size := ⟨_, rfl⟩
    rw [← hgg0]
    have h01 : g1 ≠ g0 := by have := (HFo2.out.lt g1 rfl).2; omega
    refine any_genP (S2 := fun X => Ext W X ∧ OwnL 71 10 acc W.heap.size X (.slice (some ⟨g0, 0, none⟩) 0 0) [] ∧ OwnL 71 10 acc W.heap.size X (.slice (some ⟨g1, 0, none⟩) 1 1) [(⟨k, id, of, time, ⟨t0, t1, t2, t3, t4, t5⟩⟩ : Ac)] ∧ Bx X g11 32 #[.slice none 0 0, .slice none 0 0, .slice none 0 0, .int .i64 0, .slice none 0 0, .slice none 0 0, .slice none 0 0]) ⟨(by exact extA), (OwnL.made hgg0 (by omega)), (HFo2.out.ext ((Ext.refl _).alloc _)), (HFb.out.alloc _)⟩ ?_
    intro X70 hX
    clear HFo2 HFb
    obtain ⟨hx, hfo0, hfo2, hfb⟩ := hX.out
    have HX70 := Lib.hid hx
    have hzX70 := hx.size
    have HFo0 := Lib.hid hfo0
    clear hfo0
    have HFo2 := Lib.hid hfo2
    clear hfo2
    have HFb := Lib.hid hfb
    clear hfb
    clear hX hx
    refine T_only (i := 2) rfl (by kernel_rfl) rfl (fun K hK => ?_)
    refine wp_append_rd (enc := acc) (k := 10) _ _ _ 74 rfl W.heap.size 71 i1 (.agg #[.int .i64 0, .int .i64 0, .int .i64 0, .int .i64 0, .int .i64 0, .int .i64 0, .int .i64 0, .int .i64 0, .int .i64 0, .int .i64 0]) 80 Tryz.underlying74 jj jj0 jj1 jj2 rfl (by decide) acc_size _ ([] : List Ac) (by simp [Act.eval, Act.put]) HFo0.out _ l (by simp [Act.eval, Act.put]) (HRL.out _ (by exact extA)) (ac_one _) ?hb71a ?hb71b (by omega) ?_
    case hb71a => have := HBD.out; unfold maxLen; simp; omega
    case hb71b => have := HBD.out; simp; omega
    intro v8 y71 ho8 hg8 hn8
    obtain ⟨D1, d1, rfl⟩ := ho8.form
    simp only [List.nil_append] at ho8 ⊢
    have hf8 := row_fr hg8
    have HX8 := Lib.hid (Ext.fr HX70.out hf8 (fun q h => by have h2 := (HFo0.out.lt q h).1; omega))
    have HB8 := Lib.hid (HFb.out.fr hf8 (fun h => by obtain ⟨cs, h2⟩ := OwnL.bx HFo0.out _ h; have h3 := HFb.out; unfold Bx at h2 h3; rw [h2] at h3; simp at h3))
    have HO28 := Lib.hid (HFo2.out.kept' hg8 (fun q hq => by simp [Value.ownBlock] at hq ⊢; omega))
    have HO8 := Lib.hid ho8
    refine hK.out _ _ (.inr HX8.out) ?_
    clear hK hf8 hg8 hn8 ho8
    (try simp only [Act.put, lSet])
    refine any_genP (S2 := fun X => Ext W X ∧ OwnL 71 10 acc W.heap.size X (.slice D1 l.length d1) l ∧ OwnL 71 10 acc W.heap.size X (.slice (some ⟨g1, 0, none⟩) 1 1) [(⟨k, id, of, time, ⟨t0, t1, t2, t3, t4, t5⟩⟩ : Ac)] ∧ Bx X g11 32 #[.slice none 0 0, .slice none 0 0, .slice none 0 0, .int .i64 0, .slice none 0 0, .slice none 0 0, .slice none 0 0]) ⟨HX8.out, HO8.out, HO28.out, HB8.out⟩ ?_
    intro X71 hX
    clear HFo0 HFo2 HFb
    obtain ⟨hx, hfo1, hfo2, hfb⟩ := hX.out
    have HX71 := Lib.hid hx
    have hzX71 := hx.size
    have HFo1 := Lib.hid hfo1
    clear hfo1
    have HFo2 := Lib.hid hfo2
    clear hfo2
    have HFb := Lib.hid hfb
    clear hfb
    clear hX hx
    refine T_only (i := 5) rfl (by kernel_rfl) rfl (fun K hK => ?_)
    refine wp_append_rd (enc := acc) (k := 10) _ _ _ 74 rfl W.heap.size 71 i1 (.agg #[.int .i64 0, .int .i64 0, .int .i64 0, .int .i64 0, .int .i64 0, .int .i64 0, .int .i64 0, .int .i64 0, .int .i64 0, .int .i64 0]) 80 Tryz.underlying74 jj jj0 jj1 jj2 rfl (by decide) acc_size _ l (by simp [Act.eval, Act.put]) HFo1.out _ [(⟨k, id, of, time, ⟨t0, t1, t2, t3, t4, t5⟩⟩ : Ac)] (by simp [Act.eval, Act.put]) (HFo2.out.rd acc_size) (ac_one _) ?hb72a ?hb72b (by omega) ?_
    case hb72a => have := HBD.out; unfold maxLen; simp; omega
    case hb72b => have := HBD.out; simp; omega
    intro v8 y72 ho8 hg8 hn8
    obtain ⟨D3, d3, rfl⟩ := ho8.form
    rw [← HL3.out] at ho8 ⊢
    have hf8 := row_fr hg8
    have HX8 := Lib.hid (Ext.fr HX71.out hf8 (fun q h => by have h2 := (HFo1.out.lt q h).1; omega))
    have HB8 := Lib.hid (HFb.out.fr hf8 (fun h => by obtain ⟨cs, h2⟩ := OwnL.bx HFo1.out _ h; have h3 := HFb.out; unfold Bx at h2 h3; rw [h2] at h3; simp at h3))
    have HO8 := Lib.hid ho8
    refine hK.out _ _ (.inr HX8.out) ?_
    clear hK hf8 hg8 hn8 ho8
    (try simp only [Act.put, lSet])
    refine any_genP (S2 := fun X => Ext W X ∧ OwnL 71 10 acc W.heap.size X (.slice D3 L3 d3) (l ++ [(⟨k, id, of, time, ⟨t0, t1, t2, t3, t4, t5⟩⟩ : Ac)]) ∧ Bx X g11 32 #[.slice none 0 0, .slice none 0 0, .slice none 0 0, .int .i64 0, .slice none 0 0, .slice none 0 0, .slice none 0 0]) ⟨HX8.out, HO8.out, HB8.out⟩ ?_
    intro X72 hX
    clear HFo1 HFo2 HFb
    obtain ⟨hx, hfo3, hfb⟩ := hX.out
    have HX72 := Lib.hid hx
    have hzX72 := hx.size
    have HFo3 := Lib.hid hfo3
    clear hfo3
    have HFb := Lib.hid hfb
    clear hfb
    clear hX hx
    refine T_only (i := 6) rfl (by kernel_rfl) rfl (fun K hK => ?_)
    go_simp
    refine (KR2.out _ _ (HFo3.out.rd acc_size)).mono ?_
    rintro e y73 ⟨⟨t0', t1', t2', ti, tg, tv⟩, u, rfl, h1, ho, hu⟩
    obtain ⟨F0, kF0, rfl⟩ : ∃ B d, t0' = .slice B S2.ledger.tickets.length d := ho.tk.form
    obtain ⟨F1, kF1, rfl⟩ : ∃ B d, t1' = .slice B S2.ledger.taps.length d := ho.tp.form
    obtain ⟨F2, kF2, rfl⟩ : ∃ B d, t2' = .slice B S2.ledger.verdicts.length d := ho.vd.form
    obtain ⟨F3, kF3, rfl⟩ : ∃ B d, ti = .slice B S2.denied.ids.length d := ho.dn.form
    obtain ⟨F4, kF4, rfl⟩ : ∃ B d, tg = .slice B S2.gates.length d := ho.gt.form
    obtain ⟨F5, kF5, rfl⟩ : ∃ B d, tv = .slice B S2.views.length d := ho.vw.form
    rw [show sta S2 ⟨.slice F0 S2.ledger.tickets.length kF0, .slice F1 S2.ledger.taps.length kF1, .slice F2 S2.ledger.verdicts.length kF2, .slice F3 S2.denied.ids.length kF3, .slice F4 S2.gates.length kF4, .slice F5 S2.views.length kF5⟩ = #[.slice F0 S2.ledger.tickets.length kF0, .slice F1 S2.ledger.taps.length kF1, .slice F2 S2.ledger.verdicts.length kF2, .int .i64 S2.denied.version, .slice F3 S2.denied.ids.length kF3, .slice F4 S2.gates.length kF4, .slice F5 S2.views.length kF5] from rfl]
    obtain ⟨U, ku, rfl⟩ : ∃ B d, u = .slice B all.length d := hu.form
    have HX8 := Lib.hid (And.intro trivial (HX72.out.trans h1))
    have HS8 := Lib.hid (show OwnS W.heap.size y73 ⟨.slice F0 S2.ledger.tickets.length kF0, .slice F1 S2.ledger.taps.length kF1, .slice F2 S2.ledger.verdicts.length kF2, .slice F3 S2.denied.ids.length kF3, .slice F4 S2.gates.length kF4, .slice F5 S2.views.length kF5⟩ S2 from ho.lower (by omega))
    have HU8 := Lib.hid (show OwnL 35 1 inc W.heap.size y73 (.slice U all.length ku) all from hu.lower (by omega))
    have HB8 := Lib.hid (HFb.out.ext h1)
    clear h1 ho hu
    go_wp2_with fail
    refine hK.out _ _ (.inr HX8.out.2) ?_
    clear hK
    (try simp only [Act.put, lSet])
    refine any_genP (S2 := fun X => Ext W X ∧ OwnS W.heap.size X ⟨.slice F0 S2.ledger.tickets.length kF0, .slice F1 S2.ledger.taps.length kF1, .slice F2 S2.ledger.verdicts.length kF2, .slice F3 S2.denied.ids.length kF3, .slice F4 S2.gates.length kF4, .slice F5 S2.views.length kF5⟩ S2 ∧ OwnL 35 1 inc W.heap.size X (.slice U all.length ku) all ∧ Bx X g11 32 #[.slice none 0 0, .slice none 0 0, .slice none 0 0, .int .i64 0, .slice none 0 0, .slice none 0 0, .slice none 0 0]) ⟨HX8.out.2, HS8.out, HU8.out, HB8.out⟩ ?_
    intro X73 hX
    clear HFo3 HFb
    obtain ⟨hx, hfs, hfu, hfb⟩ := hX.out
    have HX73 := Lib.hid hx
    have hzX73 := hx.size
    have HFs := Lib.hid hfs
    clear hfs
    have HFu := Lib.hid hfu
    clear hfu
    have HFb := Lib.hid hfb
    clear hfb
    have hS : Ext W X73 := hx
    clear hX hx
    ((refine T_takeP (i := 7) (v := ?_) rfl (by kernel_rfl) (by first | exact wanted_none rfl | kernel_rfl) (by first | exact .inr hS | exact .inl (by kernel_rfl)) ?_ ?_; rotate_left; focus (intro w; go_simp; try (with_reducible rfl))); (try simp only [Act.put, lSet]); (refine T_takeP (i := 8) (v := ?_) rfl (by kernel_rfl) (by first | exact wanted_none rfl | kernel_rfl) (by first | exact .inr hS | exact .inl (by kernel_rfl)) ?_ ?_; rotate_left; focus (intro w; go_simp; try (with_reducible rfl))); (try simp only [Act.put, lSet]); (refine T_takeP (i := 9) (v := ?_) rfl (by kernel_rfl) (by first | exact wanted_none rfl | kernel_rfl) (by first | exact .inr hS | exact .inl (by kernel_rfl)) ?_ ?_; rotate_left; focus (intro w; go_simp; try (with_reducible rfl))); (try simp only [Act.put, lSet]); (refine T_takeP (i := 10) (v := ?_) rfl (by kernel_rfl) (by first | exact wanted_none rfl | kernel_rfl) (by first | exact .inr hS | exact .inl (by kernel_rfl)) ?_ ?_; rotate_left; focus (intro w; go_simp; try (with_reducible rfl))); (try simp only [Act.put, lSet]))
    clear hS
    have HALL := Lib.hid (show Ext W X73 ∧ W.heap.size ≤ g11 ∧ OwnS W.heap.size X73 ⟨.slice F0 S2.ledger.tickets.length kF0, .slice F1 S2.ledger.taps.length kF1, .slice F2 S2.ledger.verdicts.length kF2, .slice F3 S2.denied.ids.length kF3, .slice F4 S2.gates.length kF4, .slice F5 S2.views.length kF5⟩ S2 ∧ OwnL 35 1 inc W.heap.size X73 (.slice U all.length ku) all ∧ Bx X73 g11 32 #[.slice none 0 0, .slice none 0 0, .slice none 0 0, .int .i64 0, .slice none 0 0, .slice none 0 0, .slice none 0 0] from ⟨HX73.out, hw11, HFs.out, HFu.out, HFb.out⟩)
    try rw [← hgg0]
    try rw [← hgg1]
    try rw [← hgg11]
    generalize (Value.slice (some ⟨g0, 0, none⟩) 0 0) = r56
    generalize (Value.slice D1 l.length d1) = r58
    generalize (Value.slice (some ⟨g1, 0, none⟩) 1 1) = r60
    generalize (Value.slice D3 L3 d3) = r61
    refine any_listed (l2 := #[true, true, true, true, true, true, true, true, true, true, true, true, false, false, false]) (by kernel_rfl) ?_
    revert HALL
    exact key r56 r58 r60 r61 X73 g11 F0 kF0 F1 kF1 F2 kF2 F3 kF3 F4 kF4 F5 kF5 U ku
 ·intro r56 r58 r60 r61 X g11 F0 kF0 F1 kF1 F2 kF2 F3 kF3 F4 kF4 F5 kF5 U ku HALL
  obtain ⟨hx, hw11, hs, hu, hb⟩ := HALL.out
  have HX := Lib.hid hx
  have HS := Lib.hid hs
  have HU2 := Lib.hid hu
  have HB11 := Lib.hid hb
  have q11 := hb.row.2.1
  have f11 := hb.row.2.2
  have l11 := hb.lt
  have hzX := hx.size
  clear HALL hx hs hu hb
  refine T_only (i := 12) rfl (by kernel_rfl) rfl (fun K hK => ?_)
  go_simp
  refine hK.out _ _ (.inr (by exact ext7 hw11 HX.out)) ?_
  clear hK
  (try simp only [Act.put, lSet])
  refine T_only (i := 13) rfl (by kernel_rfl) rfl (fun K hK => ?_)
  go_simp
  refine hK.out _ _ (.inr (by exact ext7 hw11 HX.out)) ?_
  clear hK
  (try simp only [Act.put, lSet])
  (refine T_only (i := 14) rfl (by kernel_rfl) rfl (fun K hK => ?_); go_simp; refine hK.out _ _ (.inl (by kernel_rfl)) ?_; clear hK; (try simp only [Act.put, lSet]); refine T_done (by kernel_rfl) ?_ _)
  have hf3 : Fr (fun q => q = g11) X (((((((X.setCell ⟨g11, 0, none⟩ (.slice F0 S2.ledger.tickets.length kF0)).setCell ⟨g11, 1, none⟩ (.slice F1 S2.ledger.taps.length kF1)).setCell ⟨g11, 2, none⟩ (.slice F2 S2.ledger.verdicts.length kF2)).setCell ⟨g11, 3, none⟩ (.int .i64 S2.denied.version)).setCell ⟨g11, 4, none⟩ (.slice F3 S2.denied.ids.length kF3)).setCell ⟨g11, 5, none⟩ (.slice F4 S2.gates.length kF4)).setCell ⟨g11, 6, none⟩ (.slice F5 S2.views.length kF5)) := Fr.setC rfl (Fr.setC rfl (Fr.setC rfl (Fr.setC rfl (Fr.setC rfl (Fr.setC rfl (Fr.setC rfl (Fr.refl _ _)))))))
  have hs3 := HS.out.keep hf3 (by rintro q rfl; exact ⟨_, _, HB11.out, by decide⟩)
  have hu3 := HU2.out.keepT hf3 (by rintro q rfl; exact ⟨_, _, HB11.out, by decide⟩)
  obtain ⟨V, hV⟩ : ∃ V, V = (((((((X.setCell ⟨g11, 0, none⟩ (.slice F0 S2.ledger.tickets.length kF0)).setCell ⟨g11, 1, none⟩ (.slice F1 S2.ledger.taps.length kF1)).setCell ⟨g11, 2, none⟩ (.slice F2 S2.ledger.verdicts.length kF2)).setCell ⟨g11, 3, none⟩ (.int .i64 S2.denied.version)).setCell ⟨g11, 4, none⟩ (.slice F3 S2.denied.ids.length kF3)).setCell ⟨g11, 5, none⟩ (.slice F4 S2.gates.length kF4)).setCell ⟨g11, 6, none⟩ (.slice F5 S2.views.length kF5)) := ⟨_, rfl⟩
  rw [← hV]
  have HXV := Lib.hid (show Ext W V by rw [hV]; exact ext7 hw11 HX.out)
  have HSV := Lib.hid (show OwnS W.heap.size V ⟨.slice F0 S2.ledger.tickets.length kF0, .slice F1 S2.ledger.taps.length kF1, .slice F2 S2.ledger.verdicts.length kF2, .slice F3 S2.denied.ids.length kF3, .slice F4 S2.gates.length kF4, .slice F5 S2.views.length kF5⟩ S2 by rw [hV]; exact hs3)
  have HUV := Lib.hid (show OwnL 35 1 inc W.heap.size V (.slice U all.length ku) all by rw [hV]; exact hu3)
  have R11 := Lib.hid (show Row V g11 #[.slice F0 S2.ledger.tickets.length kF0, .slice F1 S2.ledger.taps.length kF1, .slice F2 S2.ledger.verdicts.length kF2, .int .i64 S2.denied.version, .slice F3 S2.denied.ids.length kF3, .slice F4 S2.gates.length kF4, .slice F5 S2.views.length kF5] by rw [hV]; exact Bx.row (bxC (((((((HB11.out.set (i := 0)).set (i := 1)).set (i := 2)).set (i := 3)).set (i := 4)).set (i := 5)).set (i := 6)) (by simp only [lSet])))
  clear hf3 hs3 hu3 hV HS HU2 HB11 q11 f11 l11 HX hzX
  have HXX := Lib.hid (And.intro trivial (HWW.out.2.trans HXV.out))
  have HX1 := Lib.hid (And.intro trivial (HW15.out.2.trans HXV.out))
  have HX5 := Lib.hid (And.intro trivial (HXW.out.trans HXV.out))
  (apply Row.use (w := V) (g := w.heap.size); (focus (exact rowA)); intro qx_0 fx_0 lx_0 Rx_0; (try simp only [lSet] at qx_0 Rx_0); apply Row.use (w := V) (g := w1.heap.size); (focus (exact rowA)); intro qx_1 fx_1 lx_1 Rx_1; (try simp only [lSet] at qx_1 Rx_1); apply Row.use (w := V) (g := w5.heap.size); (focus (exact rowA)); intro qx_2 fx_2 lx_2 Rx_2; (try simp only [lSet] at qx_2 Rx_2); apply Row.use (w := V) (g := g11); (focus (exact rowA)); intro qx_3 fx_3 lx_3 Rx_3; (try simp only [lSet] at qx_3 Rx_3))
  by_cases he40 : l.length = 40
  ·have h4b : ((l.length : Int) == 40) = true := by simp; omega
   have hes : S2 = st0 ∧ all = [] ∧ er = 2 := by
    have := HRR.out
    rw [if_pos he40] at this
    simpa using this
   obtain ⟨-, -, rfl⟩ := hes
   clear he40
   go_wp2_with fail
   go_ret
   exact ⟨rfl, HXX.out.2.trans (show Ext V _ by exact extA)⟩
  have h4b : ((l.length : Int) == 40) = false := by rw [beq_eq_false_iff_ne]; omega
  have hes : S2 = Q1 ∧ all = dn ++ [Q3] ∧ er = 0 := by
   have := HRR.out
   rw [if_neg he40] at this
   simpa using this
  obtain ⟨hS2, hall, rfl⟩ := hes
  have hal : all.length = l.length + 1 := by rw [hall]; simp [HD0.out.1]
  have hlast : V.cell? (Addr.mk (match U with | some a => a.block | none => 0) l.length none) = some (.int .i64 Q3) ∧ ∃ gu, U = some ⟨gu, 0, none⟩ ∧ gu < V.heap.size ∧ all.length ≤ ku := by
   obtain ⟨gu, cu, h1, -, h2, h3⟩ := HUV.out.slot (by omega)
   injection h1 with h1 h4 h5
   subst h1 h5
   have h := (OwnL.field inc_size HUV.out l.length 0 (by omega) (by decide) (.int .i64 Q3) (by simp [hall, inc, List.getElem_append_right, HD0.out.1])).1
   have e1 : l.length * 1 + 0 = l.length := by omega
   rw [e1] at h
   exact ⟨h, gu, rfl, h2, h3⟩
  obtain ⟨hlc, gu, rfl, hgu, hku⟩ := hlast
  simp only at hlc
  rw [hal] at hku
  have hke : (l.length : Int) < (ku : Int) := by omega
  have hla : (l.length : Int) < (all.length : Int) := by omega
  have hlb : ((all.length : Int) != (l.length : Int) + 1) = false := by simp; omega
  clear he40
  by_cases h3 : Q3 = 0
  case neg =>
   have hda : EX = Q3 := by have := HDA.out; rw [if_pos h3] at this; simpa using congrArg (fun x => x.2.2) this
   have hda2 := hda.symm
   clear hda
   subst hda2
   have hQS : Q1 = S := HD0.out.2.1 h3
   subst hQS
   have h3b : (Q3 != 0) = true := by simpa using h3
   have HQ := Lib.hid hS2
   clear hall hal hS2 h3
   have KSS := Lib.hid (fun (w' : World) (h : Ext V w') => ref_SameStation Q1 S2 ⟨.slice B0 Q1.ledger.tickets.length kB0, .slice B1 Q1.ledger.taps.length kB1, .slice B2 Q1.ledger.verdicts.length kB2, .slice B3 Q1.denied.ids.length kB3, .slice B4 Q1.gates.length kB4, .slice B5 Q1.views.length kB5⟩ ⟨.slice F0 S2.ledger.tickets.length kF0, .slice F1 S2.ledger.taps.length kF1, .slice F2 S2.ledger.verdicts.length kF2, .slice F3 S2.denied.ids.length kF3, .slice F4 S2.gates.length kF4, .slice F5 S2.views.length kF5⟩ w' (HO.out.ext (HX1.out.2.trans h)) ((HSV.out.ext h).rd))
   unfold sta at KSS
   simp only at KSS
   rw [decide_eq_true HQ.out.symm] at KSS
   go_wp2_with fail
   refine (KSS.out _ (by exact (show Ext V _ by exact extA))).mono ?_
   rintro e w9 ⟨rfl, h9⟩
   have H9 := Lib.hid h9
   clear h9
   go_wp2_with fail
   go_ret
   exact ⟨rfl, HXX.out.2.trans (show Ext V _ by exact extA)⟩
  have hda := HDA.out
  rw [if_neg (by simpa using h3)] at hda
  obtain ⟨g1', g2', g3'⟩ : SX = Q1 ∧ NX = Q2 ∧ EX = Q3 := by simpa using hda
  have g1'' := g1'.symm
  have g2'' := g2'.symm
  have g3'' := g3'.symm
  clear hda HDA g1' g2' g3'
  subst g1'' g2'' g3''
  subst h3
  have HKP := Lib.hid (HD0.out.2.2 rfl)
  have HQ := Lib.hid hS2
  have HLC := Lib.hid hlc
  clear hall hal hS2
  have KSS := Lib.hid (fun (w' : World) (h : Ext V w') => ref_SameStation Q1 S2 ⟨.slice C0 Q1.ledger.tickets.length kC0, .slice C1 Q1.ledger.taps.length kC1, .slice C2 Q1.ledger.verdicts.length kC2, .slice C3 Q1.denied.ids.length kC3, .slice C4 Q1.gates.length kC4, .slice C5 Q1.views.length kC5⟩ ⟨.slice F0 S2.ledger.tickets.length kF0, .slice F1 S2.ledger.taps.length kF1, .slice F2 S2.ledger.verdicts.length kF2, .slice F3 S2.denied.ids.length kF3, .slice F4 S2.gates.length kF4, .slice F5 S2.views.length kF5⟩ w' (HC.out.ext (HX5.out.2.trans h)) ((HSV.out.ext h).rd))
  unfold sta at KSS
  simp only at KSS
  rw [decide_eq_true HQ.out.symm] at KSS
  have KCC := Lib.hid (fun (w' : World) (h : Ext V w') => KC2.out ⟨.slice C0 Q1.ledger.tickets.length kC0, .slice C1 Q1.ledger.taps.length kC1, .slice C2 Q1.ledger.verdicts.length kC2, .slice C3 Q1.denied.ids.length kC3, .slice C4 Q1.gates.length kC4, .slice C5 Q1.views.length kC5⟩ w' (HC.out.ext (HX5.out.2.trans h)))
  have KHI := Lib.hid (fun (n : Int) (w' : World) (h : Ext V w') => ref_HasInt Q1.denied.ids n _ w' (HC.out.dn.ext (HX5.out.2.trans h)))
  have KTA := Lib.hid (fun (n : Int) (w' : World) (h : Ext V w') => ref_TicketAt Q1.ledger.tickets n _ w' (HC.out.tk.ext (HX5.out.2.trans h)))
  have HID := Lib.hid (fun (w' : World) (h : Ext V w') => HO.out.dn.ext (HX1.out.2.trans h))
  have HIT := Lib.hid (fun (w' : World) (h : Ext V w') => HO.out.tk.ext (HX1.out.2.trans h))
  have hid9 : S.denied.ids.length ≤ 9223372036854775807 := by obtain ⟨A, c, h, h2, h3⟩ := HO.out.dn.form; unfold maxLen at h3; omega
  have hit9 : S.ledger.tickets.length ≤ 9223372036854775807 := by obtain ⟨A, c, h, h2, h3⟩ := HO.out.tk.form; unfold maxLen at h3; omega
  simp only at KCC KHI KTA HID HIT
  clear KC2
  go_wp2_with fail
  go_loopg [14] S.denied.ids.length (fun gg s14 wr => ∃ k : Nat, k ≤ S.denied.ids.length ∧ S.denied.ids.length - k ≤ gg ∧ s14 = .int .i64 k ∧ Aside (Ext V wr))
  case atStart => exact ⟨0, Nat.zero_le _, by omega, rfl, Ext.refl _⟩
  case round =>
   obtain ⟨wo, rfl⟩ : ∃ wo : World, wo = wr := ⟨_, rfl⟩
   obtain ⟨i, hi, hgi, rfl, HA⟩ := hrel
   have HE := Lib.hid HA.out
   clear HA
   (apply Row.use (w := wo) (g := w.heap.size); (focus (exact rowA)); intro qr_0 fr_0 lr_0 Rr_0; (try simp only [lSet] at qr_0 Rr_0); apply Row.use (w := wo) (g := w1.heap.size); (focus (exact rowA)); intro qr_1 fr_1 lr_1 Rr_1; (try simp only [lSet] at qr_1 Rr_1); apply Row.use (w := wo) (g := w5.heap.size); (focus (exact rowA)); intro qr_2 fr_2 lr_2 Rr_2; (try simp only [lSet] at qr_2 Rr_2); apply Row.use (w := wo) (g := g11); (focus (exact rowA)); intro qr_3 fr_3 lr_3 Rr_3; (try simp only [lSet] at qr_3 Rr_3))
   clear qx_0 fx_0 lx_0 Rx_0 qx_1 fx_1 lx_1 Rx_1 qx_2 fx_2 lx_2 Rx_2 qx_3 fx_3 lx_3 Rx_3
   by_cases hlt : i < S.denied.ids.length
   ·have hii : (i : Int) < (S.denied.ids.length : Int) := by omega
    have hhas := HKP.out.1 S.denied.ids[i] (List.getElem_mem hlt)
    obtain ⟨b2, o2, c2', hB, hb2, hc2⟩ := (HID.out wo HE.out).at_ hlt
    injection hB with hB hB1 hB2
    subst hB hB2
    clear hB1
    have hcc2 : (i : Int) < (kB3 : Int) := by
     obtain ⟨A, c, h, h2, -⟩ := (HID.out wo HE.out).form
     injection h with _ _ h3
     omega
    have d0 : wo.cell? ⟨b2, o2 + i * 1, none⟩ = some (.int .i64 S.denied.ids[i]) := hc2 0 _ rfl
    rw [Nat.mul_one] at d0
    have KH := Lib.hid (fun (w' : World) (h : Ext wo w') => KHI.out S.denied.ids[i] w' (HE.out.trans h))
    rw [hhas] at KH
    generalize S.denied.ids[i] = tid at *
    clear hc2 hhas
    go_upto_region 19 with fail
    (apply wp_gen2 (w0 := wo) (g0 := w1.heap.size) (g1 := w5.heap.size); (focus (exact rowA)); (focus (exact rowA)); (focus (exact extA)); intro Zt HZt hzZt Rt_0 Rt_1; (try simp only [lSet, World.size_alloc, size_set, World.heap_drewN, size_drew] at hzZt Rt_0 Rt_1); have lt_0 := Rt_0.out.size; have lt_1 := Rt_1.out.size)
    have HZX := Lib.hid (And.intro trivial HZt.out)
    have HK := Lib.hid (fun (w' : World) (h : Ext Zt w') => And.intro (Row.ext h Rt_0.out).2.1 (And.intro (Row.ext h Rt_1.out).2.1 ((((HZt.out.trans h).cells _ _ hb2).trans d0))))
    (refine T_begin (fun w' => Ext Zt w') 10 (by kernel_rfl) ((Ext.refl _).drew) (fun hS => ?_); simp only [List.length_cons, List.length_nil])
    ((refine T_take (i := 0) (v := ?_) rfl (by kernel_rfl) rfl hS ?_ ?_; rotate_left; focus (intro w hSw; have hk := HK.out w hSw; clear hSw; go_simp; try (with_reducible rfl))); (try simp only [Act.put, lSet]); (refine T_take (i := 1) (v := ?_) rfl (by kernel_rfl) rfl hS ?_ ?_; rotate_left; focus (intro w hSw; have hk := HK.out w hSw; clear hSw; go_simp; try (with_reducible rfl))); (try simp only [Act.put, lSet]); (refine T_take (i := 2) (v := ?_) rfl (by kernel_rfl) rfl hS ?_ ?_; rotate_left; focus (intro w hSw; have hk := HK.out w hSw; clear hSw; go_simp; try (with_reducible rfl))); (try simp only [Act.put, lSet]); (refine T_take (i := 3) (v := ?_) rfl (by kernel_rfl) rfl hS ?_ ?_; rotate_left; focus (intro w hSw; have hk := HK.out w hSw; clear hSw; go_simp; try (with_reducible rfl))); (try simp only [Act.put, lSet]); (refine T_take (i := 4) (v := ?_) rfl (by kernel_rfl) rfl hS ?_ ?_; rotate_left; focus (intro w hSw; have hk := HK.out w hSw; clear hSw; go_simp; try (with_reducible rfl))); (try simp only [Act.put, lSet]); (refine T_take (i := 5) (v := ?_) rfl (by kernel_rfl) rfl hS ?_ ?_; rotate_left; focus (intro w hSw; have hk := HK.out w hSw; clear hSw; go_simp; try (with_reducible rfl))); (try simp only [Act.put, lSet]); (refine T_take (i := 6) (v := ?_) rfl (by kernel_rfl) rfl hS ?_ ?_; rotate_left; focus (intro w hSw; have hk := HK.out w hSw; clear hSw; go_simp; try (with_reducible rfl))); (try simp only [Act.put, lSet]); (refine T_take (i := 7) (v := ?_) rfl (by kernel_rfl) rfl hS ?_ ?_; rotate_left; focus (intro w hSw; have hk := HK.out w hSw; clear hSw; go_simp; try (with_reducible rfl))); (try simp only [Act.put, lSet]); (refine T_take (i := 8) (v := ?_) rfl (by kernel_rfl) rfl hS ?_ ?_; rotate_left; focus (intro w hSw; have hk := HK.out w hSw; clear hSw; go_simp; try (with_reducible rfl))); (try simp only [Act.put, lSet]))
    (refine T_only (i := 9) rfl (by kernel_rfl) rfl (fun K hK => ?_); go_simp)
    refine (KH.out _ (by exact HZX.out.2.trans (show Ext Zt _ by exact extA))).mono ?_
    rintro e w9 ⟨rfl, rfl⟩
    go_wp2_with fail
    (refine hK.out _ _ (.inr hS) ?_; clear hK; (try simp only [Act.put, lSet]))
    (refine T_only (i := 10) rfl (by kernel_rfl) rfl (fun K hK => ?_); go_simp; refine hK.out _ _ (.inl (by kernel_rfl)) ?_; clear hK; (try simp only [Act.put, lSet]); refine T_done (by kernel_rfl) ?_ _)
    clear hS HK
    go_wp2_with fail
    go_roundg (S.denied.ids.length - (i + 1))
    case measure => omega
    case rel => exact ⟨i + 1, by omega, by omega, by go_num, HE.out.trans (HZX.out.2.trans (show Ext Zt _ by exact extA))⟩
   ·have hii : ¬ (i : Int) < (S.denied.ids.length : Int) := by omega
    go_wp2_with fail
    go_loopg [15] S.ledger.tickets.length (fun gg s15 wr => ∃ k : Nat, k ≤ S.ledger.tickets.length ∧ S.ledger.tickets.length - k ≤ gg ∧ s15 = .int .i64 k ∧ Aside (Ext wo wr))
    case atStart => exact ⟨0, Nat.zero_le _, by omega, rfl, Ext.refl _⟩
    case round =>
     obtain ⟨j, hj, hgj, rfl, HA⟩ := hrel
     have HE2 := Lib.hid HA.out
     have HEV := Lib.hid (And.intro trivial (HE.out.trans HA.out))
     clear HA
     (apply Row.use (w := wr) (g := w.heap.size); (focus (exact rowA)); intro qs_0 fs_0 ls_0 Rs_0; (try simp only [lSet] at qs_0 Rs_0); apply Row.use (w := wr) (g := w1.heap.size); (focus (exact rowA)); intro qs_1 fs_1 ls_1 Rs_1; (try simp only [lSet] at qs_1 Rs_1); apply Row.use (w := wr) (g := w5.heap.size); (focus (exact rowA)); intro qs_2 fs_2 ls_2 Rs_2; (try simp only [lSet] at qs_2 Rs_2); apply Row.use (w := wr) (g := g11); (focus (exact rowA)); intro qs_3 fs_3 ls_3 Rs_3; (try simp only [lSet] at qs_3 Rs_3))
     clear qr_0 fr_0 lr_0 Rr_0 qr_1 fr_1 lr_1 Rr_1 qr_2 fr_2 lr_2 Rr_2 qr_3 fr_3 lr_3 Rr_3
     by_cases hlt2 : j < S.ledger.tickets.length
     ·have hjj : (j : Int) < (S.ledger.tickets.length : Int) := by omega
      have hfnd := HKP.out.2 S.ledger.tickets[j] (List.getElem_mem hlt2)
      obtain ⟨b2, o2, c2', hB, hb2, hc2⟩ := (HIT.out wr HEV.out.2).at_ hlt2
      injection hB with hB hB1 hB2
      subst hB hB2
      clear hB1
      have hcc2 : (j : Int) < (kB0 : Int) := by
       obtain ⟨A, c, h, h2, -⟩ := (HIT.out wr HEV.out.2).form
       injection h with _ _ h3
       omega
      have d0 : wr.cell? ⟨b2, o2 + j * 6, none⟩ = some (.int .i64 S.ledger.tickets[j].id) := hc2 0 _ rfl
      have KA := Lib.hid (fun (w' : World) (h : Ext wr w') => KTA.out S.ledger.tickets[j].id w' (HEV.out.2.trans h))
      rcases ixBy_ticket Q1.ledger.tickets S.ledger.tickets[j].id with ⟨hix, htn⟩ | ⟨nn, hnn, hix, htn⟩
      ·rw [htn] at hfnd; cases hfnd
      rw [hix] at KA
      generalize S.ledger.tickets[j].id = tid at *
      have hn0 : ¬ (nn : Int) < 0 := by omega
      clear hc2 hfnd hix htn
      go_upto_region 24 with fail
      (apply wp_gen2 (w0 := wr) (g0 := w1.heap.size) (g1 := w5.heap.size); (focus (exact rowA)); (focus (exact rowA)); (focus (exact extA)); intro Zt HZt hzZt Rt_0 Rt_1; (try simp only [lSet, World.size_alloc, size_set, World.heap_drewN, size_drew] at hzZt Rt_0 Rt_1); have lt_0 := Rt_0.out.size; have lt_1 := Rt_1.out.size)
      have HZX := Lib.hid (And.intro trivial HZt.out)
      have HK := Lib.hid (fun (w' : World) (h : Ext Zt w') => And.intro (Row.ext h Rt_0.out).2.1 (And.intro (Row.ext h Rt_1.out).2.1 ((((HZt.out.trans h).cells _ _ hb2).trans d0))))
      (refine T_begin (fun w' => Ext Zt w') 11 (by kernel_rfl) ((Ext.refl _).drew) (fun hS => ?_); simp only [List.length_cons, List.length_nil])
      ((refine T_take (i := 0) (v := ?_) rfl (by kernel_rfl) rfl hS ?_ ?_; rotate_left; focus (intro w hSw; have hk := HK.out w hSw; clear hSw; go_simp; try (with_reducible rfl))); (try simp only [Act.put, lSet]); (refine T_take (i := 1) (v := ?_) rfl (by kernel_rfl) rfl hS ?_ ?_; rotate_left; focus (intro w hSw; have hk := HK.out w hSw; clear hSw; go_simp; try (with_reducible rfl))); (try simp only [Act.put, lSet]); (refine T_take (i := 2) (v := ?_) rfl (by kernel_rfl) rfl hS ?_ ?_; rotate_left; focus (intro w hSw; have hk := HK.out w hSw; clear hSw; go_simp; try (with_reducible rfl))); (try simp only [Act.put, lSet]); (refine T_take (i := 3) (v := ?_) rfl (by kernel_rfl) rfl hS ?_ ?_; rotate_left; focus (intro w hSw; have hk := HK.out w hSw; clear hSw; go_simp; try (with_reducible rfl))); (try simp only [Act.put, lSet]); (refine T_take (i := 4) (v := ?_) rfl (by kernel_rfl) rfl hS ?_ ?_; rotate_left; focus (intro w hSw; have hk := HK.out w hSw; clear hSw; go_simp; try (with_reducible rfl))); (try simp only [Act.put, lSet]); (refine T_take (i := 5) (v := ?_) rfl (by kernel_rfl) rfl hS ?_ ?_; rotate_left; focus (intro w hSw; have hk := HK.out w hSw; clear hSw; go_simp; try (with_reducible rfl))); (try simp only [Act.put, lSet]); (refine T_take (i := 6) (v := ?_) rfl (by kernel_rfl) rfl hS ?_ ?_; rotate_left; focus (intro w hSw; have hk := HK.out w hSw; clear hSw; go_simp; try (with_reducible rfl))); (try simp only [Act.put, lSet]); (refine T_take (i := 7) (v := ?_) rfl (by kernel_rfl) rfl hS ?_ ?_; rotate_left; focus (intro w hSw; have hk := HK.out w hSw; clear hSw; go_simp; try (with_reducible rfl))); (try simp only [Act.put, lSet]); (refine T_take (i := 8) (v := ?_) rfl (by kernel_rfl) rfl hS ?_ ?_; rotate_left; focus (intro w hSw; have hk := HK.out w hSw; clear hSw; go_simp; try (with_reducible rfl))); (try simp only [Act.put, lSet]); (refine T_take (i := 9) (v := ?_) rfl (by kernel_rfl) rfl hS ?_ ?_; rotate_left; focus (intro w hSw; have hk := HK.out w hSw; clear hSw; go_simp; try (with_reducible rfl))); (try simp only [Act.put, lSet]))
      (refine T_only (i := 10) rfl (by kernel_rfl) rfl (fun K hK => ?_); go_simp)
      refine (KA.out _ (by exact HZX.out.2.trans (show Ext Zt _ by exact extA))).mono ?_
      rintro e w9 ⟨rfl, h9⟩
      have H9 := Lib.hid h9
      clear h9 hS
      have hS : Ext Zt w9 := by exact extA
      go_wp2_with fail
      (refine hK.out _ _ (.inr hS) ?_; clear hK; (try simp only [Act.put, lSet]))
      (refine T_only (i := 11) rfl (by kernel_rfl) rfl (fun K hK => ?_); go_simp; refine hK.out _ _ (.inl (by kernel_rfl)) ?_; clear hK; (try simp only [Act.put, lSet]); refine T_done (by kernel_rfl) ?_ _)
      clear hS HK
      go_wp2_with fail
      go_roundg (S.ledger.tickets.length - (j + 1))
      case measure => omega
      case rel => exact ⟨j + 1, by omega, by omega, by go_num, HE2.out.trans (HZX.out.2.trans (show Ext Zt _ by exact extA))⟩
     ·have hjj : ¬ (j : Int) < (S.ledger.tickets.length : Int) := by omega
      go_wp2_with fail
      refine (KSS.out _ (by exact HEV.out.2.trans (by exact extA))).mono ?_
      rintro e w9 ⟨rfl, h9⟩
      have HE9 := Lib.hid (And.intro trivial (HEV.out.2.trans (Ext.trans (show Ext wr _ by exact extA) h9)))
      have H9 := Lib.hid h9
      clear h9
      (apply Row.use (w := w9) (g := w5.heap.size); (focus (exact rowA)); intro qu_0 fu_0 lu_0 Ru_0; (try simp only [lSet] at qu_0 Ru_0))
      go_wp2_with fail
      refine (KCC.out _ (by exact HE9.out.2.trans (by exact extA))).mono ?_
      rintro e w10 ⟨rfl, h10⟩
      have H10 := Lib.hid h10
      clear h10
      go_wp2_with fail
      go_ret
      exact ⟨rfl, HXX.out.2.trans (HE9.out.2.trans (show Ext w9 _ by exact extA))⟩
end Go.Proofs.YteojjbhadgkfgaaGreat
