/- Mja: parts of the proofs, laid together. -/
import Derived.Test.YteojjbhadgkfgaaGreatMu
import Derived.Test.YteojjbhadgkfgaaGreatMs
import Derived.Test.YteojjbhadgkfgaaGreatMl
import Derived.Test.YteojjbhadgkfgaaGreatMr
import Derived.Test.YteojjbhadgkfgaaGreatMj
/- StationSafe: a tap that is entered. -/
namespace Go.Proofs.YteojjbhadgkfgaaGreat
set_option linter.unusedSimpArgs false
set_option linter.unusedVariables false
set_option maxRecDepth 100000
open Go Go.RowKit Lb

set_option maxHeartbeats 64000000 in
theorem law_StationSafe_led (s : St) (x : Sv) (id g time : Int) (w : World) (hr : RdS w x s) (h0 : (tapSt s id g time).2.2 = 0) (hv : (tapSt s id g time).2.1 ≠ 0) :
  Calls Tryz.prog 4 #[.agg (sta s x), .int .i64 id, .int .i64 g, .int .i64 time] w fun e w' => e = .returned (.bool true) ∧ Ext w w' := by
 have KT := Lib.hid (fun (w' : World) (h : Ext w w') => station_Tap s x id g time w' (hr.ext h))
 obtain ⟨r, r', hw, hpos, hl3, hseq, hden, hvw, hoth, hze, hnz⟩ := safe_ok h0
 obtain ⟨hg0, hg2, hgm⟩ := within_nat (a := 0) hw
 obtain ⟨m, rfl⟩ : ∃ m : Nat, g = m := ⟨g.toNat, hgm.symm⟩
 simp only [Int.toNat_natCast] at hseq hoth hze hnz
 have hm3 : m < 3 := by omega
 have hlt : m < s.gates.length := by rw [r.len]; exact hm3
 have hlt' : m < (tapSt s id (m : Int) time).1.gates.length := by rw [hl3]; exact hm3
 replace hseq := hseq hlt' hlt
 have hsq9 : (s.gates[m]).seq ≤ 99 := by have := (ckGate_ok.1 (r.gates m hlt).1).seq; simp [within] at this; omega
 have hsq0 : 0 ≤ (s.gates[m]).seq := by have := (ckGate_ok.1 (r.gates m hlt).1).seq; simp [within] at this; omega
 have KC := Lib.hid (fun (x' : Sv) (w' : World) (h : RdS w' x' (tapSt s id (m : Int) time).1) => (rightS_iff.2 r') ▸ station_Check (tapSt s id (m : Int) time).1 x' w' h)
 have hrl := r.len
 have htl := tickets_le r
 have htp := (right_iff.1 r.ledger).2.1
 generalize tapSt s id (m : Int) time = T at *
 obtain ⟨⟨TL, TD, TG, TV⟩, T2, T3⟩ := T
 simp only at h0 hl3 hseq hden hvw hoth hze hnz KT KC hlt' hv
 subst h0 hden hvw
 have HVZ := Lib.hid hv
 clear hv
 clear r r' hw hg0 hg2 hgm
 have hmi : (m : Int) < (3 : Int) := by omega
 have hm0 : ¬ (m : Int) < 0 := by omega
 have hmg : ¬ (m : Int) ≥ (3 : Int) := by omega
 have hmN : decide (3 ≤ m) = false := by simp; omega
 have hmF : decide ((3 : Int) ≤ (m : Int)) = false := by simp; omega
 have hmG : decide ((m : Int) ≥ (3 : Int)) = false := by simp; omega
 have hwr : IntKind.i64.wrap ((s.gates[m]).seq + 1) = (s.gates[m]).seq + 1 := IntWalk.i64_in _ (by omega)
 have hwt : IntKind.i64.wrap ((s.ledger.taps.length : Int) + 1) = (s.ledger.taps.length : Int) + 1 := IntWalk.i64_in _ (by omega)
 have htk0 : ((s.ledger.tickets.length : Int) == 0) = false := by rw [beq_eq_false_iff_ne]; omega
 have HV := Lib.hid hr
 obtain ⟨A0, c0, e0, -, -⟩ := hr.tk.form
 obtain ⟨A1, c1, e1, -, -⟩ := hr.tp.form
 obtain ⟨A2, c2, e2, -, -⟩ := hr.vd.form
 obtain ⟨A3, c3, e3, -, -⟩ := hr.dn.form
 obtain ⟨A4, c4, e4, hc4, -⟩ := hr.gt.form
 obtain ⟨A5, c5, e5, -, -⟩ := hr.vw.form
 have hat := hr.gt.at_ e4 hlt
 rw [hrl] at e4 hc4
 have hcap : (3 : Int) ≤ (c4 : Int) := by omega
 obtain ⟨bs, os, sa1, si1, hA4, hbs, ra1, rd1, g0, g1, g2, g3, g4, g5, g6, g7⟩ := hat
 subst hA4
 obtain ⟨s0, s1, s2, si, sg, sv⟩ := x
 simp only at e0 e1 e2 e3 e4 e5
 subst e0 e1 e2 e3 e4 e5
 clear hr hc4
 unfold sta at KT KC ⊢
 simp only at KT KC HV ⊢
 go_enter Tryz.func4, Tryz.ntmps4
 go_wp2_with fail
 refine (KT.out _ (by exact extA)).mono ?_
 rintro e w1 ⟨⟨t0, t1, t2, ti, tg, tv⟩, rfl, h1, ho⟩
 obtain ⟨B0, kB0, rfl⟩ : ∃ B d, t0 = .slice B TL.tickets.length d := ho.tk.form
 obtain ⟨B1, kB1, rfl⟩ : ∃ B d, t1 = .slice B TL.taps.length d := ho.tp.form
 obtain ⟨B2, kB2, rfl⟩ : ∃ B d, t2 = .slice B TL.verdicts.length d := ho.vd.form
 obtain ⟨B3, kB3, rfl⟩ : ∃ B d, ti = .slice B s.denied.ids.length d := ho.dn.form
 obtain ⟨B4, kB4, rfl⟩ : ∃ B d, tg = .slice B 3 d := by have := ho.gt.form; rw [hl3] at this; exact this
 obtain ⟨B5, kB5, rfl⟩ : ∃ B d, tv = .slice B s.views.length d := ho.vw.form
 have H1 := Lib.hid h1
 have hz1 := h1.size
 have HO := Lib.hid ho.rd
 have hat2 := ho.rd.gt.at_ (k := m) (n := 3) (c := kB4) (A := B4) rfl hlt'
 obtain ⟨bt, ot, sa2, si2, hB4, hbt, ra2, rd2, j0, j1, j2, j3, j4, j5, j6, j7⟩ := hat2
 subst hB4
 have hc4' : (3 : Int) ≤ (kB4 : Int) := by
  obtain ⟨A, c, h, h2, -⟩ := ho.rd.gt.form
  injection h with _ _ h3
  subst h3
  rw [hl3] at h2
  omega
 clear h1 ho KT
 (apply Row.use (w := w1) (g := w.heap.size); (focus (exact rowA)); intro q1_0 f1_0 l1_0 R1_0; (try simp only [lSet] at q1_0 R1_0))
 go_wp2_with fail
 (refine (law_stationBegun _).mono ?_; rintro e w2 ⟨rfl, h2⟩; have H2 := Lib.hid h2; have hz2 := h2.size; clear h2; (try simp only [World.size_alloc, size_set, World.heap_drewN, size_drew] at hz2); apply Row.use (w := w2) (g := w.heap.size); (focus (exact rowA)); intro q2_0 f2_0 l2_0 R2_0; (try simp only [lSet] at q2_0 R2_0); apply Row.use (w := w2) (g := w1.heap.size); (focus (exact rowA)); intro q2_1 f2_1 l2_1 R2_1; (try simp only [lSet] at q2_1 R2_1))
 go_wp2_with fail
 (refine (law_gateBegun _).mono ?_; rintro e w3 ⟨rfl, h3⟩; have H3 := Lib.hid h3; have hz3 := h3.size; clear h3; (try simp only [World.size_alloc, size_set, World.heap_drewN, size_drew] at hz3); apply Row.use (w := w3) (g := w.heap.size); (focus (exact rowA)); intro q3_0 f3_0 l3_0 R3_0; (try simp only [lSet] at q3_0 R3_0); apply Row.use (w := w3) (g := w1.heap.size); (focus (exact rowA)); intro q3_1 f3_1 l3_1 R3_1; (try simp only [lSet] at q3_1 R3_1))
 have HW3 := Lib.hid (And.intro trivial (show Ext w w3 by exact extA))
 have H13 := Lib.hid (And.intro trivial (show Ext w1 w3 by exact extA))
 clear q1_0 f1_0 l1_0 R1_0 q2_0 f2_0 l2_0 R2_0 q2_1 f2_1 l2_1 R2_1 H1 H2
 generalize hGs : s.gates[m] = gs at *
 generalize hGt : TG[m] = gt at *
 have HGS := Lib.hid (And.intro hGs hGt)
 clear hGs hGt
 have hseq' := hseq
 rw [hseq] at j2
 have y2 := (HW3.out.2.cells bs _ hbs).trans g2
 have x2 := (H13.out.2.cells bt _ hbt).trans j2
 have hbs3 : bs < w3.heap.size := by have := HW3.out.2.size; omega
 have hbt3 : bt < w3.heap.size := by have := H13.out.2.size; omega
 have KD := Lib.hid (fun (w' : World) (h : Ext w3 w') => ref_SameDenied_so s.denied _ _ w' (HO.out.dn.ext (H13.out.2.trans h)) (HV.out.dn.ext (HW3.out.2.trans h)))
 have KV := Lib.hid (fun (w' : World) (h : Ext w3 w') => ref_SameViews s.views s.views _ _ w' (HO.out.vw.ext (H13.out.2.trans h)) (HV.out.vw.ext (HW3.out.2.trans h)))
 have hvs : (s.views == s.views) = true := by simp
 rw [hvs] at KV
 have KCC := Lib.hid (fun (w' : World) (h : Ext w3 w') => KC.out _ w' (HO.out.ext (H13.out.2.trans h)))
 simp only at KD KV KCC
 clear KC
 go_upto_region 6 with fail
 (apply wp_gen2 (w0 := w3) (g0 := w.heap.size) (g1 := w1.heap.size); (focus (exact rowA)); (focus (exact rowA)); (focus (exact extA)); intro W HW hzW Rb_0 Rb_1; (try simp only [lSet, World.size_alloc, size_set, World.heap_drewN, size_drew] at hzW Rb_0 Rb_1); have lb_0 := Rb_0.out.size; have lb_1 := Rb_1.out.size)
 have HK := Lib.hid (fun (w' : World) (h : Ext W w') => And.intro (Row.ext h Rb_0.out).2.1 (And.intro (Row.ext h Rb_1.out).2.1 (And.intro (((HW.out.trans h).cells _ _ hbs3).trans y2) ((((HW.out.trans h).cells _ _ hbt3).trans x2)))))
 have HWW := Lib.hid (And.intro trivial HW.out)
 clear x2 y2
 simp only [List.append_eq, List.cons_append, List.nil_append]
 (refine T_begin (fun w' => Ext W w') 64 (by kernel_rfl) ((Ext.refl _).drew) (fun hS => ?_); simp only [List.length_cons, List.length_nil])
 (refine tkG 0 HK hS ?_; (try simp only [Act.put, lSet]); refine tkG 1 HK hS ?_; (try simp only [Act.put, lSet]); refine tkG 2 HK hS ?_; (try simp only [Act.put, lSet]); refine tkG 3 HK hS ?_; (try simp only [Act.put, lSet]); refine tkG 4 HK hS ?_; (try simp only [Act.put, lSet]); refine tkG 5 HK hS ?_; (try simp only [Act.put, lSet]); refine tkG 6 HK hS ?_; (try simp only [Act.put, lSet]); refine tkG 7 HK hS ?_; (try simp only [Act.put, lSet]); refine tkG 8 HK hS ?_; (try simp only [Act.put, lSet]); refine tkG 9 HK hS ?_; (try simp only [Act.put, lSet]); refine tkG 10 HK hS ?_; (try simp only [Act.put, lSet]); refine tkG 11 HK hS ?_; (try simp only [Act.put, lSet]); refine tkG 12 HK hS ?_; (try simp only [Act.put, lSet]); refine tkG 13 HK hS ?_; (try simp only [Act.put, lSet]); refine tkG 14 HK hS ?_; (try simp only [Act.put, lSet]); refine tkG 15 HK hS ?_; (try simp only [Act.put, lSet]); refine tkG 16 HK hS ?_; (try simp only [Act.put, lSet]); refine tkG 17 HK hS ?_; (try simp only [Act.put, lSet]); refine tkG 18 HK hS ?_; (try simp only [Act.put, lSet]); refine tkG 19 HK hS ?_; (try simp only [Act.put, lSet]); refine tkG 20 HK hS ?_; (try simp only [Act.put, lSet]); refine tkG 21 HK hS ?_; (try simp only [Act.put, lSet]); refine tkG 22 HK hS ?_; (try simp only [Act.put, lSet]); refine tkG 23 HK hS ?_; (try simp only [Act.put, lSet]))
 clear hS
 refine T_onlyG (i := 24) rfl (by kernel_rfl) (by kernel_rfl) (fun K hK => ?_)
 go_simp
 refine (KCC.out _ (HWW.out.2.trans (show Ext W _ by exact extA))).mono ?_
 rintro e w4 ⟨rfl, h4⟩
 have H4 := Lib.hid h4
 clear h4
 (go_wp2_with fail; have hS : Ext W w4 := by exact extA); (refine hK.out _ _ (.inr hS) ?_; clear hK; (try simp only [Act.put, lSet]))
 (refine tkG 25 HK hS ?_; (try simp only [Act.put, lSet]); refine tkG 26 HK hS ?_; (try simp only [Act.put, lSet]); refine tkG 27 HK hS ?_; (try simp only [Act.put, lSet]); refine tkG 28 HK hS ?_; (try simp only [Act.put, lSet]); refine tkG 29 HK hS ?_; (try simp only [Act.put, lSet]); refine tkG 30 HK hS ?_; (try simp only [Act.put, lSet]); refine tkG 31 HK hS ?_; (try simp only [Act.put, lSet]); refine tkG 32 HK hS ?_; (try simp only [Act.put, lSet]); refine tkG 33 HK hS ?_; (try simp only [Act.put, lSet]); refine tkG 34 HK hS ?_; (try simp only [Act.put, lSet]); refine tkG 35 HK hS ?_; (try simp only [Act.put, lSet]); refine tkG 36 HK hS ?_; (try simp only [Act.put, lSet]); refine tkG 37 HK hS ?_; (try simp only [Act.put, lSet]); refine tkG 38 HK hS ?_; (try simp only [Act.put, lSet]); refine tkG 39 HK hS ?_; (try simp only [Act.put, lSet]); refine tkG 40 HK hS ?_; (try simp only [Act.put, lSet]); refine tkG 41 HK hS ?_; (try simp only [Act.put, lSet]); refine tkG 42 HK hS ?_; (try simp only [Act.put, lSet]); refine tkG 43 HK hS ?_; (try simp only [Act.put, lSet]); refine tkG 44 HK hS ?_; (try simp only [Act.put, lSet]); refine tkG 45 HK hS ?_; (try simp only [Act.put, lSet]); refine tkG 46 HK hS ?_; (try simp only [Act.put, lSet]); refine tkG 47 HK hS ?_; (try simp only [Act.put, lSet]); refine tkG 48 HK hS ?_; (try simp only [Act.put, lSet]); refine tkG 49 HK hS ?_; (try simp only [Act.put, lSet]); refine tkG 50 HK hS ?_; (try simp only [Act.put, lSet]); refine tkG 51 HK hS ?_; (try simp only [Act.put, lSet]); refine tkG 52 HK hS ?_; (try simp only [Act.put, lSet]); refine tkG 53 HK hS ?_; (try simp only [Act.put, lSet]))
 clear hS
 refine T_onlyG (i := 54) rfl (by kernel_rfl) (by kernel_rfl) (fun K hK => ?_)
 go_simp
 refine (KD.out _ (HWW.out.2.trans (show Ext W _ by exact extA))).mono ?_
 rintro e w5 ⟨rfl, h5⟩
 have H5 := Lib.hid h5
 clear h5
 (go_wp2_with fail; have hS : Ext W w5 := by exact extA); (refine hK.out _ _ (.inr hS) ?_; clear hK; (try simp only [Act.put, lSet]))
 (refine tkG 55 HK hS ?_; (try simp only [Act.put, lSet]); refine tkG 56 HK hS ?_; (try simp only [Act.put, lSet]); refine tkG 57 HK hS ?_; (try simp only [Act.put, lSet]); refine tkG 58 HK hS ?_; (try simp only [Act.put, lSet]); refine tkG 59 HK hS ?_; (try simp only [Act.put, lSet]); refine tkG 60 HK hS ?_; (try simp only [Act.put, lSet]); refine tkG 61 HK hS ?_; (try simp only [Act.put, lSet]))
 clear hS
 refine T_onlyG (i := 62) rfl (by kernel_rfl) (by kernel_rfl) (fun K hK => ?_)
 go_simp
 refine (KV.out _ (HWW.out.2.trans (show Ext W _ by exact extA))).mono ?_
 rintro e w6 ⟨rfl, h6⟩
 have H6 := Lib.hid h6
 clear h6
 (go_wp2_with fail; have hS : Ext W w6 := by exact extA); (refine hK.out _ _ (.inr hS) ?_; clear hK; (try simp only [Act.put, lSet]))
 (refine tkG 63 HK hS ?_; (try simp only [Act.put, lSet]))
 clear HK hS
 refine T_onlyG (i := 64) rfl (by kernel_rfl) (by kernel_rfl) (fun K hK => ?_)
 go_simp
 refine hK.out _ _ (.inl (by kernel_rfl)) ?_
 clear hK
 (try simp only [Act.put, lSet])
 refine T_done (by kernel_rfl) ?_ _
 have HW6 := Lib.hid (And.intro trivial (show Ext w3 w6 by exact extA))
 clear KCC KD KV q3_0 f3_0 l3_0 R3_0 q3_1 f3_1 l3_1 R3_1
 (apply Row.use (w := w6) (g := w.heap.size); (focus (exact rowA)); intro q6_0 f6_0 l6_0 R6_0; (try simp only [lSet] at q6_0 R6_0); apply Row.use (w := w6) (g := w1.heap.size); (focus (exact rowA)); intro q6_1 f6_1 l6_1 R6_1; (try simp only [lSet] at q6_1 R6_1))
 go_wp2_with fail
 go_loopg [12] 3 (fun gg s12 wr => ∃ k : Nat, k ≤ 3 ∧ 3 - k ≤ gg ∧ s12 = .int .i64 k ∧ Aside (Ext w6 wr))
 case atStart => exact ⟨0, by omega, by omega, rfl, Ext.refl _⟩
 case round =>
  obtain ⟨k, hk, hg, rfl, HA⟩ := hrel
  have HE := Lib.hid HA.out
  have HEX := Lib.hid (And.intro trivial (HW6.out.2.trans HA.out))
  clear HA
  (apply Row.use (w := wr) (g := w.heap.size); (focus (exact rowA)); intro qr_0 fr_0 lr_0 Rr_0; (try simp only [lSet] at qr_0 Rr_0); apply Row.use (w := wr) (g := w1.heap.size); (focus (exact rowA)); intro qr_1 fr_1 lr_1 Rr_1; (try simp only [lSet] at qr_1 Rr_1))
  clear q6_0 f6_0 l6_0 R6_0 q6_1 f6_1 l6_1 R6_1
  by_cases hlt3 : k < 3
  ·have hk3 : (k : Int) < (3 : Int) := by omega
   by_cases hkm : k = m
   ·subst hkm
    have hkb : ((k : Int) != (k : Int)) = false := by simp
    clear g0 g1 g2 g3 g4 g5 g6 g7 j0 j1 j2 j3 j4 j5 j6 j7
    go_upto_region 11 with fail
    go_quiet (fail)
    go_wp2_with fail
    go_roundg (3 - (k + 1))
    case measure => omega
    case rel => exact ⟨k + 1, by omega, by omega, by go_num, HE.out.trans (show Ext wr _ by exact extA)⟩
   ·have hkb : ((k : Int) != (m : Int)) = true := by simp; omega
    have hks : k < s.gates.length := by rw [hrl]; exact hlt3
    have hkt : k < TG.length := by rw [hl3]; exact hlt3
    have heq : TG[k] = s.gates[k] := hoth k hkm hkt hks
    have hxw := HW3.out.2.trans HEX.out.2
    have hxt := H13.out.2.trans HEX.out.2
    obtain ⟨ba, oa, sa3, si3, hA, hba, ra, rd, p0, p1, p2, p3, p4, p5, p6, p7⟩ := (HV.out.gt.ext hxw).at_ (n := 3) (c := c4) rfl hks
    obtain ⟨bb, ob, sa4, si4, hB, hbb, ra', rd', u0, u1, u2, u3, u4, u5, u6, u7⟩ := (HO.out.gt.ext hxt).at_ (n := 3) (c := kB4) rfl hkt
    injection hA with hA
    injection hA with hA1 hA2 hA3
    subst hA1 hA2
    injection hB with hB
    injection hB with hB1 hB2 hB3
    subst hB1 hB2
    simp only [heq] at ra' rd' u0 u1 u2 u4 u6 u7
    have KG := Lib.hid (fun (w' : World) (h : Ext wr w') => ref_SameGate_so s.gates[k] sa4 si4 sa3 si3 w' (ra'.ext h) (rd'.ext h) (ra.ext h) (rd.ext h))
    obtain ⟨A8, c8, rfl, -, -⟩ := ra.form
    obtain ⟨A9, c9, rfl, -, -⟩ := rd.form
    obtain ⟨B8, d8, rfl, -, -⟩ := ra'.form
    obtain ⟨B9, d9, rfl, -, -⟩ := rd'.form
    have hkc : (k == m) = false := by simpa using hkm
    clear ra rd ra' rd' hxw hxt heq hkt g0 g1 g2 g3 g4 g5 g6 g7 j0 j1 j2 j3 j4 j5 j6 j7
    unfold gta at KG
    generalize s.gates[k] = ga at *
    clear hks
    go_upto_region 11 with fail
    (apply wp_gen2 (w0 := wr) (g0 := w.heap.size) (g1 := w1.heap.size); (focus (exact rowA)); (focus (exact rowA)); (focus (exact extA)); intro W HW hzW Rz_0 Rz_1; (try simp only [lSet, World.size_alloc, size_set, World.heap_drewN, size_drew] at hzW Rz_0 Rz_1); have lz_0 := Rz_0.out.size; have lz_1 := Rz_1.out.size)
    have HK := Lib.hid (fun (w' : World) (h : Ext W w') => And.intro (Row.ext h Rz_0.out).2.1 (And.intro (Row.ext h Rz_1.out).2.1 (And.intro (((HW.out.trans h).cells _ _ hba).trans p0) (And.intro (((HW.out.trans h).cells _ _ hba).trans p1) (And.intro (((HW.out.trans h).cells _ _ hba).trans p2) (And.intro (((HW.out.trans h).cells _ _ hba).trans p3) (And.intro (((HW.out.trans h).cells _ _ hba).trans p4) (And.intro (((HW.out.trans h).cells _ _ hba).trans p5) (And.intro (((HW.out.trans h).cells _ _ hba).trans p6) (And.intro (((HW.out.trans h).cells _ _ hba).trans p7) (And.intro (((HW.out.trans h).cells _ _ hbb).trans u0) (And.intro (((HW.out.trans h).cells _ _ hbb).trans u1) (And.intro (((HW.out.trans h).cells _ _ hbb).trans u2) (And.intro (((HW.out.trans h).cells _ _ hbb).trans u3) (And.intro (((HW.out.trans h).cells _ _ hbb).trans u4) (And.intro (((HW.out.trans h).cells _ _ hbb).trans u5) (And.intro (((HW.out.trans h).cells _ _ hbb).trans u6) ((((HW.out.trans h).cells _ _ hbb).trans u7)))))))))))))))))))
    clear p0 p1 p2 p3 p4 p5 p6 p7 u0 u1 u2 u3 u4 u5 u6 u7
    (refine T_begin (fun w' => Ext W w') 16 (by kernel_rfl) ((Ext.refl _).drew) (fun hS => ?_); simp only [List.length_cons, List.length_nil])
    (refine tkG 0 HK hS ?_; (try simp only [Act.put, lSet]); refine tkG 1 HK hS ?_; (try simp only [Act.put, lSet]); refine tkG 2 HK hS ?_; (try simp only [Act.put, lSet]); refine tkG 3 HK hS ?_; (try simp only [Act.put, lSet]); refine tkG 4 HK hS ?_; (try simp only [Act.put, lSet]); refine tkG 5 HK hS ?_; (try simp only [Act.put, lSet]); refine tkG 6 HK hS ?_; (try simp only [Act.put, lSet]); refine tkG 7 HK hS ?_; (try simp only [Act.put, lSet]); refine tkG 8 HK hS ?_; (try simp only [Act.put, lSet]); refine tkG 9 HK hS ?_; (try simp only [Act.put, lSet]); refine tkG 10 HK hS ?_; (try simp only [Act.put, lSet]); refine tkG 11 HK hS ?_; (try simp only [Act.put, lSet]); refine tkG 12 HK hS ?_; (try simp only [Act.put, lSet]); refine tkG 13 HK hS ?_; (try simp only [Act.put, lSet]))
    clear hS
    refine T_onlyG (i := 14) rfl (by kernel_rfl) (by kernel_rfl) (fun K hK => ?_)
    go_simp
    refine (KG.out _ (by exact extA)).mono ?_
    rintro e w8 ⟨rfl, h8⟩
    have H8 := Lib.hid h8
    clear h8
    (go_wp2_with fail; have hS : Ext W w8 := by exact extA); (refine hK.out _ _ (.inr hS) ?_; clear hK; (try simp only [Act.put, lSet]))
    (refine tkG 15 HK hS ?_; (try simp only [Act.put, lSet]))
    clear HK hS
    refine T_onlyG (i := 16) rfl (by kernel_rfl) (by kernel_rfl) (fun K hK => ?_)
    go_simp
    refine hK.out _ _ (.inl (by kernel_rfl)) ?_
    clear hK
    (try simp only [Act.put, lSet])
    refine T_done (by kernel_rfl) ?_ _
    go_wp2_with fail
    go_roundg (3 - (k + 1))
    case measure => omega
    case rel => exact ⟨k + 1, by omega, by omega, by go_num, HE.out.trans (show Ext wr _ by exact extA)⟩
  ·have hk3 : ¬ (k : Int) < (3 : Int) := by omega
   have hbsr : bs < wr.heap.size := by have := HEX.out.2.size; omega
   have hbtr : bt < wr.heap.size := by have := HEX.out.2.size; omega
   have k0 := ((HW3.out.2.trans HEX.out.2).cells bs _ hbs).trans g0
   have k1 := ((HW3.out.2.trans HEX.out.2).cells bs _ hbs).trans g1
   have k2 := ((HW3.out.2.trans HEX.out.2).cells bs _ hbs).trans g2
   have k3 := ((HW3.out.2.trans HEX.out.2).cells bs _ hbs).trans g3
   have k4 := ((HW3.out.2.trans HEX.out.2).cells bs _ hbs).trans g4
   have k5 := ((HW3.out.2.trans HEX.out.2).cells bs _ hbs).trans g5
   have k6 := ((HW3.out.2.trans HEX.out.2).cells bs _ hbs).trans g6
   have k7 := ((HW3.out.2.trans HEX.out.2).cells bs _ hbs).trans g7
   have m0 := ((H13.out.2.trans HEX.out.2).cells bt _ hbt).trans j0
   have m1 := ((H13.out.2.trans HEX.out.2).cells bt _ hbt).trans j1
   have m2 := ((H13.out.2.trans HEX.out.2).cells bt _ hbt).trans j2
   have m3 := ((H13.out.2.trans HEX.out.2).cells bt _ hbt).trans j3
   have m4 := ((H13.out.2.trans HEX.out.2).cells bt _ hbt).trans j4
   have m5 := ((H13.out.2.trans HEX.out.2).cells bt _ hbt).trans j5
   have m6 := ((H13.out.2.trans HEX.out.2).cells bt _ hbt).trans j6
   have m7 := ((H13.out.2.trans HEX.out.2).cells bt _ hbt).trans j7
   rw [← hseq'] at m2
   obtain ⟨A8, c8, rfl, -, -⟩ := ra1.form
   obtain ⟨A9, c9, rfl, -, -⟩ := rd1.form
   obtain ⟨B8, d8, rfl, -, -⟩ := ra2.form
   obtain ⟨B9, d9, rfl, -, -⟩ := rd2.form
   have HR1 := Lib.hid (And.intro (ra1.ext (HW3.out.2.trans HEX.out.2)) (rd1.ext (HW3.out.2.trans HEX.out.2)))
   have HR2 := Lib.hid (And.intro (ra2.ext (H13.out.2.trans HEX.out.2)) (rd2.ext (H13.out.2.trans HEX.out.2)))
   have HWR := Lib.hid (And.intro trivial (HW3.out.2.trans HEX.out.2))
   have HXT := Lib.hid (And.intro trivial (H13.out.2.trans HEX.out.2))
   clear g0 g1 g2 g3 g4 g5 g6 g7 j0 j1 j2 j3 j4 j5 j6 j7 ra1 rd1 ra2 rd2 hoth H3 H4 H5 H6 HW6 HW
   have hv := HVZ.out
   obtain ⟨n1, n2, n3⟩ := hnz hv
   have n3' := n3 hlt'
   have hvb : (T2 == 0) = false := by simpa using hv
   have KH := Lib.hid (fun (w' : World) (h : Ext wr w') => ref_HasInt s.denied.ids id _ w' (HV.out.dn.ext (HWR.out.2.trans h)))
   rw [n2] at KH
   have hla : gt.alone.length = 0 := by rw [← HGS.out.2]; exact n3'
   have hlb : (TL.taps.length : Int) = (s.ledger.taps.length : Int) + 1 := by omega
   rw [hla] at m3
   clear hze hnz n1 n2 n3 n3' hv k0 k1 k2 k3 k4 k5 k6 k7 m0 m1 m2 m4 m5 m6 m7
   go_wp2_with fail
   refine (KH.out _ (by exact extA)).mono ?_
   rintro e w9 ⟨rfl, rfl⟩
   go_wp2_with fail
   go_ret
   exact ⟨rfl, HWR.out.2.trans (show Ext wr _ by exact extA)⟩
end Go.Proofs.YteojjbhadgkfgaaGreat
