/- Mp: parts of the proofs, laid together. -/
import Derived.Test.YteojjbhadgkfgaaDoorMs
import Derived.Test.YteojjbhadgkfgaaDoorMb
import Derived.Test.YteojjbhadgkfgaaDoorMl
import Derived.Test.YteojjbhadgkfgaaDoorMk
import Derived.Test.YteojjbhadgkfgaaDoorMw
/- The reference's CheckStation. -/
namespace Go.Proofs.YteojjbhadgkfgaaDoor
set_option linter.unusedSimpArgs false
set_option linter.unusedVariables false
set_option maxRecDepth 100000
open Go Go.RowKit Lb

set_option maxHeartbeats 16000000 in
theorem ref_CheckStation (s : St) (x : Sv) (w : World) (hr : RdS w x s) :
  Calls Tryd.prog 8 #[.agg (sta s x)] w fun e w' => e = .returned (.int .i64 (ckSt s)) ∧ Ext w w' := by
 have K1 := Lib.hid (fun (w' : World) (h : Ext w w') => ref_CheckLedger s.ledger.tickets s.ledger.taps s.ledger.verdicts x.s0 x.s1 x.s2 w' (hr.tk.ext h) (hr.tp.ext h) (hr.vd.ext h))
 have K2 := Lib.hid (fun (w' : World) (h : Ext w w') => ref_CheckDenied s.denied x.si w' (hr.dn.ext h))
 have KV := Lib.hid (fun (w' : World) (h : Ext w w') => ref_CheckViews s.views x.sv w' (hr.vw.ext h))
 have HGT := Lib.hid hr.gt
 have HTP := Lib.hid hr.tp
 obtain ⟨⟨tks, taps, vs⟩, ⟨ver, ids⟩, gts, vws⟩ := s
 obtain ⟨s0, s1, s2, si, sg, sv⟩ := x
 obtain ⟨h0, h1, h2, h3, h4, h5⟩ := hr
 simp only at h0 h1 h2 h3 h4 h5 K1 K2 KV HGT HTP
 obtain ⟨A0, c0, rfl, -, -⟩ := h0.form
 obtain ⟨A1, c1, rfl, hc1, hm1⟩ := h1.form
 obtain ⟨A2, c2, rfl, -, -⟩ := h2.form
 obtain ⟨A3, c3, rfl, -, -⟩ := h3.form
 obtain ⟨A4, c4, rfl, hc4, -⟩ := h4.form
 obtain ⟨A5, c5, rfl, -, -⟩ := h5.form
 have hml : taps.length ≤ 9223372036854775807 := by unfold maxLen at hm1; omega
 clear h0 h1 h2 h3 h4 h5 hm1
 unfold ckSt
 simp only
 generalize ckLedger ⟨tks, taps, vs⟩ = e1 at *
 generalize ckDn ⟨ver, ids⟩ = e2 at *
 generalize ckViews vws = e3 at *
 generalize hg : ckGates taps ver 0 gts = e4
 have HG := Lib.hid hg
 clear hg
 generalize hm : gts.length = m at *
 have HM := Lib.hid hm
 clear hm
 generalize hr : (if e1 ≠ 0 then e1 else if e2 ≠ 0 then e2 else if m ≠ 3 then 1 else if e4 ≠ 0 then e4 else e3) = r
 have HR := Lib.hid hr
 clear hr
 unfold sta
 simp only
 go_enter Tryd.func8, Tryd.ntmps8
 go_wp2_with fail
 (refine (K1.out _ (by exact extA)).mono ?_; rintro e w1 ⟨rfl, h1⟩; have H1 := Lib.hid h1; have hz1 := h1.size; clear h1; (try simp only [World.size_alloc, size_set, World.heap_drewN, size_drew] at hz1); apply Row.use (w := w1) (g := w.heap.size); (focus (exact rowA)); intro q1_0 f1_0 l1_0 R1_0; (try simp only [lSet] at q1_0 R1_0))
 by_cases n1 : e1 = 0
 case neg =>
  have HQ := Lib.hid (show e1 = r by rw [← HR.out]; simp [n1])
  have n1' : (e1 == 0) = false := by simpa using n1
  have n1'' : (e1 != 0) = true := by simpa using n1
  go_wp2_with fail
  go_ret
  exact ⟨ret_int HQ.out, (show Ext w _ by exact extA)⟩
 subst n1
 go_wp2_with fail
 (refine (K2.out _ (by exact extA)).mono ?_; rintro e w2 ⟨rfl, h2⟩; have H2 := Lib.hid h2; have hz2 := h2.size; clear h2; (try simp only [World.size_alloc, size_set, World.heap_drewN, size_drew] at hz2); apply Row.use (w := w2) (g := w.heap.size); (focus (exact rowA)); intro q2_0 f2_0 l2_0 R2_0; (try simp only [lSet] at q2_0 R2_0))
 by_cases n2 : e2 = 0
 case neg =>
  have HQ := Lib.hid (show e2 = r by rw [← HR.out]; simp [n2])
  have n2' : (e2 == 0) = false := by simpa using n2
  have n2'' : (e2 != 0) = true := by simpa using n2
  go_wp2_with fail
  go_ret
  exact ⟨ret_int HQ.out, (show Ext w _ by exact extA)⟩
 subst n2
 by_cases n3 : m = 3
 case neg =>
  have HQ := Lib.hid (show 1 = r by rw [← HR.out]; simp [n3])
  have n3' : ((m : Int) == 3) = false := by simpa using (by omega : ¬ (m : Int) = 3)
  have n3'' : ((m : Int) != 3) = true := by simpa using (by omega : ¬ (m : Int) = 3)
  go_wp2_with fail
  go_ret
  exact ⟨ret_int HQ.out, (show Ext w _ by exact extA)⟩
 have HQ := Lib.hid (show (if e4 ≠ 0 then e4 else e3) = r by rw [← HR.out]; simp [n3])
 subst n3
 have hcap : (3 : Int) ≤ (c4 : Int) := by omega
 have HW := Lib.hid (And.intro trivial ((show Ext w w2 by exact extA)))
 clear q1_0 f1_0 l1_0 R1_0 H1 hz1 K1 K2
 go_wp2_with fail
 go_loopg [4] 3 (fun gg s4 wr => ∃ k : Nat, k ≤ 3 ∧ 3 - k ≤ gg ∧ s4 = .int .i64 k ∧ Aside (Ext w2 wr ∧ ckGates taps ver k (gts.drop k) = e4))
 case atStart => exact ⟨0, by omega, by omega, rfl, Ext.refl _, HG.out⟩
 case round =>
  obtain ⟨k, hk, hg, rfl, HA⟩ := hrel
  have HE := Lib.hid HA.out.1
  have HC := Lib.hid HA.out.2
  clear HA
  (apply Row.use (w := wr) (g := w.heap.size); (focus (exact rowA)); intro qr_0 fr_0 lr_0 Rr_0; (try simp only [lSet] at qr_0 Rr_0))
  by_cases hlt : k < 3
  ·have hkl : k < gts.length := by rw [HM.out]; exact hlt
   have hlt' : (k : Int) < 3 := by omega
   have hc := HC.out
   rw [List.drop_eq_getElem_cons hkl, ckGates_cons] at hc
   have hxw := HW.out.2.trans HE.out
   obtain ⟨ba, oa, sa3, si3, hA, hba, ra, rd, p0, p1, p2, p3, p4, p5, p6, p7⟩ := (HGT.out.ext hxw).at_ (n := 3) (c := c4) rfl hkl
   subst hA
   have KG := Lib.hid (fun (w' : World) (h : Ext wr w') => ref_CheckGate gts[k] sa3 si3 w' (ra.ext h) (rd.ext h))
   have HKN := Lib.hid (fun (p : Tp) (h1 : ckGate gts[k] = 0) (h2 : gts[k].id = (k : Int)) => known_eq h1 h2 p)
   have KTW := Lib.hid (fun (p : Tp) (w' : World) (h : Ext wr w') => ref_isTwice gts[k].alone gts[k].alone.length p sa3 w' (Nat.le_refl _) (ra.ext h))
   have hat : atG taps ver k gts[k] = if ckGate gts[k] ≠ 0 then ckGate gts[k] else if gts[k].id ≠ (k : Int) ∨ ver < gts[k].denied.version then 4 else if taps.any (knownP k gts[k]) = true then 6 else 0 := rfl
   generalize atG taps ver k gts[k] = a at *
   obtain ⟨A8, c8, rfl, -, -⟩ := ra.form
   obtain ⟨A9, c9, rfl, -, -⟩ := rd.form
   clear ra rd hxw
   generalize gts[k] = ga at *
   clear hkl
   obtain ⟨y0, y1, y2, al, ⟨gv, gi⟩, y6, y7⟩ := ga
   unfold gta at KG
   simp only at p0 p1 p2 p3 p4 p5 p6 p7 KG HKN hat KTW
   generalize hck : ckGate ⟨y0, y1, y2, al, ⟨gv, gi⟩, y6, y7⟩ = q at *
   have HH := Lib.hid hc
   have HAT := Lib.hid hat
   clear hc hat hck
   go_wp2_with fail
   refine (KG.out _ (by exact extA)).mono ?_
   (rintro e w3 ⟨rfl, h3⟩; have H3 := Lib.hid h3; have hz3 := h3.size; clear h3; (try simp only [World.size_alloc, size_set, World.heap_drewN, size_drew] at hz3); apply Row.use (w := w3) (g := w.heap.size); (focus (exact rowA)); intro q3_0 f3_0 l3_0 R3_0; (try simp only [lSet] at q3_0 R3_0); apply Row.use (w := w3) (g := wr.heap.size); (focus (exact rowA)); intro q3_1 f3_1 l3_1 R3_1; (try simp only [lSet] at q3_1 R3_1))
   by_cases hq : q = 0
   case neg =>
    have hqb : (q == 0) = false := by simpa using hq
    have hqc : (q != 0) = true := by simpa using hq
    have HF := Lib.hid (show q = r by
     have h1 : a = q := by rw [HAT.out, if_pos hq]
     have := HH.out
     rw [h1, if_pos hq] at this
     rw [← HQ.out, ← this, if_pos hq])
    go_wp2_with fail
    go_ret
    exact ⟨ret_int HF.out, HW.out.2.trans (show Ext w2 _ by exact extA)⟩
   subst hq
   have HF4 := Lib.hid (fun (h : a = 4) => (show (4 : Int) = r by
    have := HH.out
    rw [h, if_pos (by decide)] at this
    rw [← HQ.out, ← this]
    rfl))
   have HF6 := Lib.hid (fun (h : a = 6) => (show (6 : Int) = r by
    have := HH.out
    rw [h, if_pos (by decide)] at this
    rw [← HQ.out, ← this]
    rfl))
   by_cases hid : y0 = (k : Int)
   case neg =>
    have hidb : (y0 != (k : Int)) = true := by simpa using hid
    have HF := Lib.hid (HF4.out (by rw [HAT.out]; simp [hid]))
    go_wp2_with fail
    go_ret
    exact ⟨ret_int HF.out, HW.out.2.trans (show Ext w2 _ by exact extA)⟩
   have hidb : (y0 != (k : Int)) = false := by simpa using hid
   by_cases hv : ver < gv
   ·have hvb : decide (gv > ver) = true := by simpa using hv
    have hvc : decide (ver < gv) = true := by simpa using hv
    have HF := Lib.hid (HF4.out (by rw [HAT.out]; simp [hv]))
    go_wp2_with fail
    go_ret
    exact ⟨ret_int HF.out, HW.out.2.trans (show Ext w2 _ by exact extA)⟩
   have hvb : decide (gv > ver) = false := by simpa using hv
   have hvc : decide (ver < gv) = false := by simpa using hv
   have HAN := Lib.hid (show a = if taps.any (knownP k ⟨y0, y1, y2, al, ⟨gv, gi⟩, y6, y7⟩) = true then 6 else 0 by rw [HAT.out]; simp [hid, hv])
   have HK2 := Lib.hid (fun (p : Tp) => HKN.out p rfl hid)
   clear HKN HF4 p0 p1 p2 p3 p4 p5 p6 p7
   generalize hkn : knownP k ⟨y0, y1, y2, al, ⟨gv, gi⟩, y6, y7⟩ = kn at *
   clear hkn
   generalize hz : taps.any kn = z at *
   have HZ := Lib.hid hz
   clear hz
   obtain ⟨wo, rfl⟩ : ∃ wo : World, wo = wr := ⟨_, rfl⟩
   have HX3 := Lib.hid (And.intro trivial (show Ext w w3 from HW.out.2.trans (show Ext w2 w3 by exact extA)))
   have HO3 := Lib.hid (And.intro trivial (show Ext wo w3 by exact extA))
   have H23 := Lib.hid (And.intro trivial (show Ext w2 w3 by exact extA))
   clear qr_0 fr_0 lr_0 Rr_0
   go_wp2_with fail
   go_loopg [7] taps.length (fun gg s7 wr => ∃ j : Nat, j ≤ taps.length ∧ taps.length - j ≤ gg ∧ s7 = .int .i64 j ∧ Aside (Ext w3 wr ∧ (taps.drop j).any kn = z))
   case atStart => exact ⟨0, by omega, by omega, rfl, Ext.refl _, HZ.out⟩
   case round =>
    obtain ⟨j, hj, hgj, rfl, HA⟩ := hrel
    have HEJ := Lib.hid HA.out.1
    have HCJ := Lib.hid HA.out.2
    clear HA
    (apply Row.use (w := wr) (g := w.heap.size); (focus (exact rowA)); intro qs_0 fs_0 ls_0 Rs_0; (try simp only [lSet] at qs_0 Rs_0); apply Row.use (w := wr) (g := wo.heap.size); (focus (exact rowA)); intro qs_1 fs_1 ls_1 Rs_1; (try simp only [lSet] at qs_1 Rs_1))
    by_cases hltj : j < taps.length
    ·have hltj' : (j : Int) < (taps.length : Int) := by omega
     have hcj := HCJ.out
     rw [List.drop_eq_getElem_cons hltj, List.any_cons] at hcj
     have hcc1 : (j : Int) < (c1 : Int) := by omega
     obtain ⟨bt, ot, hA1, hbt, t0, t1, t2, t3, t4⟩ := (HTP.out.ext (HX3.out.2.trans HEJ.out)).tp_at (n := taps.length) (c := c1) rfl hltj
     subst hA1
     have KT2 := Lib.hid (fun (w' : World) (h : Ext w3 w') => KTW.out taps[j] w' (HO3.out.2.trans h))
     have hk2 := HK2.out taps[j]
     generalize taps[j] = p at *
     obtain ⟨x0, x1, x2, x3, x4⟩ := p
     simp only [show tpc ⟨x0, x1, x2, x3, x4⟩ = #[.int .i64 x0, .int .i64 x1, .int .i64 x2, .int .i64 x3, .int .i64 x4] from rfl, List.take_length] at KT2
     simp only at t0 t1 t2 t3 t4 hk2
     generalize al.any (sameNo ⟨x0, x1, x2, x3, x4⟩) = tw at *
     generalize kn ⟨x0, x1, x2, x3, x4⟩ = kp at *
     have HKP := Lib.hid hk2
     have HCP := Lib.hid hcj
     clear hk2 hcj
     by_cases hgt : x1 = (k : Int)
     ·subst hgt
      have hgb : ((k : Int) == (k : Int)) = true := by simp
      by_cases hs : y2 < x2
      ·have hsb : decide (x2 > y2) = true := by simpa using hs
       have hsc : decide (y2 < x2) = true := by simpa using hs
       have HF := Lib.hid (HF6.out (by
        have h1 := HKP.out
        rw [hgb, hsc] at h1
        have h2 := HCP.out
        rw [← h1] at h2
        rw [HAN.out, ← h2]
        rfl))
       go_wp2_with fail
       go_ret
       exact ⟨ret_int HF.out, HX3.out.2.trans (show Ext w3 _ by exact extA)⟩
      ·have hsb : decide (x2 > y2) = false := by simpa using hs
       have hsc : decide (y2 < x2) = false := by simpa using hs
       go_wp2_with fail
       refine (KT2.out _ (by exact extA)).mono ?_
       (rintro e w5 ⟨rfl, h5⟩; have H5 := Lib.hid h5; have hz5 := h5.size; clear h5; (try simp only [World.size_alloc, size_set, World.heap_drewN, size_drew] at hz5); apply Row.use (w := w5) (g := w.heap.size); (focus (exact rowA)); intro q5_0 f5_0 l5_0 R5_0; (try simp only [lSet] at q5_0 R5_0); apply Row.use (w := w5) (g := wo.heap.size); (focus (exact rowA)); intro q5_1 f5_1 l5_1 R5_1; (try simp only [lSet] at q5_1 R5_1); apply Row.use (w := w5) (g := wr.heap.size); (focus (exact rowA)); intro q5_2 f5_2 l5_2 R5_2; (try simp only [lSet] at q5_2 R5_2))
       cases tw
       ·have HN := Lib.hid (show (taps.drop (j + 1)).any kn = z by
         have h1 := HKP.out
         rw [hgb, hsc] at h1
         have h2 := HCP.out
         rw [← h1] at h2
         exact h2)
        go_wp2_with fail
        go_roundg (taps.length - (j + 1))
        case measure => omega
        case rel => exact ⟨j + 1, by omega, by omega, by go_num, (show Ext w3 _ by exact extA), HN.out⟩
       ·have HF := Lib.hid (HF6.out (by
         have h1 := HKP.out
         rw [hgb, hsc] at h1
         have h2 := HCP.out
         rw [← h1] at h2
         rw [HAN.out, ← h2]
         rfl))
        go_wp2_with fail
        go_ret
        exact ⟨ret_int HF.out, HX3.out.2.trans (show Ext w3 _ by exact extA)⟩
     ·have hgb : (x1 == (k : Int)) = false := by simpa using hgt
      have HN := Lib.hid (show (taps.drop (j + 1)).any kn = z by
       have h1 := HKP.out
       rw [hgb] at h1
       have h2 := HCP.out
       rw [← h1] at h2
       exact h2)
      go_wp2_with fail
      go_roundg (taps.length - (j + 1))
      case measure => omega
      case rel => exact ⟨j + 1, by omega, by omega, by go_num, (show Ext w3 _ by exact extA), HN.out⟩
    ·have hgej : ¬ (j : Int) < (taps.length : Int) := by omega
     have HN := Lib.hid (show ckGates taps ver (k + 1) (gts.drop (k + 1)) = e4 by
      have hd : taps.drop j = [] := List.drop_eq_nil_of_le (by omega)
      have h1 := HCJ.out
      rw [hd] at h1
      have h2 : a = 0 := by rw [HAN.out, ← h1]; rfl
      have h3 := HH.out
      rw [h2] at h3
      simpa using h3)
     go_wp2_with fail
     go_roundg (3 - (k + 1))
     case measure => omega
     case rel => exact ⟨k + 1, by omega, by omega, by go_num, H23.out.2.trans (show Ext w3 _ by exact extA), HN.out⟩
  ·have hge : ¬ (k : Int) < 3 := by omega
   have HF := Lib.hid (show e3 = r by
    have hd : gts.drop k = [] := List.drop_eq_nil_of_le (by rw [HM.out]; omega)
    have := HC.out
    rw [hd] at this
    rw [← HQ.out, ← this]
    simp [ckGates])
   go_wp2_with fail
   refine (KV.out _ (HW.out.2.trans HE.out)).mono ?_
   (rintro e w3 ⟨rfl, h3⟩; have H3 := Lib.hid h3; have hz3 := h3.size; clear h3; (try simp only [World.size_alloc, size_set, World.heap_drewN, size_drew] at hz3); apply Row.use (w := w3) (g := w.heap.size); (focus (exact rowA)); intro q3_0 f3_0 l3_0 R3_0; (try simp only [lSet] at q3_0 R3_0))
   go_wp2_with fail
   go_ret
   exact ⟨ret_int HF.out, HW.out.2.trans (show Ext w2 _ by exact extA)⟩
end Go.Proofs.YteojjbhadgkfgaaDoor
