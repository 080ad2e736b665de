/- Mad: parts of the proofs, laid together. -/
import Derived.Test.YteojjbhadgkfgaaDoorMac
import Derived.Test.YteojjbhadgkfgaaDoorMb
import Derived.Test.YteojjbhadgkfgaaDoorMp
/- The law ReportTells. -/
namespace Go.Proofs.YteojjbhadgkfgaaDoor
set_option linter.unusedSimpArgs false
set_option linter.unusedVariables false
set_option maxRecDepth 100000
open Go Go.RowKit Lb

set_option maxHeartbeats 16000000 in
theorem law_ReportTells (l : Ld) (k0 k1 k2 : Value) (id : Int) (s : St) (x : Sv) (w : World) (HT : TabE w) (hr0 : RdL 6 tkc w k0 l.tickets) (hr1 : RdL 5 tpc w k1 l.taps) (hr2 : RdL 1 inc w k2 l.verdicts) (hr : RdS w x s) :
  Calls Tryd.prog 3 #[.agg #[k0, k1, k2], .int .i64 id, .agg (sta s x)] w fun e w' => e = .returned (.bool true) ∧ Ext w w' := by
 obtain ⟨tks, taps, vs⟩ := l
 simp only at hr0 hr1 hr2
 have KL := Lib.hid (fun (w' : World) (h : Ext w w') => report_Line tks taps vs k0 k1 k2 id w' (HT.ext h) (hr0.ext h) (hr1.ext h) (hr2.ext h))
 have KT := Lib.hid (fun (w' : World) (h : Ext w w') => report_Text s x w' (HT.ext h) (hr.ext h))
 have KCL := Lib.hid (fun (w' : World) (h : Ext w w') => ref_CheckLedger tks taps vs k0 k1 k2 w' (hr0.ext h) (hr1.ext h) (hr2.ext h))
 have KCS := Lib.hid (fun (w' : World) (h : Ext w w') => ref_CheckStation s x w' (hr.ext h))
 have KTA := Lib.hid (fun (w' : World) (h : Ext w w') => ref_TicketAt tks id k0 w' (hr0.ext h))
 have KLO := Lib.hid (fun (k : Nat) (hk : k < tks.length) (w' : World) (h : Ext w w') (hck : ckLedger ⟨tks, taps, vs⟩ = 0) => ref_LineOf tks taps vs k0 k1 k2 k hk w' hck (hr0.ext h) (hr1.ext h) (hr2.ext h))
 have KTO := Lib.hid (fun (w' : World) (h : Ext w w') (hck : ckSt s = 0) => ref_TextOf s x w' (hr.ext h) hck)
 have KBG := Lib.hid (fun (w' : World) (h : Ext w w') => law_reportBegun w' (HT.ext h))
 have hix := ixBy_ticket tks id
 have hla : lineAll ⟨tks, taps, vs⟩ id = if ckLedger ⟨tks, taps, vs⟩ ≠ 0 then ([], ckLedger ⟨tks, taps, vs⟩) else match ticketOf tks id with
  | none => ([], 5)
  | some t => (lineR ⟨tks, taps, vs⟩ t, 0) := rfl
 have hta : textAll s = if ckSt s ≠ 0 then ([], ckSt s) else (textR s, 0) := rfl
 obtain ⟨A0, c0, e0, -, -⟩ := hr.tk.form
 obtain ⟨A1, c1, e1, -, -⟩ := hr.tp.form
 obtain ⟨A2, c2, e2, -, -⟩ := hr.vd.form
 obtain ⟨A3, c3, e3, -, -⟩ := hr.dn.form
 obtain ⟨A4, c4, e4, -, -⟩ := hr.gt.form
 obtain ⟨A5, c5, e5, -, -⟩ := hr.vw.form
 obtain ⟨s0, s1, s2, si, sg, sv⟩ := x
 simp only at e0 e1 e2 e3 e4 e5
 subst e0 e1 e2 e3 e4 e5
 obtain ⟨B0, d0, rfl, -, -⟩ := hr0.form
 obtain ⟨B1, d1, rfl, -, -⟩ := hr1.form
 obtain ⟨B2, d2, rfl, -, -⟩ := hr2.form
 clear hr hr0 hr1 hr2 HT
 unfold sta at KT KCS KTO ⊢
 simp only at KT KCS KTO ⊢
 generalize lineAll ⟨tks, taps, vs⟩ id = la at *
 generalize textAll s = ta at *
 obtain ⟨la1, la2⟩ := la
 obtain ⟨ta1, ta2⟩ := ta
 simp only at KL KT
 have HLA := Lib.hid hla
 have HTA := Lib.hid hta
 have HIX := Lib.hid hix
 clear hla hta hix
 have hb1 := bs_self (bs la1)
 have hb2 := bs_self (bs ta1)
 generalize ckLedger ⟨tks, taps, vs⟩ = q at *
 generalize ckSt s = r at *
 go_enter Tryd.func3, Tryd.ntmps3
 go_wp2_with fail
 (refine (KL.out _ (by exact extA)).mono ?_; rintro e w1 ⟨rfl, h1⟩; have H1 := Lib.hid h1; have hz1 := h1.size; clear h1; (try simp only [World.size_alloc, size_set, World.heap_drewN, size_drew] at hz1); apply Row.use (w := w1) (g := w.heap.size); (focus (exact rowA)); intro q1_0 f1_0 l1_0 R1_0; (try simp only [lSet] at q1_0 R1_0); apply Row.use (w := w1) (g := w.heap.size + 1); (focus (exact rowA)); intro q1_1 f1_1 l1_1 R1_1; (try simp only [lSet] at q1_1 R1_1))
 go_wp2_with fail
 (refine (KT.out _ (by exact extA)).mono ?_; rintro e w2 ⟨rfl, h2⟩; have H2 := Lib.hid h2; have hz2 := h2.size; clear h2; (try simp only [World.size_alloc, size_set, World.heap_drewN, size_drew] at hz2); apply Row.use (w := w2) (g := w.heap.size); (focus (exact rowA)); intro q2_0 f2_0 l2_0 R2_0; (try simp only [lSet] at q2_0 R2_0); apply Row.use (w := w2) (g := w.heap.size + 1); (focus (exact rowA)); intro q2_1 f2_1 l2_1 R2_1; (try simp only [lSet] at q2_1 R2_1))
 go_upto_region 3 with fail
 (apply wp_gen2 (w0 := w) (g0 := w.heap.size) (g1 := w.heap.size + 1); (focus (exact rowA)); (focus (exact rowA)); (focus (exact extA)); intro W HW hzW Ra_0 Ra_1; (try simp only [lSet, World.size_alloc, size_set, World.heap_drewN, size_drew] at hzW Ra_0 Ra_1); have la_0 := Ra_0.out.size; have la_1 := Ra_1.out.size)
 have HWW := Lib.hid (And.intro trivial HW.out)
 have HK := Lib.hid (fun (w' : World) (h : Ext W w') => And.intro (Row.ext h Ra_0.out).2.1 ((Row.ext h Ra_1.out).2.1))
 (refine T_begin (fun w' => Ext W w') 5 (by kernel_rfl) ((Ext.refl _).drew) (fun hS => ?_); simp only [List.length_cons, List.length_nil])
 (refine tkA 0 HK hS ?_; (try simp only [Act.put, lSet]); refine tkA 2 HK hS ?_; (try simp only [Act.put, lSet]))
 (refine T_only (i := 1) rfl (by kernel_rfl) rfl (fun K hK => ?_); go_simp)
 refine (KCL.out _ (HWW.out.2.trans hS)).mono ?_
 rintro e w3 ⟨rfl, h1⟩
 have H3 := Lib.hid h1
 clear h1 hS
 (go_wp2_with fail; have hS : Ext W w3 := by exact extA); (refine hK.out _ _ (.inr hS) ?_; clear hK; (try simp only [Act.put, lSet]))
 (refine T_only (i := 3) rfl (by kernel_rfl) rfl (fun K hK => ?_); go_simp)
 refine (KCS.out _ (HWW.out.2.trans hS)).mono ?_
 rintro e w4 ⟨rfl, h1⟩
 have H4 := Lib.hid h1
 clear h1 hS
 (go_wp2_with fail; have hS : Ext W w4 := by exact extA); (refine hK.out _ _ (.inr hS) ?_; clear hK; (try simp only [Act.put, lSet]))
 ((refine T_only (i := 4) rfl (by kernel_rfl) rfl (fun K hK => ?_); go_simp; refine hK.out _ _ (.inr hS) ?_; clear hK; (try simp only [Act.put, lSet])))
 (refine T_only (i := 5) rfl (by kernel_rfl) rfl (fun K hK => ?_); go_simp; refine hK.out _ _ (.inl (by kernel_rfl)) ?_; clear hK; (try simp only [Act.put, lSet]); refine T_done (by kernel_rfl) ?_ _)
 have HE4 := Lib.hid (And.intro trivial (HWW.out.2.trans (show Ext W w4 by exact extA)))
 have HB4 := Lib.hid (And.intro (show Row w4 w.heap.size _ from by exact rowA) (show Row w4 (w.heap.size + 1) _ from by exact rowA))
 apply Row.use HB4.out.1; intro qa fa la Ra
 apply Row.use HB4.out.2; intro qb fb lb Rb
 clear HK hS KL KT KCL KCS Ra_0 Ra_1 HW
 go_upto_if 32 with fail
 go_cut [11, 13] (fun s11 s13 wx => s11 = .int .i64 la2 ∧ s13 = .string (bs la1) ∧ Aside (Ext w4 wx))
 case first =>
  have hla := HLA.out
  clear HLA HTA KTO KBG
  by_cases hq : q = 0
  ·subst hq
   rw [if_neg (by simp)] at hla
   rcases HIX.out with ⟨hix, htn⟩ | ⟨k, hk, hix, htn⟩
   ·rw [hix] at KTA
    rw [htn] at hla
    obtain ⟨rfl, rfl⟩ : la1 = [] ∧ la2 = 5 := by simpa using hla
    clear hla HIX hix htn KLO
    go_wp2_with fail
    (refine (KTA.out _ (HE4.out.2.trans (by exact extA))).mono ?_; rintro e w5 ⟨rfl, h5⟩; have H5 := Lib.hid h5; have hz5 := h5.size; clear h5; (try simp only [World.size_alloc, size_set, World.heap_drewN, size_drew] at hz5))
    go_wp2_with fail
    go_meet
    case rel => exact ⟨rfl, rfl, (show Ext w4 _ by exact extA)⟩
   ·rw [hix] at KTA
    rw [htn] at hla
    obtain ⟨rfl, rfl⟩ : la1 = lineR ⟨tks, taps, vs⟩ tks[k] ∧ la2 = 0 := by simpa using hla
    have KL2 := Lib.hid (fun (w' : World) (h : Ext w w') => KLO.out k hk w' h rfl)
    generalize lineR ⟨tks, taps, vs⟩ tks[k] = Li at *
    have hkn : ¬ ((k : Int) < 0) := by omega
    have hkd : decide ((k : Int) < 0) = false := by simp
    clear hla HIX hix htn KLO
    go_wp2_with fail
    (refine (KTA.out _ (HE4.out.2.trans (by exact extA))).mono ?_; rintro e w5 ⟨rfl, h5⟩; have H5 := Lib.hid h5; have hz5 := h5.size; clear h5; (try simp only [World.size_alloc, size_set, World.heap_drewN, size_drew] at hz5); apply Row.use (w := w5) (g := w.heap.size); (focus (exact rowA)); intro q5_0 f5_0 l5_0 R5_0; (try simp only [lSet] at q5_0 R5_0))
    go_wp2_with fail
    (refine (KL2.out _ (HE4.out.2.trans (by exact extA))).mono ?_; rintro e w6 ⟨rfl, h6⟩; have H6 := Lib.hid h6; have hz6 := h6.size; clear h6; (try simp only [World.size_alloc, size_set, World.heap_drewN, size_drew] at hz6))
    go_wp2_with fail
    go_meet
    case rel => exact ⟨rfl, rfl, (show Ext w4 _ by exact extA)⟩
  ·have hqb : (q == 0) = false := by simpa using hq
   rw [if_pos hq] at hla
   obtain ⟨rfl, rfl⟩ : la1 = [] ∧ la2 = q := by simpa using hla
   clear hla hq KLO KTA
   go_wp2_with fail
   go_meet
   case rel => exact ⟨rfl, rfl, Ext.refl _⟩
 case rest =>
  obtain ⟨rfl, rfl, HX⟩ := hcut
  obtain ⟨w7, rfl⟩ : ∃ w7 : World, w7 = wc := ⟨_, rfl⟩
  have H7 := Lib.hid HX.out
  have HE7 := Lib.hid (And.intro trivial (HE4.out.2.trans HX.out))
  (apply Row.use (w := w7) (g := w.heap.size); (focus (exact rowA)); intro q7_0 f7_0 l7_0 R7_0; (try simp only [lSet] at q7_0 R7_0); apply Row.use (w := w7) (g := w.heap.size + 1); (focus (exact rowA)); intro q7_1 f7_1 l7_1 R7_1; (try simp only [lSet] at q7_1 R7_1))
  clear HX HLA HIX KTA KLO qa fa la Ra qb fb lb Rb HB4 HE4 H3 H4
  go_upto_if 43 with fail
  go_cut [14] (fun s14 wx => s14 = .string (bs ta1) ∧ Aside (Ext w7 wx))
  case first =>
   have hta := HTA.out
   clear HTA KBG
   by_cases hr : r = 0
   ·subst hr
    rw [if_neg (by simp)] at hta
    obtain ⟨rfl, rfl⟩ : ta1 = textR s ∧ ta2 = 0 := by simpa using hta
    have KT2 := Lib.hid (fun (w' : World) (h : Ext w w') => KTO.out w' h rfl)
    generalize textR s = Te at *
    clear hta KTO
    go_wp2_with fail
    (refine (KT2.out _ (HE7.out.2.trans (by exact extA))).mono ?_; rintro e w8 ⟨rfl, h8⟩; have H8 := Lib.hid h8; have hz8 := h8.size; clear h8; (try simp only [World.size_alloc, size_set, World.heap_drewN, size_drew] at hz8))
    go_wp2_with fail
    go_meet
    case rel => exact ⟨rfl, (show Ext w7 _ by exact extA)⟩
   ·have hrb : (r == 0) = false := by simpa using hr
    rw [if_pos hr] at hta
    obtain ⟨rfl, rfl⟩ : ta1 = [] ∧ ta2 = r := by simpa using hta
    clear hta hr KTO
    go_wp2_with fail
    go_meet
    case rel => exact ⟨rfl, Ext.refl _⟩
  case rest =>
   obtain ⟨rfl, HX⟩ := hcut
   obtain ⟨w8, rfl⟩ : ∃ w8 : World, w8 = wc := ⟨_, rfl⟩
   have H8 := Lib.hid HX.out
   have HE8 := Lib.hid (And.intro trivial (HE7.out.2.trans HX.out))
   have hrt : ta2 = r := by
    have hta := HTA.out
    by_cases hr : r = 0
    ·subst hr
     rw [if_neg (by simp)] at hta
     simp at hta
     exact hta.2
    ·rw [if_pos hr] at hta
     simp at hta
     exact hta.2
   subst hrt
   clear HX HTA KTO q7_0 f7_0 l7_0 R7_0 q7_1 f7_1 l7_1 R7_1
   go_wp2_with fail
   (refine (KBG.out _ (HE8.out.2.trans (by exact extA))).mono ?_; rintro e w9 ⟨rfl, h9⟩; have H9 := Lib.hid h9; have hz9 := h9.size; clear h9; (try simp only [World.size_alloc, size_set, World.heap_drewN, size_drew] at hz9))
   go_wp2_with fail
   go_ret
   exact ⟨rfl, HE8.out.2.trans (show Ext w8 _ by exact extA)⟩
end Go.Proofs.YteojjbhadgkfgaaDoor
