/- LeadTells and LeadNone: the walks. -/
import Derived.Test.YthollackhkiofaaLeadA
namespace Go.Proofs.Ythollackhkiofaa
set_option linter.unusedSimpArgs false
set_option linter.unusedVariables false
set_option maxRecDepth 100000
open Go Go.RowKit Lb

/-- Views beside their errno are what they must be. -/
theorem views_ok (a b : List Vw) (x : Int) (s u : Value) (w : World) (hr : RdL 3 vwc w s a) (hs : RdL 3 vwc w u b) (h : a = if x ≠ 0 then [] else b) :
    Calls Try.prog 23 #[s, .int .i64 x, .int .i64 x, u] w fun e w' => e = .returned (.bool true) ∧ Ext w w' := by
  have h1 := law_viewsAre a b x x s u w hr hs
  rw [show (x == x && a == (if x ≠ 0 then [] else b)) = true from by rw [← h, Bool.and_eq_true, beq_iff_eq, beq_iff_eq]; exact ⟨rfl, rfl⟩] at h1
  exact h1
theorem win_err {l : List Vw} {who : Int} (h : (winV l who).2.2 ≠ 0) : (winV l who).1 = [] := by
  unfold winV at h ⊢
  split
  · rfl
  · rename_i h1
    rw [if_neg h1] at h
    split
    · rename_i h2; rw [if_pos h2] at h; simp at h
    · rename_i h2
      rw [if_neg h2] at h
      split
      · rfl
      · rename_i h3; rw [if_neg h3] at h; simp at h

set_option maxHeartbeats 8000000 in
theorem law_LeadTells (l : List Vw) (v : Value) (who : Int) (up : Bool) (w : World) (hr : RdL 3 vwc w v l) :
    Calls Try.prog 4 #[v, .int .i64 who, .bool up] w fun e w' => e = .returned (.bool true) ∧ Ext w w' := by
  have HN := Lib.hid (fun (w' : World) (h : Ext w w') => lead_Now l v w' (hr.ext h))
  have HW := Lib.hid (fun (w' : World) (h : Ext w w') => lead_Win l v who w' (hr.ext h))
  have HS := Lib.hid (fun (w' : World) (h : Ext w w') => lead_Set l v who up w' (hr.ext h))
  have HC := Lib.hid (fun (w' : World) (h : Ext w w') => ref_CheckViews l v w' (hr.ext h))
  have HK := Lib.hid (fun (w' : World) (h : Ext w w') => lead_Check l v w' (hr.ext h))
  by_cases hd : ckViews l = 0
  · have HRW := Lib.hid (fun (w' : World) (h : Ext w w') => ref_WhoOf l v w' (hr.ext h) hd)
    have HRN := Lib.hid (fun (w' : World) (h : Ext w w') => ref_WinOf l v who w' (hr.ext h) hd)
    have HRS := Lib.hid (fun (w' : World) (h : Ext w w') => ref_SetOf l v who up w' (hr.ext h) hd)
    rw [show nowAll l = ((whoV l).1, (whoV l).2, 0) from by unfold nowAll; rw [if_neg (by rw [hd]; decide)]] at HN
    rw [show winAll l who = winV l who from by unfold winAll; rw [if_neg (by rw [hd]; decide)]] at HW
    rw [show setAll l who up = setV l who up from by unfold setAll; rw [if_neg (by rw [hd]; decide)]] at HS
    rw [hd] at HC HK
    have hwe := @win_err l who
    have hse := @setV_err l who up
    generalize whoV l = X at *
    generalize winV l who = Y at *
    generalize setV l who up = Z at *
    obtain ⟨x1, x2⟩ := X
    obtain ⟨y1, y2, y3⟩ := Y
    obtain ⟨z1, z2⟩ := Z
    simp only at *
    have HY := Lib.hid (show y1 = if y3 ≠ 0 then [] else y1 by
      by_cases h : y3 = 0
      · rw [if_neg (by simpa using h)]
      · rw [if_pos h]; exact hwe h)
    have HZ := Lib.hid (show z1 = if z2 ≠ 0 then [] else z1 by
      by_cases h : z2 = 0
      · rw [if_neg (by simpa using h)]
      · rw [if_pos h]; exact hse h)
    clear hwe hse hd
    obtain ⟨A, c, rfl, -, -⟩ := hr.form
    clear hr
    go_enter Try.func4, Try.ntmps4
    go_wp2_with fail
    (refine (HN.out _ (by repeat (first | (with_reducible exact Ext.refl _) | (with_reducible refine Ext.alloc ?_ _) | (with_reducible apply Ext.setC; focus (simp <;> omega)) | (with_reducible refine Ext.drew ?_) | (with_reducible refine Ext.drewN ?_ _) | (with_reducible refine Ext.trans ?_ (Hid.out ‹Hid (Ext _ _)›))))).mono ?_; rintro e w1 ⟨rfl, h1⟩; have H1 := Lib.hid h1; have hz1 := h1.size; clear h1; (try simp only [World.size_alloc, size_set, World.heap_drewN, size_drew] at hz1))
    go_wp2_with fail
    (refine (HW.out _ (by repeat (first | (with_reducible exact Ext.refl _) | (with_reducible refine Ext.alloc ?_ _) | (with_reducible apply Ext.setC; focus (simp <;> omega)) | (with_reducible refine Ext.drew ?_) | (with_reducible refine Ext.drewN ?_ _) | (with_reducible refine Ext.trans ?_ (Hid.out ‹Hid (Ext _ _)›))))).mono ?_; rintro e w2 ⟨s2, rfl, h2, ho2⟩; obtain ⟨A2, c2, rfl⟩ := ho2.form; have H2 := Lib.hid h2; have HO2 := Lib.hid (OwnL.rd ho2 vwc_size); clear h2 ho2)
    go_wp2_with fail
    (refine (HS.out _ (by repeat (first | (with_reducible exact Ext.refl _) | (with_reducible refine Ext.alloc ?_ _) | (with_reducible apply Ext.setC; focus (simp <;> omega)) | (with_reducible refine Ext.drew ?_) | (with_reducible refine Ext.drewN ?_ _) | (with_reducible refine Ext.trans ?_ (Hid.out ‹Hid (Ext _ _)›))))).mono ?_; rintro e w3 ⟨s3, rfl, h3, ho3⟩; obtain ⟨A3, c3, rfl⟩ := ho3.form; have H3 := Lib.hid h3; have HO3 := Lib.hid (OwnL.rd ho3 vwc_size); clear h3 ho3)
    go_wp2_with fail
    (refine (HC.out _ (by repeat (first | (with_reducible exact Ext.refl _) | (with_reducible refine Ext.alloc ?_ _) | (with_reducible apply Ext.setC; focus (simp <;> omega)) | (with_reducible refine Ext.drew ?_) | (with_reducible refine Ext.drewN ?_ _) | (with_reducible refine Ext.trans ?_ (Hid.out ‹Hid (Ext _ _)›))))).mono ?_; rintro e w4 ⟨rfl, h4⟩; have H4 := Lib.hid h4; have hz4 := h4.size; clear h4; (try simp only [World.size_alloc, size_set, World.heap_drewN, size_drew] at hz4))
    go_wp2_with fail
    (refine (HRW.out _ (by repeat (first | (with_reducible exact Ext.refl _) | (with_reducible refine Ext.alloc ?_ _) | (with_reducible apply Ext.setC; focus (simp <;> omega)) | (with_reducible refine Ext.drew ?_) | (with_reducible refine Ext.drewN ?_ _) | (with_reducible refine Ext.trans ?_ (Hid.out ‹Hid (Ext _ _)›))))).mono ?_; rintro e w5 ⟨rfl, h5⟩; have H5 := Lib.hid h5; have hz5 := h5.size; clear h5; (try simp only [World.size_alloc, size_set, World.heap_drewN, size_drew] at hz5))
    go_wp2_with fail
    refine (HRN.out _ (by repeat (first | (with_reducible exact Ext.refl _) | (with_reducible refine Ext.alloc ?_ _) | (with_reducible apply Ext.setC; focus (simp <;> omega)) | (with_reducible refine Ext.drew ?_) | (with_reducible refine Ext.drewN ?_ _) | (with_reducible refine Ext.trans ?_ (Hid.out ‹Hid (Ext _ _)›))))).mono ?_
    rintro e w6 ⟨s6, rfl, h6, ho6⟩
    obtain ⟨A6, c6, rfl, -, -⟩ := ho6.form
    have H6 := Lib.hid h6
    have HO6 := Lib.hid ho6
    clear h6 ho6
    go_wp2_with fail
    (refine (HRS.out _ (by repeat (first | (with_reducible exact Ext.refl _) | (with_reducible refine Ext.alloc ?_ _) | (with_reducible apply Ext.setC; focus (simp <;> omega)) | (with_reducible refine Ext.drew ?_) | (with_reducible refine Ext.drewN ?_ _) | (with_reducible refine Ext.trans ?_ (Hid.out ‹Hid (Ext _ _)›))))).mono ?_; rintro e w7 ⟨s7, rfl, h7, ho7⟩; obtain ⟨A7, c7, rfl⟩ := ho7.form; have H7 := Lib.hid h7; have HO7 := Lib.hid (OwnL.rd ho7 vwc_size); clear h7 ho7)
    go_wp2_with fail
    (refine (law_leadBegun _).mono ?_; rintro e w8 ⟨rfl, h8⟩; have H8 := Lib.hid h8; have hz8 := h8.size; clear h8; (try simp only [World.size_alloc, size_set, World.heap_drewN, size_drew] at hz8))
    go_wp2_with fail
    (refine (HK.out _ (by repeat (first | (with_reducible exact Ext.refl _) | (with_reducible refine Ext.alloc ?_ _) | (with_reducible apply Ext.setC; focus (simp <;> omega)) | (with_reducible refine Ext.drew ?_) | (with_reducible refine Ext.drewN ?_ _) | (with_reducible refine Ext.trans ?_ (Hid.out ‹Hid (Ext _ _)›))))).mono ?_; rintro e w9 ⟨rfl, h9⟩; have H9 := Lib.hid h9; have hz9 := h9.size; clear h9; (try simp only [World.size_alloc, size_set, World.heap_drewN, size_drew] at hz9))
    go_wp2_with fail
    (refine (views_ok _ _ _ _ _ _ (HO2.out.ext (by repeat (first | (with_reducible exact Ext.refl _) | (with_reducible refine Ext.alloc ?_ _) | (with_reducible apply Ext.setC; focus (simp <;> omega)) | (with_reducible refine Ext.drew ?_) | (with_reducible refine Ext.drewN ?_ _) | (with_reducible refine Ext.trans ?_ (Hid.out ‹Hid (Ext _ _)›))))) (HO6.out.ext (by repeat (first | (with_reducible exact Ext.refl _) | (with_reducible refine Ext.alloc ?_ _) | (with_reducible apply Ext.setC; focus (simp <;> omega)) | (with_reducible refine Ext.drew ?_) | (with_reducible refine Ext.drewN ?_ _) | (with_reducible refine Ext.trans ?_ (Hid.out ‹Hid (Ext _ _)›))))) HY.out).mono ?_; rintro e w10 ⟨rfl, h10⟩; have H10 := Lib.hid h10; have hz10 := h10.size; clear h10; (try simp only [World.size_alloc, size_set, World.heap_drewN, size_drew] at hz10))
    go_wp2_with fail
    (refine (views_ok _ _ _ _ _ _ (HO3.out.ext (by repeat (first | (with_reducible exact Ext.refl _) | (with_reducible refine Ext.alloc ?_ _) | (with_reducible apply Ext.setC; focus (simp <;> omega)) | (with_reducible refine Ext.drew ?_) | (with_reducible refine Ext.drewN ?_ _) | (with_reducible refine Ext.trans ?_ (Hid.out ‹Hid (Ext _ _)›))))) (HO7.out.ext (by repeat (first | (with_reducible exact Ext.refl _) | (with_reducible refine Ext.alloc ?_ _) | (with_reducible apply Ext.setC; focus (simp <;> omega)) | (with_reducible refine Ext.drew ?_) | (with_reducible refine Ext.drewN ?_ _) | (with_reducible refine Ext.trans ?_ (Hid.out ‹Hid (Ext _ _)›))))) HZ.out).mono ?_; rintro e w11 ⟨rfl, h11⟩; have H11 := Lib.hid h11; have hz11 := h11.size; clear h11; (try simp only [World.size_alloc, size_set, World.heap_drewN, size_drew] at hz11))
    go_wp2_with fail
    go_ret
    refine ⟨ret_bool (by simp), ?_⟩
    repeat (first | (with_reducible exact Ext.refl _) | (with_reducible refine Ext.alloc ?_ _) | (with_reducible apply Ext.setC; focus (simp <;> omega)) | (with_reducible refine Ext.drew ?_) | (with_reducible refine Ext.drewN ?_ _) | (with_reducible refine Ext.trans ?_ (Hid.out ‹Hid (Ext _ _)›)))
  · rw [show nowAll l = (0, false, ckViews l) from by unfold nowAll; rw [if_pos hd]] at HN
    rw [show winAll l who = ([], false, ckViews l) from by unfold winAll; rw [if_pos hd]] at HW
    rw [show setAll l who up = ([], ckViews l) from by unfold setAll; rw [if_pos hd]] at HS
    have hb : (ckViews l == 0) = false := by simpa using hd
    have HD := Lib.hid hd
    generalize ckViews l = r at *
    clear hd
    obtain ⟨A, c, rfl, -, -⟩ := hr.form
    clear hr
    go_enter Try.func4, Try.ntmps4
    go_wp2_with fail
    (refine (HN.out _ (by repeat (first | (with_reducible exact Ext.refl _) | (with_reducible refine Ext.alloc ?_ _) | (with_reducible apply Ext.setC; focus (simp <;> omega)) | (with_reducible refine Ext.drew ?_) | (with_reducible refine Ext.drewN ?_ _) | (with_reducible refine Ext.trans ?_ (Hid.out ‹Hid (Ext _ _)›))))).mono ?_; rintro e w1 ⟨rfl, h1⟩; have H1 := Lib.hid h1; have hz1 := h1.size; clear h1; (try simp only [World.size_alloc, size_set, World.heap_drewN, size_drew] at hz1))
    go_wp2_with fail
    (refine (HW.out _ (by repeat (first | (with_reducible exact Ext.refl _) | (with_reducible refine Ext.alloc ?_ _) | (with_reducible apply Ext.setC; focus (simp <;> omega)) | (with_reducible refine Ext.drew ?_) | (with_reducible refine Ext.drewN ?_ _) | (with_reducible refine Ext.trans ?_ (Hid.out ‹Hid (Ext _ _)›))))).mono ?_; rintro e w2 ⟨s2, rfl, h2, ho2⟩; obtain ⟨A2, c2, rfl⟩ := ho2.form; have H2 := Lib.hid h2; have HO2 := Lib.hid (OwnL.rd ho2 vwc_size); clear h2 ho2)
    go_wp2_with fail
    (refine (HS.out _ (by repeat (first | (with_reducible exact Ext.refl _) | (with_reducible refine Ext.alloc ?_ _) | (with_reducible apply Ext.setC; focus (simp <;> omega)) | (with_reducible refine Ext.drew ?_) | (with_reducible refine Ext.drewN ?_ _) | (with_reducible refine Ext.trans ?_ (Hid.out ‹Hid (Ext _ _)›))))).mono ?_; rintro e w3 ⟨s3, rfl, h3, ho3⟩; obtain ⟨A3, c3, rfl⟩ := ho3.form; have H3 := Lib.hid h3; have HO3 := Lib.hid (OwnL.rd ho3 vwc_size); clear h3 ho3)
    go_wp2_with fail
    (refine (HC.out _ (by repeat (first | (with_reducible exact Ext.refl _) | (with_reducible refine Ext.alloc ?_ _) | (with_reducible apply Ext.setC; focus (simp <;> omega)) | (with_reducible refine Ext.drew ?_) | (with_reducible refine Ext.drewN ?_ _) | (with_reducible refine Ext.trans ?_ (Hid.out ‹Hid (Ext _ _)›))))).mono ?_; rintro e w4 ⟨rfl, h4⟩; have H4 := Lib.hid h4; have hz4 := h4.size; clear h4; (try simp only [World.size_alloc, size_set, World.heap_drewN, size_drew] at hz4))
    go_wp2_with fail
    (refine (law_leadBegun _).mono ?_; rintro e w8 ⟨rfl, h8⟩; have H8 := Lib.hid h8; have hz8 := h8.size; clear h8; (try simp only [World.size_alloc, size_set, World.heap_drewN, size_drew] at hz8))
    go_wp2_with fail
    (refine (HK.out _ (by repeat (first | (with_reducible exact Ext.refl _) | (with_reducible refine Ext.alloc ?_ _) | (with_reducible apply Ext.setC; focus (simp <;> omega)) | (with_reducible refine Ext.drew ?_) | (with_reducible refine Ext.drewN ?_ _) | (with_reducible refine Ext.trans ?_ (Hid.out ‹Hid (Ext _ _)›))))).mono ?_; rintro e w9 ⟨rfl, h9⟩; have H9 := Lib.hid h9; have hz9 := h9.size; clear h9; (try simp only [World.size_alloc, size_set, World.heap_drewN, size_drew] at hz9))
    go_wp2_with fail
    (refine (views_ok _ [] _ _ _ _ (HO2.out.ext (by repeat (first | (with_reducible exact Ext.refl _) | (with_reducible refine Ext.alloc ?_ _) | (with_reducible apply Ext.setC; focus (simp <;> omega)) | (with_reducible refine Ext.drew ?_) | (with_reducible refine Ext.drewN ?_ _) | (with_reducible refine Ext.trans ?_ (Hid.out ‹Hid (Ext _ _)›))))) RdL.nil (by rw [if_pos HD.out])).mono ?_; rintro e w10 ⟨rfl, h10⟩; have H10 := Lib.hid h10; have hz10 := h10.size; clear h10; (try simp only [World.size_alloc, size_set, World.heap_drewN, size_drew] at hz10))
    go_wp2_with fail
    (refine (views_ok _ [] _ _ _ _ (HO3.out.ext (by repeat (first | (with_reducible exact Ext.refl _) | (with_reducible refine Ext.alloc ?_ _) | (with_reducible apply Ext.setC; focus (simp <;> omega)) | (with_reducible refine Ext.drew ?_) | (with_reducible refine Ext.drewN ?_ _) | (with_reducible refine Ext.trans ?_ (Hid.out ‹Hid (Ext _ _)›))))) RdL.nil (by rw [if_pos HD.out])).mono ?_; rintro e w11 ⟨rfl, h11⟩; have H11 := Lib.hid h11; have hz11 := h11.size; clear h11; (try simp only [World.size_alloc, size_set, World.heap_drewN, size_drew] at hz11))
    go_wp2_with fail
    go_ret
    refine ⟨ret_bool (by simp), ?_⟩
    repeat (first | (with_reducible exact Ext.refl _) | (with_reducible refine Ext.alloc ?_ _) | (with_reducible apply Ext.setC; focus (simp <;> omega)) | (with_reducible refine Ext.drew ?_) | (with_reducible refine Ext.drewN ?_ _) | (with_reducible refine Ext.trans ?_ (Hid.out ‹Hid (Ext _ _)›)))
end Go.Proofs.Ythollackhkiofaa
