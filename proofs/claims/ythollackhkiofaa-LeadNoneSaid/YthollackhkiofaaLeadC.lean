/- LeadNone: the walk. -/
import Derived.Test.YthollackhkiofaaLeadB
namespace Go.Proofs.Ythollackhkiofaa
set_option linter.unusedSimpArgs false
set_option linter.unusedVariables false
set_option maxRecDepth 100000
open Go Go.RowKit Lb

theorem setAll_err {l : List Vw} {a : Int} {up : Bool} (h : (setAll l a up).2 ≠ 0) : (setAll l a up).1 = [] := by
  unfold setAll at h ⊢
  split
  · rfl
  · rename_i h1; rw [if_neg h1] at h; exact setV_err h
theorem setAll_ok {l : List Vw} {a : Int} {up : Bool} (h : (setAll l a up).2 = 0) : ckViews l = 0 ∧ (0 ≤ a ∧ a ≤ 2) ∧ setAll l a up = (l.modify a.toNat (fun v => ⟨v.epoch, v.leader, up⟩), 0) ∧ ckViews (l.modify a.toNat (fun v => ⟨v.epoch, v.leader, up⟩)) = 0 := by
  unfold setAll at h ⊢
  by_cases hd : ckViews l = 0
  · have hn : ¬ ckViews l ≠ 0 := by simpa using hd
    rw [if_neg hn] at h ⊢
    obtain ⟨h1, h2⟩ := setV_ok h
    exact ⟨hd, by simpa [within] using h1, h2, (rightV_iff _).2 ((modify_alike l a.toNat up).right ((rightV_iff l).1 hd))⟩
  · rw [if_pos hd] at h; exact absurd h hd
theorem win_off {l : List Vw} {a : Int} (hd : ckViews l = 0) (h : isUp l a = false) : winAll l a = (l, false, 0) ∨ winAll l a = ([], false, 3) := by
  unfold winAll
  rw [if_neg (by simpa using hd)]
  exact off_win h
theorem modify_isUp (l : List Vw) (i : Int) : isUp (l.modify i.toNat (fun v => ⟨v.epoch, v.leader, false⟩)) i = false := by
  unfold isUp
  rw [List.getElem?_modify]
  cases l[i.toNat]? <;> simp

set_option maxHeartbeats 8000000 in
theorem law_LeadNone (l : List Vw) (v : Value) (a b who : Int) (w : World) (hr : RdL 3 vwc w v l) :
    Calls Try.prog 3 #[v, .int .i64 a, .int .i64 b, .int .i64 who] w fun e w' => e = .returned (.bool true) ∧ Ext w w' := by
  have HS := Lib.hid (fun (w' : World) (h : Ext w w') => lead_Set l v a false w' (hr.ext h))
  by_cases h0 : (setAll l a false).2 = 0
  · obtain ⟨hd, ha, hx, hdx⟩ := setAll_ok h0
    rw [hx] at HS
    have hoff := modify_isUp l a
    have hl3 := ((rightV_iff l).1 hd).1
    have hal : a.toNat < l.length := by omega
    have hmo := modify_off l a.toNat hal
    generalize hX : l.modify a.toNat (fun v => ⟨v.epoch, v.leader, false⟩) = X at *
    have hXl : X.length = 3 := by rw [← hX]; simp [hl3]
    have hXL := Lib.hid hXl
    clear hXl hl3 hal
    have HW := Lib.hid (fun (s : Value) (w' : World) (h : RdL 3 vwc w' s X) => lead_Win X s a w' h)
    have HS2 := Lib.hid (fun (s : Value) (w' : World) (h : RdL 3 vwc w' s X) => lead_Set X s b false w' h)
    have hwo := win_off hdx hoff
    generalize hY : winAll X a = Y at *
    have hYb : Y.2.1 = false := by rcases hwo with h | h <;> rw [h]
    obtain ⟨y1, y2, y3⟩ := Y
    simp only at hYb HW
    subst hYb
    clear hwo hY
    by_cases h1 : (setAll X b false).2 = 0
    · by_cases hab : a = b
      · have habb : (a == b) = true := by simpa using hab
        generalize setAll X b false = Z at *
        obtain ⟨z1, z2⟩ := Z
        simp only at h1 HS2
        subst h1
        clear hab h0 hx hmo hoff
        obtain ⟨A, c, rfl, -, -⟩ := hr.form
        clear hr
        by_cases hy3 : y3 = 0
        · subst hy3
          go_enter Try.func3, Try.ntmps3
          go_wp2_with fail
          (refine (HS.out _ (by repeat (first | (with_reducible exact Ext.refl _) | (with_reducible refine Ext.alloc ?_ _) | (with_reducible apply Ext.setC; focus (simp <;> omega)) | (with_reducible refine Ext.drew ?_) | (with_reducible refine Ext.drewN ?_ _) | (with_reducible refine Ext.trans ?_ (Hid.out ‹Hid (Ext _ _)›))))).mono ?_; rintro e w1 ⟨s1, rfl, h1, ho1⟩; obtain ⟨A1, c1, rfl⟩ := ho1.form; have H1 := Lib.hid h1; have HO1 := Lib.hid (OwnL.rd ho1 vwc_size); clear h1 ho1)
          go_wp2_with fail
          (refine (law_leadBegun _).mono ?_; rintro e w2 ⟨rfl, h2⟩; have H2 := Lib.hid h2; have hz2 := h2.size; clear h2; (try simp only [World.size_alloc, size_set, World.heap_drewN, size_drew] at hz2))
          go_wp2_with fail
          (refine (HW.out _ _ (HO1.out.ext (by repeat (first | (with_reducible exact Ext.refl _) | (with_reducible refine Ext.alloc ?_ _) | (with_reducible apply Ext.setC; focus (simp <;> omega)) | (with_reducible refine Ext.drew ?_) | (with_reducible refine Ext.drewN ?_ _) | (with_reducible refine Ext.trans ?_ (Hid.out ‹Hid (Ext _ _)›)))))).mono ?_; rintro e w3 ⟨s3, rfl, h3, ho3⟩; obtain ⟨A3, c3, rfl⟩ := ho3.form; have H3 := Lib.hid h3; have HO3 := Lib.hid (OwnL.rd ho3 vwc_size); clear h3 ho3)
          go_wp2_with fail
          (refine (HS2.out _ _ (HO1.out.ext (by repeat (first | (with_reducible exact Ext.refl _) | (with_reducible refine Ext.alloc ?_ _) | (with_reducible apply Ext.setC; focus (simp <;> omega)) | (with_reducible refine Ext.drew ?_) | (with_reducible refine Ext.drewN ?_ _) | (with_reducible refine Ext.trans ?_ (Hid.out ‹Hid (Ext _ _)›)))))).mono ?_; rintro e w4 ⟨s4, rfl, h4, ho4⟩; obtain ⟨A4, c4, rfl⟩ := ho4.form; have H4 := Lib.hid h4; have HO4 := Lib.hid (OwnL.rd ho4 vwc_size); clear h4 ho4)
          go_wp2_with fail
          go_ret
          refine ⟨ret_bool (by simp), ?_⟩
          repeat (first | (with_reducible exact Ext.refl _) | (with_reducible refine Ext.alloc ?_ _) | (with_reducible apply Ext.setC; focus (simp <;> omega)) | (with_reducible refine Ext.drew ?_) | (with_reducible refine Ext.drewN ?_ _) | (with_reducible refine Ext.trans ?_ (Hid.out ‹Hid (Ext _ _)›)))
        · have hy3b : (y3 == 0) = false := by simpa using hy3
          clear hy3
          go_enter Try.func3, Try.ntmps3
          go_wp2_with fail
          (refine (HS.out _ (by repeat (first | (with_reducible exact Ext.refl _) | (with_reducible refine Ext.alloc ?_ _) | (with_reducible apply Ext.setC; focus (simp <;> omega)) | (with_reducible refine Ext.drew ?_) | (with_reducible refine Ext.drewN ?_ _) | (with_reducible refine Ext.trans ?_ (Hid.out ‹Hid (Ext _ _)›))))).mono ?_; rintro e w1 ⟨s1, rfl, h1, ho1⟩; obtain ⟨A1, c1, rfl⟩ := ho1.form; have H1 := Lib.hid h1; have HO1 := Lib.hid (OwnL.rd ho1 vwc_size); clear h1 ho1)
          go_wp2_with fail
          (refine (law_leadBegun _).mono ?_; rintro e w2 ⟨rfl, h2⟩; have H2 := Lib.hid h2; have hz2 := h2.size; clear h2; (try simp only [World.size_alloc, size_set, World.heap_drewN, size_drew] at hz2))
          go_wp2_with fail
          (refine (HW.out _ _ (HO1.out.ext (by repeat (first | (with_reducible exact Ext.refl _) | (with_reducible refine Ext.alloc ?_ _) | (with_reducible apply Ext.setC; focus (simp <;> omega)) | (with_reducible refine Ext.drew ?_) | (with_reducible refine Ext.drewN ?_ _) | (with_reducible refine Ext.trans ?_ (Hid.out ‹Hid (Ext _ _)›)))))).mono ?_; rintro e w3 ⟨s3, rfl, h3, ho3⟩; obtain ⟨A3, c3, rfl⟩ := ho3.form; have H3 := Lib.hid h3; have HO3 := Lib.hid (OwnL.rd ho3 vwc_size); clear h3 ho3)
          go_wp2_with fail
          (refine (HS2.out _ _ (HO1.out.ext (by repeat (first | (with_reducible exact Ext.refl _) | (with_reducible refine Ext.alloc ?_ _) | (with_reducible apply Ext.setC; focus (simp <;> omega)) | (with_reducible refine Ext.drew ?_) | (with_reducible refine Ext.drewN ?_ _) | (with_reducible refine Ext.trans ?_ (Hid.out ‹Hid (Ext _ _)›)))))).mono ?_; rintro e w4 ⟨s4, rfl, h4, ho4⟩; obtain ⟨A4, c4, rfl⟩ := ho4.form; have H4 := Lib.hid h4; have HO4 := Lib.hid (OwnL.rd ho4 vwc_size); clear h4 ho4)
          go_wp2_with fail
          go_ret
          refine ⟨ret_bool (by simp), ?_⟩
          repeat (first | (with_reducible exact Ext.refl _) | (with_reducible refine Ext.alloc ?_ _) | (with_reducible apply Ext.setC; focus (simp <;> omega)) | (with_reducible refine Ext.drew ?_) | (with_reducible refine Ext.drewN ?_ _) | (with_reducible refine Ext.trans ?_ (Hid.out ‹Hid (Ext _ _)›)))
      · have habb : (a == b) = false := by simpa using hab
        obtain ⟨-, hb, hx2, hdx2⟩ := setAll_ok h1
        rw [hx2] at HS2
        have hdn : countV isUpV (X.modify b.toNat (fun v => ⟨v.epoch, v.leader, false⟩)) ≤ 1 :=
          two_down (i := a.toNat) (j := b.toNat) (by simp [hXL.out]) (by omega) (by rw [modify_other X b.toNat a.toNat (by omega)]; exact hmo) (modify_off X b.toNat (by rw [hXL.out]; omega))
        generalize X.modify b.toNat (fun v => ⟨v.epoch, v.leader, false⟩) = Z at *
        have hN := fun (s : Value) (w' : World) (h : RdL 3 vwc w' s Z) => lead_Now Z s w' h
        rw [show nowAll Z = (0, false, 0) from by unfold nowAll; rw [if_neg (by rw [hdx2]; decide), down_none hdn]] at hN
        have HN := Lib.hid hN
        have hWw := fun (s : Value) (w' : World) (h : RdL 3 vwc w' s Z) => lead_Win Z s who w' h
        have hwz : winAll Z who = winV Z who := by unfold winAll; rw [if_neg (by rw [hdx2]; decide)]
        rw [hwz] at hWw
        have HSM := Lib.hid (fun (s1 s2 : Value) (w' : World) (h1 : RdL 3 vwc w' s1 Z) (h2 : RdL 3 vwc w' s2 Z) => (show _ from by
          have := ref_SameViews Z Z s1 s2 w' h1 h2
          rw [show (Z == Z) = true from by simp] at this
          exact this : Calls Try.prog 17 #[s1, s2] w' fun e w'' => e = .returned (.bool true) ∧ Ext w' w''))
        have hdw := down_win (who := who) hdn
        clear hab h0 hx hmo hoff hN hwz hdn h1 hx2 hdx2 hdx hd hX
        obtain ⟨A, c, rfl, -, -⟩ := hr.form
        clear hr
        have hy3b : (y3 == 0) = true ∨ (y3 == 0) = false := by cases (y3 == 0) <;> simp
        rcases hdw with hdw | hdw
        · rw [hdw] at hWw
          simp only at hWw
          have HWW := Lib.hid hWw
          clear hWw hdw
          rcases hy3b with hy3b | hy3b
          all_goals
            go_enter Try.func3, Try.ntmps3
            go_wp2_with fail
            (refine (HS.out _ (by repeat (first | (with_reducible exact Ext.refl _) | (with_reducible refine Ext.alloc ?_ _) | (with_reducible apply Ext.setC; focus (simp <;> omega)) | (with_reducible refine Ext.drew ?_) | (with_reducible refine Ext.drewN ?_ _) | (with_reducible refine Ext.trans ?_ (Hid.out ‹Hid (Ext _ _)›))))).mono ?_; rintro e w1 ⟨s1, rfl, h1, ho1⟩; obtain ⟨A1, c1, rfl⟩ := ho1.form; have H1 := Lib.hid h1; have HO1 := Lib.hid (OwnL.rd ho1 vwc_size); clear h1 ho1)
            go_wp2_with fail
            (refine (law_leadBegun _).mono ?_; rintro e w2 ⟨rfl, h2⟩; have H2 := Lib.hid h2; have hz2 := h2.size; clear h2; (try simp only [World.size_alloc, size_set, World.heap_drewN, size_drew] at hz2))
            go_wp2_with fail
            (refine (HW.out _ _ (HO1.out.ext (by repeat (first | (with_reducible exact Ext.refl _) | (with_reducible refine Ext.alloc ?_ _) | (with_reducible apply Ext.setC; focus (simp <;> omega)) | (with_reducible refine Ext.drew ?_) | (with_reducible refine Ext.drewN ?_ _) | (with_reducible refine Ext.trans ?_ (Hid.out ‹Hid (Ext _ _)›)))))).mono ?_; rintro e w3 ⟨s3, rfl, h3, ho3⟩; obtain ⟨A3, c3, rfl⟩ := ho3.form; have H3 := Lib.hid h3; have HO3 := Lib.hid (OwnL.rd ho3 vwc_size); clear h3 ho3)
            go_wp2_with fail
            (refine (HS2.out _ _ (HO1.out.ext (by repeat (first | (with_reducible exact Ext.refl _) | (with_reducible refine Ext.alloc ?_ _) | (with_reducible apply Ext.setC; focus (simp <;> omega)) | (with_reducible refine Ext.drew ?_) | (with_reducible refine Ext.drewN ?_ _) | (with_reducible refine Ext.trans ?_ (Hid.out ‹Hid (Ext _ _)›)))))).mono ?_; rintro e w4 ⟨s4, rfl, h4, ho4⟩; obtain ⟨A4, c4, rfl⟩ := ho4.form; have H4 := Lib.hid h4; have HO4 := Lib.hid (OwnL.rd ho4 vwc_size); clear h4 ho4)
            go_wp2_with fail
            (refine (HN.out _ _ (HO4.out.ext (by repeat (first | (with_reducible exact Ext.refl _) | (with_reducible refine Ext.alloc ?_ _) | (with_reducible apply Ext.setC; focus (simp <;> omega)) | (with_reducible refine Ext.drew ?_) | (with_reducible refine Ext.drewN ?_ _) | (with_reducible refine Ext.trans ?_ (Hid.out ‹Hid (Ext _ _)›)))))).mono ?_; rintro e w5 ⟨rfl, h5⟩; have H5 := Lib.hid h5; have hz5 := h5.size; clear h5; (try simp only [World.size_alloc, size_set, World.heap_drewN, size_drew] at hz5))
            go_wp2_with fail
            (refine (HWW.out _ _ (HO4.out.ext (by repeat (first | (with_reducible exact Ext.refl _) | (with_reducible refine Ext.alloc ?_ _) | (with_reducible apply Ext.setC; focus (simp <;> omega)) | (with_reducible refine Ext.drew ?_) | (with_reducible refine Ext.drewN ?_ _) | (with_reducible refine Ext.trans ?_ (Hid.out ‹Hid (Ext _ _)›)))))).mono ?_; rintro e w6 ⟨s6, rfl, h6, ho6⟩; obtain ⟨A6, c6, rfl⟩ := ho6.form; have H6 := Lib.hid h6; have HO6 := Lib.hid (OwnL.rd ho6 vwc_size); clear h6 ho6)
            go_wp2_with fail
            (refine (HSM.out _ _ _ (HO6.out.ext (by repeat (first | (with_reducible exact Ext.refl _) | (with_reducible refine Ext.alloc ?_ _) | (with_reducible apply Ext.setC; focus (simp <;> omega)) | (with_reducible refine Ext.drew ?_) | (with_reducible refine Ext.drewN ?_ _) | (with_reducible refine Ext.trans ?_ (Hid.out ‹Hid (Ext _ _)›))))) (HO4.out.ext (by repeat (first | (with_reducible exact Ext.refl _) | (with_reducible refine Ext.alloc ?_ _) | (with_reducible apply Ext.setC; focus (simp <;> omega)) | (with_reducible refine Ext.drew ?_) | (with_reducible refine Ext.drewN ?_ _) | (with_reducible refine Ext.trans ?_ (Hid.out ‹Hid (Ext _ _)›)))))).mono ?_; rintro e w7 ⟨rfl, h7⟩; have H7 := Lib.hid h7; have hz7 := h7.size; clear h7; (try simp only [World.size_alloc, size_set, World.heap_drewN, size_drew] at hz7))
            go_wp2_with fail
            go_ret
            refine ⟨ret_bool (by simp), ?_⟩
            repeat (first | (with_reducible exact Ext.refl _) | (with_reducible refine Ext.alloc ?_ _) | (with_reducible apply Ext.setC; focus (simp <;> omega)) | (with_reducible refine Ext.drew ?_) | (with_reducible refine Ext.drewN ?_ _) | (with_reducible refine Ext.trans ?_ (Hid.out ‹Hid (Ext _ _)›)))
        · rw [hdw] at hWw
          simp only at hWw
          have HWW := Lib.hid hWw
          clear hWw hdw
          rcases hy3b with hy3b | hy3b
          all_goals
            go_enter Try.func3, Try.ntmps3
            go_wp2_with fail
            (refine (HS.out _ (by repeat (first | (with_reducible exact Ext.refl _) | (with_reducible refine Ext.alloc ?_ _) | (with_reducible apply Ext.setC; focus (simp <;> omega)) | (with_reducible refine Ext.drew ?_) | (with_reducible refine Ext.drewN ?_ _) | (with_reducible refine Ext.trans ?_ (Hid.out ‹Hid (Ext _ _)›))))).mono ?_; rintro e w1 ⟨s1, rfl, h1, ho1⟩; obtain ⟨A1, c1, rfl⟩ := ho1.form; have H1 := Lib.hid h1; have HO1 := Lib.hid (OwnL.rd ho1 vwc_size); clear h1 ho1)
            go_wp2_with fail
            (refine (law_leadBegun _).mono ?_; rintro e w2 ⟨rfl, h2⟩; have H2 := Lib.hid h2; have hz2 := h2.size; clear h2; (try simp only [World.size_alloc, size_set, World.heap_drewN, size_drew] at hz2))
            go_wp2_with fail
            (refine (HW.out _ _ (HO1.out.ext (by repeat (first | (with_reducible exact Ext.refl _) | (with_reducible refine Ext.alloc ?_ _) | (with_reducible apply Ext.setC; focus (simp <;> omega)) | (with_reducible refine Ext.drew ?_) | (with_reducible refine Ext.drewN ?_ _) | (with_reducible refine Ext.trans ?_ (Hid.out ‹Hid (Ext _ _)›)))))).mono ?_; rintro e w3 ⟨s3, rfl, h3, ho3⟩; obtain ⟨A3, c3, rfl⟩ := ho3.form; have H3 := Lib.hid h3; have HO3 := Lib.hid (OwnL.rd ho3 vwc_size); clear h3 ho3)
            go_wp2_with fail
            (refine (HS2.out _ _ (HO1.out.ext (by repeat (first | (with_reducible exact Ext.refl _) | (with_reducible refine Ext.alloc ?_ _) | (with_reducible apply Ext.setC; focus (simp <;> omega)) | (with_reducible refine Ext.drew ?_) | (with_reducible refine Ext.drewN ?_ _) | (with_reducible refine Ext.trans ?_ (Hid.out ‹Hid (Ext _ _)›)))))).mono ?_; rintro e w4 ⟨s4, rfl, h4, ho4⟩; obtain ⟨A4, c4, rfl⟩ := ho4.form; have H4 := Lib.hid h4; have HO4 := Lib.hid (OwnL.rd ho4 vwc_size); clear h4 ho4)
            go_wp2_with fail
            (refine (HN.out _ _ (HO4.out.ext (by repeat (first | (with_reducible exact Ext.refl _) | (with_reducible refine Ext.alloc ?_ _) | (with_reducible apply Ext.setC; focus (simp <;> omega)) | (with_reducible refine Ext.drew ?_) | (with_reducible refine Ext.drewN ?_ _) | (with_reducible refine Ext.trans ?_ (Hid.out ‹Hid (Ext _ _)›)))))).mono ?_; rintro e w5 ⟨rfl, h5⟩; have H5 := Lib.hid h5; have hz5 := h5.size; clear h5; (try simp only [World.size_alloc, size_set, World.heap_drewN, size_drew] at hz5))
            go_wp2_with fail
            (refine (HWW.out _ _ (HO4.out.ext (by repeat (first | (with_reducible exact Ext.refl _) | (with_reducible refine Ext.alloc ?_ _) | (with_reducible apply Ext.setC; focus (simp <;> omega)) | (with_reducible refine Ext.drew ?_) | (with_reducible refine Ext.drewN ?_ _) | (with_reducible refine Ext.trans ?_ (Hid.out ‹Hid (Ext _ _)›)))))).mono ?_; rintro e w6 ⟨s6, rfl, h6, ho6⟩; obtain ⟨A6, c6, rfl⟩ := ho6.form; have H6 := Lib.hid h6; have HO6 := Lib.hid (OwnL.rd ho6 vwc_size); clear h6 ho6)
            go_wp2_with fail
            go_ret
            refine ⟨ret_bool (by simp), ?_⟩
            repeat (first | (with_reducible exact Ext.refl _) | (with_reducible refine Ext.alloc ?_ _) | (with_reducible apply Ext.setC; focus (simp <;> omega)) | (with_reducible refine Ext.drew ?_) | (with_reducible refine Ext.drewN ?_ _) | (with_reducible refine Ext.trans ?_ (Hid.out ‹Hid (Ext _ _)›)))
    · have hz : ((setAll X b false).2 != 0) = true := by simpa using h1
      generalize setAll X b false = Z at *
      obtain ⟨z1, z2⟩ := Z
      simp only at hz HS2
      clear h1 h0 hx hmo hoff
      obtain ⟨A, c, rfl, -, -⟩ := hr.form
      clear hr
      have hy3b : (y3 == 0) = true ∨ (y3 == 0) = false := by cases (y3 == 0) <;> simp
      rcases hy3b with hy3b | hy3b
      all_goals
        go_enter Try.func3, Try.ntmps3
        go_wp2_with fail
        (refine (HS.out _ (by repeat (first | (with_reducible exact Ext.refl _) | (with_reducible refine Ext.alloc ?_ _) | (with_reducible apply Ext.setC; focus (simp <;> omega)) | (with_reducible refine Ext.drew ?_) | (with_reducible refine Ext.drewN ?_ _) | (with_reducible refine Ext.trans ?_ (Hid.out ‹Hid (Ext _ _)›))))).mono ?_; rintro e w1 ⟨s1, rfl, h1, ho1⟩; obtain ⟨A1, c1, rfl⟩ := ho1.form; have H1 := Lib.hid h1; have HO1 := Lib.hid (OwnL.rd ho1 vwc_size); clear h1 ho1)
        go_wp2_with fail
        (refine (law_leadBegun _).mono ?_; rintro e w2 ⟨rfl, h2⟩; have H2 := Lib.hid h2; have hz2 := h2.size; clear h2; (try simp only [World.size_alloc, size_set, World.heap_drewN, size_drew] at hz2))
        go_wp2_with fail
        (refine (HW.out _ _ (HO1.out.ext (by repeat (first | (with_reducible exact Ext.refl _) | (with_reducible refine Ext.alloc ?_ _) | (with_reducible apply Ext.setC; focus (simp <;> omega)) | (with_reducible refine Ext.drew ?_) | (with_reducible refine Ext.drewN ?_ _) | (with_reducible refine Ext.trans ?_ (Hid.out ‹Hid (Ext _ _)›)))))).mono ?_; rintro e w3 ⟨s3, rfl, h3, ho3⟩; obtain ⟨A3, c3, rfl⟩ := ho3.form; have H3 := Lib.hid h3; have HO3 := Lib.hid (OwnL.rd ho3 vwc_size); clear h3 ho3)
        go_wp2_with fail
        (refine (HS2.out _ _ (HO1.out.ext (by repeat (first | (with_reducible exact Ext.refl _) | (with_reducible refine Ext.alloc ?_ _) | (with_reducible apply Ext.setC; focus (simp <;> omega)) | (with_reducible refine Ext.drew ?_) | (with_reducible refine Ext.drewN ?_ _) | (with_reducible refine Ext.trans ?_ (Hid.out ‹Hid (Ext _ _)›)))))).mono ?_; rintro e w4 ⟨s4, rfl, h4, ho4⟩; obtain ⟨A4, c4, rfl⟩ := ho4.form; have H4 := Lib.hid h4; have HO4 := Lib.hid (OwnL.rd ho4 vwc_size); clear h4 ho4)
        go_wp2_with fail
        go_ret
        refine ⟨ret_bool (by simp), ?_⟩
        repeat (first | (with_reducible exact Ext.refl _) | (with_reducible refine Ext.alloc ?_ _) | (with_reducible apply Ext.setC; focus (simp <;> omega)) | (with_reducible refine Ext.drew ?_) | (with_reducible refine Ext.drewN ?_ _) | (with_reducible refine Ext.trans ?_ (Hid.out ‹Hid (Ext _ _)›)))
  · have he := setAll_err h0
    have hz : ((setAll l a false).2 != 0) = true := by simpa using h0
    generalize setAll l a false = Z at *
    obtain ⟨z1, z2⟩ := Z
    simp only at hz HS he
    subst he
    clear h0
    obtain ⟨A, c, rfl, -, -⟩ := hr.form
    clear hr
    go_enter Try.func3, Try.ntmps3
    go_wp2_with fail
    (refine (HS.out _ (by repeat (first | (with_reducible exact Ext.refl _) | (with_reducible refine Ext.alloc ?_ _) | (with_reducible apply Ext.setC; focus (simp <;> omega)) | (with_reducible refine Ext.drew ?_) | (with_reducible refine Ext.drewN ?_ _) | (with_reducible refine Ext.trans ?_ (Hid.out ‹Hid (Ext _ _)›))))).mono ?_; rintro e w1 ⟨s1, rfl, h1, ho1⟩; obtain ⟨A1, c1, rfl⟩ := ho1.form; have H1 := Lib.hid h1; have HO1 := Lib.hid (OwnL.rd ho1 vwc_size); clear h1 ho1)
    go_wp2_with fail
    (refine (law_leadBegun _).mono ?_; rintro e w2 ⟨rfl, h2⟩; have H2 := Lib.hid h2; have hz2 := h2.size; clear h2; (try simp only [World.size_alloc, size_set, World.heap_drewN, size_drew] at hz2))
    go_wp2_with fail
    go_ret
    refine ⟨ret_bool (by simp), ?_⟩
    repeat (first | (with_reducible exact Ext.refl _) | (with_reducible refine Ext.alloc ?_ _) | (with_reducible apply Ext.setC; focus (simp <;> omega)) | (with_reducible refine Ext.drew ?_) | (with_reducible refine Ext.drewN ?_ _) | (with_reducible refine Ext.trans ?_ (Hid.out ‹Hid (Ext _ _)›)))
end Go.Proofs.Ythollackhkiofaa
