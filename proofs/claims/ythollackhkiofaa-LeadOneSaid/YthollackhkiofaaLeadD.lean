/- LeadOne: the walk. -/
import Derived.Test.YthollackhkiofaaLeadC
namespace Go.Proofs.Ythollackhkiofaa
set_option linter.unusedSimpArgs false
set_option linter.unusedVariables false
set_option maxRecDepth 100000
open Go Go.RowKit Lb

theorem same_views (l : List Vw) (s u : Value) (w : World) (hr : RdL 3 vwc w s l) (hs : RdL 3 vwc w u l) :
    Calls Try.prog 17 #[s, u] w fun e w' => e = .returned (.bool true) ∧ Ext w w' := by
  have h := ref_SameViews l l s u w hr hs
  rw [show (l == l) = true from by simp] at h
  exact h
theorem winAll_err {l : List Vw} {who : Int} (h : (winAll l who).2.2 ≠ 0) : (winAll l who).2.1 = false ∨ True := .inr trivial

set_option maxHeartbeats 8000000 in
theorem law_LeadOne (l : List Vw) (v : Value) (who voter : Int) (up : Bool) (w : World) (hr : RdL 3 vwc w v l) :
    Calls Try.prog 5 #[v, .int .i64 who, .int .i64 voter, .bool up] w fun e w' => e = .returned (.bool true) ∧ Ext w w' := by
  have HW := Lib.hid (fun (w' : World) (h : Ext w w') => lead_Win l v who w' (hr.ext h))
  have HR := Lib.hid hr
  obtain ⟨A, c, hv, -, -⟩ := hr.form
  by_cases h0 : (winAll l who).2.2 = 0
  · have hd : ckViews l = 0 := by
      unfold winAll at h0
      by_cases hd : ckViews l = 0
      · exact hd
      · rw [if_pos hd] at h0; exact absurd h0 hd
    have hR := (rightV_iff l).1 hd
    have hwa : winAll l who = winV l who := by unfold winAll; rw [if_neg (by rw [hd]; decide)]
    rw [hwa] at h0 HW
    have hwi : within who 0 1 = true := by
      cases hwi : within who 0 1 with
      | true => rfl
      | false => unfold winV at h0; rw [if_pos hwi] at h0; simp at h0
    rcases win_cases hR hwi with hc | hc | ⟨hc, hup, hcnt, h98, ht0⟩
    · rw [hc] at HW
      simp only at HW
      have HSM := Lib.hid (fun (s1 : Value) (w' : World) (h : Ext w w') (h1 : RdL 3 vwc w' s1 l) => same_views l s1 v w' h1 (hr.ext h))
      subst hv
      clear hr h0 hd hR hwa hwi hc
      go_enter Try.func5, Try.ntmps5
      go_wp2_with fail
      (refine (HW.out _ (by repeat (first | (with_reducible exact Ext.refl _) | (with_reducible refine Ext.alloc ?_ _) | (with_reducible apply Ext.setC; focus (simp <;> omega)) | (with_reducible refine Ext.drew ?_) | (with_reducible refine Ext.drewN ?_ _) | (with_reducible refine Ext.trans ?_ (Hid.out ‹Hid (Ext _ _)›))))).mono ?_; rintro e w1 ⟨s1, rfl, h1, ho1⟩; obtain ⟨A1, c1, rfl⟩ := ho1.form; have H1 := Lib.hid h1; have HO1 := Lib.hid (OwnL.rd ho1 vwc_size); clear h1 ho1)
      go_wp2_with fail
      (refine (law_leadBegun _).mono ?_; rintro e w2 ⟨rfl, h2⟩; have H2 := Lib.hid h2; have hz2 := h2.size; clear h2; (try simp only [World.size_alloc, size_set, World.heap_drewN, size_drew] at hz2))
      go_wp2_with fail
      (refine (HSM.out _ _ (by repeat (first | (with_reducible exact Ext.refl _) | (with_reducible refine Ext.alloc ?_ _) | (with_reducible apply Ext.setC; focus (simp <;> omega)) | (with_reducible refine Ext.drew ?_) | (with_reducible refine Ext.drewN ?_ _) | (with_reducible refine Ext.trans ?_ (Hid.out ‹Hid (Ext _ _)›)))) (HO1.out.ext (by repeat (first | (with_reducible exact Ext.refl _) | (with_reducible refine Ext.alloc ?_ _) | (with_reducible apply Ext.setC; focus (simp <;> omega)) | (with_reducible refine Ext.drew ?_) | (with_reducible refine Ext.drewN ?_ _) | (with_reducible refine Ext.trans ?_ (Hid.out ‹Hid (Ext _ _)›)))))).mono ?_; rintro e w3 ⟨rfl, h3⟩; have H3 := Lib.hid h3; have hz3 := h3.size; clear h3; (try simp only [World.size_alloc, size_set, World.heap_drewN, size_drew] at hz3))
      go_wp2_with fail
      go_ret
      refine ⟨ret_bool (by simp), ?_⟩
      repeat (first | (with_reducible exact Ext.refl _) | (with_reducible refine Ext.alloc ?_ _) | (with_reducible apply Ext.setC; focus (simp <;> omega)) | (with_reducible refine Ext.drew ?_) | (with_reducible refine Ext.drewN ?_ _) | (with_reducible refine Ext.trans ?_ (Hid.out ‹Hid (Ext _ _)›)))
    · rw [hc] at h0; simp at h0
    · rw [hc] at HW
      simp only at HW
      have hwi2 : 0 ≤ who ∧ who ≤ 1 := by simpa [within] using hwi
      obtain ⟨n, rfl⟩ : ∃ n : Nat, who = n := ⟨who.toNat, by omega⟩
      have hR2 := raise_right hR hwi h98 ht0
      have hd2 := (rightV_iff _).2 hR2
      have hwho := raise_who hR hup hcnt ht0
      have hone := fun (b : Bool) => one_who (i := voter) (up := b) hR hup hcnt ht0
      have hRn : ∃ h : n < (raise (topV 0 l + 1) n l).length, (raise (topV 0 l + 1) n l)[n].epoch = topV 0 l + 1 := by
        obtain ⟨x, hx, hxu⟩ := isUp_get hup
        rw [Int.toNat_natCast] at hx
        have hg := raise_get (t := topV 0 l + 1) (who := n) hx
        rw [if_pos hxu] at hg
        obtain ⟨h1, h2⟩ := List.getElem?_eq_some_iff.1 hg
        exact ⟨h1, by rw [h2]⟩
      generalize hTT : topV 0 l + 1 = T at *
      generalize raise T n l = R at *
      obtain ⟨hRl, hRe⟩ := hRn
      have hNow := fun (s : Value) (w' : World) (h : RdL 3 vwc w' s R) => lead_Now R s w' h
      rw [show nowAll R = ((n : Int), true, 0) from by unfold nowAll; rw [if_neg (by rw [hd2]; decide), hwho]] at hNow
      have hChk := fun (s : Value) (w' : World) (h : RdL 3 vwc w' s R) => lead_Check R s w' h
      rw [hd2] at hChk
      have hSet := fun (s : Value) (w' : World) (h : RdL 3 vwc w' s R) => lead_Set R s voter up w' h
      have HNow := Lib.hid hNow
      have HChk := Lib.hid hChk
      have hni : (n : Int) < 3 := by omega
      clear hNow hChk hr h0 hd hwa hup hcnt hwho
      subst hv
      by_cases hz : (setAll R voter up).2 = 0
      · obtain ⟨-, hvt, hx, hdB⟩ := setAll_ok hz
        rw [hx] at hSet
        have hBw := hone up
        simp only at hBw
        have hBl : (R.modify voter.toNat (fun v => ⟨v.epoch, v.leader, up⟩)).length = R.length := by simp
        generalize R.modify voter.toNat (fun v => ⟨v.epoch, v.leader, up⟩) = B at *
        have hRB := (rightV_iff B).1 hdB
        have hBn : n < B.length := by rw [hBl]; exact hRl
        have hBu : isUp B n = B[n].up := by
          unfold isUp
          rw [Int.toNat_natCast, List.getElem?_eq_getElem hBn]
        rw [hBu] at hBw
        have hNB := fun (s : Value) (w' : World) (h : RdL 3 vwc w' s B) => lead_Now B s w' h
        rw [show nowAll B = ((whoV B).1, (whoV B).2, 0) from by unfold nowAll; rw [if_neg (by rw [hdB]; decide)]] at hNB
        obtain ⟨m, is, hmi⟩ : ∃ m is, whoV B = (m, is) := ⟨_, _, rfl⟩
        rw [hmi] at hNB hBw
        simp only at hNB
        have hWB := fun (s : Value) (w' : World) (h : RdL 3 vwc w' s B) => lead_Win B s (1 - (n : Int)) w' h
        have hwB : winAll B (1 - (n : Int)) = winV B (1 - (n : Int)) := by unfold winAll; rw [if_neg (by rw [hdB]; decide)]
        rw [hwB] at hWB
        have hwi3 : within (1 - (n : Int)) 0 1 = true := by simp [within]; omega
        have hcs := win_cases hRB hwi3
        have hcs2 : (winV B (1 - (n : Int)) = (B, false, 0)) ∨ (winV B (1 - (n : Int)) = ([], false, 2)) ∨ (∃ C, winV B (1 - (n : Int)) = (C, true, 0) ∧ nowAll C = (1 - (n : Int), true, 0)) := by
          rcases hcs with h | h | ⟨h, e1, e2, e3, e4⟩
          · exact .inl h
          · exact .inr (.inl h)
          · refine .inr (.inr ⟨_, h, ?_⟩)
            unfold nowAll
            rw [if_neg (by rw [(rightV_iff _).2 (raise_right hRB hwi3 e3 e4)]; decide), raise_who hRB e1 e2 e4]
        have hcn0 := countV_nonneg (upTop T) B
        have HBL := Lib.hid (show B.length = 3 from hRB.1)
        have HRL := Lib.hid (show R.length = 3 from hR2.1)
        have hw1 : IntKind.i64.wrap (1 - (n : Int)) = 1 - (n : Int) := IntWalk.i64_in _ (by omega)
        have HSet := Lib.hid hSet
        have HNB := Lib.hid hNB
        have HWB := Lib.hid hWB
        have HCS := Lib.hid hcs2
        have HRE := Lib.hid hRe
        have HRLN := Lib.hid hRl
        have HBN := Lib.hid hBn
        generalize hcnt : countV (upTop T) B = cnt at *
        have HMI := Lib.hid hBw.symm
        have HCNT := Lib.hid hcnt
        clear hmi hSet hNB hWB hcs hcs2 hRB hdB hBw hBu hx hz hwB hone hR2 hd2 hR hBl hcnt hwi hwi3
        go_enter Try.func5, Try.ntmps5
        go_wp2_with fail
        (refine (HW.out _ (by repeat (first | (with_reducible exact Ext.refl _) | (with_reducible refine Ext.alloc ?_ _) | (with_reducible apply Ext.setC; focus (simp <;> omega)) | (with_reducible refine Ext.drew ?_) | (with_reducible refine Ext.drewN ?_ _) | (with_reducible refine Ext.trans ?_ (Hid.out ‹Hid (Ext _ _)›))))).mono ?_; rintro e w1 ⟨s1, rfl, h1, ho1⟩; obtain ⟨A1, c1, rfl⟩ := ho1.form; have H1 := Lib.hid h1; have HO1 := Lib.hid (OwnL.rd ho1 vwc_size); clear h1 ho1)
        go_wp2_with fail
        (refine (law_leadBegun _).mono ?_; rintro e w2 ⟨rfl, h2⟩; have H2 := Lib.hid h2; have hz2 := h2.size; clear h2; (try simp only [World.size_alloc, size_set, World.heap_drewN, size_drew] at hz2))
        go_wp2_with fail
        (refine (HNow.out _ _ (HO1.out.ext (by repeat (first | (with_reducible exact Ext.refl _) | (with_reducible refine Ext.alloc ?_ _) | (with_reducible apply Ext.setC; focus (simp <;> omega)) | (with_reducible refine Ext.drew ?_) | (with_reducible refine Ext.drewN ?_ _) | (with_reducible refine Ext.trans ?_ (Hid.out ‹Hid (Ext _ _)›)))))).mono ?_; rintro e w3 ⟨rfl, h3⟩; have H3 := Lib.hid h3; have hz3 := h3.size; clear h3; (try simp only [World.size_alloc, size_set, World.heap_drewN, size_drew] at hz3))
        go_wp2_with fail
        (refine (HChk.out _ _ (HO1.out.ext (by repeat (first | (with_reducible exact Ext.refl _) | (with_reducible refine Ext.alloc ?_ _) | (with_reducible apply Ext.setC; focus (simp <;> omega)) | (with_reducible refine Ext.drew ?_) | (with_reducible refine Ext.drewN ?_ _) | (with_reducible refine Ext.trans ?_ (Hid.out ‹Hid (Ext _ _)›)))))).mono ?_; rintro e w4 ⟨rfl, h4⟩; have H4 := Lib.hid h4; have hz4 := h4.size; clear h4; (try simp only [World.size_alloc, size_set, World.heap_drewN, size_drew] at hz4))
        go_wp2_with fail
        (refine (HSet.out _ _ (HO1.out.ext (by repeat (first | (with_reducible exact Ext.refl _) | (with_reducible refine Ext.alloc ?_ _) | (with_reducible apply Ext.setC; focus (simp <;> omega)) | (with_reducible refine Ext.drew ?_) | (with_reducible refine Ext.drewN ?_ _) | (with_reducible refine Ext.trans ?_ (Hid.out ‹Hid (Ext _ _)›)))))).mono ?_; rintro e w5 ⟨s5, rfl, h5, ho5⟩; obtain ⟨A5, c5, rfl⟩ := ho5.form; have H5 := Lib.hid h5; have HO5 := Lib.hid (OwnL.rd ho5 vwc_size); clear h5 ho5)
        go_wp2_with fail
        (refine (HNB.out _ _ (HO5.out.ext (by repeat (first | (with_reducible exact Ext.refl _) | (with_reducible refine Ext.alloc ?_ _) | (with_reducible apply Ext.setC; focus (simp <;> omega)) | (with_reducible refine Ext.drew ?_) | (with_reducible refine Ext.drewN ?_ _) | (with_reducible refine Ext.trans ?_ (Hid.out ‹Hid (Ext _ _)›)))))).mono ?_; rintro e w6 ⟨rfl, h6⟩; have H6 := Lib.hid h6; have hz6 := h6.size; clear h6; (try simp only [World.size_alloc, size_set, World.heap_drewN, size_drew] at hz6))
        have hO1b := HO1.out.ext (show Ext w1 w6 by repeat (first | (with_reducible exact Ext.refl _) | (with_reducible refine Ext.alloc ?_ _) | (with_reducible apply Ext.setC; focus (simp <;> omega)) | (with_reducible refine Ext.drew ?_) | (with_reducible refine Ext.drewN ?_ _) | (with_reducible refine Ext.trans ?_ (Hid.out ‹Hid (Ext _ _)›))))
        have hO5b := HO5.out.ext (show Ext w5 w6 by repeat (first | (with_reducible exact Ext.refl _) | (with_reducible refine Ext.alloc ?_ _) | (with_reducible apply Ext.setC; focus (simp <;> omega)) | (with_reducible refine Ext.drew ?_) | (with_reducible refine Ext.drewN ?_ _) | (with_reducible refine Ext.trans ?_ (Hid.out ‹Hid (Ext _ _)›))))
        have HE6 := Lib.hid (show Ext w w6 by repeat (first | (with_reducible exact Ext.refl _) | (with_reducible refine Ext.alloc ?_ _) | (with_reducible apply Ext.setC; focus (simp <;> omega)) | (with_reducible refine Ext.drew ?_) | (with_reducible refine Ext.drewN ?_ _) | (with_reducible refine Ext.trans ?_ (Hid.out ‹Hid (Ext _ _)›))))
        have HO1b := Lib.hid hO1b
        have HO5b := Lib.hid hO5b
        clear H1 H2 H3 H4 H5 H6 HO1 HO5 hO1b hO5b
        rw [HRL.out] at HO1b ⊢
        rw [HBL.out] at HO5b ⊢
        go_wp2_with fail
        go_loopg [18, 19] 3 (fun gg s18 s19 wr => ∃ (k : Nat) (x : Int), k ≤ 3 ∧ 3 - k ≤ gg ∧ s18 = .int .i64 x ∧ s19 = .int .i64 k ∧ 0 ≤ x ∧ x ≤ k ∧ Aside (Ext w6 wr) ∧ Aside (x + countV (upTop T) (B.drop k) = cnt))
        case atStart => exact ⟨0, 0, by omega, by omega, rfl, rfl, by omega, by omega, Ext.refl _, by rw [Int.zero_add]; exact HCNT.out⟩
        case round =>
          obtain ⟨k, x, hk, hg, rfl, rfl, hx0, hxk, HE, HA⟩ := hrel
          have hRd1 := HO1b.out.ext HE.out
          have hRd5 := HO5b.out.ext HE.out
          obtain ⟨b1, o1, hA1, hb1, a0, a1, a2⟩ := hRd1.vw_at rfl HRLN.out
          rw [HRE.out] at a0
          obtain ⟨b5, o5, hA5, hb5, d0, d1, d2⟩ := hRd5.vw_at rfl HBN.out
          subst hA1 hA5
          by_cases hlt : k < 3
          · have hlt' : (k : Int) < 3 := by omega
            have hkB : k < B.length := by rw [HBL.out]; exact hlt
            obtain ⟨b5', o5', hA5, -, e0, e1, e2⟩ := hRd5.vw_at rfl hkB
            injection hA5 with hA5
            injection hA5 with q1 q2
            subst q1 q2
            have hA := HA.out
            rw [List.drop_eq_getElem_cons hkB, countV_cons] at hA
            have hut : upTop T B[k] = (B[k].epoch == T && B[k].up) := rfl
            rw [hut] at hA
            have HX := Lib.hid hA
            have HE7 := Lib.hid HE.out
            have hw2 : IntKind.i64.wrap (x + 1) = x + 1 := IntWalk.i64_in _ (by omega)
            clear hA HA HE hut hRd1 hRd5 d0 d1 d2 a1 a2 e1
            generalize B[k].epoch = y0 at *
            generalize B[k].up = y2 at *
            have hA := HX.out
            clear HX
            cases y2
            · rw [Bool.and_false] at hA
              have HA2 := Lib.hid (show x + countV (upTop T) (B.drop (k + 1)) = cnt by simpa using hA)
              clear hA
              go_wp2_with fail
              go_quiet (fail)
              go_wp2_with fail
              go_roundg (3 - (k + 1))
              case measure => omega
              case rel => exact ⟨k + 1, x, by omega, by omega, rfl, by go_num, by omega, by push_cast; omega, HE7.out.drewN _, HA2.out⟩
            · by_cases hy : y0 = T
              · have hyb : (y0 == T) = true := by simpa using hy
                rw [hyb, Bool.true_and] at hA
                have HA2 := Lib.hid (show x + 1 + countV (upTop T) (B.drop (k + 1)) = cnt by simp at hA; omega)
                clear hA hy
                go_wp2_with fail
                go_quiet (fail)
                go_wp2_with fail
                go_roundg (3 - (k + 1))
                case measure => omega
                case rel => exact ⟨k + 1, x + 1, by omega, by omega, by go_num, by go_num, by omega, by push_cast; omega, HE7.out.drewN _, HA2.out⟩
              · have hyb : (y0 == T) = false := by simpa using hy
                rw [hyb, Bool.false_and] at hA
                have HA2 := Lib.hid (show x + countV (upTop T) (B.drop (k + 1)) = cnt by simpa using hA)
                clear hA hy
                go_wp2_with fail
                go_quiet (fail)
                go_wp2_with fail
                go_roundg (3 - (k + 1))
                case measure => omega
                case rel => exact ⟨k + 1, x, by omega, by omega, rfl, by go_num, by omega, by push_cast; omega, HE7.out.drewN _, HA2.out⟩
          · have hk3 : k = 3 := by omega
            subst hk3
            have hxc : x = cnt := by
              have := HA.out
              rw [List.drop_of_length_le (by rw [HBL.out]; exact Nat.le_refl _)] at this
              simpa [countV] using this
            subst hxc
            have HE7 := Lib.hid (show Ext w wr from HE6.out.trans HE.out)
            have HO7 := Lib.hid (show RdL 3 vwc wr (.slice (some ⟨b5, o5, none⟩) 3 c5) B from hRd5)
            clear HA HE hRd1 hRd5 d0 d1 a0 a1 a2 HE6 HO1b HO5b HCNT HNow HChk HSet HW
            generalize B[n].up = u at *
            obtain ⟨hism, hisb⟩ : (is = (u && decide (2 ≤ x))) ∧ (is = true → m = n) := by
              have := HMI.out
              cases hb : (u && decide (2 ≤ x)) with
              | true => rw [hb, if_pos rfl] at this; injection this with e1 e2; exact ⟨e2.symm, fun _ => e1.symm⟩
              | false => rw [hb, if_neg (by decide)] at this; injection this with e1 e2; subst e2; exact ⟨rfl, fun h => by cases h⟩
            clear HMI
            rcases HCS.out with hc | hc | ⟨C, hc, hnC⟩
            · have hWC := HWB.out
              rw [hc] at hWC
              simp only at hWC
              have HWC := Lib.hid hWC
              have HN2 := HNB
              clear hWC hc HWB HCS
              cases u
              · rw [Bool.false_and] at hism
                subst hism
                clear hisb
                go_wp2_with fail
                (refine (HWC.out _ _ (HO7.out.ext (by repeat (first | (with_reducible exact Ext.refl _) | (with_reducible refine Ext.alloc ?_ _) | (with_reducible apply Ext.setC; focus (simp <;> omega)) | (with_reducible refine Ext.drew ?_) | (with_reducible refine Ext.drewN ?_ _) | (with_reducible refine Ext.trans ?_ (Hid.out ‹Hid (Ext _ _)›)))))).mono ?_; rintro e w8 ⟨s8, rfl, h8, ho8⟩; obtain ⟨A8, c8, rfl⟩ := ho8.form; have H8 := Lib.hid h8; have HO8 := Lib.hid (OwnL.rd ho8 vwc_size); clear h8 ho8)
                go_wp2_with fail
                (refine (HN2.out _ _ (HO8.out.ext (by repeat (first | (with_reducible exact Ext.refl _) | (with_reducible refine Ext.alloc ?_ _) | (with_reducible apply Ext.setC; focus (simp <;> omega)) | (with_reducible refine Ext.drew ?_) | (with_reducible refine Ext.drewN ?_ _) | (with_reducible refine Ext.trans ?_ (Hid.out ‹Hid (Ext _ _)›)))))).mono ?_; rintro e w9 ⟨rfl, h9⟩; have H9 := Lib.hid h9; have hz9 := h9.size; clear h9; (try simp only [World.size_alloc, size_set, World.heap_drewN, size_drew] at hz9))
                go_wp2_with fail
                go_ret
                refine ⟨ret_bool (by simp), ?_⟩
                repeat (first | (with_reducible exact Ext.refl _) | (with_reducible refine Ext.alloc ?_ _) | (with_reducible apply Ext.setC; focus (simp <;> omega)) | (with_reducible refine Ext.drew ?_) | (with_reducible refine Ext.drewN ?_ _) | (with_reducible refine Ext.trans ?_ (Hid.out ‹Hid (Ext _ _)›)))
              · by_cases hx2 : 2 ≤ x
                · have hxd : decide (2 ≤ x) = true := by simpa using hx2
                  rw [hxd, Bool.true_and] at hism
                  have hmn := hisb hism
                  subst hism hmn
                  clear hisb
                  go_wp2_with fail
                  (refine (HWC.out _ _ (HO7.out.ext (by repeat (first | (with_reducible exact Ext.refl _) | (with_reducible refine Ext.alloc ?_ _) | (with_reducible apply Ext.setC; focus (simp <;> omega)) | (with_reducible refine Ext.drew ?_) | (with_reducible refine Ext.drewN ?_ _) | (with_reducible refine Ext.trans ?_ (Hid.out ‹Hid (Ext _ _)›)))))).mono ?_; rintro e w8 ⟨s8, rfl, h8, ho8⟩; obtain ⟨A8, c8, rfl⟩ := ho8.form; have H8 := Lib.hid h8; have HO8 := Lib.hid (OwnL.rd ho8 vwc_size); clear h8 ho8)
                  go_wp2_with fail
                  (refine (HN2.out _ _ (HO8.out.ext (by repeat (first | (with_reducible exact Ext.refl _) | (with_reducible refine Ext.alloc ?_ _) | (with_reducible apply Ext.setC; focus (simp <;> omega)) | (with_reducible refine Ext.drew ?_) | (with_reducible refine Ext.drewN ?_ _) | (with_reducible refine Ext.trans ?_ (Hid.out ‹Hid (Ext _ _)›)))))).mono ?_; rintro e w9 ⟨rfl, h9⟩; have H9 := Lib.hid h9; have hz9 := h9.size; clear h9; (try simp only [World.size_alloc, size_set, World.heap_drewN, size_drew] at hz9))
                  go_wp2_with fail
                  go_ret
                  refine ⟨ret_bool (by simp), ?_⟩
                  repeat (first | (with_reducible exact Ext.refl _) | (with_reducible refine Ext.alloc ?_ _) | (with_reducible apply Ext.setC; focus (simp <;> omega)) | (with_reducible refine Ext.drew ?_) | (with_reducible refine Ext.drewN ?_ _) | (with_reducible refine Ext.trans ?_ (Hid.out ‹Hid (Ext _ _)›)))
                · have hxd : decide (2 ≤ x) = false := by simpa using hx2
                  rw [hxd, Bool.true_and] at hism
                  subst hism
                  clear hisb
                  go_wp2_with fail
                  (refine (HWC.out _ _ (HO7.out.ext (by repeat (first | (with_reducible exact Ext.refl _) | (with_reducible refine Ext.alloc ?_ _) | (with_reducible apply Ext.setC; focus (simp <;> omega)) | (with_reducible refine Ext.drew ?_) | (with_reducible refine Ext.drewN ?_ _) | (with_reducible refine Ext.trans ?_ (Hid.out ‹Hid (Ext _ _)›)))))).mono ?_; rintro e w8 ⟨s8, rfl, h8, ho8⟩; obtain ⟨A8, c8, rfl⟩ := ho8.form; have H8 := Lib.hid h8; have HO8 := Lib.hid (OwnL.rd ho8 vwc_size); clear h8 ho8)
                  go_wp2_with fail
                  (refine (HN2.out _ _ (HO8.out.ext (by repeat (first | (with_reducible exact Ext.refl _) | (with_reducible refine Ext.alloc ?_ _) | (with_reducible apply Ext.setC; focus (simp <;> omega)) | (with_reducible refine Ext.drew ?_) | (with_reducible refine Ext.drewN ?_ _) | (with_reducible refine Ext.trans ?_ (Hid.out ‹Hid (Ext _ _)›)))))).mono ?_; rintro e w9 ⟨rfl, h9⟩; have H9 := Lib.hid h9; have hz9 := h9.size; clear h9; (try simp only [World.size_alloc, size_set, World.heap_drewN, size_drew] at hz9))
                  go_wp2_with fail
                  go_ret
                  refine ⟨ret_bool (by simp), ?_⟩
                  repeat (first | (with_reducible exact Ext.refl _) | (with_reducible refine Ext.alloc ?_ _) | (with_reducible apply Ext.setC; focus (simp <;> omega)) | (with_reducible refine Ext.drew ?_) | (with_reducible refine Ext.drewN ?_ _) | (with_reducible refine Ext.trans ?_ (Hid.out ‹Hid (Ext _ _)›)))
            · have hWC := HWB.out
              rw [hc] at hWC
              simp only at hWC
              have HWC := Lib.hid hWC
              have hN2 := fun (s : Value) (w' : World) (h : RdL 3 vwc w' s []) => lead_Now [] s w' h
              rw [show nowAll [] = (0, false, 1) from by decide +kernel] at hN2
              have HN2 := Lib.hid hN2
              clear hWC hc HWB HCS hN2
              cases u
              · rw [Bool.false_and] at hism
                subst hism
                clear hisb
                go_wp2_with fail
                (refine (HWC.out _ _ (HO7.out.ext (by repeat (first | (with_reducible exact Ext.refl _) | (with_reducible refine Ext.alloc ?_ _) | (with_reducible apply Ext.setC; focus (simp <;> omega)) | (with_reducible refine Ext.drew ?_) | (with_reducible refine Ext.drewN ?_ _) | (with_reducible refine Ext.trans ?_ (Hid.out ‹Hid (Ext _ _)›)))))).mono ?_; rintro e w8 ⟨s8, rfl, h8, ho8⟩; obtain ⟨A8, c8, rfl⟩ := ho8.form; have H8 := Lib.hid h8; have HO8 := Lib.hid (OwnL.rd ho8 vwc_size); clear h8 ho8)
                go_wp2_with fail
                (refine (HN2.out _ _ (HO8.out.ext (by repeat (first | (with_reducible exact Ext.refl _) | (with_reducible refine Ext.alloc ?_ _) | (with_reducible apply Ext.setC; focus (simp <;> omega)) | (with_reducible refine Ext.drew ?_) | (with_reducible refine Ext.drewN ?_ _) | (with_reducible refine Ext.trans ?_ (Hid.out ‹Hid (Ext _ _)›)))))).mono ?_; rintro e w9 ⟨rfl, h9⟩; have H9 := Lib.hid h9; have hz9 := h9.size; clear h9; (try simp only [World.size_alloc, size_set, World.heap_drewN, size_drew] at hz9))
                go_wp2_with fail
                go_ret
                refine ⟨ret_bool (by simp), ?_⟩
                repeat (first | (with_reducible exact Ext.refl _) | (with_reducible refine Ext.alloc ?_ _) | (with_reducible apply Ext.setC; focus (simp <;> omega)) | (with_reducible refine Ext.drew ?_) | (with_reducible refine Ext.drewN ?_ _) | (with_reducible refine Ext.trans ?_ (Hid.out ‹Hid (Ext _ _)›)))
              · by_cases hx2 : 2 ≤ x
                · have hxd : decide (2 ≤ x) = true := by simpa using hx2
                  rw [hxd, Bool.true_and] at hism
                  have hmn := hisb hism
                  subst hism hmn
                  clear hisb
                  go_wp2_with fail
                  (refine (HWC.out _ _ (HO7.out.ext (by repeat (first | (with_reducible exact Ext.refl _) | (with_reducible refine Ext.alloc ?_ _) | (with_reducible apply Ext.setC; focus (simp <;> omega)) | (with_reducible refine Ext.drew ?_) | (with_reducible refine Ext.drewN ?_ _) | (with_reducible refine Ext.trans ?_ (Hid.out ‹Hid (Ext _ _)›)))))).mono ?_; rintro e w8 ⟨s8, rfl, h8, ho8⟩; obtain ⟨A8, c8, rfl⟩ := ho8.form; have H8 := Lib.hid h8; have HO8 := Lib.hid (OwnL.rd ho8 vwc_size); clear h8 ho8)
                  go_wp2_with fail
                  (refine (HN2.out _ _ (HO8.out.ext (by repeat (first | (with_reducible exact Ext.refl _) | (with_reducible refine Ext.alloc ?_ _) | (with_reducible apply Ext.setC; focus (simp <;> omega)) | (with_reducible refine Ext.drew ?_) | (with_reducible refine Ext.drewN ?_ _) | (with_reducible refine Ext.trans ?_ (Hid.out ‹Hid (Ext _ _)›)))))).mono ?_; rintro e w9 ⟨rfl, h9⟩; have H9 := Lib.hid h9; have hz9 := h9.size; clear h9; (try simp only [World.size_alloc, size_set, World.heap_drewN, size_drew] at hz9))
                  go_wp2_with fail
                  go_ret
                  refine ⟨ret_bool (by simp), ?_⟩
                  repeat (first | (with_reducible exact Ext.refl _) | (with_reducible refine Ext.alloc ?_ _) | (with_reducible apply Ext.setC; focus (simp <;> omega)) | (with_reducible refine Ext.drew ?_) | (with_reducible refine Ext.drewN ?_ _) | (with_reducible refine Ext.trans ?_ (Hid.out ‹Hid (Ext _ _)›)))
                · have hxd : decide (2 ≤ x) = false := by simpa using hx2
                  rw [hxd, Bool.true_and] at hism
                  subst hism
                  clear hisb
                  go_wp2_with fail
                  (refine (HWC.out _ _ (HO7.out.ext (by repeat (first | (with_reducible exact Ext.refl _) | (with_reducible refine Ext.alloc ?_ _) | (with_reducible apply Ext.setC; focus (simp <;> omega)) | (with_reducible refine Ext.drew ?_) | (with_reducible refine Ext.drewN ?_ _) | (with_reducible refine Ext.trans ?_ (Hid.out ‹Hid (Ext _ _)›)))))).mono ?_; rintro e w8 ⟨s8, rfl, h8, ho8⟩; obtain ⟨A8, c8, rfl⟩ := ho8.form; have H8 := Lib.hid h8; have HO8 := Lib.hid (OwnL.rd ho8 vwc_size); clear h8 ho8)
                  go_wp2_with fail
                  (refine (HN2.out _ _ (HO8.out.ext (by repeat (first | (with_reducible exact Ext.refl _) | (with_reducible refine Ext.alloc ?_ _) | (with_reducible apply Ext.setC; focus (simp <;> omega)) | (with_reducible refine Ext.drew ?_) | (with_reducible refine Ext.drewN ?_ _) | (with_reducible refine Ext.trans ?_ (Hid.out ‹Hid (Ext _ _)›)))))).mono ?_; rintro e w9 ⟨rfl, h9⟩; have H9 := Lib.hid h9; have hz9 := h9.size; clear h9; (try simp only [World.size_alloc, size_set, World.heap_drewN, size_drew] at hz9))
                  go_wp2_with fail
                  go_ret
                  refine ⟨ret_bool (by simp), ?_⟩
                  repeat (first | (with_reducible exact Ext.refl _) | (with_reducible refine Ext.alloc ?_ _) | (with_reducible apply Ext.setC; focus (simp <;> omega)) | (with_reducible refine Ext.drew ?_) | (with_reducible refine Ext.drewN ?_ _) | (with_reducible refine Ext.trans ?_ (Hid.out ‹Hid (Ext _ _)›)))
            · have hWC := HWB.out
              rw [hc] at hWC
              simp only at hWC
              have HWC := Lib.hid hWC
              have hN2 := fun (s : Value) (w' : World) (h : RdL 3 vwc w' s C) => lead_Now C s w' h
              rw [hnC] at hN2
              have HN2 := Lib.hid hN2
              clear hWC hc HWB HCS hN2 hnC
              cases u
              · rw [Bool.false_and] at hism
                subst hism
                clear hisb
                go_wp2_with fail
                (refine (HWC.out _ _ (HO7.out.ext (by repeat (first | (with_reducible exact Ext.refl _) | (with_reducible refine Ext.alloc ?_ _) | (with_reducible apply Ext.setC; focus (simp <;> omega)) | (with_reducible refine Ext.drew ?_) | (with_reducible refine Ext.drewN ?_ _) | (with_reducible refine Ext.trans ?_ (Hid.out ‹Hid (Ext _ _)›)))))).mono ?_; rintro e w8 ⟨s8, rfl, h8, ho8⟩; obtain ⟨A8, c8, rfl⟩ := ho8.form; have H8 := Lib.hid h8; have HO8 := Lib.hid (OwnL.rd ho8 vwc_size); clear h8 ho8)
                go_wp2_with fail
                (refine (HN2.out _ _ (HO8.out.ext (by repeat (first | (with_reducible exact Ext.refl _) | (with_reducible refine Ext.alloc ?_ _) | (with_reducible apply Ext.setC; focus (simp <;> omega)) | (with_reducible refine Ext.drew ?_) | (with_reducible refine Ext.drewN ?_ _) | (with_reducible refine Ext.trans ?_ (Hid.out ‹Hid (Ext _ _)›)))))).mono ?_; rintro e w9 ⟨rfl, h9⟩; have H9 := Lib.hid h9; have hz9 := h9.size; clear h9; (try simp only [World.size_alloc, size_set, World.heap_drewN, size_drew] at hz9))
                go_wp2_with fail
                go_ret
                refine ⟨ret_bool (by simp), ?_⟩
                repeat (first | (with_reducible exact Ext.refl _) | (with_reducible refine Ext.alloc ?_ _) | (with_reducible apply Ext.setC; focus (simp <;> omega)) | (with_reducible refine Ext.drew ?_) | (with_reducible refine Ext.drewN ?_ _) | (with_reducible refine Ext.trans ?_ (Hid.out ‹Hid (Ext _ _)›)))
              · by_cases hx2 : 2 ≤ x
                · have hxd : decide (2 ≤ x) = true := by simpa using hx2
                  rw [hxd, Bool.true_and] at hism
                  have hmn := hisb hism
                  subst hism hmn
                  clear hisb
                  go_wp2_with fail
                  (refine (HWC.out _ _ (HO7.out.ext (by repeat (first | (with_reducible exact Ext.refl _) | (with_reducible refine Ext.alloc ?_ _) | (with_reducible apply Ext.setC; focus (simp <;> omega)) | (with_reducible refine Ext.drew ?_) | (with_reducible refine Ext.drewN ?_ _) | (with_reducible refine Ext.trans ?_ (Hid.out ‹Hid (Ext _ _)›)))))).mono ?_; rintro e w8 ⟨s8, rfl, h8, ho8⟩; obtain ⟨A8, c8, rfl⟩ := ho8.form; have H8 := Lib.hid h8; have HO8 := Lib.hid (OwnL.rd ho8 vwc_size); clear h8 ho8)
                  go_wp2_with fail
                  (refine (HN2.out _ _ (HO8.out.ext (by repeat (first | (with_reducible exact Ext.refl _) | (with_reducible refine Ext.alloc ?_ _) | (with_reducible apply Ext.setC; focus (simp <;> omega)) | (with_reducible refine Ext.drew ?_) | (with_reducible refine Ext.drewN ?_ _) | (with_reducible refine Ext.trans ?_ (Hid.out ‹Hid (Ext _ _)›)))))).mono ?_; rintro e w9 ⟨rfl, h9⟩; have H9 := Lib.hid h9; have hz9 := h9.size; clear h9; (try simp only [World.size_alloc, size_set, World.heap_drewN, size_drew] at hz9))
                  go_wp2_with fail
                  go_ret
                  refine ⟨ret_bool (by simp), ?_⟩
                  repeat (first | (with_reducible exact Ext.refl _) | (with_reducible refine Ext.alloc ?_ _) | (with_reducible apply Ext.setC; focus (simp <;> omega)) | (with_reducible refine Ext.drew ?_) | (with_reducible refine Ext.drewN ?_ _) | (with_reducible refine Ext.trans ?_ (Hid.out ‹Hid (Ext _ _)›)))
                · have hxd : decide (2 ≤ x) = false := by simpa using hx2
                  rw [hxd, Bool.true_and] at hism
                  subst hism
                  clear hisb
                  go_wp2_with fail
                  (refine (HWC.out _ _ (HO7.out.ext (by repeat (first | (with_reducible exact Ext.refl _) | (with_reducible refine Ext.alloc ?_ _) | (with_reducible apply Ext.setC; focus (simp <;> omega)) | (with_reducible refine Ext.drew ?_) | (with_reducible refine Ext.drewN ?_ _) | (with_reducible refine Ext.trans ?_ (Hid.out ‹Hid (Ext _ _)›)))))).mono ?_; rintro e w8 ⟨s8, rfl, h8, ho8⟩; obtain ⟨A8, c8, rfl⟩ := ho8.form; have H8 := Lib.hid h8; have HO8 := Lib.hid (OwnL.rd ho8 vwc_size); clear h8 ho8)
                  go_wp2_with fail
                  (refine (HN2.out _ _ (HO8.out.ext (by repeat (first | (with_reducible exact Ext.refl _) | (with_reducible refine Ext.alloc ?_ _) | (with_reducible apply Ext.setC; focus (simp <;> omega)) | (with_reducible refine Ext.drew ?_) | (with_reducible refine Ext.drewN ?_ _) | (with_reducible refine Ext.trans ?_ (Hid.out ‹Hid (Ext _ _)›)))))).mono ?_; rintro e w9 ⟨rfl, h9⟩; have H9 := Lib.hid h9; have hz9 := h9.size; clear h9; (try simp only [World.size_alloc, size_set, World.heap_drewN, size_drew] at hz9))
                  go_wp2_with fail
                  go_ret
                  refine ⟨ret_bool (by simp), ?_⟩
                  repeat (first | (with_reducible exact Ext.refl _) | (with_reducible refine Ext.alloc ?_ _) | (with_reducible apply Ext.setC; focus (simp <;> omega)) | (with_reducible refine Ext.drew ?_) | (with_reducible refine Ext.drewN ?_ _) | (with_reducible refine Ext.trans ?_ (Hid.out ‹Hid (Ext _ _)›)))
      · have he := setAll_err hz
        have hzb : ((setAll R voter up).2 != 0) = true := by simpa using hz
        generalize setAll R voter up = Z at *
        obtain ⟨z1, z2⟩ := Z
        simp only at he hzb hSet
        subst he
        have HSet := Lib.hid hSet
        clear hSet hz hone hR2 hd2 hR hRl hRe hwi hTT
        go_enter Try.func5, Try.ntmps5
        go_wp2_with fail
        (refine (HW.out _ (by repeat (first | (with_reducible exact Ext.refl _) | (with_reducible refine Ext.alloc ?_ _) | (with_reducible apply Ext.setC; focus (simp <;> omega)) | (with_reducible refine Ext.drew ?_) | (with_reducible refine Ext.drewN ?_ _) | (with_reducible refine Ext.trans ?_ (Hid.out ‹Hid (Ext _ _)›))))).mono ?_; rintro e w1 ⟨s1, rfl, h1, ho1⟩; obtain ⟨A1, c1, rfl⟩ := ho1.form; have H1 := Lib.hid h1; have HO1 := Lib.hid (OwnL.rd ho1 vwc_size); clear h1 ho1)
        go_wp2_with fail
        (refine (law_leadBegun _).mono ?_; rintro e w2 ⟨rfl, h2⟩; have H2 := Lib.hid h2; have hz2 := h2.size; clear h2; (try simp only [World.size_alloc, size_set, World.heap_drewN, size_drew] at hz2))
        go_wp2_with fail
        (refine (HNow.out _ _ (HO1.out.ext (by repeat (first | (with_reducible exact Ext.refl _) | (with_reducible refine Ext.alloc ?_ _) | (with_reducible apply Ext.setC; focus (simp <;> omega)) | (with_reducible refine Ext.drew ?_) | (with_reducible refine Ext.drewN ?_ _) | (with_reducible refine Ext.trans ?_ (Hid.out ‹Hid (Ext _ _)›)))))).mono ?_; rintro e w3 ⟨rfl, h3⟩; have H3 := Lib.hid h3; have hz3 := h3.size; clear h3; (try simp only [World.size_alloc, size_set, World.heap_drewN, size_drew] at hz3))
        go_wp2_with fail
        (refine (HChk.out _ _ (HO1.out.ext (by repeat (first | (with_reducible exact Ext.refl _) | (with_reducible refine Ext.alloc ?_ _) | (with_reducible apply Ext.setC; focus (simp <;> omega)) | (with_reducible refine Ext.drew ?_) | (with_reducible refine Ext.drewN ?_ _) | (with_reducible refine Ext.trans ?_ (Hid.out ‹Hid (Ext _ _)›)))))).mono ?_; rintro e w4 ⟨rfl, h4⟩; have H4 := Lib.hid h4; have hz4 := h4.size; clear h4; (try simp only [World.size_alloc, size_set, World.heap_drewN, size_drew] at hz4))
        go_wp2_with fail
        (refine (HSet.out _ _ (HO1.out.ext (by repeat (first | (with_reducible exact Ext.refl _) | (with_reducible refine Ext.alloc ?_ _) | (with_reducible apply Ext.setC; focus (simp <;> omega)) | (with_reducible refine Ext.drew ?_) | (with_reducible refine Ext.drewN ?_ _) | (with_reducible refine Ext.trans ?_ (Hid.out ‹Hid (Ext _ _)›)))))).mono ?_; rintro e w5 ⟨s5, rfl, h5, ho5⟩; obtain ⟨A5, c5, rfl⟩ := ho5.form; have H5 := Lib.hid h5; have HO5 := Lib.hid (OwnL.rd ho5 vwc_size); clear h5 ho5)
        go_wp2_with fail
        go_ret
        refine ⟨ret_bool (by simp), ?_⟩
        repeat (first | (with_reducible exact Ext.refl _) | (with_reducible refine Ext.alloc ?_ _) | (with_reducible apply Ext.setC; focus (simp <;> omega)) | (with_reducible refine Ext.drew ?_) | (with_reducible refine Ext.drewN ?_ _) | (with_reducible refine Ext.trans ?_ (Hid.out ‹Hid (Ext _ _)›)))
  · have hb : ((winAll l who).2.2 != 0) = true := by simpa using h0
    generalize winAll l who = Y at *
    obtain ⟨y1, y2, y3⟩ := Y
    simp only at hb HW
    subst hv
    clear hr h0
    go_enter Try.func5, Try.ntmps5
    go_wp2_with fail
    (refine (HW.out _ (by repeat (first | (with_reducible exact Ext.refl _) | (with_reducible refine Ext.alloc ?_ _) | (with_reducible apply Ext.setC; focus (simp <;> omega)) | (with_reducible refine Ext.drew ?_) | (with_reducible refine Ext.drewN ?_ _) | (with_reducible refine Ext.trans ?_ (Hid.out ‹Hid (Ext _ _)›))))).mono ?_; rintro e w1 ⟨s1, rfl, h1, ho1⟩; obtain ⟨A1, c1, rfl⟩ := ho1.form; have H1 := Lib.hid h1; have HO1 := Lib.hid (OwnL.rd ho1 vwc_size); clear h1 ho1)
    go_wp2_with fail
    (refine (law_leadBegun _).mono ?_; rintro e w2 ⟨rfl, h2⟩; have H2 := Lib.hid h2; have hz2 := h2.size; clear h2; (try simp only [World.size_alloc, size_set, World.heap_drewN, size_drew] at hz2))
    go_wp2_with fail
    go_ret
    refine ⟨ret_bool (by simp), ?_⟩
    repeat (first | (with_reducible exact Ext.refl _) | (with_reducible refine Ext.alloc ?_ _) | (with_reducible apply Ext.setC; focus (simp <;> omega)) | (with_reducible refine Ext.drew ?_) | (with_reducible refine Ext.drewN ?_ _) | (with_reducible refine Ext.trans ?_ (Hid.out ‹Hid (Ext _ _)›)))
end Go.Proofs.Ythollackhkiofaa
