/- The references' CheckViews. -/
import Derived.Test.YthollackhkiofaaViewG
namespace Go.Proofs.Ythollackhkiofaa
set_option linter.unusedSimpArgs false
set_option linter.unusedVariables false
open Go Go.RowKit Lb

set_option maxRecDepth 100000 in
set_option maxHeartbeats 4000000 in
theorem ref_CheckViews (l : List Vw) (v : Value) (w : World) (hr : RdL 3 vwc w v l) :
    Calls Try.prog 18 #[v] w fun e w' => e = .returned (.int .i64 (ckViews l)) ∧ Ext w w' := by
  obtain ⟨A, c, rfl, hmc, hm0⟩ := hr.form
  have hm : l.length ≤ 9223372036854775807 := by unfold maxLen at hm0; omega
  unfold ckViews
  by_cases h3 : l.length = 3
  · rw [if_neg (by simpa using h3), h3]
    rw [h3] at hr
    have HRd := Lib.hid hr
    have HL := Lib.hid h3
    have h3c : 3 ≤ c := by omega
    generalize hR1 : eachE ckView l = r1
    generalize hR2 : clashes [] l = r2
    generalize hR3 : (if r1 ≠ 0 then r1 else if r2 = true then (4 : Int) else 0) = res
    have HR1 := Lib.hid hR1
    have HR2 := Lib.hid hR2
    have HR3 := Lib.hid hR3
    have HCK := Lib.hid (fun (h : r1 = 0) x (hx : x ∈ l) => (ckView_ok x).1 (eachE_ok.1 (hR1.trans h) x hx))
    clear hr h3 hR1 hR2 hR3 hm hm0 hmc
    go_enter Try.func18, Try.ntmps18
    go_wp2_with fail
    go_loopg [2, 3] 3 (fun gg _ s3 wr => ∃ k : Nat, k ≤ 3 ∧ 3 - k ≤ gg ∧ s3 = .int .i64 k ∧ Aside (Ext w wr) ∧ Aside (eachE ckView (l.drop k) = r1))
    case atStart => exact ⟨0, by omega, by omega, rfl, Ext.refl _, HR1.out⟩
    case round =>
      obtain ⟨k, hk, hg, rfl, HE, HA⟩ := hrel
      by_cases hlt : k < 3
      · have hkl : k < l.length := by rw [HL.out]; exact hlt
        have hlt' : (k : Int) < 3 := by omega
        obtain ⟨b, o, rfl, hb, c0, c1, c2⟩ := (HRd.out.ext HE.out).vw_at rfl hkl
        have hA := HA.out
        rw [List.drop_eq_getElem_cons hkl, eachE_cons] at hA
        have hck : ckView l[k] = if within l[k].epoch 0 99 = false ∨ within l[k].leader 0 1 = false then 3 else if l[k].epoch = 0 ∧ l[k].leader ≠ 0 then 4 else 0 := rfl
        have hW0 := fun w => ref_between l[k].epoch 0 99 w
        have hW1 := fun w => ref_between l[k].leader 0 1 w
        generalize ckView l[k] = q at hA hck
        generalize l[k].epoch = x0 at *
        generalize l[k].leader = x1 at *
        generalize l[k].up = x2 at *
        generalize hz0 : within x0 0 99 = z0 at *
        generalize hz1 : within x1 0 1 = z1 at *
        have HW0 := Lib.hid hW0
        have HW1 := Lib.hid hW1
        have HE2 := Lib.hid HE.out
        clear hW0 hW1 HE HA hkl
        by_cases hq : q = 0
        · have hA2 : eachE ckView (l.drop (k + 1)) = r1 := by rw [if_neg (by simpa using hq)] at hA; exact hA
          have HA2 := Lib.hid hA2
          have hz : z0 = true ∧ z1 = true ∧ ¬ (x0 = 0 ∧ x1 ≠ 0) := by
            rw [hq] at hck
            cases z0 <;> cases z1 <;> simp at hck ⊢
            exact hck
          obtain ⟨rfl, rfl, hz2⟩ := hz
          clear hA hA2 hck hq hz0 hz1
          by_cases hx0 : x0 = 0
          · have hx1 : x1 = 0 := by
              apply Classical.byContradiction
              intro h
              exact hz2 ⟨hx0, h⟩
            subst hx0 hx1
            clear hz2
            go_wp2_with fail
            refine (HW0.out _).mono ?_
            rintro e w' ⟨rfl, rfl⟩
            go_wp2_with fail
            refine (HW1.out _).mono ?_
            rintro e w' ⟨rfl, rfl⟩
            go_wp2_with fail
            go_roundg (3 - (k + 1))
            case measure => omega
            case rel => exact ⟨k + 1, by omega, by omega, by go_num, (show Ext w _ by repeat (first | (with_reducible exact Ext.refl _) | (with_reducible refine Ext.alloc ?_ _) | (with_reducible apply Ext.setC; focus (simp <;> omega)) | (with_reducible refine Ext.drew ?_) | (with_reducible refine Ext.drewN ?_ _) | (with_reducible refine Ext.trans ?_ (Hid.out ‹Hid (Ext _ _)›)))), HA2.out⟩
          · have hx0b : (x0 == 0) = false := by simpa using hx0
            clear hz2
            go_wp2_with fail
            refine (HW0.out _).mono ?_
            rintro e w' ⟨rfl, rfl⟩
            go_wp2_with fail
            refine (HW1.out _).mono ?_
            rintro e w' ⟨rfl, rfl⟩
            go_wp2_with fail
            go_roundg (3 - (k + 1))
            case measure => omega
            case rel => exact ⟨k + 1, by omega, by omega, by go_num, (show Ext w _ by repeat (first | (with_reducible exact Ext.refl _) | (with_reducible refine Ext.alloc ?_ _) | (with_reducible apply Ext.setC; focus (simp <;> omega)) | (with_reducible refine Ext.drew ?_) | (with_reducible refine Ext.drewN ?_ _) | (with_reducible refine Ext.trans ?_ (Hid.out ‹Hid (Ext _ _)›)))), HA2.out⟩
        · have hA2 : res = q := by rw [if_pos hq] at hA; rw [← HR3.out, ← hA, if_pos hq]
          clear hA HR3 HCK
          cases z0
          · have hq3 : res = 3 := by rw [hA2, hck]; simp
            have HQ := Lib.hid hq3
            clear hA2 hck hq hq3 hz0 hz1
            go_wp2_with fail
            refine (HW0.out _).mono ?_
            rintro e w' ⟨rfl, rfl⟩
            go_wp2_with fail
            go_ret
            refine ⟨ret_int (by rw [HQ.out]), ?_⟩
            repeat (first | (with_reducible exact Ext.refl _) | (with_reducible refine Ext.alloc ?_ _) | (with_reducible apply Ext.setC; focus (simp <;> omega)) | (with_reducible refine Ext.drew ?_) | (with_reducible refine Ext.drewN ?_ _) | (with_reducible refine Ext.trans ?_ (Hid.out ‹Hid (Ext _ _)›)))
          · cases z1
            · have hq3 : res = 3 := by rw [hA2, hck]; simp
              have HQ := Lib.hid hq3
              clear hA2 hck hq hq3 hz0 hz1
              go_wp2_with fail
              refine (HW0.out _).mono ?_
              rintro e w' ⟨rfl, rfl⟩
              go_wp2_with fail
              refine (HW1.out _).mono ?_
              rintro e w' ⟨rfl, rfl⟩
              go_wp2_with fail
              go_ret
              refine ⟨ret_int (by rw [HQ.out]), ?_⟩
              repeat (first | (with_reducible exact Ext.refl _) | (with_reducible refine Ext.alloc ?_ _) | (with_reducible apply Ext.setC; focus (simp <;> omega)) | (with_reducible refine Ext.drew ?_) | (with_reducible refine Ext.drewN ?_ _) | (with_reducible refine Ext.trans ?_ (Hid.out ‹Hid (Ext _ _)›)))
            · have hz : x0 = 0 ∧ x1 ≠ 0 := by
                apply Classical.byContradiction
                intro h
                rw [if_neg (by simp), if_neg h] at hck
                exact hq hck
              have hq3 : res = 4 := by rw [hA2, hck, if_neg (by simp), if_pos hz]
              have HQ := Lib.hid hq3
              obtain ⟨hx0, hx1⟩ := hz
              have hx11 : x1 = 1 := by simp [within] at hz1; omega
              subst hx0 hx11
              clear hA2 hck hq hq3 hx1 hz0 hz1
              go_wp2_with fail
              refine (HW0.out _).mono ?_
              rintro e w' ⟨rfl, rfl⟩
              go_wp2_with fail
              refine (HW1.out _).mono ?_
              rintro e w' ⟨rfl, rfl⟩
              go_wp2_with fail
              go_ret
              refine ⟨ret_int (by rw [HQ.out]), ?_⟩
              repeat (first | (with_reducible exact Ext.refl _) | (with_reducible refine Ext.alloc ?_ _) | (with_reducible apply Ext.setC; focus (simp <;> omega)) | (with_reducible refine Ext.drew ?_) | (with_reducible refine Ext.drewN ?_ _) | (with_reducible refine Ext.trans ?_ (Hid.out ‹Hid (Ext _ _)›)))
      · have hk3 : k = 3 := by omega
        subst hk3
        have hr0 : r1 = 0 := by
          have := HA.out
          rw [List.drop_of_length_le (by rw [HL.out]; exact Nat.le_refl _)] at this
          exact this.symm
        have HZ := Lib.hid (show (if r2 = true then (4 : Int) else 0) = res by rw [← HR3.out, hr0]; simp)
        have HE2 := Lib.hid HE.out
        clear HA HE HR3 hr0 HR1 HCK
        go_wp2_with fail
        go_loopg [2, 4, 5] 3 (fun gg _ s4 _ wq => ∃ k : Nat, k ≤ 3 ∧ 3 - k ≤ gg ∧ s4 = .int .i64 k ∧ Aside (Ext w wq) ∧ Aside (clashes (l.take k) (l.drop k) = r2))
        case atStart => exact ⟨0, by omega, by omega, rfl, HE2.out, HR2.out⟩
        case round =>
          obtain ⟨k, hk, hg, rfl, HE, HA⟩ := hrel
          by_cases hlt : k < 3
          · have hkl : k < l.length := by rw [HL.out]; exact hlt
            have hlt' : (k : Int) < 3 := by omega
            have hA := HA.out
            rw [List.drop_eq_getElem_cons hkl, clashes_cons, ← take_snoc_get l k hkl] at hA
            have HA2 := Lib.hid hA
            have HE3 := Lib.hid HE.out
            clear hA HA HE
            go_wp2_with fail
            go_loopg [2, 5] 3 (fun gg _ s5 wp => ∃ j : Nat, j ≤ k ∧ k - j ≤ gg ∧ s5 = .int .i64 j ∧ Aside (Ext w wp) ∧ Aside ((((l.take k).drop j).any (clash l[k]) || clashes (l.take (k + 1)) (l.drop (k + 1))) = r2))
            case atStart => exact ⟨0, by omega, by omega, rfl, HE3.out, HA2.out⟩
            case round =>
              obtain ⟨j, hj, hgj, rfl, HE, HA⟩ := hrel
              by_cases hjk : j < k
              · have hjl : j < l.length := by omega
                have hjt : j < (l.take k).length := by rw [List.length_take]; omega
                have hjk' : (j : Int) < (k : Int) := by omega
                have hj3 : (j : Int) < 3 := by omega
                obtain ⟨b, o, rfl, hb, c0, c1, c2⟩ := (HRd.out.ext HE.out).vw_at rfl hkl
                obtain ⟨b', o', hAA, -, d0, d1, d2⟩ := (HRd.out.ext HE.out).vw_at rfl hjl
                injection hAA with hAA
                injection hAA with e1 e2
                subst e1 e2
                have hA := HA.out
                rw [List.drop_eq_getElem_cons hjt, List.any_cons, Bool.or_assoc, List.getElem_take] at hA
                have hcl : clash l[k] l[j] = (l[j].epoch == l[k].epoch && l[j].leader != l[k].leader) := rfl
                rw [hcl] at hA
                have HX := Lib.hid hA
                have HE4 := Lib.hid HE.out
                clear hA HA HE hcl
                generalize l[k].epoch = x0 at *
                generalize l[k].leader = x1 at *
                generalize l[j].epoch = y0 at *
                generalize l[j].leader = y1 at *
                have hA := HX.out
                clear HX c2 d2
                by_cases he : x0 = y0
                · have heb : (x0 == y0) = true := by simpa using he
                  have heb2 : (y0 == x0) = true := by simpa using he.symm
                  rw [heb2, Bool.true_and] at hA
                  by_cases hld : x1 = y1
                  · have hlb : (x1 != y1) = false := by simpa using hld
                    have HN := Lib.hid (show (((l.take k).drop (j + 1)).any (clash l[k]) || clashes (l.take (k + 1)) (l.drop (k + 1))) = r2 by rw [← hA]; simp [hld])
                    clear hA he hld
                    go_wp2_with fail
                    go_quiet (fail)
                    go_wp2_with fail
                    go_roundg (k - (j + 1))
                    case measure => omega
                    case rel => exact ⟨j + 1, by omega, by omega, by go_num, HE4.out.drewN _, HN.out⟩
                  · have hlb : (x1 != y1) = true := by simpa using hld
                    have hlb2 : (y1 != x1) = true := by simpa using (Ne.symm hld)
                    rw [hlb2, Bool.true_or] at hA
                    have HQ := Lib.hid (show res = 4 by rw [← HZ.out, ← hA]; simp)
                    clear hA he hld
                    go_wp2_with fail
                    go_quiet (fail)
                    go_wp2_with fail
                    go_ret
                    exact ⟨ret_int (by rw [HQ.out]), HE4.out.drewN _⟩
                · have heb : (x0 == y0) = false := by simpa using he
                  have heb2 : (y0 == x0) = false := by simpa using (Ne.symm he)
                  rw [heb2, Bool.false_and, Bool.false_or] at hA
                  have HN := Lib.hid hA
                  clear hA he
                  go_wp2_with fail
                  go_quiet (fail)
                  go_wp2_with fail
                  go_roundg (k - (j + 1))
                  case measure => omega
                  case rel => exact ⟨j + 1, by omega, by omega, by go_num, HE4.out.drewN _, HN.out⟩
              · have hjk2 : j = k := by omega
                have HN := Lib.hid (show clashes (l.take (k + 1)) (l.drop (k + 1)) = r2 by
                  have := HA.out
                  rw [hjk2, List.drop_of_length_le (by rw [List.length_take]; exact Nat.min_le_left _ _)] at this
                  simpa using this)
                have hge : ¬ (j : Int) < (k : Int) := by omega
                have HE4 := Lib.hid HE.out
                clear HA HE hjk2
                go_wp2_with fail
                go_roundg (3 - (k + 1))
                case measure => omega
                case rel => exact ⟨k + 1, by omega, by omega, by go_num, HE4.out, HN.out⟩
          · have hk3 : k = 3 := by omega
            subst hk3
            have HQ := Lib.hid (show res = 0 by
              have := HA.out
              rw [List.drop_of_length_le (by rw [HL.out]; exact Nat.le_refl _)] at this
              rw [← HZ.out, ← this]
              simp [clashes])
            have HE3 := Lib.hid HE.out
            clear HA HE
            go_wp2_with fail
            go_ret
            exact ⟨ret_int (by rw [HQ.out]), HE3.out⟩
  · rw [if_pos h3]
    have h3b : ((l.length : Int) != 3) = true := by
      have : (l.length : Int) ≠ 3 := by omega
      simpa using this
    clear hr h3
    go_enter Try.func18, Try.ntmps18
    go_wp2_with fail
    go_ret
    exact ⟨ret_int rfl, Ext.refl _⟩
end Go.Proofs.Ythollackhkiofaa
