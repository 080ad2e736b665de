/- lead: many, greatest, Who, Now. -/
import Derived.Test.YthollackhkiofaaViewB
namespace Go.Proofs.Ythollackhkiofaa
set_option linter.unusedSimpArgs false
set_option linter.unusedVariables false
open Go Go.RowKit Lb

set_option maxHeartbeats 2000000 in
theorem lead_many (p : Vw → Bool) (g : Nat) (lb : Array Value) (eg : ∀ args w, (callFunc g args).run Try.prog w = .ok (.enter g args) w) (l : List Vw) (v : Value) (w : World) (hr : RdL 3 vwc w v l) (h3 : l.length = 3)
    (hp : ∀ W x, Ext w W → Calls Try.prog g (#[.agg (vwc x)] ++ lb) W fun e w' => e = .returned (.bool (p x)) ∧ Ext W w') :
    Calls Try.prog 71 #[v, .func (.func g) #[] lb] w fun e w' => e = .returned (.int .i64 (countV p l)) ∧ Ext w w' := by
  obtain ⟨A, c, rfl, hmc, hm0⟩ := hr.form
  rw [h3] at hr ⊢
  have HRd := Lib.hid hr
  have HL := Lib.hid h3
  have HP := Lib.hid hp
  generalize hR : countV p l = r
  have HR := Lib.hid hR
  clear hr h3 hp hmc hm0 hR
  go_enter Try.func71, Try.ntmps71
  go_wp2_with fail
  go_loopg [5, 7, 10] 3 (fun gg s5 _ s10 wr => ∃ (k : Nat) (n : Int), k ≤ 3 ∧ 3 - k ≤ gg ∧ s5 = .int .i64 n ∧ s10 = .int .i64 k ∧ 0 ≤ n ∧ n ≤ k ∧ Aside (Ext w wr) ∧ Aside (n + countV p (l.drop k) = r))
  case atStart => exact ⟨0, 0, by omega, by omega, rfl, rfl, by omega, by omega, Ext.refl _, by rw [Int.zero_add]; exact HR.out⟩
  case round =>
    obtain ⟨k, n, hk, hg, rfl, rfl, hn0, hnk, HE, HA⟩ := hrel
    by_cases hlt : k < 3
    · have hkl : k < l.length := by rw [HL.out]; exact hlt
      have hlt' : (k : Int) < 3 := by omega
      obtain ⟨b, o, rfl, hb, c0, c1, c2⟩ := (HRd.out.ext HE.out).vw_at rfl hkl
      have hA := HA.out
      rw [List.drop_eq_getElem_cons hkl, countV_cons] at hA
      have hcall := HP.out
      generalize l[k] = x at *
      have hcx := fun W h => hcall W x h
      generalize p x = q at *
      obtain ⟨x0, x1, x2⟩ := x
      simp only at c0 c1 c2
      unfold vwc at hcx
      have HC := Lib.hid hcx
      have HE2 := Lib.hid HE.out
      have hw1 : IntKind.i64.wrap (n + 1) = n + 1 := IntWalk.i64_in _ (by omega)
      clear hcall hcx HE HA hkl
      cases q
      · have HA2 := Lib.hid (show n + countV p (l.drop (k + 1)) = r by simpa using hA)
        clear hA
        go_wp2_with (go_at_fn g; refine (HC.out _ (by repeat (first | (with_reducible exact Ext.refl _) | (with_reducible refine Ext.alloc ?_ _) | (with_reducible apply Ext.setC; focus (simp <;> omega)) | (with_reducible refine Ext.drew ?_) | (with_reducible refine Ext.drewN ?_ _) | (with_reducible refine Ext.trans ?_ (Hid.out ‹Hid (Ext _ _)›))))).mono ?_; rintro e w1 ⟨rfl, h1⟩; have H1 := Lib.hid h1; clear h1)
        go_roundg (3 - (k + 1))
        case measure => omega
        case rel => exact ⟨k + 1, n, by omega, by omega, rfl, by go_num, by omega, by push_cast; omega, (show Ext w _ by repeat (first | (with_reducible exact Ext.refl _) | (with_reducible refine Ext.alloc ?_ _) | (with_reducible apply Ext.setC; focus (simp <;> omega)) | (with_reducible refine Ext.drew ?_) | (with_reducible refine Ext.drewN ?_ _) | (with_reducible refine Ext.trans ?_ (Hid.out ‹Hid (Ext _ _)›)))), HA2.out⟩
      · have HA2 := Lib.hid (show n + 1 + countV p (l.drop (k + 1)) = r by simp at hA; omega)
        clear hA
        go_wp2_with (go_at_fn g; refine (HC.out _ (by repeat (first | (with_reducible exact Ext.refl _) | (with_reducible refine Ext.alloc ?_ _) | (with_reducible apply Ext.setC; focus (simp <;> omega)) | (with_reducible refine Ext.drew ?_) | (with_reducible refine Ext.drewN ?_ _) | (with_reducible refine Ext.trans ?_ (Hid.out ‹Hid (Ext _ _)›))))).mono ?_; rintro e w1 ⟨rfl, h1⟩; have H1 := Lib.hid h1; clear h1)
        go_roundg (3 - (k + 1))
        case measure => omega
        case rel => exact ⟨k + 1, n + 1, by omega, by omega, by go_num, by go_num, by omega, by push_cast; omega, (show Ext w _ by repeat (first | (with_reducible exact Ext.refl _) | (with_reducible refine Ext.alloc ?_ _) | (with_reducible apply Ext.setC; focus (simp <;> omega)) | (with_reducible refine Ext.drew ?_) | (with_reducible refine Ext.drewN ?_ _) | (with_reducible refine Ext.trans ?_ (Hid.out ‹Hid (Ext _ _)›)))), HA2.out⟩
    · have hk3 : k = 3 := by omega
      subst hk3
      have HQ := Lib.hid (show n = r by
        have := HA.out
        rw [List.drop_of_length_le (by rw [HL.out]; exact Nat.le_refl _)] at this
        simpa [countV] using this)
      have HE3 := Lib.hid HE.out
      clear HA HE
      go_wp2_with fail
      go_ret
      exact ⟨ret_int (by rw [HQ.out]), HE3.out⟩

set_option maxHeartbeats 2000000 in
theorem lead_greatest (l : List Vw) (v : Value) (w : World) (hr : RdL 3 vwc w v l) (h3 : l.length = 3) :
    Calls Try.prog 73 #[v] w fun e w' => e = .returned (.int .i64 (topV 0 l)) ∧ Ext w w' := by
  obtain ⟨A, c, rfl, hmc, hm0⟩ := hr.form
  rw [h3] at hr ⊢
  have HRd := Lib.hid hr
  have HL := Lib.hid h3
  generalize hR : topV 0 l = r
  have HR := Lib.hid hR
  clear hr h3 hmc hm0 hR
  go_enter Try.func73, Try.ntmps73
  go_wp2_with fail
  go_loopg [3, 5, 8] 3 (fun gg s3 _ s8 wr => ∃ (k : Nat) (n : Int), k ≤ 3 ∧ 3 - k ≤ gg ∧ s3 = .int .i64 n ∧ s8 = .int .i64 k ∧ Aside (Ext w wr) ∧ Aside (topV n (l.drop k) = r))
  case atStart => exact ⟨0, 0, by omega, by omega, rfl, rfl, Ext.refl _, HR.out⟩
  case round =>
    obtain ⟨k, n, hk, hg, rfl, rfl, HE, HA⟩ := hrel
    by_cases hlt : k < 3
    · have hkl : k < l.length := by rw [HL.out]; exact hlt
      have hlt' : (k : Int) < 3 := by omega
      obtain ⟨b, o, rfl, hb, c0, c1, c2⟩ := (HRd.out.ext HE.out).vw_at rfl hkl
      have hA := HA.out
      rw [List.drop_eq_getElem_cons hkl] at hA
      unfold topV at hA
      generalize l[k] = x at *
      obtain ⟨x0, x1, x2⟩ := x
      simp only at c0 c1 c2 hA
      have HE2 := Lib.hid HE.out
      have HA2 := Lib.hid hA
      clear HE HA hkl hA
      go_wp2_with fail
      all_goals
        go_roundg (3 - (k + 1))
        case measure => omega
        case rel =>
          refine ⟨k + 1, _, by omega, by omega, rfl, by go_num, (show Ext w _ by repeat (first | (with_reducible exact Ext.refl _) | (with_reducible refine Ext.alloc ?_ _) | (with_reducible apply Ext.setC; focus (simp <;> omega)) | (with_reducible refine Ext.drew ?_) | (with_reducible refine Ext.drewN ?_ _) | (with_reducible refine Ext.trans ?_ (Hid.out ‹Hid (Ext _ _)›)))), ?_⟩
          have hA := HA2.out
          first
            | (rw [show max n x0 = x0 by omega] at hA; exact hA)
            | (rw [show max n x0 = n by omega] at hA; exact hA)
    · have hk3 : k = 3 := by omega
      subst hk3
      have HQ := Lib.hid (show n = r by
        have := HA.out
        rw [List.drop_of_length_le (by rw [HL.out]; exact Nat.le_refl _)] at this
        exact this)
      have HE3 := Lib.hid HE.out
      clear HA HE
      go_wp2_with fail
      go_ret
      exact ⟨ret_int (by rw [HQ.out]), HE3.out⟩
end Go.Proofs.Ythollackhkiofaa
