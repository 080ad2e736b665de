/- lead.Check. -/
import Derived.Test.YthollackhkiofaaIxView
namespace Go.Proofs.Ythollackhkiofaa
set_option linter.unusedSimpArgs false
set_option linter.unusedVariables false
open Go Go.RowKit Lb

theorem RdL.vw_at {w : World} {v : Value} {l : List Vw} (h : RdL 3 vwc w v l) {A : Option Addr} {n c : Nat} (hv : v = .slice A n c) {k : Nat} (hk : k < l.length) : ∃ b o, A = some ⟨b, o, none⟩ ∧ b < w.heap.size ∧
    w.cell? ⟨b, o + k * 3, none⟩ = some (.int .i64 l[k].epoch) ∧ w.cell? ⟨b, o + k * 3 + 1, none⟩ = some (.int .i64 l[k].leader) ∧ w.cell? ⟨b, o + k * 3 + 2, none⟩ = some (.bool l[k].up) := by
  subst hv
  obtain ⟨b, o, c', hv, hb, hc⟩ := h.at_ hk
  injection hv with hA
  exact ⟨b, o, hA, hb, hc 0 _ rfl, hc 1 _ rfl, hc 2 _ rfl⟩
theorem any_clash (w : World) (v : Vw) (g : Nat) (l : List Vw) (s : Value) (hr : RdL 3 vwc w s l) (hg : Row w g (vwc v)) :
    Calls Try.prog 52 #[s, .func (.func 53) #[] #[.pointer (some ⟨g, 0, none⟩)]] w fun e w' => e = .returned (.bool (l.any (clash v))) ∧ Ext w w' :=
  ContainsFunc_view (clash v) 53 #[.pointer (some ⟨g, 0, none⟩)] (fun args w => by simp [go_sem]) l s w hr (fun W x h => lead_Check1 x v g W (hg.ext h))

set_option maxRecDepth 100000 in
set_option maxHeartbeats 4000000 in
theorem lead_Check (l : List Vw) (v : Value) (w : World) (hr : RdL 3 vwc w v l) :
    Calls Try.prog 22 #[v] w fun e w' => e = .returned (.int .i64 (ckViews l)) ∧ Ext w w' := by
  obtain ⟨A, c, rfl, hmc, hm0⟩ := hr.form
  have hm : l.length ≤ 9223372036854775807 := by unfold maxLen at hm0; omega
  unfold ckViews
  by_cases h3 : l.length = 3
  · rw [if_neg (by simpa using h3), h3]
    rw [h3] at hr
    have HRd := Lib.hid hr
    have HL := Lib.hid h3
    have h3c : 3 ≤ c := by omega
    generalize hR1 : eachE ckView l = r1
    generalize hR2 : clashes [] l = r2
    generalize hR3 : (if r1 ≠ 0 then r1 else if r2 = true then (4 : Int) else 0) = res
    have HR1 := Lib.hid hR1
    have HR2 := Lib.hid hR2
    have HR3 := Lib.hid hR3
    clear hr h3 hR1 hR2 hR3 hm hm0 hmc
    go_enter Try.func22, Try.ntmps22
    go_wp2_with fail
    go_loopg [2, 4, 12] 3 (fun gg _ _ s12 wr => ∃ k : Nat, k ≤ 3 ∧ 3 - k ≤ gg ∧ s12 = .int .i64 k ∧ Aside (Ext w wr) ∧ Aside (eachE ckView (l.drop k) = r1))
    case atStart => exact ⟨0, by omega, by omega, rfl, Ext.refl _, HR1.out⟩
    case round =>
      obtain ⟨k, hk, hg, rfl, HE, HA⟩ := hrel
      by_cases hlt : k < 3
      · have hkl : k < l.length := by rw [HL.out]; exact hlt
        have hlt' : (k : Int) < 3 := by omega
        obtain ⟨b, o, rfl, hb, c0, c1, c2⟩ := (HRd.out.ext HE.out).vw_at rfl hkl
        have hA := HA.out
        rw [List.drop_eq_getElem_cons hkl, eachE_cons] at hA
        have hck : ckView l[k] = if within l[k].epoch 0 99 = false ∨ within l[k].leader 0 1 = false then 3 else if l[k].epoch = 0 ∧ l[k].leader ≠ 0 then 4 else 0 := rfl
        have hW0 := fun w => lead_within l[k].epoch 0 99 w
        have hW1 := fun w => lead_within l[k].leader 0 1 w
        generalize ckView l[k] = q at hA hck
        generalize l[k].epoch = x0 at *
        generalize l[k].leader = x1 at *
        generalize l[k].up = x2 at *
        generalize within x0 0 99 = z0 at *
        generalize within x1 0 1 = z1 at *
        have HW0 := Lib.hid hW0
        have HW1 := Lib.hid hW1
        have HE2 := Lib.hid HE.out
        clear hW0 hW1 HE HA hkl
        by_cases hq : q = 0
        · have hA2 : eachE ckView (l.drop (k + 1)) = r1 := by rw [if_neg (by simpa using hq)] at hA; exact hA
          have HA2 := Lib.hid hA2
          have hz : z0 = true ∧ z1 = true ∧ ¬ (x0 = 0 ∧ x1 ≠ 0) := by
            rw [hq] at hck
            cases z0 <;> cases z1 <;> simp at hck ⊢
            exact hck
          obtain ⟨rfl, rfl, hz2⟩ := hz
          clear hA hA2 hck hq
          by_cases hx0 : x0 = 0
          · have hx1 : x1 = 0 := by
              apply Classical.byContradiction
              intro h
              exact hz2 ⟨hx0, h⟩
            subst hx0 hx1
            clear hz2
            go_wp2_with fail
            refine (HW0.out _).mono ?_
            rintro e w' ⟨rfl, rfl⟩
            go_wp2_with fail
            refine (HW1.out _).mono ?_
            rintro e w' ⟨rfl, rfl⟩
            go_wp2_with fail
            go_roundg (3 - (k + 1))
            case measure => omega
            case rel => exact ⟨k + 1, by omega, by omega, by go_num, (show Ext w _ by repeat (first | (with_reducible exact Ext.refl _) | (with_reducible refine Ext.alloc ?_ _) | (with_reducible apply Ext.setC; focus (simp <;> omega)) | (with_reducible refine Ext.drew ?_) | (with_reducible refine Ext.drewN ?_ _) | (with_reducible refine Ext.trans ?_ (Hid.out ‹Hid (Ext _ _)›)))), HA2.out⟩
          · have hx0b : (x0 == 0) = false := by simpa using hx0
            clear hz2
            go_wp2_with fail
            refine (HW0.out _).mono ?_
            rintro e w' ⟨rfl, rfl⟩
            go_wp2_with fail
            refine (HW1.out _).mono ?_
            rintro e w' ⟨rfl, rfl⟩
            go_wp2_with fail
            go_roundg (3 - (k + 1))
            case measure => omega
            case rel => exact ⟨k + 1, by omega, by omega, by go_num, (show Ext w _ by repeat (first | (with_reducible exact Ext.refl _) | (with_reducible refine Ext.alloc ?_ _) | (with_reducible apply Ext.setC; focus (simp <;> omega)) | (with_reducible refine Ext.drew ?_) | (with_reducible refine Ext.drewN ?_ _) | (with_reducible refine Ext.trans ?_ (Hid.out ‹Hid (Ext _ _)›)))), HA2.out⟩
        · have hA2 : res = q := by rw [if_pos hq] at hA; rw [← HR3.out, ← hA, if_pos hq]
          clear hA HR3
          cases z0
          · have hq3 : res = 3 := by rw [hA2, hck]; simp
            have HQ := Lib.hid hq3
            clear hA2 hck hq hq3
            go_wp2_with fail
            refine (HW0.out _).mono ?_
            rintro e w' ⟨rfl, rfl⟩
            go_wp2_with fail
            go_ret
            refine ⟨ret_int (by rw [HQ.out]), ?_⟩
            repeat (first | (with_reducible exact Ext.refl _) | (with_reducible refine Ext.alloc ?_ _) | (with_reducible apply Ext.setC; focus (simp <;> omega)) | (with_reducible refine Ext.drew ?_) | (with_reducible refine Ext.drewN ?_ _) | (with_reducible refine Ext.trans ?_ (Hid.out ‹Hid (Ext _ _)›)))
          · cases z1
            · have hq3 : res = 3 := by rw [hA2, hck]; simp
              have HQ := Lib.hid hq3
              clear hA2 hck hq hq3
              go_wp2_with fail
              refine (HW0.out _).mono ?_
              rintro e w' ⟨rfl, rfl⟩
              go_wp2_with fail
              refine (HW1.out _).mono ?_
              rintro e w' ⟨rfl, rfl⟩
              go_wp2_with fail
              go_ret
              refine ⟨ret_int (by rw [HQ.out]), ?_⟩
              repeat (first | (with_reducible exact Ext.refl _) | (with_reducible refine Ext.alloc ?_ _) | (with_reducible apply Ext.setC; focus (simp <;> omega)) | (with_reducible refine Ext.drew ?_) | (with_reducible refine Ext.drewN ?_ _) | (with_reducible refine Ext.trans ?_ (Hid.out ‹Hid (Ext _ _)›)))
            · have hz : x0 = 0 ∧ x1 ≠ 0 := by
                apply Classical.byContradiction
                intro h
                rw [if_neg (by simp), if_neg h] at hck
                exact hq hck
              have hq3 : res = 4 := by rw [hA2, hck, if_neg (by simp), if_pos hz]
              have HQ := Lib.hid hq3
              obtain ⟨hx0, hx1⟩ := hz
              have hx1b : (x1 != 0) = true := by simpa using hx1
              subst hx0
              clear hA2 hck hq hq3 hx1
              go_wp2_with fail
              refine (HW0.out _).mono ?_
              rintro e w' ⟨rfl, rfl⟩
              go_wp2_with fail
              refine (HW1.out _).mono ?_
              rintro e w' ⟨rfl, rfl⟩
              go_wp2_with fail
              go_ret
              refine ⟨ret_int (by rw [HQ.out]), ?_⟩
              repeat (first | (with_reducible exact Ext.refl _) | (with_reducible refine Ext.alloc ?_ _) | (with_reducible apply Ext.setC; focus (simp <;> omega)) | (with_reducible refine Ext.drew ?_) | (with_reducible refine Ext.drewN ?_ _) | (with_reducible refine Ext.trans ?_ (Hid.out ‹Hid (Ext _ _)›)))
      · have hk3 : k = 3 := by omega
        subst hk3
        have hr0 : r1 = 0 := by
          have := HA.out
          rw [List.drop_of_length_le (by rw [HL.out]; exact Nat.le_refl _)] at this
          exact this.symm
        have HZ := Lib.hid (show (if r2 = true then (4 : Int) else 0) = res by rw [← HR3.out, hr0]; simp)
        have HE2 := Lib.hid HE.out
        clear HA HE HR3 hr0 HR1
        go_wp2_with fail
        go_loopg [2, 5, 6, 39] 3 (fun gg _ _ _ s39 wq => ∃ k : Nat, k ≤ 3 ∧ 3 - k ≤ gg ∧ s39 = .int .i64 k ∧ Aside (Ext w wq) ∧ Aside (clashes (l.take k) (l.drop k) = r2))
        case atStart => exact ⟨0, by omega, by omega, rfl, HE2.out, HR2.out⟩
        case round =>
          obtain ⟨k, hk, hg, rfl, HE, HA⟩ := hrel
          by_cases hlt : k < 3
          · have hkl : k < l.length := by rw [HL.out]; exact hlt
            have hlt' : (k : Int) < 3 := by omega
            have hle' : (k : Int) ≤ (c : Int) := by omega
            obtain ⟨b, o, rfl, hb, c0, c1, c2⟩ := (HRd.out.ext HE.out).vw_at rfl hkl
            have hA := HA.out
            rw [List.drop_eq_getElem_cons hkl, clashes_cons, ← take_snoc_get l k hkl] at hA
            have hRT := (HRd.out).take k (by omega)
            have HAN := Lib.hid (fun (W : World) (g : Nat) (h : Ext w W) (hg : Row W g (vwc l[k])) => any_clash W l[k] g (l.take k) _ (hRT.ext h) hg)
            generalize l[k] = x at *
            generalize (l.take k).any (clash x) = q at *
            obtain ⟨x0, x1, x2⟩ := x
            simp only at c0 c1 c2
            unfold vwc at HAN
            have HE3 := Lib.hid HE.out
            have hlk : (l.take k).length = k := by rw [List.length_take, HL.out]; omega
            clear HE HA hRT hkl hlk
            cases q
            · rw [Bool.false_or] at hA
              have HA2 := Lib.hid hA
              clear hA
              go_wp2_with fail
              refine (HAN.out _ _ (by repeat (first | (with_reducible exact Ext.refl _) | (with_reducible refine Ext.alloc ?_ _) | (with_reducible apply Ext.setC; focus (simp <;> omega)) | (with_reducible refine Ext.drew ?_) | (with_reducible refine Ext.drewN ?_ _) | (with_reducible refine Ext.trans ?_ (Hid.out ‹Hid (Ext _ _)›)))) (Row.newAt rfl)).mono ?_
              rintro e w1 ⟨rfl, h1⟩
              have H1 := Lib.hid h1
              clear h1
              go_wp2_with fail
              go_roundg (3 - (k + 1))
              case measure => omega
              case rel => exact ⟨k + 1, by omega, by omega, by go_num, (show Ext w _ by repeat (first | (with_reducible exact Ext.refl _) | (with_reducible refine Ext.alloc ?_ _) | (with_reducible apply Ext.setC; focus (simp <;> omega)) | (with_reducible refine Ext.drew ?_) | (with_reducible refine Ext.drewN ?_ _) | (with_reducible refine Ext.trans ?_ (Hid.out ‹Hid (Ext _ _)›)))), HA2.out⟩
            · rw [Bool.true_or] at hA
              have HQ := Lib.hid (show res = 4 by rw [← HZ.out, ← hA]; simp)
              clear hA
              go_wp2_with fail
              refine (HAN.out _ _ (by repeat (first | (with_reducible exact Ext.refl _) | (with_reducible refine Ext.alloc ?_ _) | (with_reducible apply Ext.setC; focus (simp <;> omega)) | (with_reducible refine Ext.drew ?_) | (with_reducible refine Ext.drewN ?_ _) | (with_reducible refine Ext.trans ?_ (Hid.out ‹Hid (Ext _ _)›)))) (Row.newAt rfl)).mono ?_
              rintro e w1 ⟨rfl, h1⟩
              have H1 := Lib.hid h1
              clear h1
              go_wp2_with fail
              go_ret
              refine ⟨ret_int (by rw [HQ.out]), ?_⟩
              repeat (first | (with_reducible exact Ext.refl _) | (with_reducible refine Ext.alloc ?_ _) | (with_reducible apply Ext.setC; focus (simp <;> omega)) | (with_reducible refine Ext.drew ?_) | (with_reducible refine Ext.drewN ?_ _) | (with_reducible refine Ext.trans ?_ (Hid.out ‹Hid (Ext _ _)›)))
          · have hk3 : k = 3 := by omega
            subst hk3
            have HQ := Lib.hid (show res = 0 by
              have := HA.out
              rw [List.drop_of_length_le (by rw [HL.out]; exact Nat.le_refl _)] at this
              rw [← HZ.out, ← this]
              simp [clashes])
            have HE3 := Lib.hid HE.out
            clear HA HE
            go_wp2_with fail
            go_ret
            exact ⟨ret_int (by rw [HQ.out]), HE3.out⟩
  · rw [if_pos h3]
    have h3b : ((l.length : Int) != 3) = true := by
      have : (l.length : Int) ≠ 3 := by omega
      simpa using this
    clear hr h3
    go_enter Try.func22, Try.ntmps22
    go_wp2_with fail
    go_ret
    exact ⟨ret_int rfl, Ext.refl _⟩
end Go.Proofs.Ythollackhkiofaa
