/- The references' WinOf and SetOf. -/
import Derived.Test.YthollackhkiofaaViewH
namespace Go.Proofs.Ythollackhkiofaa
set_option linter.unusedSimpArgs false
set_option linter.unusedVariables false
open Go Go.RowKit Lb

theorem views_one (l : List Vw) : ∀ u ∈ encs vwc l, u.oneCell' = true := by
  intro u hu
  obtain ⟨x, -, hx⟩ := List.mem_flatMap.1 hu
  simp [vwc] at hx
  (rcases hx with rfl | rfl | rfl) <;> rfl

set_option maxRecDepth 100000 in
set_option maxHeartbeats 4000000 in
theorem ref_SetOf (l : List Vw) (v : Value) (who : Int) (up : Bool) (w : World) (hr : RdL 3 vwc w v l) (hd : ckViews l = 0) :
    Calls Try.prog 21 #[v, .int .i64 who, .bool up] w fun e w' => ∃ s', e = .returned (.tuple #[s', .int .i64 (setV l who up).2]) ∧ Ext w w' ∧ OwnL 39 3 vwc w.heap.size w' s' (setV l who up).1 := by
  have hR := (rightV_iff l).1 hd
  have h3 := hR.1
  have HW := Lib.hid (fun w => ref_between who 0 2 w)
  have HR := Lib.hid hr
  obtain ⟨A, c, rfl, -, -⟩ := hr.form
  cases hwi : within who 0 2 with
  | false =>
    have hres : setV l who up = ([], 3) := by unfold setV; rw [if_pos hwi]
    rw [hres]
    rw [hwi] at HW
    clear hres hwi hd hR h3
    go_enter Try.func21, Try.ntmps21
    go_wp2_with (go_at_call 50; refine (HW.out _).mono ?_; rintro e w' ⟨rfl, rfl⟩)
    refine bodyPost_ret (v := .tuple #[.slice none 0 0, .int .i64 3]) (by simp [results, Try.results21, go_sem, *]) rfl ⟨_, rfl, Ext.refl _, OwnL.nil⟩
  | true =>
    rw [hwi] at HW
    have hwi2 : 0 ≤ who ∧ who ≤ 2 := by simpa [within] using hwi
    obtain ⟨n, rfl⟩ : ∃ n : Nat, who = n := ⟨who.toNat, by omega⟩
    have hn3 : n < l.length := by omega
    have hres : setV l n up = (l.set n ⟨l[n].epoch, l[n].leader, up⟩, 0) := by
      unfold setV; rw [if_neg (by rw [hwi]; decide), Int.toNat_natCast, modify_set l n hn3]
    rw [hres]
    obtain ⟨i0, hi, hz0, hz1, hz2⟩ := info_parts info_vw
    have hni : (n : Int) < 3 := by omega
    have hn3' : n < 3 := by omega
    have HL := Lib.hid h3
    have HN := Lib.hid hn3
    clear hres hwi hd hR hwi2 hr
    rw [h3] at HR ⊢
    clear h3
    go_enter Try.func21, Try.ntmps21
    go_wp2_with (first | (go_at_call 50; refine (HW.out _).mono ?_; rintro e w' ⟨rfl, rfl⟩) | (at_builtin; refine wpList_append_rd (enc := vwc) (k := 3) _ rfl _ _ 22 rfl w.heap.size 39 i0 (.agg #[.int .i64 0, .int .i64 0, .bool false]) 24 Try.underlying22 hi hz0 hz1 hz2 rfl (by decide) vwc_size _ [] rfl (OwnL.made ?qc7 ?qc6) _ l rfl ?qc1 ?qc2 ?qc3 ?qc4 ?qc5 ?_))
    case qc1 => exact HR.out.ext (by repeat (first | (with_reducible exact Ext.refl _) | (with_reducible refine Ext.alloc ?_ _) | (with_reducible apply Ext.setC; focus (simp <;> omega)) | (with_reducible refine Ext.drew ?_) | (with_reducible refine Ext.drewN ?_ _) | (with_reducible refine Ext.trans ?_ (Hid.out ‹Hid (Ext _ _)›))))
    case qc2 => exact views_one l
    case qc3 => unfold maxLen; simp [HL.out]
    case qc4 => simp [HL.out]
    case qc5 => (try simp only [World.size_alloc]); omega
    case qc6 => exact Nat.le_refl _
    case qc7 => rfl
    intro v1 w1 ho1 hg1 hn1
    have hE1 : Ext w w1 := Ext.grown (by repeat (first | (with_reducible exact Ext.refl _) | (with_reducible refine Ext.alloc ?_ _) | (with_reducible apply Ext.setC; focus (simp <;> omega)) | (with_reducible refine Ext.drew ?_) | (with_reducible refine Ext.drewN ?_ _) | (with_reducible refine Ext.trans ?_ (Hid.out ‹Hid (Ext _ _)›)))) hg1 (fun k hk => by simp [Value.ownBlock] at hk; omega)
    obtain ⟨g, c1, rfl, hgb, hgs, hgc⟩ := ho1.slot (show 0 < ([] ++ l).length by rw [List.nil_append, HL.out]; omega)
    change OwnL _ 3 vwc _ _ _ l at ho1
    have hll : ([] ++ l : List Vw).length = 3 := by rw [List.nil_append]; exact HL.out
    simp only [List.nil_append, HL.out] at ho1 ⊢
    have f2 := ho1.field vwc_size n 2 HN.out (by omega) (.bool l[n].up) rfl
    have hp2 := ho1.put_field vwc_size n 2 HN.out (by omega) ⟨l[n].epoch, l[n].leader, up⟩ (.bool up) rfl
    obtain ⟨e2, z2⟩ := f2
    have HE1 := Lib.hid hE1
    have HP := Lib.hid hp2
    clear ho1 hp2 hE1 hg1 hn1 hll
    go_wp2_with fail
    refine bodyPost_ret (v := .tuple #[.slice (some ⟨g, 0, none⟩) 3 c1, .int .i64 0]) (by simp [results, Try.results21, go_sem, *]) rfl ⟨_, rfl, ?_, HP.out⟩
    exact Ext.setCell HE1.out hgb _

set_option maxRecDepth 100000 in
set_option maxHeartbeats 8000000 in
theorem ref_WinOf (l : List Vw) (v : Value) (who : Int) (w : World) (hr : RdL 3 vwc w v l) (hd : ckViews l = 0) :
    Calls Try.prog 20 #[v, .int .i64 who] w fun e w' => ∃ s', e = .returned (.tuple #[s', .bool (winV l who).2.1, .int .i64 (winV l who).2.2]) ∧ Ext w w' ∧ RdL 3 vwc w' s' (winV l who).1 := by
  have hR := (rightV_iff l).1 hd
  have h3 := hR.1
  have HW := Lib.hid (fun w => ref_between who 0 1 w)
  have HRd := Lib.hid hr
  cases hwi : within who 0 1 with
  | false =>
    have hres : winV l who = ([], false, 3) := by unfold winV; rw [if_pos hwi]
    rw [hres]
    rw [hwi] at HW
    obtain ⟨A, c, rfl, -, -⟩ := hr.form
    clear hres hwi hd hR h3
    go_enter Try.func20, Try.ntmps20
    go_wp2_with (go_at_call 50; refine (HW.out _).mono ?_; rintro e w' ⟨rfl, rfl⟩)
    refine bodyPost_ret (v := .tuple #[.slice none 0 0, .bool false, .int .i64 3]) (by simp [results, Try.results20, go_sem, *]) rfl ⟨_, rfl, Ext.refl _, RdL.nil⟩
  | true =>
    rw [hwi] at HW
    have hwi2 : 0 ≤ who ∧ who ≤ 1 := by simpa [within] using hwi
    obtain ⟨n, rfl⟩ : ∃ n : Nat, who = n := ⟨who.toNat, by omega⟩
    have hn3 : n < l.length := by omega
    have hup : isUp l n = l[n].up := by
      unfold isUp
      rw [Int.toNat_natCast, List.getElem?_eq_getElem hn3]
    obtain ⟨A, c, rfl, -, -⟩ := hr.form
    obtain ⟨b, o, rfl, hb, -, -, d2⟩ := hr.vw_at rfl hn3
    have hni : (n : Int) < 3 := by omega
    have hn3' : n < 3 := by omega
    have hT0 := topV_ge 0 l
    have hT99 := topV_le 0 99 l (by omega) (fun v hv => ((ckView_ok v).1 (hR.2.1 v hv)).2.1)
    have HL := Lib.hid h3
    have hrl : (raise (topV 0 l + 1) n l).length = l.length := raise_length _ _ _
    have hrg : ∀ k (hk : k < l.length) (hk2 : k < (raise (topV 0 l + 1) n l).length), (raise (topV 0 l + 1) n l)[k] = if l[k].up = true then ⟨topV 0 l + 1, n, true⟩ else l[k] := by
      intro k hk hk2
      have := raise_get (t := topV 0 l + 1) (who := n) (List.getElem?_eq_getElem hk)
      rw [List.getElem?_eq_getElem hk2] at this
      injection this
    have hwin : winV l n = if l[n].up = false ∨ 2 * countV isUpV l ≤ 3 then (l, false, 0) else if topV 0 l = 99 then ([], false, 2) else (raise (topV 0 l + 1) n l, true, 0) := by
      unfold winV
      rw [if_neg (by rw [hwi]; decide), hup]
    rw [h3] at HRd ⊢
    generalize hM : countV isUpV l = m at *
    generalize hTT : topV 0 l = top at *
    generalize hRS : raise (top + 1) n l = rs at *
    generalize winV l n = res at *
    have HWN := Lib.hid hwin
    have HRL := Lib.hid hrl
    have HRG := Lib.hid hrg
    have HM := Lib.hid hM
    have HTT := Lib.hid hTT
    obtain ⟨i0, hi, hz0, hz1, hz2⟩ := info_parts info_vw
    clear hwin hrl hrg hM hTT hRS hup hd hR h3 hwi hwi2 hr
    go_enter Try.func20, Try.ntmps20
    go_wp2_with (go_at_call 50; refine (HW.out _).mono ?_; rintro e w' ⟨rfl, rfl⟩)
    go_loopg [7, 8, 9] 3 (fun gg s7 s8 s9 wr => ∃ (k : Nat) (x t : Int), k ≤ 3 ∧ 3 - k ≤ gg ∧ s7 = .int .i64 x ∧ s8 = .int .i64 t ∧ s9 = .int .i64 k ∧ 0 ≤ x ∧ x ≤ k ∧ Aside (Ext w wr) ∧ Aside (x + countV isUpV (l.drop k) = m ∧ topV t (l.drop k) = top))
    case atStart => exact ⟨0, 0, 0, by omega, by omega, rfl, rfl, rfl, by omega, by omega, Ext.refl _, by rw [Int.zero_add]; exact ⟨HM.out, HTT.out⟩⟩
    case round =>
      obtain ⟨k, x, t, hk, hg, rfl, rfl, rfl, hx0, hxk, HE, HA⟩ := hrel
      by_cases hlt : k < 3
      · have hkl : k < l.length := by rw [HL.out]; exact hlt
        have hlt' : (k : Int) < 3 := by omega
        obtain ⟨b', o', hAA, hb', c0, c1, c2⟩ := (HRd.out.ext HE.out).vw_at rfl hkl
        injection hAA with hAA
        injection hAA with e1 e2
        subst e1 e2
        have hA := HA.out
        rw [List.drop_eq_getElem_cons hkl, countV_cons] at hA
        unfold topV at hA
        generalize l[k] = y at *
        obtain ⟨y0, y1, y2⟩ := y
        simp only [isUpV] at c0 c1 c2 hA
        have HE2 := Lib.hid HE.out
        have hw1 : IntKind.i64.wrap (x + 1) = x + 1 := IntWalk.i64_in _ (by omega)
        clear HE HA hkl
        cases y2 <;> by_cases hgt : t < y0
        · have HA2 := Lib.hid (show x + countV isUpV (l.drop (k + 1)) = m ∧ topV y0 (l.drop (k + 1)) = top by
            rw [show max t y0 = y0 by omega] at hA; simpa [isUpV] using hA)
          clear hA
          go_wp2_with fail
          go_roundg (3 - (k + 1))
          case measure => omega
          case rel => exact ⟨k + 1, x, y0, by omega, by omega, rfl, rfl, by go_num, by omega, by push_cast; omega, (show Ext w _ by repeat (first | (with_reducible exact Ext.refl _) | (with_reducible refine Ext.alloc ?_ _) | (with_reducible apply Ext.setC; focus (simp <;> omega)) | (with_reducible refine Ext.drew ?_) | (with_reducible refine Ext.drewN ?_ _) | (with_reducible refine Ext.trans ?_ (Hid.out ‹Hid (Ext _ _)›)))), HA2.out⟩
        · have HA2 := Lib.hid (show x + countV isUpV (l.drop (k + 1)) = m ∧ topV t (l.drop (k + 1)) = top by
            rw [show max t y0 = t by omega] at hA; simpa [isUpV] using hA)
          clear hA
          go_wp2_with fail
          go_roundg (3 - (k + 1))
          case measure => omega
          case rel => exact ⟨k + 1, x, t, by omega, by omega, rfl, rfl, by go_num, by omega, by push_cast; omega, (show Ext w _ by repeat (first | (with_reducible exact Ext.refl _) | (with_reducible refine Ext.alloc ?_ _) | (with_reducible apply Ext.setC; focus (simp <;> omega)) | (with_reducible refine Ext.drew ?_) | (with_reducible refine Ext.drewN ?_ _) | (with_reducible refine Ext.trans ?_ (Hid.out ‹Hid (Ext _ _)›)))), HA2.out⟩
        · have HA2 := Lib.hid (show x + 1 + countV isUpV (l.drop (k + 1)) = m ∧ topV y0 (l.drop (k + 1)) = top by
            rw [show max t y0 = y0 by omega] at hA; simp at hA; omega)
          clear hA
          go_wp2_with fail
          go_roundg (3 - (k + 1))
          case measure => omega
          case rel => exact ⟨k + 1, x + 1, y0, by omega, by omega, by go_num, rfl, by go_num, by omega, by push_cast; omega, (show Ext w _ by repeat (first | (with_reducible exact Ext.refl _) | (with_reducible refine Ext.alloc ?_ _) | (with_reducible apply Ext.setC; focus (simp <;> omega)) | (with_reducible refine Ext.drew ?_) | (with_reducible refine Ext.drewN ?_ _) | (with_reducible refine Ext.trans ?_ (Hid.out ‹Hid (Ext _ _)›)))), HA2.out⟩
        · have HA2 := Lib.hid (show x + 1 + countV isUpV (l.drop (k + 1)) = m ∧ topV t (l.drop (k + 1)) = top by
            rw [show max t y0 = t by omega] at hA; simp at hA; omega)
          clear hA
          go_wp2_with fail
          go_roundg (3 - (k + 1))
          case measure => omega
          case rel => exact ⟨k + 1, x + 1, t, by omega, by omega, by go_num, rfl, by go_num, by omega, by push_cast; omega, (show Ext w _ by repeat (first | (with_reducible exact Ext.refl _) | (with_reducible refine Ext.alloc ?_ _) | (with_reducible apply Ext.setC; focus (simp <;> omega)) | (with_reducible refine Ext.drew ?_) | (with_reducible refine Ext.drewN ?_ _) | (with_reducible refine Ext.trans ?_ (Hid.out ‹Hid (Ext _ _)›)))), HA2.out⟩
      · have hk3 : k = 3 := by omega
        subst hk3
        have hA := HA.out
        rw [List.drop_of_length_le (by rw [HL.out]; exact Nat.le_refl _)] at hA
        obtain ⟨hA1, hA2⟩ := hA
        simp only [countV, Int.add_zero] at hA1
        change t = top at hA2
        subst hA1 hA2
        have HE2 := Lib.hid HE.out
        have e2 := (HE2.out.cells b (o + n * 3 + 2) hb).trans d2
        clear HE HA HM HTT
        generalize l[n].up = u at *
        by_cases hx2 : x < 2
        · have hxd : decide (x < 2) = true := by simpa using hx2
          have HQ := Lib.hid (show res = (l, false, 0) by rw [HWN.out, if_pos (.inr (by omega))])
          clear HWN
          go_wp2_with fail
          refine bodyPost_ret (v := .tuple #[.slice (some ⟨b, o, none⟩) 3 c, .bool false, .int .i64 0]) (by simp [results, Try.results20, go_sem, *]) rfl ⟨_, by rw [HQ.out], HE2.out, ?_⟩
          rw [HQ.out]
          exact HRd.out.ext HE2.out
        · have hxd : decide (x < 2) = false := by simpa using hx2
          cases u
          · have HQ := Lib.hid (show res = (l, false, 0) by rw [HWN.out, if_pos (.inl rfl)])
            clear HWN
            go_wp2_with fail
            refine bodyPost_ret (v := .tuple #[.slice (some ⟨b, o, none⟩) 3 c, .bool false, .int .i64 0]) (by simp [results, Try.results20, go_sem, *]) rfl ⟨_, by rw [HQ.out], HE2.out, ?_⟩
            rw [HQ.out]
            exact HRd.out.ext HE2.out
          · have hwn := HWN.out
            rw [if_neg (by rintro (h | h); · cases h
                           · omega)] at hwn
            by_cases h99 : t = 99
            · have HQ := Lib.hid (show res = ([], false, 2) by rw [hwn, if_pos h99])
              subst h99
              clear HWN hwn
              go_wp2_with fail
              refine bodyPost_ret (v := .tuple #[.slice none 0 0, .bool false, .int .i64 2]) (by simp [results, Try.results20, go_sem, *]) rfl ⟨_, by rw [HQ.out], HE2.out, ?_⟩
              rw [HQ.out]
              exact RdL.nil
            · have HQ := Lib.hid (show res = (rs, true, 0) by rw [hwn, if_neg h99])
              have h99b : (t == 99) = false := by simpa using h99
              have hwt : IntKind.i64.wrap (t + 1) = t + 1 := IntWalk.i64_in _ (by omega)
              clear HWN hwn h99
              go_wp2_with fail
              go_loopg [10, 11, 12] 3 (fun gg s10 s11 _ wq => ∃ k : Nat, k ≤ 3 ∧ 3 - k ≤ gg ∧ (∃ A' c', s10 = .slice A' k c') ∧ s11 = .int .i64 k ∧ Aside (Ext w wq) ∧ Aside (OwnL 39 3 vwc w.heap.size wq s10 (rs.take k)))
              case atStart => exact ⟨0, by omega, by omega, ⟨none, 0, rfl⟩, rfl, HE2.out, OwnL.nil⟩
              case round =>
                obtain ⟨k, hk, hg, ⟨A', c', rfl⟩, rfl, HE, HB⟩ := hrel
                by_cases hlt : k < 3
                · have hkl : k < l.length := by rw [HL.out]; exact hlt
                  have hlt' : (k : Int) < 3 := by omega
                  obtain ⟨b', o', hAA, hb', c0, c1, c2⟩ := (HRd.out.ext HE.out).vw_at rfl hkl
                  injection hAA with hAA
                  injection hAA with e1 e2
                  subst e1 e2
                  have hkr : k < rs.length := by rw [HRL.out]; exact hkl
                  have hrk := HRG.out k hkl hkr
                  have hts := take_snoc_get rs k hkr
                  have hlt2 := HE.out.size
                  have HE3 := Lib.hid HE.out
                  have HB3 := Lib.hid HB.out
                  have HTS := Lib.hid hts
                  have htl : (rs.take k).length ≤ 3 := by rw [List.length_take]; omega
                  clear HE HB
                  generalize rs[k] = z at *
                  generalize l[k] = y at *
                  obtain ⟨y0, y1, y2⟩ := y
                  simp only at c0 c1 c2 hrk
                  cases y2
                  · rw [if_neg (by decide)] at hrk
                    subst hrk
                    go_wp2_with (at_builtin; refine wpList_append_rd (enc := vwc) (k := 3) _ rfl _ _ 22 rfl w.heap.size 39 i0 (.agg #[.int .i64 0, .int .i64 0, .bool false]) 24 Try.underlying22 hi hz0 hz1 hz2 rfl (by decide) vwc_size _ (rs.take k) rfl ((HB3.out.alloc _).alloc _) _ [⟨y0, y1, false⟩] rfl (RdL.lit (enc := vwc) ⟨y0, y1, false⟩ ?qa0 ?qa1) ?qa2 ?qa3 ?qa4 ?qa5 ?_)
                    case qa1 => rfl
                    case qa2 => exact views_one _
                    case qa3 => unfold maxLen; (try simp only [List.length_singleton]); omega
                    case qa4 => (try simp only [List.length_singleton]); omega
                    case qa5 => (try simp only [World.size_alloc, size_set]); omega
                    intro v2 w2 ho2 hg2 hn2
                    rw [← HTS.out] at ho2
                    obtain ⟨A2, c2', rfl⟩ := ho2.form
                    have hlk : (rs.take (k + 1)).length = k + 1 := by rw [List.length_take, HRL.out, HL.out]; omega
                    rw [hlk] at ho2
                    have hE4 : Ext w w2 := Ext.grown (by repeat (first | (with_reducible exact Ext.refl _) | (with_reducible refine Ext.alloc ?_ _) | (with_reducible apply Ext.setC; focus (simp <;> omega)) | (with_reducible refine Ext.drew ?_) | (with_reducible refine Ext.drewN ?_ _) | (with_reducible refine Ext.trans ?_ (Hid.out ‹Hid (Ext _ _)›)))) hg2 (fun j hj => by have := (HB3.out.lt j hj).1; omega)
                    have HO2 := Lib.hid ho2
                    have HE4 := Lib.hid hE4
                    clear ho2 hg2 hn2 hE4
                    rw [hlk]
                    go_wp2_with fail
                    go_roundg (3 - (k + 1))
                    case measure => omega
                    case rel => exact ⟨k + 1, by omega, by omega, ⟨_, _, by go_num⟩, by go_num, HE4.out, HO2.out⟩
                  · rw [if_pos rfl] at hrk
                    subst hrk
                    go_wp2_with (at_builtin; refine wpList_append_rd (enc := vwc) (k := 3) _ rfl _ _ 22 rfl w.heap.size 39 i0 (.agg #[.int .i64 0, .int .i64 0, .bool false]) 24 Try.underlying22 hi hz0 hz1 hz2 rfl (by decide) vwc_size _ (rs.take k) rfl ?qzo _ [⟨t + 1, n, true⟩] rfl (RdL.lit (enc := vwc) ⟨t + 1, n, true⟩ ?qz0 ?qz1) ?qz2 ?qz3 ?qz4 ?qz5 ?_)
                    case qz1 => rfl
                    case qz2 => exact views_one _
                    case qz3 => unfold maxLen; (try simp only [List.length_singleton]); omega
                    case qz4 => (try simp only [List.length_singleton]); omega
                    case qz5 => (try simp only [World.size_alloc, size_set]); omega
                    case qzo =>
                      refine OwnL.alloc _ ?_
                      repeat (refine OwnL.put ?_ (fun h => by have := (HB3.out.lt _ h).2; simp at this) _)
                      exact HB3.out.alloc _
                    intro v2 w2 ho2 hg2 hn2
                    rw [← HTS.out] at ho2
                    obtain ⟨A2, c2', rfl⟩ := ho2.form
                    have hlk : (rs.take (k + 1)).length = k + 1 := by rw [List.length_take, HRL.out, HL.out]; omega
                    rw [hlk] at ho2
                    have hE4 : Ext w w2 := Ext.grown (by repeat (first | (with_reducible exact Ext.refl _) | (with_reducible refine Ext.alloc ?_ _) | (with_reducible apply Ext.setC; focus (simp <;> omega)) | (with_reducible refine Ext.drew ?_) | (with_reducible refine Ext.drewN ?_ _) | (with_reducible refine Ext.trans ?_ (Hid.out ‹Hid (Ext _ _)›)))) hg2 (fun j hj => by have := (HB3.out.lt j hj).1; omega)
                    have HO2 := Lib.hid ho2
                    have HE4 := Lib.hid hE4
                    clear ho2 hg2 hn2 hE4
                    rw [hlk]
                    go_wp2_with fail
                    go_roundg (3 - (k + 1))
                    case measure => omega
                    case rel => exact ⟨k + 1, by omega, by omega, ⟨_, _, by go_num⟩, by go_num, HE4.out, HO2.out⟩
                · have hk3 : k = 3 := by omega
                  subst hk3
                  have HB2 := Lib.hid (show OwnL 39 3 vwc w.heap.size wr (.slice A' 3 c') rs by
                    have := HB.out
                    rwa [List.take_of_length_le (by rw [HRL.out, HL.out]; exact Nat.le_refl _)] at this)
                  have HE3 := Lib.hid HE.out
                  clear HE HB
                  go_wp2_with fail
                  refine bodyPost_ret (v := .tuple #[.slice A' 3 c', .bool true, .int .i64 0]) (by simp [results, Try.results20, go_sem, *]) rfl ⟨_, by rw [HQ.out], HE3.out, ?_⟩
                  rw [HQ.out]
                  exact HB2.out.rd vwc_size
end Go.Proofs.Ythollackhkiofaa
