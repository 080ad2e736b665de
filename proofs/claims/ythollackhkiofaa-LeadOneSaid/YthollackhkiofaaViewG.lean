/- The references on views: CheckViews, WhoOf, SameViews; viewsAre. -/
import Derived.Test.YthollackhkiofaaViewE
import Derived.BigRegion
namespace Go.Proofs.Ythollackhkiofaa
set_option linter.unusedSimpArgs false
set_option linter.unusedVariables false
open Go Go.RowKit Lb

theorem neq_vw (a b : Int) (u : Bool) (a' b' : Int) (u' : Bool) (W : World) :
    (binOp .neq 39 (.agg #[.int .i64 a, .int .i64 b, .bool u]) (.agg #[.int .i64 a', .int .i64 b', .bool u'])).run Try.prog W = .ok (.bool (!decide ((⟨a, b, u⟩ : Vw) = ⟨a', b', u'⟩))) W := by
  have hst : Try.prog.stoodInHeld 39 = false := by kernel_rfl
  simp [go_sem, hst]
  repeat' split
  all_goals simp_all

set_option maxHeartbeats 1000000 in
theorem ref_SameViews (l m : List Vw) (v u : Value) (w : World) (hr : RdL 3 vwc w v l) (hs : RdL 3 vwc w u m) :
    Calls Try.prog 17 #[v, u] w fun e w' => e = .returned (.bool (l == m)) ∧ Ext w w' := by
  obtain ⟨A, c, rfl, hmc, hmm⟩ := hr.form
  obtain ⟨A2, c2, rfl, -, -⟩ := hs.form
  have hm : l.length ≤ 9223372036854775807 := by unfold maxLen at hmm; omega
  have HRd := Lib.hid hr
  have HSd := Lib.hid hs
  clear hr hmm hmc hs
  by_cases hl : l.length = m.length
  · rw [← hl] at HSd ⊢
    have HL := Lib.hid hl
    generalize hR : (l == m) = r
    have HR := Lib.hid hR
    clear hR hl
    go_enter Try.func17, Try.ntmps17
    go_wp2_with fail
    go_loopg [4, 5] l.length (fun gg _ s5 wr => ∃ k : Nat, k ≤ l.length ∧ l.length - k ≤ gg ∧ s5 = .int .i64 k ∧ Aside (Ext w wr) ∧ Aside ((l.drop k == m.drop k) = r))
    case atStart => exact ⟨0, by omega, by omega, rfl, Ext.refl _, HR.out⟩
    case round =>
      obtain ⟨k, hk, hg, rfl, HE, HA⟩ := hrel
      by_cases hlt : k < l.length
      · have hlt' : (k : Int) < (l.length : Int) := by omega
        have hltm : k < m.length := by have := HL.out; omega
        obtain ⟨b, o, rfl, hb, c0, c1, c2'⟩ := (HRd.out.ext HE.out).vw_at rfl hlt
        obtain ⟨b2, o2, rfl, hb2, d0, d1, d2⟩ := (HSd.out.ext HE.out).vw_at rfl hltm
        have hA := HA.out
        rw [List.drop_eq_getElem_cons hlt, List.drop_eq_getElem_cons hltm, List.cons_beq_cons] at hA
        generalize l[k] = x at *
        generalize m[k] = y at *
        obtain ⟨x0, x1, x2⟩ := x
        obtain ⟨y0, y1, y2⟩ := y
        simp only at c0 c1 c2' d0 d1 d2
        have hn := neq_vw x0 x1 x2 y0 y1 y2
        by_cases hx : (⟨x0, x1, x2⟩ : Vw) = ⟨y0, y1, y2⟩
        · rw [decide_eq_true hx] at hn
          have hA2 : (l.drop (k + 1) == m.drop (k + 1)) = r := by rw [← hA]; simp [hx]
          have HA2 := Lib.hid hA2
          clear hA hA2 HA hx
          go_wp2_with fail
          go_quiet (fail)
          go_wp2_with fail
          go_roundg (l.length - (k + 1))
          case measure => omega
          case rel => exact ⟨k + 1, by omega, by omega, by go_num, HE.out.drewN _, HA2.out⟩
        · rw [decide_eq_false hx] at hn
          have hA2 : r = false := by rw [← hA, beq_eq_false_iff_ne.2 hx]; rfl
          have HA2 := Lib.hid hA2
          clear hA hA2 HA hx
          go_wp2_with fail
          go_quiet (fail)
          go_wp2_with fail
          go_ret
          exact ⟨ret_bool (by rw [HA2.out]), HE.out.drewN _⟩
      · have hkl : k = l.length := by omega
        have hge : ¬ (k : Int) < (l.length : Int) := by omega
        have hA := HA.out
        rw [hkl, List.drop_length, HL.out, List.drop_length] at hA
        have HA2 := Lib.hid hA
        clear hA HA hkl
        go_wp2_with fail
        go_ret
        exact ⟨ret_bool (by rw [← HA2.out]; rfl), HE.out⟩
  · have hl1 : ((l.length : Int) != (m.length : Int)) = true := by
      have : (l.length : Int) ≠ (m.length : Int) := by omega
      simpa using this
    have hl2 : (l == m) = false := by
      rw [beq_eq_false_iff_ne]
      rintro rfl
      exact hl rfl
    rw [hl2]
    clear hl HRd HSd
    go_enter Try.func17, Try.ntmps17
    go_wp2_with fail
    go_ret
    exact ⟨ret_bool rfl, Ext.refl _⟩

set_option maxHeartbeats 4000000 in
theorem ref_WhoOf (l : List Vw) (v : Value) (w : World) (hr : RdL 3 vwc w v l) (hd : ckViews l = 0) :
    Calls Try.prog 19 #[v] w fun e w' => e = .returned (.tuple #[.int .i64 (whoV l).1, .bool (whoV l).2]) ∧ Ext w w' := by
  have hR := (rightV_iff l).1 hd
  obtain ⟨A, c, rfl, -, -⟩ := hr.form
  rw [hR.1] at hr ⊢
  have HL := Lib.hid hR.1
  have HRd := Lib.hid hr
  have HCK := Lib.hid (fun x (hx : x ∈ l) => (ckView_ok x).1 (hR.2.1 x hx))
  generalize hres : whoV l = res
  have HRES := Lib.hid (show whoR l 99 = res by rw [who_eq hd]; exact hres)
  clear hr hd hR hres
  go_enter Try.func19, Try.ntmps19
  go_wp2_with fail
  go_loopg [2, 3, 4, 5, 6, 7, 8] 99 (fun gg _ _ s4 _ _ _ _ wr => ∃ e : Nat, e ≤ 99 ∧ e ≤ gg ∧ s4 = .int .i64 e ∧ Aside (Ext w wr) ∧ Aside (whoR l e = res))
  case atStart => exact ⟨99, by omega, by omega, by go_num, Ext.refl _, HRES.out⟩
  case round =>
    obtain ⟨e, he, hg, rfl, HE, HA⟩ := hrel
    cases e with
    | zero =>
      have HQ := Lib.hid (show res = (0, false) from HA.out.symm)
      have HE2 := Lib.hid HE.out
      clear HA HE
      go_wp2_with fail
      go_ret2
      exact ⟨by rw [HQ.out]; rfl, HE2.out⟩
    | succ e =>
      have hA := HA.out
      unfold whoR at hA
      rw [show ((e + 1 : Nat) : Int) = (e : Int) + 1 from by push_cast; rfl]
      have hpos : (0 : Int) < (e : Int) + 1 := by omega
      have hew : IntKind.i64.wrap ((e : Int) + 1 - 1) = (e : Int) := by rw [IntWalk.i64_in _ (by omega)]; omega
      generalize hS : stepE ((e : Int) + 1) (false, 0, 0) l = s at hA
      have HS := Lib.hid hS
      have HA2 := Lib.hid hA
      have HE2 := Lib.hid HE.out
      clear hA hS HA HE
      go_wp2_with fail
      go_loopg [5, 6, 7, 8] 3 (fun gg s5 s6 s7 s8 wq => ∃ (k : Nat) (t : Bool) (n q : Int), k ≤ 3 ∧ 3 - k ≤ gg ∧ s5 = .bool t ∧ s6 = .int .i64 n ∧ s7 = .int .i64 q ∧ s8 = .int .i64 k ∧ 0 ≤ n ∧ n ≤ k ∧ 0 ≤ q ∧ q ≤ 1 ∧ Aside (Ext w wq) ∧ Aside (stepE ((e : Int) + 1) (t, n, q) (l.drop k) = s))
      case atStart => exact ⟨0, false, 0, 0, by omega, by omega, rfl, rfl, rfl, rfl, by omega, by omega, by omega, by omega, HE2.out, HS.out⟩
      case round =>
        obtain ⟨k, t, n, q, hk, hg, rfl, rfl, rfl, rfl, hn0, hnk, hq0, hq1, HE, HA⟩ := hrel
        by_cases hlt : k < 3
        · have hkl : k < l.length := by rw [HL.out]; exact hlt
          have hlt' : (k : Int) < 3 := by omega
          obtain ⟨b, o, rfl, hb, c0, c1, c2⟩ := (HRd.out.ext HE.out).vw_at rfl hkl
          have hA := HA.out
          rw [List.drop_eq_getElem_cons hkl, stepE_cons] at hA
          have hck := HCK.out l[k] (List.getElem_mem hkl)
          generalize l[k] = x at *
          obtain ⟨x0, x1, x2⟩ := x
          simp only at c0 c1 c2 hA hck
          have hw1 : IntKind.i64.wrap (n + 1) = n + 1 := IntWalk.i64_in _ (by omega)
          have HE3 := Lib.hid HE.out
          clear HE HA hkl
          by_cases hx : x0 = (e : Int) + 1
          · have hxb : (x0 == (e : Int) + 1) = true := by simpa using hx
            rw [if_pos hx] at hA
            clear hx
            cases x2
            · have HA3 := Lib.hid hA
              clear hA
              go_wp2_with fail
              go_region
              go_wp2_with fail
              go_roundg (3 - (k + 1))
              case measure => omega
              case rel => exact ⟨k + 1, true, n, x1, by omega, by omega, rfl, rfl, rfl, by go_num, by omega, by push_cast; omega, by omega, by omega, HE3.out.drew, HA3.out⟩
            · have HA3 := Lib.hid hA
              clear hA
              go_wp2_with fail
              go_region
              go_wp2_with fail
              go_roundg (3 - (k + 1))
              case measure => omega
              case rel => exact ⟨k + 1, true, n + 1, x1, by omega, by omega, rfl, by go_num, rfl, by go_num, by omega, by push_cast; omega, by omega, by omega, HE3.out.drew, HA3.out⟩
          · have hxb : (x0 == (e : Int) + 1) = false := by simpa using hx
            rw [if_neg hx] at hA
            have HA3 := Lib.hid hA
            clear hx hA
            go_wp2_with fail
            go_roundg (3 - (k + 1))
            case measure => omega
            case rel => exact ⟨k + 1, t, n, q, by omega, by omega, rfl, rfl, rfl, by go_num, by omega, by push_cast; omega, by omega, by omega, HE3.out, HA3.out⟩
        · have hk3 : k = 3 := by omega
          subst hk3
          have hs : s = (t, n, q) := by
            have := HA.out
            rw [List.drop_of_length_le (by rw [HL.out]; exact Nat.le_refl _)] at this
            exact this.symm
          have hA := HA2.out
          rw [hs] at hA
          simp only at hA
          have HE3 := Lib.hid HE.out
          clear HA HE hs
          cases t
          · have HA3 := Lib.hid (show whoR l e = res by simpa using hA)
            clear hA
            go_wp2_with fail
            go_roundg e
            case measure => omega
            case rel => exact ⟨e, by omega, by omega, by go_num, HE3.out, HA3.out⟩
          · rw [if_pos rfl] at hA
            by_cases hn2 : 2 ≤ n
            · have hnd : decide (2 ≤ n) = true := by simpa using hn2
              obtain ⟨m, rfl⟩ : ∃ m : Nat, q = m := ⟨q.toNat, by omega⟩
              have hml : m < l.length := by rw [HL.out]; omega
              obtain ⟨b, o, rfl, hb, -, -, c2⟩ := (HRd.out.ext HE3.out).vw_at rfl hml
              have hmi : (m : Int) < 3 := by omega
              have hm3 : m < 3 := by omega
              rw [show isUp l m = l[m].up from by unfold isUp; rw [Int.toNat_natCast, List.getElem?_eq_getElem hml]] at hA
              generalize l[m].up = u at *
              cases u
              · have HQ := Lib.hid (show res = (0, false) by rw [← hA]; simp)
                clear hA
                go_wp2_with fail
                go_ret2
                exact ⟨by rw [HQ.out]; rfl, HE3.out⟩
              · have HQ := Lib.hid (show res = ((m : Int), true) by rw [← hA]; simp [hn2])
                clear hA
                go_wp2_with fail
                go_ret2
                exact ⟨by rw [HQ.out]; rfl, HE3.out⟩
            · have hnd : decide (2 ≤ n) = false := by simpa using hn2
              have HQ := Lib.hid (show res = (0, false) by rw [← hA]; simp [hn2])
              clear hA
              go_wp2_with fail
              go_ret2
              exact ⟨by rw [HQ.out]; rfl, HE3.out⟩

set_option maxHeartbeats 1000000 in
theorem law_viewsAre (a b : List Vw) (e1 e2 : Int) (s u : Value) (w : World) (hr : RdL 3 vwc w s a) (hs : RdL 3 vwc w u b) :
    Calls Try.prog 23 #[s, .int .i64 e1, .int .i64 e2, u] w fun e w' => e = .returned (.bool (e1 == e2 && a == (if e2 ≠ 0 then [] else b))) ∧ Ext w w' := by
  have HS := Lib.hid (fun (w' : World) (h : Ext w w') => ref_SameViews a b s u w' (hr.ext h) (hs.ext h))
  have HZ := Lib.hid (fun (w' : World) (h : Ext w w') => ref_SameViews a [] s (.slice none 0 0) w' (hr.ext h) RdL.nil)
  obtain ⟨A, c, rfl, -, -⟩ := hr.form
  obtain ⟨A2, c2, rfl, -, -⟩ := hs.form
  clear hr hs
  by_cases h2 : e2 = 0
  · have hb2 : (e2 != 0) = false := by simpa using h2
    rw [if_neg (by simpa using h2)]
    generalize (a == b) = z at HS ⊢
    clear h2 HZ
    by_cases h1 : e1 = e2
    · have hb1 : (e1 == e2) = true := by simpa using h1
      rw [hb1, Bool.true_and]
      clear h1
      go_enter Try.func23, Try.ntmps23
      go_wp2_with fail
      (refine (HS.out _ (by repeat (first | (with_reducible exact Ext.refl _) | (with_reducible refine Ext.alloc ?_ _) | (with_reducible apply Ext.setC; focus (simp <;> omega)) | (with_reducible refine Ext.drew ?_) | (with_reducible refine Ext.drewN ?_ _) | (with_reducible refine Ext.trans ?_ (Hid.out ‹Hid (Ext _ _)›))))).mono ?_; rintro e w1 ⟨rfl, h1⟩; have H1 := Lib.hid h1; have hz1 := h1.size; clear h1; (try simp only [World.size_alloc, size_set, World.heap_drewN, size_drew] at hz1))
      go_wp2_with fail
      go_ret
      refine ⟨ret_bool rfl, ?_⟩
      repeat (first | (with_reducible exact Ext.refl _) | (with_reducible refine Ext.alloc ?_ _) | (with_reducible apply Ext.setC; focus (simp <;> omega)) | (with_reducible refine Ext.drew ?_) | (with_reducible refine Ext.drewN ?_ _) | (with_reducible refine Ext.trans ?_ (Hid.out ‹Hid (Ext _ _)›)))
    · have hb1 : (e1 == e2) = false := by simpa using h1
      rw [hb1, Bool.false_and]
      clear h1
      go_enter Try.func23, Try.ntmps23
      go_wp2_with fail
      go_ret
      refine ⟨ret_bool rfl, ?_⟩
      repeat (first | (with_reducible exact Ext.refl _) | (with_reducible refine Ext.alloc ?_ _) | (with_reducible apply Ext.setC; focus (simp <;> omega)) | (with_reducible refine Ext.drew ?_) | (with_reducible refine Ext.drewN ?_ _) | (with_reducible refine Ext.trans ?_ (Hid.out ‹Hid (Ext _ _)›)))
  · have hb2 : (e2 != 0) = true := by simpa using h2
    rw [if_pos (by simpa using h2)]
    generalize (a == ([] : List Vw)) = z at HZ ⊢
    clear h2 HS
    by_cases h1 : e1 = e2
    · have hb1 : (e1 == e2) = true := by simpa using h1
      rw [hb1, Bool.true_and]
      clear h1
      go_enter Try.func23, Try.ntmps23
      go_wp2_with fail
      (refine (HZ.out _ (by repeat (first | (with_reducible exact Ext.refl _) | (with_reducible refine Ext.alloc ?_ _) | (with_reducible apply Ext.setC; focus (simp <;> omega)) | (with_reducible refine Ext.drew ?_) | (with_reducible refine Ext.drewN ?_ _) | (with_reducible refine Ext.trans ?_ (Hid.out ‹Hid (Ext _ _)›))))).mono ?_; rintro e w1 ⟨rfl, h1⟩; have H1 := Lib.hid h1; have hz1 := h1.size; clear h1; (try simp only [World.size_alloc, size_set, World.heap_drewN, size_drew] at hz1))
      go_wp2_with fail
      go_ret
      refine ⟨ret_bool rfl, ?_⟩
      repeat (first | (with_reducible exact Ext.refl _) | (with_reducible refine Ext.alloc ?_ _) | (with_reducible apply Ext.setC; focus (simp <;> omega)) | (with_reducible refine Ext.drew ?_) | (with_reducible refine Ext.drewN ?_ _) | (with_reducible refine Ext.trans ?_ (Hid.out ‹Hid (Ext _ _)›)))
    · have hb1 : (e1 == e2) = false := by simpa using h1
      rw [hb1, Bool.false_and]
      clear h1
      go_enter Try.func23, Try.ntmps23
      go_wp2_with fail
      go_ret
      refine ⟨ret_bool rfl, ?_⟩
      repeat (first | (with_reducible exact Ext.refl _) | (with_reducible refine Ext.alloc ?_ _) | (with_reducible apply Ext.setC; focus (simp <;> omega)) | (with_reducible refine Ext.drew ?_) | (with_reducible refine Ext.drewN ?_ _) | (with_reducible refine Ext.trans ?_ (Hid.out ‹Hid (Ext _ _)›)))
end Go.Proofs.Ythollackhkiofaa
