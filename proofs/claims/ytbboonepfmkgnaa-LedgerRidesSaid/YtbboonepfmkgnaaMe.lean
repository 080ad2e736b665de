/- Me: parts of the proofs, laid together. -/
import Derived.Test.YtbboonepfmkgnaaMb
/- Taps, tickets, ledgers side by side. -/
namespace Go.Proofs.Ytbboonepfmkgnaa
set_option linter.unusedSimpArgs false
set_option linter.unusedVariables false
set_option maxRecDepth 100000
open Go Go.RowKit Lb

theorem neq_tp (a b c d e a' b' c' d' e' : Int) (W : World) :
    (binOp .neq 30 (.agg #[.int .i64 a, .int .i64 b, .int .i64 c, .int .i64 d, .int .i64 e]) (.agg #[.int .i64 a', .int .i64 b', .int .i64 c', .int .i64 d', .int .i64 e'])).run Try.prog W = .ok (.bool (!decide ((⟨a, b, c, d, e⟩ : Tp) = ⟨a', b', c', d', e'⟩))) W := by
  have hst : Try.prog.stoodInHeld 30 = false := by kernel_rfl
  simp [go_sem, hst]
  repeat' split
  all_goals simp_all
theorem eql_tp (a b c d e a' b' c' d' e' : Int) (W : World) :
    (binOp .eql 30 (.agg #[.int .i64 a, .int .i64 b, .int .i64 c, .int .i64 d, .int .i64 e]) (.agg #[.int .i64 a', .int .i64 b', .int .i64 c', .int .i64 d', .int .i64 e'])).run Try.prog W = .ok (.bool (decide ((⟨a, b, c, d, e⟩ : Tp) = ⟨a', b', c', d', e'⟩))) W := by
  have hst : Try.prog.stoodInHeld 30 = false := by kernel_rfl
  simp [go_sem, hst]
  repeat' split
  all_goals simp_all
set_option maxHeartbeats 1000000 in
theorem ref_SameTaps (l m : List Tp) (v u : Value) (w : World) (hr : RdL 5 tpc w v l) (hs : RdL 5 tpc w u m) :
    Calls Try.prog 25 #[v, u] w fun e w' => e = .returned (.bool (l == m)) ∧ Ext w w' := by
  obtain ⟨A, c, rfl, hmc, hmm⟩ := hr.form
  obtain ⟨A2, c2, rfl, -, -⟩ := hs.form
  have hm : l.length ≤ 9223372036854775807 := by unfold maxLen at hmm; omega
  have HRd := Lib.hid hr
  have HSd := Lib.hid hs
  clear hr hmm hmc hs
  by_cases hl : l.length = m.length
  · rw [← hl] at HSd ⊢
    have HL := Lib.hid hl
    generalize hR : (l == m) = r
    have HR := Lib.hid hR
    clear hR hl
    go_enter Try.func25, Try.ntmps25
    go_wp2_with fail
    go_loopg [4, 5] l.length (fun gg _ s5 wr => ∃ k : Nat, k ≤ l.length ∧ l.length - k ≤ gg ∧ s5 = .int .i64 k ∧ Aside (Ext w wr) ∧ Aside ((l.drop k == m.drop k) = r))
    case atStart => exact ⟨0, by omega, by omega, rfl, Ext.refl _, HR.out⟩
    case round =>
      obtain ⟨k, hk, hg, rfl, HE, HA⟩ := hrel
      by_cases hlt : k < l.length
      · have hlt' : (k : Int) < (l.length : Int) := by omega
        have hltm : k < m.length := by have := HL.out; omega
        obtain ⟨b, o, rfl, hb, c0, c1, c2', c3, c4⟩ := (HRd.out.ext HE.out).tap_at rfl hlt
        obtain ⟨b2, o2, rfl, hb2, d0, d1, d2, d3, d4⟩ := (HSd.out.ext HE.out).tap_at rfl hltm
        have hA := HA.out
        rw [List.drop_eq_getElem_cons hlt, List.drop_eq_getElem_cons hltm, List.cons_beq_cons] at hA
        generalize l[k] = x at *
        generalize m[k] = y at *
        obtain ⟨x0, x1, x2, x3, x4⟩ := x
        obtain ⟨y0, y1, y2, y3, y4⟩ := y
        simp only at c0 c1 c2' c3 c4 d0 d1 d2 d3 d4
        have hn := neq_tp x0 x1 x2 x3 x4 y0 y1 y2 y3 y4
        by_cases hx : (⟨x0, x1, x2, x3, x4⟩ : Tp) = ⟨y0, y1, y2, y3, y4⟩
        · rw [decide_eq_true hx] at hn
          have hA2 : (l.drop (k + 1) == m.drop (k + 1)) = r := by rw [← hA]; simp [hx]
          have HA2 := Lib.hid hA2
          clear hA hA2 HA hx
          go_wp2_with fail
          go_quiet (fail)
          go_wp2_with fail
          go_roundg (l.length - (k + 1))
          case measure => omega
          case rel => exact ⟨k + 1, by omega, by omega, by go_num, HE.out.drewN _, HA2.out⟩
        · rw [decide_eq_false hx] at hn
          have hA2 : r = false := by rw [← hA, beq_eq_false_iff_ne.2 hx]; rfl
          have HA2 := Lib.hid hA2
          clear hA hA2 HA hx
          go_wp2_with fail
          go_quiet (fail)
          go_wp2_with fail
          go_ret
          exact ⟨ret_bool (by rw [HA2.out]), HE.out.drewN _⟩
      · have hkl : k = l.length := by omega
        have hge : ¬ (k : Int) < (l.length : Int) := by omega
        have hA := HA.out
        rw [hkl, List.drop_length, HL.out, List.drop_length] at hA
        have HA2 := Lib.hid hA
        clear hA HA hkl
        go_wp2_with fail
        go_ret
        exact ⟨ret_bool (by rw [← HA2.out]; rfl), HE.out⟩
  · have hl1 : ((l.length : Int) != (m.length : Int)) = true := by
      have : (l.length : Int) ≠ (m.length : Int) := by omega
      simpa using this
    have hl2 : (l == m) = false := by
      rw [beq_eq_false_iff_ne]
      rintro rfl
      exact hl rfl
    rw [hl2]
    clear hl HRd HSd
    go_enter Try.func25, Try.ntmps25
    go_wp2_with fail
    go_ret
    exact ⟨ret_bool rfl, Ext.refl _⟩
end Go.Proofs.Ytbboonepfmkgnaa
