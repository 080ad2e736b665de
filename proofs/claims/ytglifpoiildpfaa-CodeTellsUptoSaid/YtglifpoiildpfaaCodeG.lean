/- code.mark. -/
import Derived.Test.YtglifpoiildpfaaCodeF
import Derived.Test.YtglifpoiildpfaaOwn
namespace Go.Proofs.Ytglifpoiildpfaa
set_option linter.unusedSimpArgs false
set_option linter.unusedVariables false
open Go Go.RowKit Lb

theorem vals_rd {w : World} {base : Nat} {v : Value} {l : List UInt8} (h : w.ownsRow base 3 1 v l.length (vals l)) : RdL 1 inc w v (l.map valueOf) := by
  have h2 : OwnL 3 1 inc base w v (l.map valueOf) := by
    unfold OwnL
    rw [encs_inc, List.length_map]
    simpa [vals, Function.comp_def] using h
  exact h2.rd inc_size
theorem sign_all {l : List UInt8} (h : areSigns l = true) (k : Nat) (hk : k < l.length) : 0 ≤ valueOf l[k] := by
  unfold areSigns at h
  rw [List.all_eq_true] at h
  simpa using h l[k] (List.getElem_mem hk)
theorem sign_slice' (v : Nat) (h : v < 31) : ByteArray.extract ⟨#[48, 49, 50, 51, 52, 53, 54, 55, 56, 57, 65, 66, 67, 68, 69, 70, 71, 72, 74, 75, 76, 77, 78, 80, 81, 82, 83, 84, 85, 86, 87]⟩ v (v + 1) = bs [signs.getD v 0] := sign_slice v h

set_option maxHeartbeats 2000000 in
theorem code_mark (l : List UInt8) (hl : l.length ≤ 20) (ha : areSigns l = true) (w : World) :
    Calls Try.prog 51 #[.string (bs l)] w fun e w' => e = .returned (.string (bs [markSign l])) ∧ Ext w w' := by
  have hc := fun w => code_values l (by omega) w
  have HC := Lib.hid hc
  have HA := Lib.hid ha
  clear hc ha
  go_enter Try.func51, Try.ntmps51
  go_wp2_with fail
  refine (HC.out _).mono ?_
  rintro e w1 ⟨h1, h2 | ⟨-, v, rfl, h2⟩⟩
  · exact absurd (h2.1.symm.trans HA.out) (by decide)
  obtain ⟨A, c, rfl, -, -, h3⟩ := vals_rd h2
  rw [List.length_map] at h3 ⊢
  have H1 := Lib.hid h1
  have H3 := Lib.hid h3
  clear h1 h2 h3
  go_wp2_with fail
  go_loopg [5, 6, 7, 16] l.length (fun gg s5 _ _ s16 wr => wr = w1 ∧ ∃ (k : Nat) (n : Int), k ≤ l.length ∧ l.length - k ≤ gg ∧ s5 = .int .i64 n ∧ s16 = .int .i64 k ∧ Aside (n + markSum (2 + k) (l.drop k) = markSum 2 l) ∧ Aside (0 ≤ n ∧ n ≤ 660 * k))
  case atStart => exact ⟨rfl, 0, 0, by omega, by omega, rfl, rfl, by simp [Aside], by simp [Aside]⟩
  case round =>
    obtain ⟨rfl, k, n, hk, hg, rfl, rfl, HM, HB⟩ := hrel
    by_cases hlt : k < l.length
    · have hlt' : (k : Int) < (l.length : Int) := by omega
      obtain ⟨b, o, rfl, hb, hc⟩ := H3.out (by omega)
      have hx := hc k hlt 0 (.int .i64 (valueOf l[k])) (by simp [inc, hlt])
      simp only [Nat.mul_one, Nat.add_zero] at hx
      clear hc
      have hdr := List.drop_eq_getElem_cons hlt
      have hA := HM.out
      rw [hdr] at hA
      have hy0 := sign_all HA.out k hlt
      have hyb := (valueOf_lt l[k]).2
      have hA2 : n + (valueOf l[k] * (2 + k) + markSum (2 + k + 1) (l.drop (k + 1))) = markSum 2 l := hA
      generalize valueOf l[k] = y at hA2 hyb hy0 hx
      have hk20 : (k : Int) ≤ 19 := by omega
      have hk0 : (0 : Int) ≤ k := by omega
      have hb1 : y * ((k : Int) + 2) ≤ 30 * 21 := Int.le_trans (Int.mul_le_mul_of_nonneg_right (show y ≤ 30 by omega) (by omega)) (by omega)
      have hb0 : 0 ≤ y * ((k : Int) + 2) := Int.mul_nonneg hy0 (by omega)
      have hn := HB.out
      have hA3 : n + y * ((k : Int) + 2) + markSum (2 + ((k + 1 : Nat) : Int)) (l.drop (k + 1)) = markSum 2 l := by
        rw [← hA2, show (2 : Int) + k = k + 2 by omega, show (2 : Int) + ((k + 1 : Nat) : Int) = k + 2 + 1 by omega]; omega
      have HA3 := Lib.hid hA3
      clear hA hA2 hdr HM hA3 HB
      generalize hM : y * ((k : Int) + 2) = M at *
      have hn1 : n + M ≤ 20000 := by omega
      have hn2 : 0 ≤ n + M := by omega
      go_wp2_with fail
      go_roundg (l.length - (k + 1))
      case measure => omega
      case rel =>
        exact ⟨rfl, k + 1, n + M, by omega, by omega, rfl, by go_num, HA3.out, by constructor <;> omega⟩
    · have hge : ¬ (k : Int) < (l.length : Int) := by omega
      have hkl : k = l.length := by omega
      have hS : n = markSum 2 l := by
        have := HM.out
        rw [hkl, List.drop_length] at this
        simpa [markSum] using this
      have hn := HB.out
      have hn1 : n ≤ 20000 := by omega
      have hn2 : 0 ≤ n := by omega
      have hm1 : (31 - n % 31) % 31 = markVal l := by unfold markVal; rw [hS]
      have hmb := markVal_lt l
      obtain ⟨m, hm⟩ := Int.eq_ofNat_of_zero_le hmb.1
      have hm31 : m < 31 := by omega
      have hms : markSign l = signs.getD m 0 := by unfold markSign; rw [hm]; rfl
      have HMS := Lib.hid hms
      have hm2 : (31 - n % 31) % 31 = (m : Int) := by rw [hm1]; exact hm
      have hsl := sign_slice' m hm31
      have HS := Lib.hid hS
      clear hkl hS HM HB hn hmb hm hms hm1
      have hm31' : (m : Int) < 31 := by omega
      go_wp2_with fail
      go_ret
      exact ⟨by rw [HMS.out]; rfl, H1.out⟩
end Go.Proofs.Ytglifpoiildpfaa
