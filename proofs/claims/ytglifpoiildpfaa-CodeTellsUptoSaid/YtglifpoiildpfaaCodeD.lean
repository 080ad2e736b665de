/- ref.MarkOf. -/
import Derived.Test.YtglifpoiildpfaaCodeC
namespace Go.Proofs.Ytglifpoiildpfaa
set_option linter.unusedSimpArgs false
set_option linter.unusedVariables false
open Go Go.RowKit Lb

theorem mark_hit {S : Int} {v : Nat} (hv : v < 31) (h : Int.tmod (S + v) 31 = 0) : (31 - S % 31) % 31 = v := by
  have := Int.dvd_of_tmod_eq_zero h
  omega
theorem mark_miss {S : Int} (h : ∀ j : Nat, j < 31 → ¬ Int.tmod (S + j) 31 = 0) : False := by
  have h1 := h ((31 - S % 31) % 31).toNat (by omega)
  exact h1 (Int.tmod_eq_zero_of_dvd (by omega))
theorem sign_slice : ∀ v, v < 31 → (bs signs).extract v (v + 1) = bs [signs.getD v 0] := by decide +kernel

set_option maxHeartbeats 2000000 in
theorem ref_MarkOf (l : List UInt8) (hl : l.length ≤ 20) (w : World) :
    Calls Try.prog 32 #[.string (bs l)] w fun e w' => e = .returned (.string (bs [markSign l])) ∧ w = w' := by
  have hsz := bs_size l
  have hv := fun c w => ref_ValueOf c w
  have HVO := Lib.hid hv
  clear hv
  go_enter Try.func32, Try.ntmps32
  go_wp2
  go_loopg [3, 4] l.length (fun gg s3 s4 wr => wr = w ∧ ∃ (k : Nat) (n : Int), k ≤ l.length ∧ l.length - k ≤ gg ∧ s3 = .int .i64 n ∧ s4 = .int .i64 k ∧ Aside (n + markSum (2 + k) (l.drop k) = markSum 2 l) ∧ Aside (-660 * (k : Int) ≤ n ∧ n ≤ 660 * k))
  case atStart => exact ⟨rfl, 0, 0, by omega, by omega, rfl, rfl, by simp [Aside], by simp [Aside]⟩
  case round =>
    obtain ⟨rfl, k, n, hk, hg, rfl, rfl, HA, HB⟩ := hrel
    by_cases hlt : k < l.length
    · have hlt' : (k : Int) < ((bs l).size : Int) := by omega
      have hltn : k < (bs l).size := by omega
      have hdr := List.drop_eq_getElem_cons hlt
      have hget : (bs l)[k]'hltn = l[k] := rfl
      have hA := HA.out
      rw [hdr] at hA
      generalize hx : l[k] = x at hget hA
      have hA2 : n + (valueOf x * (2 + k) + markSum (2 + k + 1) (l.drop (k + 1))) = markSum 2 l := hA
      have hyb := valueOf_lt x
      generalize hy : valueOf x = y at hA2 hyb
      have HY := Lib.hid hy
      have hk20 : (k : Int) ≤ 19 := by omega
      have hk0 : (0 : Int) ≤ k := by omega
      have hb1 : y * ((k : Int) + 2) ≤ 30 * 21 := Int.le_trans (Int.mul_le_mul_of_nonneg_right (show y ≤ 30 by omega) (by omega)) (by omega)
      have hb0 : -21 ≤ y * ((k : Int) + 2) := Int.le_trans (by omega) (Int.mul_le_mul_of_nonneg_right (show -1 ≤ y by omega) (show 0 ≤ (k : Int) + 2 by omega))
      have hn := HB.out
      have hA3 : n + y * ((k : Int) + 2) + markSum (2 + ((k + 1 : Nat) : Int)) (l.drop (k + 1)) = markSum 2 l := by
        rw [← hA2, show (2 : Int) + k = k + 2 by omega, show (2 : Int) + ((k + 1 : Nat) : Int) = k + 2 + 1 by omega]; omega
      have HA3 := Lib.hid hA3
      clear hA hA2 hdr hx hy HA hA3 HB
      generalize hM : y * ((k : Int) + 2) = M at *
      have hn1 : n + M ≤ 20000 := by omega
      have hn2 : -20000 ≤ n + M := by omega
      go_wp2_with (go_at_call 34; refine ((HVO.out x _).mono ?_); rintro e w1 ⟨rfl, rfl⟩; rw [HY.out])
      go_roundg (l.length - (k + 1))
      case measure => omega
      case rel =>
        exact ⟨rfl, k + 1, n + M, by omega, by omega, rfl, by go_num, HA3.out, by constructor <;> omega⟩
    · have hge : ¬ (k : Int) < ((bs l).size : Int) := by omega
      have hkl : k = l.length := by omega
      have hS : n = markSum 2 l := by
        have := HA.out
        rw [hkl, List.drop_length] at this
        simpa [markSum] using this
      have hn := HB.out
      have hn1 : n ≤ 20000 := by omega
      have hn2 : -20000 ≤ n := by omega
      have HS := Lib.hid hS
      clear hkl hS HA HB hn
      go_wp2
      go_loopg [2, 5] 31 (fun gg _ s5 w2 => w2 = wr ∧ ∃ v : Nat, v ≤ 31 ∧ 31 - v ≤ gg ∧ s5 = .int .i64 v ∧ Aside (∀ j : Nat, j < v → ¬ Int.tmod (n + j) 31 = 0))
      case atStart => exact ⟨rfl, 0, by omega, by omega, rfl, fun j hj => by omega⟩
      case round =>
        obtain ⟨rfl, v, hv, hgv, rfl, HV⟩ := hrel
        by_cases hv31 : v < 31
        · have hv31' : (v : Int) < 31 := by omega
          by_cases ht : Int.tmod (n + v) 31 = 0
          · have hmk := sign_slice v hv31
            go_wp2
            go_ret
            have hm1 : markVal l = v := by
              unfold markVal
              rw [← HS.out]
              exact mark_hit hv31 ht
            have hm2 : markSign l = signs.getD v 0 := by
              unfold markSign
              rw [hm1, Int.toNat_natCast]
            refine ⟨?_, rfl⟩
            rw [hm2, ← hmk]
            rfl
          · have htb : (Int.tmod (n + v) 31 == 0) = false := by simpa using ht
            go_wp2
            go_roundg (31 - (v + 1))
            case measure => omega
            case rel =>
              refine ⟨rfl, v + 1, by omega, by omega, by go_num, fun j hj => ?_⟩
              by_cases e : j = v
              · subst e; exact ht
              · exact HV.out j (by omega)
        · exact absurd (mark_miss (S := n) fun j hj => HV.out j (by omega)) (fun h => h)
end Go.Proofs.Ytglifpoiildpfaa
