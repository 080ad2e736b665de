/- ref.ValueOf and strings.IndexByte over the signs. -/
import Derived.Test.YtglifpoiildpfaaCode
import Derived.Test.YtglifpoiildpfaaRule
namespace Go.Proofs.Ytglifpoiildpfaa
set_option linter.unusedSimpArgs false
set_option linter.unusedVariables false
open Go Go.RowKit Lb

theorem valueOf_hit {c : UInt8} {k : Nat} (hk : k < 31) (h0 : ∀ j, j < k → (signs.getD j 0 == c) = false) (h : (signs.getD k 0 == c) = true) : valueOf c = (k : Int) := by
  have := eq_of_beq h
  rw [← this]
  exact valueOf_sign k hk
theorem valueOf_miss {c : UInt8} (h0 : ∀ j, j < 31 → (signs.getD j 0 == c) = false) : valueOf c = -1 := by
  by_cases h : 0 ≤ valueOf c
  · have h1 := sign_valueOf h
    have h2 := h0 (valueOf c).toNat (by have := (valueOf_lt c).2; omega)
    rw [h1] at h2
    simp at h2
  · have := (valueOf_lt c).1; omega

theorem beq_u8 (a c : UInt8) : ((a.toNat : Int) == (c.toNat : Int)) = (a == c) := by
  by_cases h : a = c
  · subst h; simp
  · have h2 : ¬ (a.toNat : Int) = (c.toNat : Int) := by
      intro e; exact h (UInt8.toNat_inj.1 (by omega))
    rw [beq_eq_false_iff_ne.2 h, beq_eq_false_iff_ne.2 h2]
theorem sign_get (k : Nat) (h : k < 31) : signs[k]'h = signs.getD k 0 := by
  rw [List.getD_eq_getElem?_getD, List.getElem?_eq_getElem (h := h), Option.getD_some]

set_option maxHeartbeats 2000000 in
theorem ref_ValueOf (c : UInt8) (w : World) :
    Calls Try.prog 34 #[.int .u8 c.toNat] w fun e w' => e = .returned (.int .i64 (valueOf c)) ∧ w = w' := by
  go_enter Try.func34, Try.ntmps34
  go_wp2
  go_loopg [2, 3] 31 (fun gg _ s3 wr => wr = w ∧ ∃ k : Nat, k ≤ 31 ∧ 31 - k ≤ gg ∧ s3 = .int .i64 k ∧ Aside (∀ j, j < k → (signs.getD j 0 == c) = false))
  case atStart => exact ⟨rfl, 0, by omega, by omega, rfl, fun j hj => by omega⟩
  case round =>
    obtain ⟨rfl, k, hk, hg, rfl, HA⟩ := hrel
    by_cases hlt : k < 31
    · have hlt' : (k : Int) < 31 := by omega
      go_wp2
      · rename_i hh
        have hh : (((signs[k]'hlt).toNat : Int) == (c.toNat : Int)) = true := hh
        rw [beq_u8, sign_get k hlt] at hh
        go_ret
        exact ⟨ret_int (valueOf_hit hlt HA.out hh).symm, rfl⟩
      · rename_i hh
        have hh : (((signs[k]'hlt).toNat : Int) == (c.toNat : Int)) = false := hh
        rw [beq_u8, sign_get k hlt] at hh
        go_roundg (31 - (k + 1))
        case measure => omega
        case rel =>
          refine ⟨rfl, k + 1, by omega, by omega, by go_num, fun j hj => ?_⟩
          by_cases e : j = k
          · subst e; exact hh
          · exact HA.out j (by omega)
    · have hge : ¬ (k : Int) < 31 := by omega
      have hk31 : k = 31 := by omega
      have HK := Lib.hid hk31
      clear hk31
      go_wp2
      go_ret
      exact ⟨ret_int (valueOf_miss (fun j hj => HA.out j (by have := HK.out; omega))).symm, rfl⟩
end Go.Proofs.Ytglifpoiildpfaa
