/- ref.AreSigns. -/
import Derived.Test.YtglifpoiildpfaaCodeB
namespace Go.Proofs.Ytglifpoiildpfaa
set_option linter.unusedSimpArgs false
set_option linter.unusedVariables false
open Go Go.RowKit Lb

set_option maxHeartbeats 2000000 in
theorem ref_AreSigns (l : List UInt8) (hl : l.length ≤ maxLen) (w : World) :
    Calls Try.prog 31 #[.string (bs l)] w fun e w' => e = .returned (.bool (areSigns l)) ∧ w = w' := by
  have hm : l.length ≤ 9223372036854775807 := by unfold maxLen at hl; omega
  clear hl
  have hsz := bs_size l
  have hv := fun c w => ref_ValueOf c w
  have HVO := Lib.hid hv
  clear hv
  go_enter Try.func31, Try.ntmps31
  go_wp2
  go_loopg [2, 3] l.length (fun gg _ s3 wr => wr = w ∧ ∃ k : Nat, k ≤ l.length ∧ l.length - k ≤ gg ∧ s3 = .int .i64 k ∧ Aside (areSigns (l.drop k) = areSigns l))
  case atStart => exact ⟨rfl, 0, by omega, by omega, rfl, rfl⟩
  case round =>
    obtain ⟨rfl, k, hk, hg, rfl, HA⟩ := hrel
    by_cases hlt : k < l.length
    · have hlt' : (k : Int) < ((bs l).size : Int) := by omega
      have hltn : k < (bs l).size := by omega
      have hdr := List.drop_eq_getElem_cons hlt
      have hget : (bs l)[k]'hltn = l[k] := rfl
      have hA := HA.out
      rw [hdr] at hA
      generalize hx : l[k] = x at hget hA
      have hA2 : (decide (0 ≤ valueOf x) && areSigns (l.drop (k + 1))) = areSigns l := hA
      generalize hy : valueOf x = y at hA2
      have HA2 := Lib.hid hA2
      have HY := Lib.hid hy
      clear hA hA2 hdr hx hy HA
      by_cases hy0 : y < 0
      · go_wp2_with (go_at_call 34; refine ((HVO.out x _).mono ?_); rintro e w1 ⟨rfl, rfl⟩; rw [HY.out])
        go_ret
        refine ⟨ret_bool ?_, rfl⟩
        rw [← HA2.out, decide_eq_false (by omega)]; rfl
      · go_wp2_with (go_at_call 34; refine ((HVO.out x _).mono ?_); rintro e w1 ⟨rfl, rfl⟩; rw [HY.out])
        go_roundg (l.length - (k + 1))
        case measure => omega
        case rel =>
          refine ⟨rfl, k + 1, by omega, by omega, by go_num, ?_⟩
          rw [← HA2.out, decide_eq_true (by omega)]; rfl
    · have hge : ¬ (k : Int) < ((bs l).size : Int) := by omega
      have hkl : k = l.length := by omega
      have HK := Lib.hid hkl
      clear hkl
      go_wp2
      go_ret
      refine ⟨ret_bool ?_, rfl⟩
      rw [← HA.out, HK.out, List.drop_length]; rfl
end Go.Proofs.Ytglifpoiildpfaa
