/- rule.Check, Zone, Place and their twins in the references compute the plain checks. -/
import Derived.Test.YtbboonepfmkgnaaTick
import Derived.Test.YtbboonepfmkgnaaSl
namespace Go.Proofs.Ytbboonepfmkgnaa
set_option linter.unusedSimpArgs false
set_option linter.unusedVariables false
set_option maxRecDepth 100000
open Go Go.RowKit Lb

def tpc (p : Tp) : Array Value := #[.int .i64 p.ticket, .int .i64 p.gate, .int .i64 p.seq, .int .i64 p.time, .int .i64 p.zone]
def inc (n : Int) : Array Value := #[.int .i64 n]

theorem rule_within (n a b : Int) (w : World) :
    Calls Try.prog 84 #[.int .i64 n, .int .i64 a, .int .i64 b] w fun e w' => e = .returned (.bool (within n a b)) ∧ w = w' := by
  go_enter Try.func84, Try.ntmps84
  go_wp2
  all_goals
    go_ret
    exact ⟨ret_bool (by simp [within, *] <;> omega), rfl⟩

theorem ref_IsZone (n : Int) (w : World) :
    Calls Try.prog 69 #[.int .i64 n] w fun e w' => e = .returned (.bool (isZone n)) ∧ w = w' := by
  go_enter Try.func69, Try.ntmps69
  go_wp2
  all_goals
    go_ret
    exact ⟨ret_bool (by simp_all [isZone]), rfl⟩

/-- the place of a number; -1: it is not there -/
def idxInt (l : List Int) (n : Int) : Int := match l.findIdx? (fun x => n == x) with
  | some i => i
  | none => -1

theorem findIdx_some {α : Type} {p : α → Bool} {l : List α} {k : Nat} (hk : k < l.length) (h0 : ∀ j (hj : j < k), p (l[j]'(by omega)) = false) (h1 : p l[k] = true) : l.findIdx? p = some k := by
  rw [List.findIdx?_eq_some_iff_getElem]
  exact ⟨hk, h1, fun j hj => by simp [h0 j hj]⟩
theorem findIdx_none {α : Type} {p : α → Bool} {l : List α} (h0 : ∀ j (hj : j < l.length), p l[j] = false) : l.findIdx? p = none := by
  rw [List.findIdx?_eq_none_iff]
  intro x hx
  obtain ⟨j, hj, rfl⟩ := List.mem_iff_getElem.1 hx
  exact h0 j hj

set_option maxHeartbeats 1000000 in
theorem slices_Index_int (l : List Int) (n : Int) (v : Value) (w : World) (hr : RdL 1 inc w v l) :
    Calls Try.prog 111 #[v, .int .i64 n] w fun e w' => e = .returned (.int .i64 (idxInt l n)) ∧ w = w' := by
  obtain ⟨A, c, rfl, h1, h2, h3⟩ := hr
  have hm : l.length ≤ 9223372036854775807 := by unfold maxLen at h2; omega
  have H3 := Lib.hid h3
  clear h3 h1 h2
  go_enter Try.func111, Try.ntmps111
  go_wp2
  go_loopg [4, 5, 8] l.length (fun gg _ _ s8 wr => wr = w ∧ ∃ k : Nat, k ≤ l.length ∧ l.length - k ≤ gg ∧ s8 = .int .i64 k ∧ Aside (∀ j (hj : j < k), (h : j < l.length) → (n == l[j]) = false))
  case atStart => exact ⟨rfl, 0, Nat.zero_le _, by omega, rfl, fun j hj => by omega⟩
  case round =>
    obtain ⟨rfl, k, hk, hg, rfl, HA⟩ := hrel
    by_cases hlt : k < l.length
    · obtain ⟨b, o, rfl, hb, hc⟩ := H3.out (by omega)
      have hx := hc k hlt 0 (.int .i64 l[k]) (by simp [inc, hlt])
      simp only [Nat.mul_one, Nat.add_zero] at hx
      clear hc
      have HL := Lib.hid hlt
      have hlt' : (k : Int) < (l.length : Int) := by omega
      generalize hX : l[k] = x at hx
      have HX := Lib.hid hX
      clear hX
      by_cases hnx : (n == x) = true
      · go_wp2
        go_ret
        refine ⟨ret_int ?_, rfl⟩
        unfold idxInt
        rw [findIdx_some HL.out (fun j hj => HA.out j hj (by omega)) (by rw [← HX.out] at hnx; exact hnx)]
      · have hnx' : (n == x) = false := by simpa using hnx
        clear hnx
        go_wp2
        go_roundg (l.length - (k + 1))
        case measure => omega
        case rel =>
          refine ⟨rfl, k + 1, by omega, by omega, by go_num, fun j hj h => ?_⟩
          by_cases e : j = k
          · subst e; rw [← HX.out] at hnx'; exact hnx'
          · exact HA.out j (by omega) h
    · have hkl : k = l.length := by omega
      have hge : ¬ (k : Int) < (l.length : Int) := by omega
      have HK := Lib.hid hkl
      clear hkl
      go_wp2
      go_ret
      refine ⟨ret_int ?_, rfl⟩
      unfold idxInt
      rw [findIdx_none (fun j hj => HA.out j (by have := HK.out; omega) hj)]
end Go.Proofs.Ytbboonepfmkgnaa
