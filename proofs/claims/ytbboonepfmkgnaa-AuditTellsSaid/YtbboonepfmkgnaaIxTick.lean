/- slices.IndexFunc over tickets, at whatever predicate. -/
import Derived.Test.YtbboonepfmkgnaaIx
namespace Go.Proofs.Ytbboonepfmkgnaa
set_option linter.unusedSimpArgs false
set_option linter.unusedVariables false
set_option maxRecDepth 100000
open Go Go.RowKit Lb

set_option maxHeartbeats 2000000 in
theorem IndexFunc_tk (p : Tk → Bool) (g : Nat) (lb : Array Value) (eg : ∀ args w, (callFunc g args).run Try.prog w = .ok (.enter g args) w) (l : List Tk) (v : Value) (w : World) (hr : RdL 6 tkc w v l)
    (hp : ∀ W x, Ext w W → Calls Try.prog g (#[.agg (tkc x)] ++ lb) W fun e w' => e = .returned (.bool (p x)) ∧ Ext W w') :
    Calls Try.prog 77 #[v, .func (.func g) #[] lb] w fun e w' => e = .returned (.int .i64 (ixBy p l)) ∧ Ext w w' := by
  obtain ⟨A, c, rfl, h1, h2, h3⟩ := hr
  have hm : l.length ≤ 9223372036854775807 := by unfold maxLen at h2; omega
  have H3 := Lib.hid h3
  have HP := Lib.hid hp
  clear h3 h1 h2 hp
  go_enter Try.func77, Try.ntmps77
  go_wp2
  go_loopg [4, 5, 8] l.length (fun gg _ _ s8 wr => ∃ k : Nat, k ≤ l.length ∧ l.length - k ≤ gg ∧ s8 = .int .i64 k ∧ Aside (Ext w wr) ∧ Aside (∀ j (hj : j < k), (h : j < l.length) → p l[j] = false))
  case atStart => exact ⟨0, Nat.zero_le _, by omega, rfl, Ext.refl _, fun j hj => by omega⟩
  case round =>
    obtain ⟨k, hk, hg, rfl, HE, HA⟩ := hrel
    by_cases hlt : k < l.length
    · obtain ⟨b, o, rfl, hb, hc⟩ := H3.out (by omega)
      have hbr : b < wr.heap.size := Nat.lt_of_lt_of_le hb HE.out.size
      have hcr : ∀ i u, (tkc l[k]!)[i]? = some u → wr.cell? ⟨b, o + k * 6 + i, none⟩ = some u := fun i u hu => (HE.out.cells b _ hb).trans (hc k hlt i u hu)
      clear hc
      have hkk : l[k]! = l[k] := by simp [hlt]
      rw [hkk] at hcr
      have HL := Lib.hid hlt
      have hlt' : (k : Int) < (l.length : Int) := by omega
      generalize hX : l[k] = x at hcr
      have HX := Lib.hid hX
      clear hX hkk
      have hcall := HP.out wr x HE.out
      obtain ⟨x0, x1, x2, x3, x4, x5⟩ := x
      have c0 := hcr 0 _ rfl
      have c1 := hcr 1 _ rfl
      have c2 := hcr 2 _ rfl
      have c3 := hcr 3 _ rfl
      have c4 := hcr 4 _ rfl
      have c5 := hcr 5 _ rfl
      simp only [Nat.add_zero] at c0
      clear hcr
      unfold tkc at hcall
      cases hq : p ⟨x0, x1, x2, x3, x4, x5⟩ with
      | true =>
        rw [hq] at hcall
        have HC := Lib.hid hcall
        have HQ := Lib.hid hq
        clear hcall hq
        go_wp2_with (go_at_fn g; refine (HC.out).mono ?_; rintro e w1 ⟨rfl, h1⟩)
        go_ret
        refine ⟨ret_int ?_, HE.out.trans h1⟩
        unfold ixBy
        rw [findIdx_some HL.out (fun j hj => HA.out j hj (by omega)) (by have := HQ.out; rw [← HX.out] at this; exact this)]
      | false =>
        rw [hq] at hcall
        have HC := Lib.hid hcall
        have HQ := Lib.hid hq
        clear hcall hq
        go_wp2_with (go_at_fn g; refine (HC.out).mono ?_; rintro e w1 ⟨rfl, h1⟩)
        go_roundg (l.length - (k + 1))
        case measure => omega
        case rel =>
          refine ⟨k + 1, by omega, by omega, by go_num, HE.out.trans h1, fun j hj h => ?_⟩
          by_cases e : j = k
          · subst e; have := HQ.out; rw [← HX.out] at this; exact this
          · exact HA.out j (by omega) h
    · have hkl : k = l.length := by omega
      have hge : ¬ (k : Int) < (l.length : Int) := by omega
      have HK := Lib.hid hkl
      clear hkl
      go_wp2
      go_ret
      refine ⟨ret_int ?_, HE.out⟩
      unfold ixBy
      rw [findIdx_none (fun j hj => HA.out j (by have := HK.out; omega) hj)]

end Go.Proofs.Ytbboonepfmkgnaa
