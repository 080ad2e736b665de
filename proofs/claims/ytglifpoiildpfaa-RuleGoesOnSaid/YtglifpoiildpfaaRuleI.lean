/- rule.Each with rule.Check; the closure of rule.Judge. -/
import Derived.Test.YtglifpoiildpfaaRuleH
namespace Go.Proofs.Ytglifpoiildpfaa
set_option linter.unusedSimpArgs false
set_option linter.unusedVariables false
open Go Go.RowKit Lb

theorem eachTap_hit {f : Tp → Int} : ∀ {l : List Tp} {k : Nat} (hk : k < l.length), (∀ j (hj : j < k), f (l[j]'(by omega)) = 0) → f l[k] ≠ 0 → eachTap f l = f l[k]
  | [], k, hk, _, _ => by simp at hk
  | x :: l, 0, hk, _, h => by simp [eachTap] at h ⊢; intro h2; exact absurd h2 h
  | x :: l, k + 1, hk, h0, h => by
    have hx : f x = 0 := h0 0 (by omega)
    simp only [eachTap, hx, ne_eq, not_true_eq_false, if_false]
    exact eachTap_hit (by simpa using hk) (fun j hj => h0 (j + 1) (by omega)) h
theorem eachTap_zero {f : Tp → Int} : ∀ {l : List Tp}, (∀ j (hj : j < l.length), f l[j] = 0) → eachTap f l = 0
  | [], _ => rfl
  | x :: l, h => by
    have hx : f x = 0 := h 0 (by simp)
    simp only [eachTap, hx, ne_eq, not_true_eq_false, if_false]
    exact eachTap_zero (fun j hj => h (j + 1) (by simpa using hj))

set_option maxHeartbeats 2000000 in
theorem rule_Each_Check (l : List Tp) (v : Value) (w : World) (hr : RdL 5 tpc w v l) :
    Calls Try.prog 41 #[v, .func (.func 24) #[] #[]] w fun e w' => e = .returned (.int .i64 (eachTap ckTap l)) ∧ Ext w w' := by
  obtain ⟨A, c, rfl, h1, h2, h3⟩ := hr
  have hm : l.length ≤ 9223372036854775807 := by unfold maxLen at h2; omega
  have H3 := Lib.hid h3
  clear h3 h1 h2
  go_enter Try.func41, Try.ntmps41
  go_wp2
  go_loopg [4, 6, 7, 10] l.length (fun gg _ _ _ s10 wr => ∃ k : Nat, k ≤ l.length ∧ l.length - k ≤ gg ∧ s10 = .int .i64 k ∧ Aside (Ext w wr) ∧ Aside (∀ j (hj : j < k), (h : j < l.length) → ckTap l[j] = 0))
  case atStart => exact ⟨0, Nat.zero_le _, by omega, rfl, Ext.refl _, fun j hj => by omega⟩
  case round =>
    obtain ⟨k, hk, hg, rfl, HE, HA⟩ := hrel
    by_cases hlt : k < l.length
    · obtain ⟨b, o, rfl, hb, hc⟩ := H3.out (by omega)
      have hbr : b < wr.heap.size := Nat.lt_of_lt_of_le hb HE.out.size
      have hcr : ∀ i u, (tpc l[k]!)[i]? = some u → wr.cell? ⟨b, o + k * 5 + i, none⟩ = some u := fun i u hu => (HE.out.cells b _ hb).trans (hc k hlt i u hu)
      clear hc
      have hkk : l[k]! = l[k] := by simp [hlt]
      rw [hkk] at hcr
      have HL := Lib.hid hlt
      have hlt' : (k : Int) < (l.length : Int) := by omega
      generalize hX : l[k] = x at hcr
      have HX := Lib.hid hX
      clear hX hkk
      have hcall := fun w => rule_Check x w
      obtain ⟨x0, x1, x2, x3, x4⟩ := x
      have c0 : wr.cell? ⟨b, o + k * 5, none⟩ = some (.int .i64 x0) := hcr 0 _ rfl
      have c1 : wr.cell? ⟨b, o + k * 5 + 1, none⟩ = some (.int .i64 x1) := hcr 1 _ rfl
      have c2 : wr.cell? ⟨b, o + k * 5 + 2, none⟩ = some (.int .i64 x2) := hcr 2 _ rfl
      have c3 : wr.cell? ⟨b, o + k * 5 + 3, none⟩ = some (.int .i64 x3) := hcr 3 _ rfl
      have c4 : wr.cell? ⟨b, o + k * 5 + 4, none⟩ = some (.int .i64 x4) := hcr 4 _ rfl
      clear hcr
      unfold tpc at hcall
      generalize hq : ckTap ⟨x0, x1, x2, x3, x4⟩ = q at hcall
      have HC := Lib.hid hcall
      have HQ := Lib.hid hq
      clear hcall hq
      by_cases hq0 : q = 0
      · have hqb : (q != 0) = false := by simpa using hq0
        have HQ0 := Lib.hid hq0
        clear hq0
        go_wp2_with (go_at_call 24; refine (HC.out _).mono ?_; rintro e w1 ⟨rfl, h1⟩; have H1 := Lib.hid h1; clear h1)
        go_roundg (l.length - (k + 1))
        case measure => omega
        case rel =>
          refine ⟨k + 1, by omega, by omega, by go_num, ?_, fun j hj h => ?_⟩
          · exact (HE.out.alloc _).trans H1.out
          · by_cases e : j = k
            · subst e; have := HQ.out; rw [← HX.out] at this; exact this.trans HQ0.out
            · exact HA.out j (by omega) h
      · have hqb : (q != 0) = true := by simpa using hq0
        have HQ0 := Lib.hid hq0
        clear hq0
        go_wp2_with (go_at_call 24; refine (HC.out _).mono ?_; rintro e w1 ⟨rfl, h1⟩; have H1 := Lib.hid h1; clear h1)
        go_ret
        refine ⟨ret_int ?_, (HE.out.alloc _).trans H1.out⟩
        have hh := HQ.out
        rw [← HX.out] at hh
        exact ((eachTap_hit (f := ckTap) HL.out (fun j hj => HA.out j hj (by have := HL.out; omega)) (fun e => HQ0.out (hh.symm.trans e))).trans hh).symm
    · have hkl : k = l.length := by omega
      have hge : ¬ (k : Int) < (l.length : Int) := by omega
      have HK := Lib.hid hkl
      clear hkl
      go_wp2
      go_ret
      refine ⟨ret_int ?_, HE.out⟩
      rw [eachTap_zero (fun j hj => HA.out j (by have := HK.out; omega) hj)]

/-- the closure: is a tap of another ticket? -/
theorem judge_other (x : Tp) (g : Nat) (a : Int) (w : World) (h : w.cell? ⟨g, 0, none⟩ = some (.int .i64 a)) (hg : g < w.heap.size) :
    Calls Try.prog 42 #[.agg (tpc x), .pointer (some ⟨g, 0, none⟩)] w fun e w' => e = .returned (.bool (x.ticket != a)) ∧ Ext w w' := by
  obtain ⟨x0, x1, x2, x3, x4⟩ := x
  unfold tpc
  go_enter Try.func42, Try.ntmps42
  go_wp2
  all_goals
    go_ret
    refine ⟨rfl, ?_⟩
    repeat (first | (with_reducible exact Ext.refl _) | (with_reducible refine Ext.alloc ?_ _) | (with_reducible apply Ext.setC; focus (simp <;> omega)) | (with_reducible refine Ext.drew ?_) | (with_reducible refine Ext.drewN ?_ _) | (with_reducible refine Ext.trans ?_ (Hid.out ‹Hid (Ext _ _)›)))
end Go.Proofs.Ytglifpoiildpfaa
