/- rule.Place and the references' PlaceOf; the judge's methods. -/
import Derived.Test.YtbboonepfmkgnaaRuleB
namespace Go.Proofs.Ytbboonepfmkgnaa
set_option linter.unusedSimpArgs false
set_option linter.unusedVariables false
set_option maxRecDepth 100000
open Go Go.RowKit Lb

theorem zone_and_nat : ∀ n : Fin 16, ∀ z ∈ [1, 2, 4, 8], (bits .and .i64 ((n.val : Nat) : Int) z == 0) = decide ((n.val : Int) / z % 2 = 0) := by decide +kernel
theorem zone_and {n z : Int} (h0 : 0 ≤ n) (h1 : n < 16) (hz : isZone z = true) : (bits .and .i64 n z == 0) = decide (n / z % 2 = 0) := by
  obtain ⟨k, rfl⟩ := Int.eq_ofNat_of_zero_le h0
  have hz' : z ∈ [1, 2, 4, 8] := by simpa [isZone, or_assoc] using hz
  exact zone_and_nat ⟨k, by omega⟩ z hz'

set_option maxHeartbeats 1000000 in
theorem rule_Place (t : Tk) (time zone : Int) (w : World) (h0 : 0 ≤ t.zones) (h1 : t.zones < 16) (hz : isZone zone = true) :
    Calls Try.prog 108 #[.agg (tkc t), .int .i64 time, .int .i64 zone] w fun e w' => e = .returned (.int .i64 (place t time zone)) ∧ Ext w w' := by
  obtain ⟨a, b, c, d, x, f⟩ := t
  simp only at h0 h1
  have hb := zone_and h0 h1 hz
  clear h0 h1 hz
  unfold tkc
  go_enter Try.func108, Try.ntmps108
  go_wp2
  all_goals
    go_ret
    refine ⟨ret_int ?_, ?_⟩
    · clear hb
      simp_all [place]
      try omega
    · repeat (first | (with_reducible exact Ext.refl _) | (with_reducible refine Ext.alloc ?_ _) | (with_reducible apply Ext.setC; focus (simp <;> omega)) | (with_reducible refine Ext.drew ?_) | (with_reducible refine Ext.drewN ?_ _) | (with_reducible refine Ext.trans ?_ (Hid.out ‹Hid (Ext _ _)›)))

theorem ediv_zone {n z : Int} (h0 : 0 ≤ n) (hz : isZone z = true) : n.tdiv z = n / z ∧ (n / z).tmod 2 = n / z % 2 ∧ 0 ≤ n / z ∧ n / z ≤ n := by
  have hz' : z = 1 ∨ z = 2 ∨ z = 4 ∨ z = 8 := by simpa [isZone, or_assoc] using hz
  have h1 : 0 ≤ n / z := Int.ediv_nonneg h0 (by omega)
  refine ⟨Int.tdiv_eq_ediv_of_nonneg h0, Int.tmod_eq_emod_of_nonneg h1, h1, ?_⟩
  rcases hz' with rfl | rfl | rfl | rfl <;> omega

set_option maxHeartbeats 1000000 in
theorem ref_PlaceOf (t : Tk) (time zone : Int) (w : World) (h0 : 0 ≤ t.zones) (h1 : t.zones < 16) (hz : isZone zone = true) :
    Calls Try.prog 80 #[.agg (tkc t), .int .i64 time, .int .i64 zone] w fun e w' => e = .returned (.int .i64 (place t time zone)) ∧ Ext w w' := by
  obtain ⟨a, b, c, d, x, f⟩ := t
  simp only at h0 h1
  have hz' : 1 ≤ zone := by simp [isZone] at hz; omega
  obtain ⟨e1, e2, e3, e4⟩ := ediv_zone h0 hz
  clear hz
  unfold tkc
  go_enter Try.func80, Try.ntmps80
  go_wp2_with (first | (go_at_call 50; refine (ref_between _ _ _ _).mono ?_; rintro e w' ⟨rfl, rfl⟩))
  all_goals
    go_ret
    refine ⟨ret_int ?_, ?_⟩
    · clear e1 e2 e3 e4
      simp_all [place, within]
      try omega
    · repeat (first | (with_reducible exact Ext.refl _) | (with_reducible refine Ext.alloc ?_ _) | (with_reducible apply Ext.setC; focus (simp <;> omega)) | (with_reducible refine Ext.drew ?_) | (with_reducible refine Ext.drewN ?_ _) | (with_reducible refine Ext.trans ?_ (Hid.out ‹Hid (Ext _ _)›)))
end Go.Proofs.Ytbboonepfmkgnaa
