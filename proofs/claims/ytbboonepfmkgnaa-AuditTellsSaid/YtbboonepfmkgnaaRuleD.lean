/- The judge's methods. -/
import Derived.Test.YtbboonepfmkgnaaRuleC
import Derived.Deep.RegionHeld3
import Derived.Deep.QuietTactic
import Derived.BigQuiet
namespace Go.Proofs.Ytbboonepfmkgnaa
set_option linter.unusedSimpArgs false
set_option linter.unusedVariables false
set_option maxRecDepth 100000
open Go Go.RowKit Lb

def spentB (t : Tk) (rides : Int) : Bool := decide (t.kind = 1 ∧ 1 ≤ rides ∨ t.kind = 3 ∧ t.rides ≤ rides)

/-- the cells of a judge -/
def jgc (t : Tk) (last : Option Addr) (rides : Int) : Array Value := #[.int .i64 t.id, .int .i64 t.kind, .int .i64 t.frm, .int .i64 t.til, .int .i64 t.zones, .int .i64 t.rides, .pointer last, .int .i64 rides]

set_option maxHeartbeats 1000000 in
theorem judge_spent (t : Tk) (last : Option Addr) (rides : Int) (g : Nat) (w : World) (hr : Row w g (jgc t last rides)) :
    Calls Try.prog 110 #[.pointer (some ⟨g, 0, none⟩)] w fun e w' => e = .returned (.bool (spentB t rides)) ∧ Ext w w' := by
  obtain ⟨a, b, c, d, x, f⟩ := t
  unfold jgc at hr
  have hq := hr.2.1
  clear hr
  have hsp : spentB ⟨a, b, c, d, x, f⟩ rides = ((b == 1 && decide (1 ≤ rides)) || (b == 3 && decide (f ≤ rides))) := by
    simp only [spentB, Bool.decide_or, Bool.decide_and]; rfl
  rw [hsp]
  clear hsp
  by_cases hk1 : b = 1
  · subst hk1
    by_cases hr1 : 1 ≤ rides
    · have hd : decide (1 ≤ rides) = true := by simpa using hr1
      go_enter Try.func110, Try.ntmps110
      go_wp2_with fail
      go_quiet (fail)
      go_wp2_with fail
      go_ret
      exact ⟨ret_bool (by simp_all), (Ext.refl _).drewN _⟩
    · have hd : decide (1 ≤ rides) = false := by simpa using hr1
      clear hr1
      go_enter Try.func110, Try.ntmps110
      go_wp2_with fail
      go_quiet (fail)
      go_wp2_with fail
      go_ret
      exact ⟨ret_bool (by simp_all), (Ext.refl _).drewN _⟩
  · have hk1' : (b == 1) = false := by simpa using hk1
    clear hk1
    by_cases hk3 : b = 3
    · subst hk3
      by_cases hr1 : f ≤ rides
      · have hd : decide (f ≤ rides) = true := by simpa using hr1
        go_enter Try.func110, Try.ntmps110
        go_wp2_with fail
        go_quiet (fail)
        go_wp2_with fail
        go_ret
        exact ⟨ret_bool (by simp_all), (Ext.refl _).drewN _⟩
      · have hd : decide (f ≤ rides) = false := by simpa using hr1
        clear hr1
        go_enter Try.func110, Try.ntmps110
        go_wp2_with fail
        go_quiet (fail)
        go_wp2_with fail
        go_ret
        exact ⟨ret_bool (by simp_all), (Ext.refl _).drewN _⟩
    · have hk3' : (b == 3) = false := by simpa using hk3
      clear hk3
      go_enter Try.func110, Try.ntmps110
      go_wp2_with fail
      go_quiet (fail)
      go_wp2_with fail
      go_ret
      exact ⟨ret_bool (by simp_all), (Ext.refl _).drewN _⟩

set_option maxHeartbeats 1000000 in
theorem judge_goesOn_no (t : Tk) (rides time : Int) (g : Nat) (w : World) (hr : Row w g (jgc t none rides)) :
    Calls Try.prog 109 #[.pointer (some ⟨g, 0, none⟩), .int .i64 time] w fun e w' => e = .returned (.bool (goesOn none time)) ∧ Ext w w' := by
  obtain ⟨a, b, c, d, x, f⟩ := t
  unfold jgc at hr
  have hq := hr.2.1
  clear hr
  go_enter Try.func109, Try.ntmps109
  go_wp2_with fail
  go_ret
  exact ⟨rfl, Ext.refl _⟩

set_option maxHeartbeats 1000000 in
theorem judge_goesOn_yes (t : Tk) (rides time s : Int) (g b0 o : Nat) (w : World) (hr : Row w g (jgc t (some ⟨b0, o, none⟩) rides)) (hs : w.cell? ⟨b0, o + 3, none⟩ = some (.int .i64 s))
    (h0 : 0 ≤ s) (h1 : s ≤ 9999) (h2 : 0 ≤ time) (h3 : time ≤ 9999) :
    Calls Try.prog 109 #[.pointer (some ⟨g, 0, none⟩), .int .i64 time] w fun e w' => e = .returned (.bool (goesOn (some s) time)) ∧ Ext w w' := by
  obtain ⟨a, b, c, d, x, f⟩ := t
  unfold jgc at hr
  have hq := hr.2.1
  clear hr
  go_enter Try.func109, Try.ntmps109
  go_wp2_with (go_at_call 84; refine (rule_within _ _ _ _).mono ?_; rintro e w' ⟨rfl, rfl⟩)
  go_ret
  refine ⟨ret_bool ?_, Ext.refl _⟩
  have e1 : (0 ≤ time - s) ↔ s ≤ time := by omega
  have e2 : (time - s ≤ 59) ↔ time < s + 60 := by omega
  simp only [within, goesOn, e1, e2]
end Go.Proofs.Ytbboonepfmkgnaa
