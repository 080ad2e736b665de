/- ticket.Check, its twin in the references, and within compute the plain check of a ticket. -/
import Derived.Test.YtbboonepfmkgnaaKit
import Derived.Test.YtbboonepfmkgnaaSpec
namespace Go.Proofs.Ytbboonepfmkgnaa
set_option linter.unusedSimpArgs false
set_option linter.unusedVariables false
open Go Go.RowKit Lb

def tkc (t : Tk) : Array Value := #[.int .i64 t.id, .int .i64 t.kind, .int .i64 t.frm, .int .i64 t.til, .int .i64 t.zones, .int .i64 t.rides]

theorem ticket_within (n a b : Int) (w : World) :
    Calls Try.prog 70 #[.int .i64 n, .int .i64 a, .int .i64 b] w fun e w' => e = .returned (.bool (within n a b)) ∧ w = w' := by
  go_enter Try.func70, Try.ntmps70
  go_wp2
  all_goals
    go_ret
    exact ⟨ret_bool (by simp [within, *] <;> omega), rfl⟩

theorem ref_between (n a b : Int) (w : World) :
    Calls Try.prog 50 #[.int .i64 n, .int .i64 a, .int .i64 b] w fun e w' => e = .returned (.bool (within n a b)) ∧ w = w' := by
  go_enter Try.func50, Try.ntmps50
  go_wp2
  all_goals
    go_ret
    exact ⟨ret_bool (by simp [within, *] <;> omega), rfl⟩

theorem ticket_Check (t : Tk) (w : World) :
    Calls Try.prog 42 #[.agg (tkc t)] w fun e w' => e = .returned (.int .i64 (ckTicket t)) ∧ Ext w w' := by
  obtain ⟨a, b, c, d, e, f⟩ := t
  unfold tkc
  go_enter Try.func42, Try.ntmps42
  go_wp2_with (go_at_call 70; refine (ticket_within _ _ _ _).mono ?_; rintro e w' ⟨rfl, rfl⟩)
  all_goals
    go_ret
    refine ⟨ret_int ?_, (Ext.refl _).alloc _⟩
    simp_all [ckTicket]
theorem ref_CheckTicket (t : Tk) (w : World) :
    Calls Try.prog 48 #[.agg (tkc t)] w fun e w' => e = .returned (.int .i64 (ckTicket t)) ∧ Ext w w' := by
  obtain ⟨a, b, c, d, e, f⟩ := t
  unfold tkc
  go_enter Try.func48, Try.ntmps48
  go_wp2_with (go_at_call 50; refine (ref_between _ _ _ _).mono ?_; rintro e w' ⟨rfl, rfl⟩)
  all_goals
    go_ret
    refine ⟨ret_int ?_, (Ext.refl _).alloc _⟩
    simp_all [ckTicket]
end Go.Proofs.Ytbboonepfmkgnaa
