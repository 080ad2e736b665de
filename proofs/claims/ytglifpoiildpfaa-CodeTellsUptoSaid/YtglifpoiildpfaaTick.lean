/- ticket.Check, its twin in the references, and within compute the plain check of a ticket. -/
import Derived.Test.YtglifpoiildpfaaKit
import Derived.Test.YtglifpoiildpfaaSpec
namespace Go.Proofs.Ytglifpoiildpfaa
set_option linter.unusedSimpArgs false
set_option linter.unusedVariables false
open Go Go.RowKit Lb

def tkc (t : Tk) : Array Value := #[.int .i64 t.id, .int .i64 t.kind, .int .i64 t.frm, .int .i64 t.til, .int .i64 t.zones, .int .i64 t.rides]

theorem ticket_within (n a b : Int) (w : World) :
    Calls Try.prog 39 #[.int .i64 n, .int .i64 a, .int .i64 b] w fun e w' => e = .returned (.bool (within n a b)) ∧ w = w' := by
  go_enter Try.func39, Try.ntmps39
  go_wp2
  all_goals
    go_ret
    exact ⟨ret_bool (by simp [within, *] <;> omega), rfl⟩

theorem ref_between (n a b : Int) (w : World) :
    Calls Try.prog 37 #[.int .i64 n, .int .i64 a, .int .i64 b] w fun e w' => e = .returned (.bool (within n a b)) ∧ w = w' := by
  go_enter Try.func37, Try.ntmps37
  go_wp2
  all_goals
    go_ret
    exact ⟨ret_bool (by simp [within, *] <;> omega), rfl⟩

theorem ticket_Check (t : Tk) (w : World) :
    Calls Try.prog 19 #[.agg (tkc t)] w fun e w' => e = .returned (.int .i64 (ckTicket t)) ∧ Ext w w' := by
  obtain ⟨a, b, c, d, e, f⟩ := t
  unfold tkc
  go_enter Try.func19, Try.ntmps19
  go_wp2_with (go_at_call 39; refine (ticket_within _ _ _ _).mono ?_; rintro e w' ⟨rfl, rfl⟩)
  all_goals
    go_ret
    refine ⟨ret_int ?_, (Ext.refl _).alloc _⟩
    simp_all [ckTicket]
theorem ref_CheckTicket (t : Tk) (w : World) :
    Calls Try.prog 15 #[.agg (tkc t)] w fun e w' => e = .returned (.int .i64 (ckTicket t)) ∧ Ext w w' := by
  obtain ⟨a, b, c, d, e, f⟩ := t
  unfold tkc
  go_enter Try.func15, Try.ntmps15
  go_wp2_with (go_at_call 37; refine (ref_between _ _ _ _).mono ?_; rintro e w' ⟨rfl, rfl⟩)
  all_goals
    go_ret
    refine ⟨ret_int ?_, (Ext.refl _).alloc _⟩
    simp_all [ckTicket]
end Go.Proofs.Ytglifpoiildpfaa
