/- ticket.told recovers: a ticket of eight bytes, else none. -/
import Derived.Test.YtglifpoiildpfaaTickE
namespace Go.Proofs.Ytglifpoiildpfaa
set_option linter.unusedSimpArgs false
set_option linter.unusedVariables false
open Go Go.RowKit Lb

theorem short_is (w : World) : (Instr.typeAssert (.iface 71 (.agg #[])) 20 71 true).run Try.prog w = .ok (.tuple #[.agg #[], .bool true]) w := by kernel_rfl

theorem told_catch (p q : Nat) (w : World) (x0 x1 x2 x3 x4 x5 : Value) (h0 : w.cell? ⟨p, 0, none⟩ = some x0) (h1 : w.cell? ⟨p, 1, none⟩ = some x1) (h2 : w.cell? ⟨p, 2, none⟩ = some x2) (h3 : w.cell? ⟨p, 3, none⟩ = some x3) (h4 : w.cell? ⟨p, 4, none⟩ = some x4) (h5 : w.cell? ⟨p, 5, none⟩ = some x5)
    (hf : ∀ o, w.frozen? ⟨p, o, none⟩ = false) (y : Value) (hy : w.cell? ⟨q, 0, none⟩ = some y) (hyf : w.frozen? ⟨q, 0, none⟩ = false) (hne : p ≠ q) (hp : p < w.heap.size) (hq : q < w.heap.size) :
    CallsD Try.prog 53 #[.pointer (some ⟨p, 0, none⟩), .pointer (some ⟨q, 0, none⟩)] (.panicking shortPanic) w fun e u' w' =>
      e = .returned (.tuple #[]) ∧ u' = .panicking [{ v := .iface 71 (.agg #[]), recovered := true }] ∧ w' = (((((((w.alloc (.cells #[] 71)).setCell ⟨p, 0, none⟩ (.int .i64 0)).setCell ⟨p, 1, none⟩ (.int .i64 0)).setCell ⟨p, 2, none⟩ (.int .i64 0)).setCell ⟨p, 3, none⟩ (.int .i64 0)).setCell ⟨p, 4, none⟩ (.int .i64 0)).setCell ⟨p, 5, none⟩ (.int .i64 0)).setCell ⟨q, 0, none⟩ (.bool false) := by
  refine callsD_of_wpS Try.func53 rfl fun c₀ cs hu => ?_
  apply wpS_seq
  apply wpS_region
  simp [wpOpsS, go_sem, recoverD, hu, shortPanic, Try.ntmps53, Exit.thenS]
  apply wpS_seq
  apply wpS_region
  simp [wpOpsS, go_sem, Try.ntmps53, Exit.thenS]
  refine wpS_cond (t := true) (by simp [Act.eval, Array.replicate]) ?_
  simp only [if_true]
  apply wpS_seq
  apply wpS_seq
  apply wpS_region
  simp [wpOpsS, go_sem, short_is, Try.ntmps53, Exit.thenS]
  apply wpS_seq
  apply wpS_region
  simp [wpOpsS, go_sem, Exit.thenS]
  refine wpS_cond (t := false) (by simp [Act.eval, Array.replicate]) ?_
  simp only [Bool.false_eq_true, if_false]
  refine wpS_of_wp (wp_skip ?_)
  simp only [Exit.thenS]
  apply wpS_region
  have hpq : ¬ q = p := fun e => hne e.symm
  have g0 := hf 0
  have g1 := hf 1
  have g2 := hf 2
  have g3 := hf 3
  have g4 := hf 4
  have g5 := hf 5
  simp [wpOpsS, go_sem, h0, h1, h2, h3, h4, h5, hy, hyf, hp, hq, cellA, frozA, hpq, hne, g0, g1, g2, g3, g4, g5]
  simp [bodyPostS, results, Try.results53]

theorem told_idle (a b : Value) (w : World) :
    CallsD Try.prog 53 #[a, b] .returning w fun e u' w' => e = .returned (.tuple #[]) ∧ u' = .returning ∧ w' = w := by
  refine callsD_of_wpS Try.func53 rfl fun c₀ cs hu => ?_
  apply wpS_seq
  apply wpS_region
  simp [wpOpsS, go_sem, recoverD, hu, Try.ntmps53, Exit.thenS]
  apply wpS_seq
  apply wpS_region
  simp [wpOpsS, go_sem, Try.ntmps53, Exit.thenS]
  refine wpS_cond (t := false) (by simp [Act.eval, Array.replicate]) ?_
  simp only [Bool.false_eq_true, if_false]
  refine wpS_of_wp (wp_skip ?_)
  cases c₀
  simp only at hu
  subst hu
  simp [bodyPostS, results, Try.results53]

set_option maxHeartbeats 1000000 in
theorem told_ok (b0 b1 b2 b3 b4 b5 b6 b7 : UInt8) (w : World) :
    Calls Try.prog 36 #[.string (bs [b0, b1, b2, b3, b4, b5, b6, b7])] w fun e w' =>
      e = .returned (.tuple #[.agg (tkc ⟨b0.toNat * 256 + b1.toNat, b6.toNat / 16, b2.toNat * 256 + b3.toNat, b4.toNat * 256 + b5.toNat, b6.toNat % 16, b7.toNat⟩), .bool true]) ∧ Ext w w' := by
  have hmf : ∀ (fn : Fn) (first cap : Array Value) (w : World), (Instr.makeFunc fn first cap).run Try.prog w = .ok (.func fn first cap) w := fun _ _ _ _ => rfl
  go_enter_defers Try.func36, Try.ntmps36
  go_wp2_with fail
  refine (reader_ticket (w.heap.size + 1 + 1) b0 b1 b2 b3 b4 b5 b6 b7 _ (by simp [go_sem]) (by simp [go_sem]) (by simp)).mono ?_
  rintro e w1 ⟨rfl, h1⟩
  have q1 : ∀ o, w1.cell? ⟨w.heap.size, o, none⟩ = (#[.int .i64 0, .int .i64 0, .int .i64 0, .int .i64 0, .int .i64 0, .int .i64 0] : Array Value)[o]? := fun o => by rw [h1.cell (by simp <;> omega) (by omega)]; simp [go_sem]
  have q2 : ∀ o, w1.cell? ⟨w.heap.size + 1, o, none⟩ = (#[.bool false] : Array Value)[o]? := fun o => by rw [h1.cell (by simp <;> omega) (by omega)]; simp [go_sem]
  have f1 : ∀ o, w1.frozen? ⟨w.heap.size, o, none⟩ = false := fun o => by rw [h1.froz (by simp <;> omega) (by omega)]; simp [go_sem]
  have f2 : ∀ o, w1.frozen? ⟨w.heap.size + 1, o, none⟩ = false := fun o => by rw [h1.froz (by simp <;> omega) (by omega)]; simp [go_sem]
  have HE := Lib.hid (Ext.only ((((Ext.refl w).alloc _).alloc _).alloc _) h1 (by omega))
  clear h1
  simp only [tkc]
  go_wp2_with fail
  refine leaves_cons (f := 53) (args := #[.pointer (some ⟨w.heap.size, 0, none⟩), .pointer (some ⟨w.heap.size + 1, 0, none⟩)]) (by simp) (by simp [go_sem]) ?_
  refine (told_idle _ _ _).mono ?_
  rintro e u' w'' ⟨rfl, rfl, rfl⟩
  refine ⟨.tuple #[.agg #[.int .i64 (b0.toNat * 256 + b1.toNat), .int .i64 (b6.toNat / 16), .int .i64 (b2.toNat * 256 + b3.toNat), .int .i64 (b4.toNat * 256 + b5.toNat), .int .i64 (b6.toNat % 16), .int .i64 b7.toNat], .bool true], ?_, rfl, ?_⟩
  · simp [results, Try.results36, go_sem, q1, q2]
  · exact (((((((HE.out).setCell (Nat.le_refl _) _).setCell (Nat.le_refl _) _).setCell (Nat.le_refl _) _).setCell (Nat.le_refl _) _).setCell (Nat.le_refl _) _).setCell (Nat.le_refl _) _).setCell (Nat.le_succ _) _

set_option maxHeartbeats 1000000 in
theorem told_no (l : List UInt8) (hl : l.length ≠ 8) (w : World) :
    Calls Try.prog 36 #[.string (bs l)] w fun e w' =>
      e = .returned (.tuple #[.agg (tkc tk0), .bool false]) ∧ Ext w w' := by
  have hmf : ∀ (fn : Fn) (first cap : Array Value) (w : World), (Instr.makeFunc fn first cap).run Try.prog w = .ok (.func fn first cap) w := fun _ _ _ _ => rfl
  go_enter_defers Try.func36, Try.ntmps36
  go_wp2_with fail
  refine (reader_ticket_no (w.heap.size + 1 + 1) l hl _ (by simp [go_sem]) (by simp [go_sem]) (by simp)).mono ?_
  rintro e w1 ⟨rfl, h1⟩
  have q1 : ∀ o, w1.cell? ⟨w.heap.size, o, none⟩ = (#[.int .i64 0, .int .i64 0, .int .i64 0, .int .i64 0, .int .i64 0, .int .i64 0] : Array Value)[o]? := fun o => by rw [h1.cell (by simp <;> omega) (by omega)]; simp [go_sem]
  have q2 : ∀ o, w1.cell? ⟨w.heap.size + 1, o, none⟩ = (#[.bool false] : Array Value)[o]? := fun o => by rw [h1.cell (by simp <;> omega) (by omega)]; simp [go_sem]
  have f1 : ∀ o, w1.frozen? ⟨w.heap.size, o, none⟩ = false := fun o => by rw [h1.froz (by simp <;> omega) (by omega)]; simp [go_sem]
  have f2 : ∀ o, w1.frozen? ⟨w.heap.size + 1, o, none⟩ = false := fun o => by rw [h1.froz (by simp <;> omega) (by omega)]; simp [go_sem]
  have hsz : w.heap.size + 3 ≤ w1.heap.size := by have := h1.size; simpa using this
  have HE := Lib.hid (Ext.only ((((Ext.refl w).alloc _).alloc _).alloc _) h1 (by omega))
  clear h1
  go_wp2_with fail
  refine leaves_cons (f := 53) (args := #[.pointer (some ⟨w.heap.size, 0, none⟩), .pointer (some ⟨w.heap.size + 1, 0, none⟩)]) (by simp) (by simp [go_sem]) ?_
  refine (told_catch w.heap.size (w.heap.size + 1) w1 _ _ _ _ _ _ (q1 0) (q1 1) (q1 2) (q1 3) (q1 4) (q1 5) f1 _ (q2 0) (f2 0) (by omega) (by omega) (by omega)).mono ?_
  rintro e u' w'' ⟨rfl, rfl, rfl⟩
  have ha : w.heap.size < w1.heap.size := by omega
  have hb : w.heap.size + 1 < w1.heap.size := by omega
  refine ⟨.tuple #[.agg (tkc tk0), .bool false], ?_, rfl, ?_⟩
  · simp [results, Try.results36, go_sem, q1, q2, ha, hb, tkc, tk0]
  · exact ((((((((HE.out).alloc _).setCell (Nat.le_refl _) _).setCell (Nat.le_refl _) _).setCell (Nat.le_refl _) _).setCell (Nat.le_refl _) _).setCell (Nat.le_refl _) _).setCell (Nat.le_refl _) _).setCell (Nat.le_succ _) _
end Go.Proofs.Ytglifpoiildpfaa
