/- rule.Zone, Check, Place and their twins in the references compute the plain checks of taps. -/
import Derived.Test.YtbboonepfmkgnaaRule
namespace Go.Proofs.Ytbboonepfmkgnaa
set_option linter.unusedSimpArgs false
set_option linter.unusedVariables false
set_option maxRecDepth 100000
open Go Go.RowKit Lb

/-- a row that the call itself laid reads as numbers -/
theorem RdL.ints {w : World} {g : Nat} (l : List Int) (hm : l.length ≤ maxLen) (hg : g < w.heap.size) (h : ∀ o, w.cell? ⟨g, o, none⟩ = (l.map (Value.int .i64))[o]?) : RdL 1 inc w (.slice (some ⟨g, 0, none⟩) l.length l.length) l := by
  refine ⟨some ⟨g, 0, none⟩, l.length, rfl, Nat.le_refl _, hm, fun _ => ⟨g, 0, rfl, hg, fun j hj i u hu => ?_⟩⟩
  have hi : i = 0 := by
    rcases Nat.eq_zero_or_pos i with h0 | h0
    · exact h0
    · exfalso
      have hsz := (Array.getElem?_eq_some_iff.1 hu).1
      simp only [inc, List.size_toArray, List.length_cons, List.length_nil] at hsz
      omega
  subst hi
  simp only [Nat.zero_add, Nat.mul_one, Nat.add_zero]
  rw [h j, List.getElem?_map, List.getElem?_eq_getElem hj]
  simp [inc, hj] at hu
  rw [← hu]; rfl

set_option maxHeartbeats 1000000 in
theorem slices_Contains_int (l : List Int) (n : Int) (v : Value) (w : World) (hr : RdL 1 inc w v l) :
    Calls Try.prog 95 #[v, .int .i64 n] w fun e w' => e = .returned (.bool (l.any (fun x => n == x))) ∧ w = w' := by
  have hi := slices_Index_int l n v
  have hx : (decide (0 ≤ idxInt l n)) = l.any (fun x => n == x) := by
    unfold idxInt
    cases hf : l.findIdx? (fun x => n == x) with
    | none =>
      rw [List.findIdx?_eq_none_iff] at hf
      simp only [Int.reduceNeg, Int.reduceLE, decide_false]
      symm
      rw [List.any_eq_false]
      intro x hx
      simp [hf x hx]
    | some i =>
      rw [List.findIdx?_eq_some_iff_getElem] at hf
      obtain ⟨h1, h2, _⟩ := hf
      simp only [Int.natCast_nonneg, decide_true]
      symm
      rw [List.any_eq_true]
      exact ⟨_, List.getElem_mem h1, h2⟩
  rw [← hx]
  generalize idxInt l n = r at hi
  have HI := Lib.hid (hi w hr)
  clear hi hx
  go_enter Try.func95, Try.ntmps95
  go_wp2_with fail
  refine (HI.out).mono ?_
  rintro e w1 ⟨rfl, rfl⟩
  go_wp2_with fail
  all_goals
    go_ret
    exact ⟨ret_bool (by simp_all), rfl⟩

set_option maxHeartbeats 1000000 in
theorem rule_Zone (n : Int) (w : World) :
    Calls Try.prog 85 #[.int .i64 n] w fun e w' => e = .returned (.bool (isZone n)) ∧ Ext w w' := by
  have hz : [(1 : Int), 2, 4, 8].any (fun x => n == x) = isZone n := by simp [isZone, Bool.or_assoc]
  rw [← hz]
  have HZ := fun (w : World) h => slices_Contains_int [1, 2, 4, 8] n (.slice (some ⟨w.heap.size, 0, none⟩) 4 4) (w.alloc (.cells #[.int .i64 1, .int .i64 2, .int .i64 4, .int .i64 8] 3)) h
  clear hz
  go_enter Try.func85, Try.ntmps85
  go_wp2_with fail
  refine (HZ w (RdL.ints [1, 2, 4, 8] (by unfold maxLen; simp) (by simp) (fun o => by rw [Row.new.2.1 o]; simp))).mono ?_
  rintro e w1 ⟨rfl, rfl⟩
  go_wp2_with fail
  go_ret
  refine ⟨ret_bool (by simp), ?_⟩
  repeat (first | (with_reducible exact Ext.refl _) | (with_reducible refine Ext.alloc ?_ _) | (with_reducible apply Ext.setC; focus (simp <;> omega)) | (with_reducible refine Ext.drew ?_) | (with_reducible refine Ext.drewN ?_ _) | (with_reducible refine Ext.trans ?_ (Hid.out ‹Hid (Ext _ _)›)))

set_option maxHeartbeats 1000000 in
theorem rule_Check (p : Tp) (w : World) :
    Calls Try.prog 63 #[.agg (tpc p)] w fun e w' => e = .returned (.int .i64 (ckTap p)) ∧ Ext w w' := by
  obtain ⟨a, b, c, d, e⟩ := p
  unfold tpc
  go_enter Try.func63, Try.ntmps63
  go_wp2_with (first | (go_at_call 84; refine (rule_within _ _ _ _).mono ?_; rintro e w' ⟨rfl, rfl⟩) | (go_at_call 85; refine (rule_Zone _ _).mono ?_; rintro e w1 ⟨rfl, h1⟩; have H1 := Lib.hid h1; have hz1 := h1.size; clear h1; (try simp only [World.size_alloc, size_set, World.heap_drewN, size_drew] at hz1); apply Row.use (w := w1) (g := w.heap.size); (focus (repeat (first | (with_reducible exact Hid.out ‹Hid (Row _ _ _)›) | (with_reducible exact Row.newAt rfl) | (with_reducible apply Row.newAt; (simp; done)) | (with_reducible apply Row.set_) | (with_reducible apply Row.far; focus (simp <;> omega)) | (with_reducible apply Row.alloc) | (with_reducible apply Row.drew) | (with_reducible apply Row.drewN) | (with_reducible apply Row.ext (Hid.out ‹Hid (Ext _ _)›))))); intro q1_0 f1_0 l1_0 R1_0; (try simp only [List.setIfInBounds_toArray, List.set_cons_zero, List.set_cons_succ] at q1_0 R1_0)))
  all_goals
    go_ret
    refine ⟨ret_int ?_, ?_⟩
    · simp_all [ckTap]
    · repeat (first | (with_reducible exact Ext.refl _) | (with_reducible refine Ext.alloc ?_ _) | (with_reducible apply Ext.setC; focus (simp <;> omega)) | (with_reducible refine Ext.drew ?_) | (with_reducible refine Ext.drewN ?_ _) | (with_reducible refine Ext.trans ?_ (Hid.out ‹Hid (Ext _ _)›)))

set_option maxHeartbeats 1000000 in
theorem ref_CheckTap (p : Tp) (w : World) :
    Calls Try.prog 40 #[.agg (tpc p)] w fun e w' => e = .returned (.int .i64 (ckTap p)) ∧ Ext w w' := by
  obtain ⟨a, b, c, d, e⟩ := p
  unfold tpc
  go_enter Try.func40, Try.ntmps40
  go_wp2_with (first | (go_at_call 50; refine (ref_between _ _ _ _).mono ?_; rintro e w' ⟨rfl, rfl⟩) | (go_at_call 69; refine (ref_IsZone _ _).mono ?_; rintro e w' ⟨rfl, rfl⟩))
  all_goals
    go_ret
    refine ⟨ret_int ?_, ?_⟩
    · simp_all [ckTap]
    · repeat (first | (with_reducible exact Ext.refl _) | (with_reducible refine Ext.alloc ?_ _) | (with_reducible apply Ext.setC; focus (simp <;> omega)) | (with_reducible refine Ext.drew ?_) | (with_reducible refine Ext.drewN ?_ _) | (with_reducible refine Ext.trans ?_ (Hid.out ‹Hid (Ext _ _)›)))
end Go.Proofs.Ytbboonepfmkgnaa
