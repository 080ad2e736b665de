/- The references' JudgeOf gives the judge's answer; slices.IndexFunc and ContainsFunc over taps; rule.Each with rule.Check. -/
import Derived.Test.YtbboonepfmkgnaaRuleF
namespace Go.Proofs.Ytbboonepfmkgnaa
set_option linter.unusedSimpArgs false
set_option linter.unusedVariables false
set_option maxRecDepth 100000
open Go Go.RowKit Lb

set_option maxHeartbeats 2000000 in
theorem ref_JudgeOf_none (t : Tk) (rides : Int) (p : Tp) (w : World) (h0 : 0 ≤ t.zones) (h1 : t.zones < 16) (hz : isZone p.zone = true) :
    Calls Try.prog 51 #[.agg (tkc t), .int .i64 (-1), .int .i64 rides, .agg (tpc p)] w fun e w' => e = .returned (.tuple #[.int .i64 (judge t none rides p).1, .int .i64 (judge t none rides p).2]) ∧ Ext w w' := by
  have hpl := fun w => ref_PlaceOf t p.time p.zone w h0 h1 hz
  rw [judge_eq]
  generalize place t p.time p.zone = r at hpl
  generalize hres : (if r ≠ 0 then ((3 : Int), r) else if goesOn none p.time = true then (2, 0) else if spentB t rides = true then (3, 10) else (1, 0)) = res
  have HQ := Lib.hid hres
  clear hres h0 h1 hz
  obtain ⟨a, b, c, d, x, f⟩ := t
  obtain ⟨pt, pg, ps, pti, pz⟩ := p
  unfold tkc at hpl ⊢
  unfold tpc
  have HP := Lib.hid hpl
  clear hpl
  go_enter Try.func51, Try.ntmps51
  go_wp2_with fail
  (refine (HP.out _).mono ?_; rintro e w1 ⟨rfl, h1⟩; have H1 := Lib.hid h1; have hz1 := h1.size; clear h1; (try simp only [World.size_alloc, size_set, World.heap_drewN, size_drew] at hz1); apply Row.use (w := w1) (g := w.heap.size); (focus (repeat (first | (with_reducible exact Hid.out ‹Hid (Row _ _ _)›) | (with_reducible exact Row.newAt rfl) | (with_reducible apply Row.newAt; (simp; done)) | (with_reducible apply Row.set_) | (with_reducible apply Row.far; focus (simp <;> omega)) | (with_reducible apply Row.alloc) | (with_reducible apply Row.drew) | (with_reducible apply Row.drewN) | (with_reducible apply Row.ext (Hid.out ‹Hid (Ext _ _)›))))); intro q1_0 f1_0 l1_0 R1_0; (try simp only [List.setIfInBounds_toArray, List.set_cons_zero, List.set_cons_succ] at q1_0 R1_0); apply Row.use (w := w1) (g := w.heap.size + 1); (focus (repeat (first | (with_reducible exact Hid.out ‹Hid (Row _ _ _)›) | (with_reducible exact Row.newAt rfl) | (with_reducible apply Row.newAt; (simp; done)) | (with_reducible apply Row.set_) | (with_reducible apply Row.far; focus (simp <;> omega)) | (with_reducible apply Row.alloc) | (with_reducible apply Row.drew) | (with_reducible apply Row.drewN) | (with_reducible apply Row.ext (Hid.out ‹Hid (Ext _ _)›))))); intro q1_1 f1_1 l1_1 R1_1; (try simp only [List.setIfInBounds_toArray, List.set_cons_zero, List.set_cons_succ] at q1_1 R1_1))
  by_cases hr0 : r = 0
  · subst hr0
    go_wp2_with fail
    all_goals
      go_ret2
      refine ⟨?_, ?_⟩
      · rw [← HQ.out]
        clear HQ HP q1_0 q1_1 f1_0 f1_1 R1_0 R1_1 H1
        simp_all [goesOn, spentB]
        try (repeat' split)
        all_goals (first | omega | (simp; done) | (simp; omega))
      · repeat (first | (with_reducible exact Ext.refl _) | (with_reducible refine Ext.alloc ?_ _) | (with_reducible apply Ext.setC; focus (simp <;> omega)) | (with_reducible refine Ext.drew ?_) | (with_reducible refine Ext.drewN ?_ _) | (with_reducible refine Ext.trans ?_ (Hid.out ‹Hid (Ext _ _)›)))
  · have hrb : (r != 0) = true := by simpa using hr0
    go_wp2_with fail
    go_ret2
    refine ⟨?_, ?_⟩
    · rw [← HQ.out, if_pos hr0]; rfl
    · repeat (first | (with_reducible exact Ext.refl _) | (with_reducible refine Ext.alloc ?_ _) | (with_reducible apply Ext.setC; focus (simp <;> omega)) | (with_reducible refine Ext.drew ?_) | (with_reducible refine Ext.drewN ?_ _) | (with_reducible refine Ext.trans ?_ (Hid.out ‹Hid (Ext _ _)›)))

set_option maxHeartbeats 2000000 in
theorem ref_JudgeOf_some (t : Tk) (s rides : Int) (p : Tp) (w : World) (h0 : 0 ≤ t.zones) (h1 : t.zones < 16) (hz : isZone p.zone = true) (hs0 : 0 ≤ s) (hs1 : s ≤ 9999) :
    Calls Try.prog 51 #[.agg (tkc t), .int .i64 s, .int .i64 rides, .agg (tpc p)] w fun e w' => e = .returned (.tuple #[.int .i64 (judge t (some s) rides p).1, .int .i64 (judge t (some s) rides p).2]) ∧ Ext w w' := by
  have hpl := fun w => ref_PlaceOf t p.time p.zone w h0 h1 hz
  rw [judge_eq]
  generalize place t p.time p.zone = r at hpl
  generalize hres : (if r ≠ 0 then ((3 : Int), r) else if goesOn (some s) p.time = true then (2, 0) else if spentB t rides = true then (3, 10) else (1, 0)) = res
  have HQ := Lib.hid hres
  clear hres h0 h1 hz
  obtain ⟨a, b, c, d, x, f⟩ := t
  obtain ⟨pt, pg, ps, pti, pz⟩ := p
  unfold tkc at hpl ⊢
  unfold tpc
  have HP := Lib.hid hpl
  clear hpl
  go_enter Try.func51, Try.ntmps51
  go_wp2_with fail
  (refine (HP.out _).mono ?_; rintro e w1 ⟨rfl, h1⟩; have H1 := Lib.hid h1; have hz1 := h1.size; clear h1; (try simp only [World.size_alloc, size_set, World.heap_drewN, size_drew] at hz1); apply Row.use (w := w1) (g := w.heap.size); (focus (repeat (first | (with_reducible exact Hid.out ‹Hid (Row _ _ _)›) | (with_reducible exact Row.newAt rfl) | (with_reducible apply Row.newAt; (simp; done)) | (with_reducible apply Row.set_) | (with_reducible apply Row.far; focus (simp <;> omega)) | (with_reducible apply Row.alloc) | (with_reducible apply Row.drew) | (with_reducible apply Row.drewN) | (with_reducible apply Row.ext (Hid.out ‹Hid (Ext _ _)›))))); intro q1_0 f1_0 l1_0 R1_0; (try simp only [List.setIfInBounds_toArray, List.set_cons_zero, List.set_cons_succ] at q1_0 R1_0); apply Row.use (w := w1) (g := w.heap.size + 1); (focus (repeat (first | (with_reducible exact Hid.out ‹Hid (Row _ _ _)›) | (with_reducible exact Row.newAt rfl) | (with_reducible apply Row.newAt; (simp; done)) | (with_reducible apply Row.set_) | (with_reducible apply Row.far; focus (simp <;> omega)) | (with_reducible apply Row.alloc) | (with_reducible apply Row.drew) | (with_reducible apply Row.drewN) | (with_reducible apply Row.ext (Hid.out ‹Hid (Ext _ _)›))))); intro q1_1 f1_1 l1_1 R1_1; (try simp only [List.setIfInBounds_toArray, List.set_cons_zero, List.set_cons_succ] at q1_1 R1_1))
  by_cases hr0 : r = 0
  · subst hr0
    go_wp2_with fail
    all_goals
      go_ret2
      refine ⟨?_, ?_⟩
      · rw [← HQ.out]
        clear HQ HP q1_0 q1_1 f1_0 f1_1 R1_0 R1_1 H1
        simp_all [goesOn, spentB]
        try (repeat' split)
        all_goals (first | omega | (simp; done) | (simp; omega))
      · repeat (first | (with_reducible exact Ext.refl _) | (with_reducible refine Ext.alloc ?_ _) | (with_reducible apply Ext.setC; focus (simp <;> omega)) | (with_reducible refine Ext.drew ?_) | (with_reducible refine Ext.drewN ?_ _) | (with_reducible refine Ext.trans ?_ (Hid.out ‹Hid (Ext _ _)›)))
  · have hrb : (r != 0) = true := by simpa using hr0
    go_wp2_with fail
    go_ret2
    refine ⟨?_, ?_⟩
    · rw [← HQ.out, if_pos hr0]; rfl
    · repeat (first | (with_reducible exact Ext.refl _) | (with_reducible refine Ext.alloc ?_ _) | (with_reducible apply Ext.setC; focus (simp <;> omega)) | (with_reducible refine Ext.drew ?_) | (with_reducible refine Ext.drewN ?_ _) | (with_reducible refine Ext.trans ?_ (Hid.out ‹Hid (Ext _ _)›)))

/-- the place of the first one; -1: none -/
def idxBy {α : Type} (p : α → Bool) (l : List α) : Int := match l.findIdx? p with
  | some i => i
  | none => -1

theorem idxBy_any {α : Type} (p : α → Bool) (l : List α) : decide (0 ≤ idxBy p l) = l.any p := by
  unfold idxBy
  cases hf : l.findIdx? p with
  | none =>
    rw [List.findIdx?_eq_none_iff] at hf
    simp only [Int.reduceNeg, Int.reduceLE, decide_false]
    symm
    rw [List.any_eq_false]
    intro x hx
    simp [hf x hx]
  | some i =>
    rw [List.findIdx?_eq_some_iff_getElem] at hf
    obtain ⟨h1, h2, _⟩ := hf
    simp only [Int.natCast_nonneg, decide_true]
    symm
    rw [List.any_eq_true]
    exact ⟨_, List.getElem_mem h1, h2⟩

end Go.Proofs.Ytbboonepfmkgnaa
