/- leeboardlaw.RuleSpends answers true. -/
import Derived.Test.YtglifpoiildpfaaRuleN
namespace Go.Proofs.Ytglifpoiildpfaa
set_option linter.unusedSimpArgs false
set_option linter.unusedVariables false
open Go Go.RowKit Lb

set_option maxRecDepth 100000 in
set_option maxHeartbeats 4000000 in
theorem law_RuleSpends (t : Tk) (was : List Tp) (v : Value) (rides : Int) (p : Tp) (w : World) (hr : RdL 5 tpc w v was) :
    Calls Try.prog 7 #[.agg (tkc t), v, .int .i64 rides, .agg (tpc p)] w fun e w' => e = .returned (.bool true) ∧ Ext w w' := by
  have hcj := fun w hr => rule_Judge t was rides p v w hr
  have hcl := fun w hr => rule_Judge t was (rides - 1) p v w hr
  have HRd := Lib.hid hr
  clear hr
  by_cases h0 : (judgeAll t was rides p).2 = 0
  · obtain ⟨hck, hjj⟩ := judgeAll_good t was rides p h0
    have hrr := ckJ_rides hck
    have hless : rides ≠ 0 → judgeAll t was (rides - 1) p = judgeAll t was rides p := by
      intro h
      have := ckJ_less hck h
      rw [hjj]
      unfold judgeAll
      rw [if_neg (by simpa using this)]
      exact (judge_good (by rw [← hjj]; exact h0)).2.2
    have hg := judge_good (t := t) (l := lastTime was) (rides := rides) (p := p) (by rw [← hjj]; exact h0)
    obtain ⟨⟨g1, g2⟩, go3, -⟩ := hg
    rw [← hjj] at go3
    have g4 : (judgeAll t was rides p).1 = 2 → 0 < was.length := fun h => by
      rcases go3 with ⟨a, -⟩ | ⟨-, b⟩
      · omega
      · exact last_none b
    have g3 : (judgeAll t was rides p).1 = 1 ∧ ¬ (t.kind = 1 ∧ 1 ≤ rides) ∧ ¬ (t.kind = 3 ∧ t.rides ≤ rides) ∨ (judgeAll t was rides p).1 = 2 ∧ 0 < was.length := by
      rcases go3 with a | ⟨b, _⟩
      · exact .inl a
      · exact .inr ⟨b, g4 b⟩
    clear go3
    generalize hJ : judgeAll t was rides p = j at hcj h0 hless g3
    obtain ⟨j1, j2⟩ := j
    simp only at h0 g3 hcj
    subst h0
    have hcl' : rides ≠ 0 → ∀ w, RdL 5 tpc w v was → Calls Try.prog 20 #[.agg (tkc t), v, .int .i64 (rides - 1), .agg (tpc p)] w fun e w' => e = .returned (.tuple #[.int .i64 j1, .int .i64 0]) ∧ Ext w w' := by
      intro h w hr
      have := hcl w hr
      rw [hless h] at this
      exact this
    clear hcl hless hjj hJ hck g4
    obtain ⟨v', rfl⟩ : ∃ v', v' = v := ⟨v, rfl⟩
    obtain ⟨A, c, rfl, -, -, -⟩ := HRd.out
    obtain ⟨a, b, c1, d, x, f⟩ := t
    obtain ⟨pt, pg, ps, pti, pz⟩ := p
    simp only [tkc, tpc] at hcj hcl' g1 g2 ⊢
    dsimp only at g3
    have g1' : ¬ pti < c1 := by omega
    have g2' : ¬ d < pti := by omega
    clear g1 g2
    have HCJ := Lib.hid hcj
    have HCL := Lib.hid hcl'
    clear hcj hcl'
    have hcase : (j1 = 1 ∧ b = 1 ∧ rides = 0) ∨ (j1 = 1 ∧ (b == 1) = false ∧ b = 3 ∧ rides = 0 ∧ rides < f) ∨ (j1 = 1 ∧ (b == 1) = false ∧ b = 3 ∧ (rides == 0) = false ∧ rides < f) ∨ (j1 = 1 ∧ (b == 1) = false ∧ (b == 3) = false ∧ rides = 0) ∨ (j1 = 1 ∧ (b == 1) = false ∧ (b == 3) = false ∧ (rides == 0) = false)
        ∨ (j1 = 2 ∧ rides = 0 ∧ ((was.length : Int) == 0) = false) ∨ (j1 = 2 ∧ (rides == 0) = false ∧ ((was.length : Int) == 0) = false) := by
      simp only [beq_eq_false_iff_ne, ne_eq]
      rcases g3 with ⟨rfl, h1, h2⟩ | ⟨rfl, h1⟩
      · by_cases e1 : b = 1 <;> by_cases e2 : b = 3 <;> by_cases e3 : rides = 0 <;> simp [e1, e2, e3] at h1 h2 ⊢ <;> omega
      · omega
    clear g3
    rcases hcase with ⟨rfl, rfl, rfl⟩ | ⟨rfl, k1, rfl, rfl, k3⟩ | ⟨rfl, k1, rfl, k2, k3⟩ | ⟨rfl, k1, k2, rfl⟩ | ⟨rfl, k1, k2, k3⟩ | ⟨rfl, rfl, k2⟩ | ⟨rfl, k1, k2⟩
    all_goals
      go_enter Try.func7, Try.ntmps7
      go_wp2_with fail
      (refine (HCJ.out _ (HRd.out.ext (((Ext.refl w).alloc _).alloc _))).mono ?_; rintro e w1 ⟨rfl, h1⟩; have H1 := Lib.hid h1; have hz1 := h1.size; clear h1; (try simp only [World.size_alloc, size_set, World.heap_drewN, size_drew] at hz1); apply Row.use (w := w1) (g := w.heap.size); (focus (repeat (first | (with_reducible exact Hid.out ‹Hid (Row _ _ _)›) | (with_reducible exact Row.newAt rfl) | (with_reducible apply Row.newAt; (simp; done)) | (with_reducible apply Row.set_) | (with_reducible apply Row.far; focus (simp <;> omega)) | (with_reducible apply Row.alloc) | (with_reducible apply Row.drew) | (with_reducible apply Row.drewN) | (with_reducible apply Row.ext (Hid.out ‹Hid (Ext _ _)›))))); intro q1_0 f1_0 l1_0 R1_0; (try simp only [List.setIfInBounds_toArray, List.set_cons_zero, List.set_cons_succ] at q1_0 R1_0); apply Row.use (w := w1) (g := w.heap.size + 1); (focus (repeat (first | (with_reducible exact Hid.out ‹Hid (Row _ _ _)›) | (with_reducible exact Row.newAt rfl) | (with_reducible apply Row.newAt; (simp; done)) | (with_reducible apply Row.set_) | (with_reducible apply Row.far; focus (simp <;> omega)) | (with_reducible apply Row.alloc) | (with_reducible apply Row.drew) | (with_reducible apply Row.drewN) | (with_reducible apply Row.ext (Hid.out ‹Hid (Ext _ _)›))))); intro q1_1 f1_1 l1_1 R1_1; (try simp only [List.setIfInBounds_toArray, List.set_cons_zero, List.set_cons_succ] at q1_1 R1_1))
      go_wp2_with fail
      (refine (law_ruleBegun _).mono ?_; rintro e w2 ⟨rfl, h2⟩; have H2 := Lib.hid h2; have hz2 := h2.size; clear h2; (try simp only [World.size_alloc, size_set, World.heap_drewN, size_drew] at hz2); apply Row.use (w := w2) (g := w.heap.size); (focus (repeat (first | (with_reducible exact Hid.out ‹Hid (Row _ _ _)›) | (with_reducible exact Row.newAt rfl) | (with_reducible apply Row.newAt; (simp; done)) | (with_reducible apply Row.set_) | (with_reducible apply Row.far; focus (simp <;> omega)) | (with_reducible apply Row.alloc) | (with_reducible apply Row.drew) | (with_reducible apply Row.drewN) | (with_reducible apply Row.ext (Hid.out ‹Hid (Ext _ _)›))))); intro q2_0 f2_0 l2_0 R2_0; (try simp only [List.setIfInBounds_toArray, List.set_cons_zero, List.set_cons_succ] at q2_0 R2_0); apply Row.use (w := w2) (g := w.heap.size + 1); (focus (repeat (first | (with_reducible exact Hid.out ‹Hid (Row _ _ _)›) | (with_reducible exact Row.newAt rfl) | (with_reducible apply Row.newAt; (simp; done)) | (with_reducible apply Row.set_) | (with_reducible apply Row.far; focus (simp <;> omega)) | (with_reducible apply Row.alloc) | (with_reducible apply Row.drew) | (with_reducible apply Row.drewN) | (with_reducible apply Row.ext (Hid.out ‹Hid (Ext _ _)›))))); intro q2_1 f2_1 l2_1 R2_1; (try simp only [List.setIfInBounds_toArray, List.set_cons_zero, List.set_cons_succ] at q2_1 R2_1))
      go_wp2_with fail
      first
      | (go_ret; refine ⟨rfl, ?_⟩; (repeat (first | (with_reducible exact Ext.refl _) | (with_reducible refine Ext.alloc ?_ _) | (with_reducible apply Ext.setC; focus (simp <;> omega)) | (with_reducible refine Ext.drew ?_) | (with_reducible refine Ext.drewN ?_ _) | (with_reducible refine Ext.trans ?_ (Hid.out ‹Hid (Ext _ _)›)))); done)
      | skip
    all_goals
      have hre : ∀ W, Ext w2 W → RdL 5 tpc W (.slice A was.length c) was := fun W hE => HRd.out.ext (((((Ext.refl w).alloc _).alloc _).trans H1.out).trans (H2.out.trans hE))
      refine (HCL.out (by simpa using ‹(rides == 0) = false›) _ (hre _ (Ext.refl _))).mono ?_
      rintro e w3 ⟨rfl, h3⟩
      have H3 := Lib.hid h3
      clear h3 hre
      go_wp2_with fail
      go_ret
      refine ⟨rfl, ?_⟩
      repeat (first | (with_reducible exact Ext.refl _) | (with_reducible refine Ext.alloc ?_ _) | (with_reducible apply Ext.setC; focus (simp <;> omega)) | (with_reducible refine Ext.drew ?_) | (with_reducible refine Ext.drewN ?_ _) | (with_reducible refine Ext.trans ?_ (Hid.out ‹Hid (Ext _ _)›)))
  · clear hcl
    have hbad := judgeAll_bad t was rides p h0
    generalize judgeAll t was rides p = j at hcj h0 hbad
    obtain ⟨j1, j2⟩ := j
    simp only at h0 hbad hcj
    have hj2 : (j2 == 0) = false := by simpa using h0
    clear h0
    obtain ⟨v', rfl⟩ : ∃ v', v' = v := ⟨v, rfl⟩
    obtain ⟨A, c, rfl, -, -, -⟩ := HRd.out
    obtain ⟨a, b, c1, d, x, f⟩ := t
    obtain ⟨pt, pg, ps, pti, pz⟩ := p
    simp only [tkc, tpc] at hcj ⊢
    have HCJ := Lib.hid hcj
    clear hcj
    rcases hbad with rfl | rfl
    all_goals
      go_enter Try.func7, Try.ntmps7
      go_wp2_with fail
      (refine (HCJ.out _ (HRd.out.ext (((Ext.refl w).alloc _).alloc _))).mono ?_; rintro e w1 ⟨rfl, h1⟩; have H1 := Lib.hid h1; have hz1 := h1.size; clear h1; (try simp only [World.size_alloc, size_set, World.heap_drewN, size_drew] at hz1))
      go_wp2_with fail
      (refine (law_ruleBegun _).mono ?_; rintro e w2 ⟨rfl, h2⟩; have H2 := Lib.hid h2; have hz2 := h2.size; clear h2; (try simp only [World.size_alloc, size_set, World.heap_drewN, size_drew] at hz2))
      go_wp2_with fail
      go_ret
      refine ⟨rfl, ?_⟩
      repeat (first | (with_reducible exact Ext.refl _) | (with_reducible refine Ext.alloc ?_ _) | (with_reducible apply Ext.setC; focus (simp <;> omega)) | (with_reducible refine Ext.drew ?_) | (with_reducible refine Ext.drewN ?_ _) | (with_reducible refine Ext.trans ?_ (Hid.out ‹Hid (Ext _ _)›)))
end Go.Proofs.Ytglifpoiildpfaa
