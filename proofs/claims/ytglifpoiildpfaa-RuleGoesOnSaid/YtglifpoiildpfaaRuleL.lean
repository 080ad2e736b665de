/- leeboardlaw.ruleBegun answers true. -/
import Derived.Test.YtglifpoiildpfaaRuleK
import Derived.Test.YtglifpoiildpfaaTickJ
namespace Go.Proofs.Ytglifpoiildpfaa
set_option linter.unusedSimpArgs false
set_option linter.unusedVariables false
open Go Go.RowKit Lb

theorem j_1 : judgeAll (single 1) [] 0 ⟨1, 0, 1, 20, 1⟩ = (1, 0) := by decide +kernel
theorem j_2 : judgeAll (single 1) [⟨1, 0, 1, 20, 1⟩] 1 ⟨1, 0, 2, 79, 1⟩ = (2, 0) := by decide +kernel
theorem j_3 : judgeAll (single 1) [⟨1, 0, 1, 20, 1⟩] 1 ⟨1, 0, 2, 80, 1⟩ = (3, 10) := by decide +kernel
theorem j_4 : judgeAll (single 1) [] 0 ⟨1, 0, 1, 9, 1⟩ = (3, 8) := by decide +kernel
theorem ckp_1 : ckTap ⟨1, 0, 1, 20, 1⟩ = 0 := by decide +kernel

theorem RdL_one {w : World} {g : Nat} {x : Tp} (h : ∀ o, w.cell? ⟨g, o, none⟩ = (tpc x)[o]?) (hg : g < w.heap.size) : RdL 5 tpc w (.slice (some ⟨g, 0, none⟩) 1 1) [x] := by
  refine ⟨_, _, rfl, Nat.le_refl _, by unfold maxLen; omega, fun _ => ⟨g, 0, rfl, hg, fun j hj i u hu => ?_⟩⟩
  have : j = 0 := by simp at hj; omega
  subst this
  rw [show (0 + 0 * 5 + i) = i by omega, h i]
  exact hu

theorem judge_1 (w : World) : Calls Try.prog 20 #[.agg #[.int .i64 1, .int .i64 1, .int .i64 10, .int .i64 500, .int .i64 15, .int .i64 0], .slice none 0 0, .int .i64 0, .agg (tpc ⟨1, 0, 1, 20, 1⟩)] w fun e w' => e = .returned (.tuple #[.int .i64 1, .int .i64 0]) ∧ Ext w w' := by
  have h := rule_Judge (single 1) [] 0 ⟨1, 0, 1, 20, 1⟩ _ w RdL.nil
  rw [j_1] at h
  exact h
theorem judge_4 (w : World) : Calls Try.prog 20 #[.agg #[.int .i64 1, .int .i64 1, .int .i64 10, .int .i64 500, .int .i64 15, .int .i64 0], .slice none 0 0, .int .i64 0, .agg (tpc ⟨1, 0, 1, 9, 1⟩)] w fun e w' => e = .returned (.tuple #[.int .i64 3, .int .i64 8]) ∧ Ext w w' := by
  have h := rule_Judge (single 1) [] 0 ⟨1, 0, 1, 9, 1⟩ _ w RdL.nil
  rw [j_4] at h
  exact h
theorem judge_2 (g : Nat) (w : World) (h : ∀ o, w.cell? ⟨g, o, none⟩ = (tpc ⟨1, 0, 1, 20, 1⟩)[o]?) (hg : g < w.heap.size) : Calls Try.prog 20 #[.agg #[.int .i64 1, .int .i64 1, .int .i64 10, .int .i64 500, .int .i64 15, .int .i64 0], .slice (some ⟨g, 0, none⟩) 1 1, .int .i64 1, .agg (tpc ⟨1, 0, 2, 79, 1⟩)] w fun e w' => e = .returned (.tuple #[.int .i64 2, .int .i64 0]) ∧ Ext w w' := by
  have h := rule_Judge (single 1) [⟨1, 0, 1, 20, 1⟩] 1 ⟨1, 0, 2, 79, 1⟩ _ w (RdL_one h hg)
  rw [j_2] at h
  exact h
theorem judge_3 (g : Nat) (w : World) (h : ∀ o, w.cell? ⟨g, o, none⟩ = (tpc ⟨1, 0, 1, 20, 1⟩)[o]?) (hg : g < w.heap.size) : Calls Try.prog 20 #[.agg #[.int .i64 1, .int .i64 1, .int .i64 10, .int .i64 500, .int .i64 15, .int .i64 0], .slice (some ⟨g, 0, none⟩) 1 1, .int .i64 1, .agg (tpc ⟨1, 0, 2, 80, 1⟩)] w fun e w' => e = .returned (.tuple #[.int .i64 3, .int .i64 10]) ∧ Ext w w' := by
  have h := rule_Judge (single 1) [⟨1, 0, 1, 20, 1⟩] 1 ⟨1, 0, 2, 80, 1⟩ _ w (RdL_one h hg)
  rw [j_3] at h
  exact h
theorem chk_1 (w : World) : Calls Try.prog 24 #[.agg (tpc ⟨1, 0, 1, 20, 1⟩)] w fun e w' => e = .returned (.int .i64 0) ∧ Ext w w' := by
  have h := rule_Check ⟨1, 0, 1, 20, 1⟩ w
  rw [ckp_1] at h
  exact h

set_option maxHeartbeats 2000000 in
theorem law_ruleBegun (w : World) :
    Calls Try.prog 23 #[] w fun e w' => e = .returned (.bool true) ∧ Ext w w' := by
  go_enter Try.func23, Try.ntmps23
  go_wp2_with fail
  (refine (law_single' _ _).mono ?_; rintro e w1 ⟨rfl, h1⟩; have H1 := Lib.hid h1; have hz1 := h1.size; clear h1; (try simp only [World.size_alloc, size_set, World.heap_drewN, size_drew] at hz1))
  go_wp2_with fail
  (refine (law_at _ _ _ _ _).mono ?_; rintro e w2 ⟨rfl, h2⟩; have H2 := Lib.hid h2; have hz2 := h2.size; clear h2; (try simp only [World.size_alloc, size_set, World.heap_drewN, size_drew] at hz2))
  go_wp2_with fail
  (refine (judge_1 _).mono ?_; rintro e w3 ⟨rfl, h3⟩; have H3 := Lib.hid h3; have hz3 := h3.size; clear h3; (try simp only [World.size_alloc, size_set, World.heap_drewN, size_drew] at hz3))
  go_wp2_with fail
  (refine (law_single' _ _).mono ?_; rintro e w4 ⟨rfl, h4⟩; have H4 := Lib.hid h4; have hz4 := h4.size; clear h4; (try simp only [World.size_alloc, size_set, World.heap_drewN, size_drew] at hz4))
  go_wp2_with fail
  (refine (law_at _ _ _ _ _).mono ?_; rintro e w5 ⟨rfl, h5⟩; have H5 := Lib.hid h5; have hz5 := h5.size; clear h5; (try simp only [World.size_alloc, size_set, World.heap_drewN, size_drew] at hz5))
  simp only [tpc]
  go_wp2_with fail
  (refine (law_at _ _ _ _ _).mono ?_; rintro e w6 ⟨rfl, h6⟩; have H6 := Lib.hid h6; have hz6 := h6.size; clear h6; (try simp only [World.size_alloc, size_set, World.heap_drewN, size_drew] at hz6); apply Row.use (w := w6) (g := w5.heap.size); (focus (repeat (first | (with_reducible exact Hid.out ‹Hid (Row _ _ _)›) | (with_reducible exact Row.newAt rfl) | (with_reducible apply Row.newAt; (simp; done)) | (with_reducible apply Row.set_) | (with_reducible apply Row.far; focus (simp <;> omega)) | (with_reducible apply Row.alloc) | (with_reducible apply Row.drew) | (with_reducible apply Row.drewN) | (with_reducible apply Row.ext (Hid.out ‹Hid (Ext _ _)›))))); intro q6_0 f6_0 l6_0 R6_0; (try simp only [List.setIfInBounds_toArray, List.set_cons_zero, List.set_cons_succ] at q6_0 R6_0))
  go_wp2_with fail
  (refine (judge_2 _ _ q6_0 l6_0).mono ?_; rintro e w7 ⟨rfl, h7⟩; have H7 := Lib.hid h7; have hz7 := h7.size; clear h7; (try simp only [World.size_alloc, size_set, World.heap_drewN, size_drew] at hz7))
  go_wp2_with fail
  (refine (law_single' _ _).mono ?_; rintro e w8 ⟨rfl, h8⟩; have H8 := Lib.hid h8; have hz8 := h8.size; clear h8; (try simp only [World.size_alloc, size_set, World.heap_drewN, size_drew] at hz8))
  go_wp2_with fail
  (refine (law_at _ _ _ _ _).mono ?_; rintro e w9 ⟨rfl, h9⟩; have H9 := Lib.hid h9; have hz9 := h9.size; clear h9; (try simp only [World.size_alloc, size_set, World.heap_drewN, size_drew] at hz9))
  simp only [tpc]
  go_wp2_with fail
  (refine (law_at _ _ _ _ _).mono ?_; rintro e w10 ⟨rfl, h10⟩; have H10 := Lib.hid h10; have hz10 := h10.size; clear h10; (try simp only [World.size_alloc, size_set, World.heap_drewN, size_drew] at hz10); apply Row.use (w := w10) (g := w9.heap.size); (focus (repeat (first | (with_reducible exact Hid.out ‹Hid (Row _ _ _)›) | (with_reducible exact Row.newAt rfl) | (with_reducible apply Row.newAt; (simp; done)) | (with_reducible apply Row.set_) | (with_reducible apply Row.far; focus (simp <;> omega)) | (with_reducible apply Row.alloc) | (with_reducible apply Row.drew) | (with_reducible apply Row.drewN) | (with_reducible apply Row.ext (Hid.out ‹Hid (Ext _ _)›))))); intro q10_0 f10_0 l10_0 R10_0; (try simp only [List.setIfInBounds_toArray, List.set_cons_zero, List.set_cons_succ] at q10_0 R10_0))
  go_wp2_with fail
  (refine (judge_3 _ _ q10_0 l10_0).mono ?_; rintro e w11 ⟨rfl, h11⟩; have H11 := Lib.hid h11; have hz11 := h11.size; clear h11; (try simp only [World.size_alloc, size_set, World.heap_drewN, size_drew] at hz11))
  go_wp2_with fail
  (refine (law_single' _ _).mono ?_; rintro e w12 ⟨rfl, h12⟩; have H12 := Lib.hid h12; have hz12 := h12.size; clear h12; (try simp only [World.size_alloc, size_set, World.heap_drewN, size_drew] at hz12))
  go_wp2_with fail
  (refine (law_at _ _ _ _ _).mono ?_; rintro e w13 ⟨rfl, h13⟩; have H13 := Lib.hid h13; have hz13 := h13.size; clear h13; (try simp only [World.size_alloc, size_set, World.heap_drewN, size_drew] at hz13))
  go_wp2_with fail
  (refine (judge_4 _).mono ?_; rintro e w14 ⟨rfl, h14⟩; have H14 := Lib.hid h14; have hz14 := h14.size; clear h14; (try simp only [World.size_alloc, size_set, World.heap_drewN, size_drew] at hz14))
  go_wp2_with fail
  (refine (law_at _ _ _ _ _).mono ?_; rintro e w15 ⟨rfl, h15⟩; have H15 := Lib.hid h15; have hz15 := h15.size; clear h15; (try simp only [World.size_alloc, size_set, World.heap_drewN, size_drew] at hz15))
  go_wp2_with fail
  (refine (chk_1 _).mono ?_; rintro e w16 ⟨rfl, h16⟩; have H16 := Lib.hid h16; have hz16 := h16.size; clear h16; (try simp only [World.size_alloc, size_set, World.heap_drewN, size_drew] at hz16))
  go_wp2_with fail
  go_ret
  refine ⟨rfl, ?_⟩
  repeat (first | (with_reducible exact Ext.refl _) | (with_reducible refine Ext.alloc ?_ _) | (with_reducible apply Ext.setC; focus (simp <;> omega)) | (with_reducible refine Ext.drew ?_) | (with_reducible refine Ext.drewN ?_ _) | (with_reducible refine Ext.trans ?_ (Hid.out ‹Hid (Ext _ _)›)))
end Go.Proofs.Ytglifpoiildpfaa
