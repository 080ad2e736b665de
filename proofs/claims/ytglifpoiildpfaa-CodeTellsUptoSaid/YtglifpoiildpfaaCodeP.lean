/- leeboardlaw.CodeApart answers true. -/
import Derived.Test.YtglifpoiildpfaaCodeO
import Derived.Test.YtglifpoiildpfaaEq
namespace Go.Proofs.Ytglifpoiildpfaa
set_option linter.unusedSimpArgs false
set_option linter.unusedVariables false
open Go Go.RowKit Lb

theorem print_ok {t : Tk} (h : ckTicket t = 0) : printTk t = codeOf t := by unfold printTk; rw [if_neg (by simpa using h)]
theorem print_no {t : Tk} (h : ckTicket t ≠ 0) : printTk t = [] := by unfold printTk; rw [if_pos h]

set_option maxRecDepth 100000 in
set_option maxHeartbeats 4000000 in
theorem law_CodeApart (t u : Tk) (w : World) :
    Calls Try.prog 12 #[.agg (tkc t), .agg (tkc u)] w fun e w' => e = .returned (.bool true) ∧ Ext w w' := by
  have h1 := fun w => code_Print t w
  have h2 := fun w => code_Print u w
  have hem := bs_nil
  have hstd := stood_tk
  have hguard := guard_tk
  by_cases e1 : ckTicket t = 0
  · by_cases e2 : ckTicket u = 0
    · have hbq := bs_beq (codeOf t) (codeOf u)
      have hx : decide (codeOf t = codeOf u) = decide (t = u) := by
        by_cases h : t = u
        · rw [decide_eq_true h, decide_eq_true ((codeOf_inj e1 e2).2 h)]
        · rw [decide_eq_false h, decide_eq_false (fun h' => h ((codeOf_inj e1 e2).1 h'))]
      rw [hx] at hbq
      have hsz : (bs (codeOf t)).size = 14 := by rw [bs_size, codeOf_length]
      have hsg := fun w => ref_AreSigns (codeOf t) (by rw [codeOf_length]; unfold maxLen; omega) w
      rw [codeOf_signs] at hsg
      rw [print_ok e1, e1] at h1
      rw [print_ok e2, e2] at h2
      generalize codeOf t = C at *
      generalize codeOf u = D at *
      clear hx e1 e2
      obtain ⟨a, b, c, d, x, f⟩ := t
      obtain ⟨a', b', c', d', x', f'⟩ := u
      have heq := eql_tk' a b c d x f a' b' c' d' x' f'
      generalize decide ((⟨a, b, c, d, x, f⟩ : Tk) = ⟨a', b', c', d', x', f'⟩) = z at *
      simp only [tkc] at h1 h2 ⊢
      have HP := Lib.hid h1
      have HQ := Lib.hid h2
      have HSG := Lib.hid hsg
      clear h1 h2 hsg
      go_enter Try.func12, Try.ntmps12
      go_wp2_with fail
      (refine (HP.out _).mono ?_; rintro e w1 ⟨rfl, h1⟩; have H1 := Lib.hid h1; have hz1 := h1.size; clear h1; (try simp only [World.size_alloc, size_set, World.heap_drewN, size_drew] at hz1); apply Row.use (w := w1) (g := w.heap.size); (focus (repeat (first | (with_reducible exact Hid.out ‹Hid (Row _ _ _)›) | (with_reducible exact Row.newAt rfl) | (with_reducible apply Row.newAt; (simp; done)) | (with_reducible apply Row.set_) | (with_reducible apply Row.far; focus (simp <;> omega)) | (with_reducible apply Row.alloc) | (with_reducible apply Row.drew) | (with_reducible apply Row.drewN) | (with_reducible apply Row.ext (Hid.out ‹Hid (Ext _ _)›))))); intro q1_0 f1_0 l1_0 R1_0; (try simp only [List.setIfInBounds_toArray, List.set_cons_zero, List.set_cons_succ] at q1_0 R1_0); apply Row.use (w := w1) (g := w.heap.size + 1); (focus (repeat (first | (with_reducible exact Hid.out ‹Hid (Row _ _ _)›) | (with_reducible exact Row.newAt rfl) | (with_reducible apply Row.newAt; (simp; done)) | (with_reducible apply Row.set_) | (with_reducible apply Row.far; focus (simp <;> omega)) | (with_reducible apply Row.alloc) | (with_reducible apply Row.drew) | (with_reducible apply Row.drewN) | (with_reducible apply Row.ext (Hid.out ‹Hid (Ext _ _)›))))); intro q1_1 f1_1 l1_1 R1_1; (try simp only [List.setIfInBounds_toArray, List.set_cons_zero, List.set_cons_succ] at q1_1 R1_1))
      go_wp2_with fail
      (refine (HQ.out _).mono ?_; rintro e w2 ⟨rfl, h2⟩; have H2 := Lib.hid h2; have hz2 := h2.size; clear h2; (try simp only [World.size_alloc, size_set, World.heap_drewN, size_drew] at hz2); apply Row.use (w := w2) (g := w.heap.size); (focus (repeat (first | (with_reducible exact Hid.out ‹Hid (Row _ _ _)›) | (with_reducible exact Row.newAt rfl) | (with_reducible apply Row.newAt; (simp; done)) | (with_reducible apply Row.set_) | (with_reducible apply Row.far; focus (simp <;> omega)) | (with_reducible apply Row.alloc) | (with_reducible apply Row.drew) | (with_reducible apply Row.drewN) | (with_reducible apply Row.ext (Hid.out ‹Hid (Ext _ _)›))))); intro q2_0 f2_0 l2_0 R2_0; (try simp only [List.setIfInBounds_toArray, List.set_cons_zero, List.set_cons_succ] at q2_0 R2_0); apply Row.use (w := w2) (g := w.heap.size + 1); (focus (repeat (first | (with_reducible exact Hid.out ‹Hid (Row _ _ _)›) | (with_reducible exact Row.newAt rfl) | (with_reducible apply Row.newAt; (simp; done)) | (with_reducible apply Row.set_) | (with_reducible apply Row.far; focus (simp <;> omega)) | (with_reducible apply Row.alloc) | (with_reducible apply Row.drew) | (with_reducible apply Row.drewN) | (with_reducible apply Row.ext (Hid.out ‹Hid (Ext _ _)›))))); intro q2_1 f2_1 l2_1 R2_1; (try simp only [List.setIfInBounds_toArray, List.set_cons_zero, List.set_cons_succ] at q2_1 R2_1))
      go_wp2_with fail
      (refine (law_codeBegun _).mono ?_; rintro e w3 ⟨rfl, h3⟩; have H3 := Lib.hid h3; have hz3 := h3.size; clear h3; (try simp only [World.size_alloc, size_set, World.heap_drewN, size_drew] at hz3); apply Row.use (w := w3) (g := w.heap.size); (focus (repeat (first | (with_reducible exact Hid.out ‹Hid (Row _ _ _)›) | (with_reducible exact Row.newAt rfl) | (with_reducible apply Row.newAt; (simp; done)) | (with_reducible apply Row.set_) | (with_reducible apply Row.far; focus (simp <;> omega)) | (with_reducible apply Row.alloc) | (with_reducible apply Row.drew) | (with_reducible apply Row.drewN) | (with_reducible apply Row.ext (Hid.out ‹Hid (Ext _ _)›))))); intro q3_0 f3_0 l3_0 R3_0; (try simp only [List.setIfInBounds_toArray, List.set_cons_zero, List.set_cons_succ] at q3_0 R3_0); apply Row.use (w := w3) (g := w.heap.size + 1); (focus (repeat (first | (with_reducible exact Hid.out ‹Hid (Row _ _ _)›) | (with_reducible exact Row.newAt rfl) | (with_reducible apply Row.newAt; (simp; done)) | (with_reducible apply Row.set_) | (with_reducible apply Row.far; focus (simp <;> omega)) | (with_reducible apply Row.alloc) | (with_reducible apply Row.drew) | (with_reducible apply Row.drewN) | (with_reducible apply Row.ext (Hid.out ‹Hid (Ext _ _)›))))); intro q3_1 f3_1 l3_1 R3_1; (try simp only [List.setIfInBounds_toArray, List.set_cons_zero, List.set_cons_succ] at q3_1 R3_1))
      go_wp2_with fail
      refine (HSG.out _).mono ?_
      rintro e w4 ⟨rfl, rfl⟩
      go_wp2_with fail
      go_ret
      refine ⟨by simp, ?_⟩
      repeat (first | (with_reducible exact Ext.refl _) | (with_reducible refine Ext.alloc ?_ _) | (with_reducible apply Ext.setC; focus (simp <;> omega)) | (with_reducible refine Ext.drew ?_) | (with_reducible refine Ext.drewN ?_ _) | (with_reducible refine Ext.trans ?_ (Hid.out ‹Hid (Ext _ _)›)))
    · rw [print_ok e1, e1] at h1
      rw [print_no e2] at h2
      have hb : (ckTicket u != 0) = true := by simpa using e2
      have hb2 : (ckTicket u == 0) = false := by simpa using e2
      generalize codeOf t = C at *
      generalize ckTicket u = q at *
      clear e1 e2
      obtain ⟨a, b, c, d, x, f⟩ := t
      obtain ⟨a', b', c', d', x', f'⟩ := u
      simp only [tkc] at h1 h2 ⊢
      have HP := Lib.hid h1
      have HQ := Lib.hid h2
      clear h1 h2
      go_enter Try.func12, Try.ntmps12
      go_wp2_with fail
      (refine (HP.out _).mono ?_; rintro e w1 ⟨rfl, h1⟩; have H1 := Lib.hid h1; have hz1 := h1.size; clear h1; (try simp only [World.size_alloc, size_set, World.heap_drewN, size_drew] at hz1); apply Row.use (w := w1) (g := w.heap.size); (focus (repeat (first | (with_reducible exact Hid.out ‹Hid (Row _ _ _)›) | (with_reducible exact Row.newAt rfl) | (with_reducible apply Row.newAt; (simp; done)) | (with_reducible apply Row.set_) | (with_reducible apply Row.far; focus (simp <;> omega)) | (with_reducible apply Row.alloc) | (with_reducible apply Row.drew) | (with_reducible apply Row.drewN) | (with_reducible apply Row.ext (Hid.out ‹Hid (Ext _ _)›))))); intro q1_0 f1_0 l1_0 R1_0; (try simp only [List.setIfInBounds_toArray, List.set_cons_zero, List.set_cons_succ] at q1_0 R1_0); apply Row.use (w := w1) (g := w.heap.size + 1); (focus (repeat (first | (with_reducible exact Hid.out ‹Hid (Row _ _ _)›) | (with_reducible exact Row.newAt rfl) | (with_reducible apply Row.newAt; (simp; done)) | (with_reducible apply Row.set_) | (with_reducible apply Row.far; focus (simp <;> omega)) | (with_reducible apply Row.alloc) | (with_reducible apply Row.drew) | (with_reducible apply Row.drewN) | (with_reducible apply Row.ext (Hid.out ‹Hid (Ext _ _)›))))); intro q1_1 f1_1 l1_1 R1_1; (try simp only [List.setIfInBounds_toArray, List.set_cons_zero, List.set_cons_succ] at q1_1 R1_1))
      go_wp2_with fail
      (refine (HQ.out _).mono ?_; rintro e w2 ⟨rfl, h2⟩; have H2 := Lib.hid h2; have hz2 := h2.size; clear h2; (try simp only [World.size_alloc, size_set, World.heap_drewN, size_drew] at hz2); apply Row.use (w := w2) (g := w.heap.size); (focus (repeat (first | (with_reducible exact Hid.out ‹Hid (Row _ _ _)›) | (with_reducible exact Row.newAt rfl) | (with_reducible apply Row.newAt; (simp; done)) | (with_reducible apply Row.set_) | (with_reducible apply Row.far; focus (simp <;> omega)) | (with_reducible apply Row.alloc) | (with_reducible apply Row.drew) | (with_reducible apply Row.drewN) | (with_reducible apply Row.ext (Hid.out ‹Hid (Ext _ _)›))))); intro q2_0 f2_0 l2_0 R2_0; (try simp only [List.setIfInBounds_toArray, List.set_cons_zero, List.set_cons_succ] at q2_0 R2_0); apply Row.use (w := w2) (g := w.heap.size + 1); (focus (repeat (first | (with_reducible exact Hid.out ‹Hid (Row _ _ _)›) | (with_reducible exact Row.newAt rfl) | (with_reducible apply Row.newAt; (simp; done)) | (with_reducible apply Row.set_) | (with_reducible apply Row.far; focus (simp <;> omega)) | (with_reducible apply Row.alloc) | (with_reducible apply Row.drew) | (with_reducible apply Row.drewN) | (with_reducible apply Row.ext (Hid.out ‹Hid (Ext _ _)›))))); intro q2_1 f2_1 l2_1 R2_1; (try simp only [List.setIfInBounds_toArray, List.set_cons_zero, List.set_cons_succ] at q2_1 R2_1))
      go_wp2_with fail
      (refine (law_codeBegun _).mono ?_; rintro e w3 ⟨rfl, h3⟩; have H3 := Lib.hid h3; have hz3 := h3.size; clear h3; (try simp only [World.size_alloc, size_set, World.heap_drewN, size_drew] at hz3); apply Row.use (w := w3) (g := w.heap.size); (focus (repeat (first | (with_reducible exact Hid.out ‹Hid (Row _ _ _)›) | (with_reducible exact Row.newAt rfl) | (with_reducible apply Row.newAt; (simp; done)) | (with_reducible apply Row.set_) | (with_reducible apply Row.far; focus (simp <;> omega)) | (with_reducible apply Row.alloc) | (with_reducible apply Row.drew) | (with_reducible apply Row.drewN) | (with_reducible apply Row.ext (Hid.out ‹Hid (Ext _ _)›))))); intro q3_0 f3_0 l3_0 R3_0; (try simp only [List.setIfInBounds_toArray, List.set_cons_zero, List.set_cons_succ] at q3_0 R3_0); apply Row.use (w := w3) (g := w.heap.size + 1); (focus (repeat (first | (with_reducible exact Hid.out ‹Hid (Row _ _ _)›) | (with_reducible exact Row.newAt rfl) | (with_reducible apply Row.newAt; (simp; done)) | (with_reducible apply Row.set_) | (with_reducible apply Row.far; focus (simp <;> omega)) | (with_reducible apply Row.alloc) | (with_reducible apply Row.drew) | (with_reducible apply Row.drewN) | (with_reducible apply Row.ext (Hid.out ‹Hid (Ext _ _)›))))); intro q3_1 f3_1 l3_1 R3_1; (try simp only [List.setIfInBounds_toArray, List.set_cons_zero, List.set_cons_succ] at q3_1 R3_1))
      go_wp2_with fail
      go_ret
      refine ⟨by simp, ?_⟩
      repeat (first | (with_reducible exact Ext.refl _) | (with_reducible refine Ext.alloc ?_ _) | (with_reducible apply Ext.setC; focus (simp <;> omega)) | (with_reducible refine Ext.drew ?_) | (with_reducible refine Ext.drewN ?_ _) | (with_reducible refine Ext.trans ?_ (Hid.out ‹Hid (Ext _ _)›)))
  · rw [print_no e1] at h1
    have hb : (ckTicket t != 0) = true := by simpa using e1
    have hb2 : (ckTicket t == 0) = false := by simpa using e1
    generalize ckTicket t = q at *
    clear e1
    by_cases e2 : ckTicket u = 0
    · rw [e2] at h2
      generalize printTk u = D at *
      clear e2
      obtain ⟨a, b, c, d, x, f⟩ := t
      obtain ⟨a', b', c', d', x', f'⟩ := u
      simp only [tkc] at h1 h2 ⊢
      have HP := Lib.hid h1
      have HQ := Lib.hid h2
      clear h1 h2
      go_enter Try.func12, Try.ntmps12
      go_wp2_with fail
      (refine (HP.out _).mono ?_; rintro e w1 ⟨rfl, h1⟩; have H1 := Lib.hid h1; have hz1 := h1.size; clear h1; (try simp only [World.size_alloc, size_set, World.heap_drewN, size_drew] at hz1); apply Row.use (w := w1) (g := w.heap.size); (focus (repeat (first | (with_reducible exact Hid.out ‹Hid (Row _ _ _)›) | (with_reducible exact Row.newAt rfl) | (with_reducible apply Row.newAt; (simp; done)) | (with_reducible apply Row.set_) | (with_reducible apply Row.far; focus (simp <;> omega)) | (with_reducible apply Row.alloc) | (with_reducible apply Row.drew) | (with_reducible apply Row.drewN) | (with_reducible apply Row.ext (Hid.out ‹Hid (Ext _ _)›))))); intro q1_0 f1_0 l1_0 R1_0; (try simp only [List.setIfInBounds_toArray, List.set_cons_zero, List.set_cons_succ] at q1_0 R1_0); apply Row.use (w := w1) (g := w.heap.size + 1); (focus (repeat (first | (with_reducible exact Hid.out ‹Hid (Row _ _ _)›) | (with_reducible exact Row.newAt rfl) | (with_reducible apply Row.newAt; (simp; done)) | (with_reducible apply Row.set_) | (with_reducible apply Row.far; focus (simp <;> omega)) | (with_reducible apply Row.alloc) | (with_reducible apply Row.drew) | (with_reducible apply Row.drewN) | (with_reducible apply Row.ext (Hid.out ‹Hid (Ext _ _)›))))); intro q1_1 f1_1 l1_1 R1_1; (try simp only [List.setIfInBounds_toArray, List.set_cons_zero, List.set_cons_succ] at q1_1 R1_1))
      go_wp2_with fail
      (refine (HQ.out _).mono ?_; rintro e w2 ⟨rfl, h2⟩; have H2 := Lib.hid h2; have hz2 := h2.size; clear h2; (try simp only [World.size_alloc, size_set, World.heap_drewN, size_drew] at hz2); apply Row.use (w := w2) (g := w.heap.size); (focus (repeat (first | (with_reducible exact Hid.out ‹Hid (Row _ _ _)›) | (with_reducible exact Row.newAt rfl) | (with_reducible apply Row.newAt; (simp; done)) | (with_reducible apply Row.set_) | (with_reducible apply Row.far; focus (simp <;> omega)) | (with_reducible apply Row.alloc) | (with_reducible apply Row.drew) | (with_reducible apply Row.drewN) | (with_reducible apply Row.ext (Hid.out ‹Hid (Ext _ _)›))))); intro q2_0 f2_0 l2_0 R2_0; (try simp only [List.setIfInBounds_toArray, List.set_cons_zero, List.set_cons_succ] at q2_0 R2_0); apply Row.use (w := w2) (g := w.heap.size + 1); (focus (repeat (first | (with_reducible exact Hid.out ‹Hid (Row _ _ _)›) | (with_reducible exact Row.newAt rfl) | (with_reducible apply Row.newAt; (simp; done)) | (with_reducible apply Row.set_) | (with_reducible apply Row.far; focus (simp <;> omega)) | (with_reducible apply Row.alloc) | (with_reducible apply Row.drew) | (with_reducible apply Row.drewN) | (with_reducible apply Row.ext (Hid.out ‹Hid (Ext _ _)›))))); intro q2_1 f2_1 l2_1 R2_1; (try simp only [List.setIfInBounds_toArray, List.set_cons_zero, List.set_cons_succ] at q2_1 R2_1))
      go_wp2_with fail
      (refine (law_codeBegun _).mono ?_; rintro e w3 ⟨rfl, h3⟩; have H3 := Lib.hid h3; have hz3 := h3.size; clear h3; (try simp only [World.size_alloc, size_set, World.heap_drewN, size_drew] at hz3); apply Row.use (w := w3) (g := w.heap.size); (focus (repeat (first | (with_reducible exact Hid.out ‹Hid (Row _ _ _)›) | (with_reducible exact Row.newAt rfl) | (with_reducible apply Row.newAt; (simp; done)) | (with_reducible apply Row.set_) | (with_reducible apply Row.far; focus (simp <;> omega)) | (with_reducible apply Row.alloc) | (with_reducible apply Row.drew) | (with_reducible apply Row.drewN) | (with_reducible apply Row.ext (Hid.out ‹Hid (Ext _ _)›))))); intro q3_0 f3_0 l3_0 R3_0; (try simp only [List.setIfInBounds_toArray, List.set_cons_zero, List.set_cons_succ] at q3_0 R3_0); apply Row.use (w := w3) (g := w.heap.size + 1); (focus (repeat (first | (with_reducible exact Hid.out ‹Hid (Row _ _ _)›) | (with_reducible exact Row.newAt rfl) | (with_reducible apply Row.newAt; (simp; done)) | (with_reducible apply Row.set_) | (with_reducible apply Row.far; focus (simp <;> omega)) | (with_reducible apply Row.alloc) | (with_reducible apply Row.drew) | (with_reducible apply Row.drewN) | (with_reducible apply Row.ext (Hid.out ‹Hid (Ext _ _)›))))); intro q3_1 f3_1 l3_1 R3_1; (try simp only [List.setIfInBounds_toArray, List.set_cons_zero, List.set_cons_succ] at q3_1 R3_1))
      go_wp2_with fail
      go_ret
      refine ⟨by simp, ?_⟩
      repeat (first | (with_reducible exact Ext.refl _) | (with_reducible refine Ext.alloc ?_ _) | (with_reducible apply Ext.setC; focus (simp <;> omega)) | (with_reducible refine Ext.drew ?_) | (with_reducible refine Ext.drewN ?_ _) | (with_reducible refine Ext.trans ?_ (Hid.out ‹Hid (Ext _ _)›)))
    · rw [print_no e2] at h2
      have hc : (ckTicket u != 0) = true := by simpa using e2
      have hc2 : (ckTicket u == 0) = false := by simpa using e2
      generalize ckTicket u = r at *
      clear e2
      obtain ⟨a, b, c, d, x, f⟩ := t
      obtain ⟨a', b', c', d', x', f'⟩ := u
      simp only [tkc] at h1 h2 ⊢
      have HP := Lib.hid h1
      have HQ := Lib.hid h2
      clear h1 h2
      go_enter Try.func12, Try.ntmps12
      go_wp2_with fail
      (refine (HP.out _).mono ?_; rintro e w1 ⟨rfl, h1⟩; have H1 := Lib.hid h1; have hz1 := h1.size; clear h1; (try simp only [World.size_alloc, size_set, World.heap_drewN, size_drew] at hz1); apply Row.use (w := w1) (g := w.heap.size); (focus (repeat (first | (with_reducible exact Hid.out ‹Hid (Row _ _ _)›) | (with_reducible exact Row.newAt rfl) | (with_reducible apply Row.newAt; (simp; done)) | (with_reducible apply Row.set_) | (with_reducible apply Row.far; focus (simp <;> omega)) | (with_reducible apply Row.alloc) | (with_reducible apply Row.drew) | (with_reducible apply Row.drewN) | (with_reducible apply Row.ext (Hid.out ‹Hid (Ext _ _)›))))); intro q1_0 f1_0 l1_0 R1_0; (try simp only [List.setIfInBounds_toArray, List.set_cons_zero, List.set_cons_succ] at q1_0 R1_0); apply Row.use (w := w1) (g := w.heap.size + 1); (focus (repeat (first | (with_reducible exact Hid.out ‹Hid (Row _ _ _)›) | (with_reducible exact Row.newAt rfl) | (with_reducible apply Row.newAt; (simp; done)) | (with_reducible apply Row.set_) | (with_reducible apply Row.far; focus (simp <;> omega)) | (with_reducible apply Row.alloc) | (with_reducible apply Row.drew) | (with_reducible apply Row.drewN) | (with_reducible apply Row.ext (Hid.out ‹Hid (Ext _ _)›))))); intro q1_1 f1_1 l1_1 R1_1; (try simp only [List.setIfInBounds_toArray, List.set_cons_zero, List.set_cons_succ] at q1_1 R1_1))
      go_wp2_with fail
      (refine (HQ.out _).mono ?_; rintro e w2 ⟨rfl, h2⟩; have H2 := Lib.hid h2; have hz2 := h2.size; clear h2; (try simp only [World.size_alloc, size_set, World.heap_drewN, size_drew] at hz2); apply Row.use (w := w2) (g := w.heap.size); (focus (repeat (first | (with_reducible exact Hid.out ‹Hid (Row _ _ _)›) | (with_reducible exact Row.newAt rfl) | (with_reducible apply Row.newAt; (simp; done)) | (with_reducible apply Row.set_) | (with_reducible apply Row.far; focus (simp <;> omega)) | (with_reducible apply Row.alloc) | (with_reducible apply Row.drew) | (with_reducible apply Row.drewN) | (with_reducible apply Row.ext (Hid.out ‹Hid (Ext _ _)›))))); intro q2_0 f2_0 l2_0 R2_0; (try simp only [List.setIfInBounds_toArray, List.set_cons_zero, List.set_cons_succ] at q2_0 R2_0); apply Row.use (w := w2) (g := w.heap.size + 1); (focus (repeat (first | (with_reducible exact Hid.out ‹Hid (Row _ _ _)›) | (with_reducible exact Row.newAt rfl) | (with_reducible apply Row.newAt; (simp; done)) | (with_reducible apply Row.set_) | (with_reducible apply Row.far; focus (simp <;> omega)) | (with_reducible apply Row.alloc) | (with_reducible apply Row.drew) | (with_reducible apply Row.drewN) | (with_reducible apply Row.ext (Hid.out ‹Hid (Ext _ _)›))))); intro q2_1 f2_1 l2_1 R2_1; (try simp only [List.setIfInBounds_toArray, List.set_cons_zero, List.set_cons_succ] at q2_1 R2_1))
      go_wp2_with fail
      (refine (law_codeBegun _).mono ?_; rintro e w3 ⟨rfl, h3⟩; have H3 := Lib.hid h3; have hz3 := h3.size; clear h3; (try simp only [World.size_alloc, size_set, World.heap_drewN, size_drew] at hz3); apply Row.use (w := w3) (g := w.heap.size); (focus (repeat (first | (with_reducible exact Hid.out ‹Hid (Row _ _ _)›) | (with_reducible exact Row.newAt rfl) | (with_reducible apply Row.newAt; (simp; done)) | (with_reducible apply Row.set_) | (with_reducible apply Row.far; focus (simp <;> omega)) | (with_reducible apply Row.alloc) | (with_reducible apply Row.drew) | (with_reducible apply Row.drewN) | (with_reducible apply Row.ext (Hid.out ‹Hid (Ext _ _)›))))); intro q3_0 f3_0 l3_0 R3_0; (try simp only [List.setIfInBounds_toArray, List.set_cons_zero, List.set_cons_succ] at q3_0 R3_0); apply Row.use (w := w3) (g := w.heap.size + 1); (focus (repeat (first | (with_reducible exact Hid.out ‹Hid (Row _ _ _)›) | (with_reducible exact Row.newAt rfl) | (with_reducible apply Row.newAt; (simp; done)) | (with_reducible apply Row.set_) | (with_reducible apply Row.far; focus (simp <;> omega)) | (with_reducible apply Row.alloc) | (with_reducible apply Row.drew) | (with_reducible apply Row.drewN) | (with_reducible apply Row.ext (Hid.out ‹Hid (Ext _ _)›))))); intro q3_1 f3_1 l3_1 R3_1; (try simp only [List.setIfInBounds_toArray, List.set_cons_zero, List.set_cons_succ] at q3_1 R3_1))
      go_wp2_with fail
      go_ret
      refine ⟨by simp, ?_⟩
      repeat (first | (with_reducible exact Ext.refl _) | (with_reducible refine Ext.alloc ?_ _) | (with_reducible apply Ext.setC; focus (simp <;> omega)) | (with_reducible refine Ext.drew ?_) | (with_reducible refine Ext.drewN ?_ _) | (with_reducible refine Ext.trans ?_ (Hid.out ‹Hid (Ext _ _)›)))
end Go.Proofs.Ytglifpoiildpfaa
