import Derived.Test.YtglifpoiildpfaaTickF
namespace Go.Proofs.Ytglifpoiildpfaa
set_option linter.unusedSimpArgs false
set_option linter.unusedVariables false
open Go Go.RowKit Lb

theorem ticket_told (l : List UInt8) (w : World) :
    Calls Try.prog 36 #[.string (bs l)] w fun e w' =>
      e = .returned (.tuple #[.agg (tkc ((decTk l).getD tk0)), .bool (decTk l).isSome]) ∧ Ext w w' := by
  by_cases hl : l.length = 8
  · match l, hl with
    | [b0, b1, b2, b3, b4, b5, b6, b7], _ => exact told_ok b0 b1 b2 b3 b4 b5 b6 b7 w
  · have : decTk l = none := by
      unfold decTk
      split
      · simp at hl
      · rfl
    rw [this]
    exact told_no l hl w

set_option maxHeartbeats 1000000 in
theorem ticket_Decode (l : List UInt8) (w : World) :
    Calls Try.prog 14 #[.string (bs l)] w fun e w' =>
      e = .returned (.tuple #[.agg (tkc (decodeTk l).1), .int .i64 (decodeTk l).2]) ∧ Ext w w' := by
  have ht := ticket_told l
  unfold decodeTk
  cases hd : decTk l with
  | none =>
    rw [hd] at ht
    clear hd
    have HT := Lib.hid ht
    clear ht
    simp only
    go_enter Try.func14, Try.ntmps14
    go_wp2_with fail
    (refine (HT.out _).mono ?_; rintro e w1 ⟨rfl, h1⟩; have H1 := Lib.hid h1; have hz1 := h1.size; clear h1; (try simp only [World.size_alloc, size_set, World.heap_drewN, size_drew] at hz1); apply Row.use (w := w1) (g := w.heap.size); (focus (repeat (first | (with_reducible exact Hid.out ‹Hid (Row _ _ _)›) | (with_reducible exact Row.newAt rfl) | (with_reducible apply Row.newAt; (simp; done)) | (with_reducible apply Row.set_) | (with_reducible apply Row.far; focus (simp <;> omega)) | (with_reducible apply Row.alloc) | (with_reducible apply Row.drew) | (with_reducible apply Row.drewN) | (with_reducible apply Row.ext (Hid.out ‹Hid (Ext _ _)›))))); intro q1_0 f1_0 l1_0 R1_0; (try simp only [List.setIfInBounds_toArray, List.set_cons_zero, List.set_cons_succ] at q1_0 R1_0))
    simp only [tkc]
    go_wp2_with fail
    refine bodyPost_ret (v := .tuple #[.agg (tkc tk0), .int .i64 1]) (by simp [results, Try.results14, go_sem, q1_0, l1_0, tkc, tk0]) rfl ⟨rfl, ?_⟩
    repeat (first | (with_reducible exact Ext.refl _) | (with_reducible refine Ext.alloc ?_ _) | (with_reducible apply Ext.setC; focus (simp <;> omega)) | (with_reducible refine Ext.drew ?_) | (with_reducible refine Ext.drewN ?_ _) | (with_reducible refine Ext.trans ?_ (Hid.out ‹Hid (Ext _ _)›)))
  | some t =>
    rw [hd] at ht
    clear hd
    have HT := Lib.hid ht
    clear ht
    have hk := ticket_Check t
    simp only
    obtain ⟨a, b, c, d, x, f⟩ := t
    unfold tkc at hk HT
    by_cases h0 : ckTicket ⟨a, b, c, d, x, f⟩ = 0
    · rw [h0] at hk ⊢
      have HK := Lib.hid hk
      clear hk h0
      go_enter Try.func14, Try.ntmps14
      go_wp2_with fail
      (refine (HT.out _).mono ?_; rintro e w1 ⟨rfl, h1⟩; have H1 := Lib.hid h1; have hz1 := h1.size; clear h1; (try simp only [World.size_alloc, size_set, World.heap_drewN, size_drew] at hz1); apply Row.use (w := w1) (g := w.heap.size); (focus (repeat (first | (with_reducible exact Hid.out ‹Hid (Row _ _ _)›) | (with_reducible exact Row.newAt rfl) | (with_reducible apply Row.newAt; (simp; done)) | (with_reducible apply Row.set_) | (with_reducible apply Row.far; focus (simp <;> omega)) | (with_reducible apply Row.alloc) | (with_reducible apply Row.drew) | (with_reducible apply Row.drewN) | (with_reducible apply Row.ext (Hid.out ‹Hid (Ext _ _)›))))); intro q1_0 f1_0 l1_0 R1_0; (try simp only [List.setIfInBounds_toArray, List.set_cons_zero, List.set_cons_succ] at q1_0 R1_0))
      go_wp2_with fail
      (refine (HK.out _).mono ?_; rintro e w2 ⟨rfl, h2⟩; have H2 := Lib.hid h2; have hz2 := h2.size; clear h2; (try simp only [World.size_alloc, size_set, World.heap_drewN, size_drew] at hz2); apply Row.use (w := w2) (g := w.heap.size); (focus (repeat (first | (with_reducible exact Hid.out ‹Hid (Row _ _ _)›) | (with_reducible exact Row.newAt rfl) | (with_reducible apply Row.newAt; (simp; done)) | (with_reducible apply Row.set_) | (with_reducible apply Row.far; focus (simp <;> omega)) | (with_reducible apply Row.alloc) | (with_reducible apply Row.drew) | (with_reducible apply Row.drewN) | (with_reducible apply Row.ext (Hid.out ‹Hid (Ext _ _)›))))); intro q2_0 f2_0 l2_0 R2_0; (try simp only [List.setIfInBounds_toArray, List.set_cons_zero, List.set_cons_succ] at q2_0 R2_0); apply Row.use (w := w2) (g := w1.heap.size); (focus (repeat (first | (with_reducible exact Hid.out ‹Hid (Row _ _ _)›) | (with_reducible exact Row.newAt rfl) | (with_reducible apply Row.newAt; (simp; done)) | (with_reducible apply Row.set_) | (with_reducible apply Row.far; focus (simp <;> omega)) | (with_reducible apply Row.alloc) | (with_reducible apply Row.drew) | (with_reducible apply Row.drewN) | (with_reducible apply Row.ext (Hid.out ‹Hid (Ext _ _)›))))); intro q2_1 f2_1 l2_1 R2_1; (try simp only [List.setIfInBounds_toArray, List.set_cons_zero, List.set_cons_succ] at q2_1 R2_1))
      go_wp2_with fail
      refine bodyPost_ret (v := .tuple #[.agg (tkc ⟨a, b, c, d, x, f⟩), .int .i64 0]) (by simp [results, Try.results14, go_sem, q2_0, q2_1, l2_0, l2_1, tkc, tk0]) rfl ⟨rfl, ?_⟩
      repeat (first | (with_reducible exact Ext.refl _) | (with_reducible refine Ext.alloc ?_ _) | (with_reducible apply Ext.setC; focus (simp <;> omega)) | (with_reducible refine Ext.drew ?_) | (with_reducible refine Ext.drewN ?_ _) | (with_reducible refine Ext.trans ?_ (Hid.out ‹Hid (Ext _ _)›)))
    · have hb : (ckTicket ⟨a, b, c, d, x, f⟩ != 0) = true := by simpa using h0
      rw [if_pos h0]
      generalize ckTicket ⟨a, b, c, d, x, f⟩ = r at hk hb
      clear h0
      have HK := Lib.hid hk
      clear hk
      go_enter Try.func14, Try.ntmps14
      go_wp2_with fail
      (refine (HT.out _).mono ?_; rintro e w1 ⟨rfl, h1⟩; have H1 := Lib.hid h1; have hz1 := h1.size; clear h1; (try simp only [World.size_alloc, size_set, World.heap_drewN, size_drew] at hz1); apply Row.use (w := w1) (g := w.heap.size); (focus (repeat (first | (with_reducible exact Hid.out ‹Hid (Row _ _ _)›) | (with_reducible exact Row.newAt rfl) | (with_reducible apply Row.newAt; (simp; done)) | (with_reducible apply Row.set_) | (with_reducible apply Row.far; focus (simp <;> omega)) | (with_reducible apply Row.alloc) | (with_reducible apply Row.drew) | (with_reducible apply Row.drewN) | (with_reducible apply Row.ext (Hid.out ‹Hid (Ext _ _)›))))); intro q1_0 f1_0 l1_0 R1_0; (try simp only [List.setIfInBounds_toArray, List.set_cons_zero, List.set_cons_succ] at q1_0 R1_0))
      go_wp2_with fail
      (refine (HK.out _).mono ?_; rintro e w2 ⟨rfl, h2⟩; have H2 := Lib.hid h2; have hz2 := h2.size; clear h2; (try simp only [World.size_alloc, size_set, World.heap_drewN, size_drew] at hz2); apply Row.use (w := w2) (g := w.heap.size); (focus (repeat (first | (with_reducible exact Hid.out ‹Hid (Row _ _ _)›) | (with_reducible exact Row.newAt rfl) | (with_reducible apply Row.newAt; (simp; done)) | (with_reducible apply Row.set_) | (with_reducible apply Row.far; focus (simp <;> omega)) | (with_reducible apply Row.alloc) | (with_reducible apply Row.drew) | (with_reducible apply Row.drewN) | (with_reducible apply Row.ext (Hid.out ‹Hid (Ext _ _)›))))); intro q2_0 f2_0 l2_0 R2_0; (try simp only [List.setIfInBounds_toArray, List.set_cons_zero, List.set_cons_succ] at q2_0 R2_0); apply Row.use (w := w2) (g := w1.heap.size); (focus (repeat (first | (with_reducible exact Hid.out ‹Hid (Row _ _ _)›) | (with_reducible exact Row.newAt rfl) | (with_reducible apply Row.newAt; (simp; done)) | (with_reducible apply Row.set_) | (with_reducible apply Row.far; focus (simp <;> omega)) | (with_reducible apply Row.alloc) | (with_reducible apply Row.drew) | (with_reducible apply Row.drewN) | (with_reducible apply Row.ext (Hid.out ‹Hid (Ext _ _)›))))); intro q2_1 f2_1 l2_1 R2_1; (try simp only [List.setIfInBounds_toArray, List.set_cons_zero, List.set_cons_succ] at q2_1 R2_1))
      go_wp2_with fail
      refine bodyPost_ret (v := .tuple #[.agg (tkc tk0), .int .i64 r]) (by simp [results, Try.results14, go_sem, q2_0, q2_1, l2_0, l2_1, tkc, tk0]) rfl ⟨rfl, ?_⟩
      repeat (first | (with_reducible exact Ext.refl _) | (with_reducible refine Ext.alloc ?_ _) | (with_reducible apply Ext.setC; focus (simp <;> omega)) | (with_reducible refine Ext.drew ?_) | (with_reducible refine Ext.drewN ?_ _) | (with_reducible refine Ext.trans ?_ (Hid.out ‹Hid (Ext _ _)›)))
end Go.Proofs.Ytglifpoiildpfaa
