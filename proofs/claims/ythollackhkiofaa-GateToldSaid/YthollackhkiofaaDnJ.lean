/- The laws' deniedBegun. -/
import Derived.Test.YthollackhkiofaaDnI
namespace Go.Proofs.Ythollackhkiofaa
set_option linter.unusedSimpArgs false
set_option linter.unusedVariables false
set_option maxRecDepth 100000
open Go Go.RowKit Lb

theorem begun_add : denyAll ⟨2, [3, 9]⟩ 5 = (⟨3, [3, 5, 9]⟩, 0) := by decide +kernel
theorem begun_newer : newerAll dn0 ⟨3, [3, 5, 9]⟩ = (⟨3, [3, 5, 9]⟩, 0) := by decide +kernel
theorem begun_has : hasAll ⟨3, [3, 5, 9]⟩ 5 = (true, 0) := by decide +kernel
theorem begun_twice : denyAll ⟨3, [3, 5, 9]⟩ 5 = (dn0, 6) := by decide +kernel
theorem begun_ck : ckDn ⟨3, [3, 5, 9]⟩ = 0 := by decide +kernel

theorem begun_add' (s : Value) (w : World) (hr : RdL 1 inc w s [3, 9]) :
    Calls Try.prog 24 #[.agg #[.int .i64 2, s], .int .i64 5] w fun e w' => ∃ s', e = .returned (.tuple #[.agg #[.int .i64 3, s'], .int .i64 0]) ∧ Ext w w' ∧ OwnL 3 1 inc w.heap.size w' s' [3, 5, 9] := by
  have h := denied_Add ⟨2, [3, 9]⟩ s 5 w hr
  rw [begun_add] at h
  exact h
theorem begun_newer' (s : Value) (w : World) (hr : RdL 1 inc w s [3, 5, 9]) :
    Calls Try.prog 25 #[.agg #[.int .i64 0, .slice none 0 0], .agg #[.int .i64 3, s]] w fun e w' => ∃ s', e = .returned (.tuple #[.agg #[.int .i64 3, s'], .int .i64 0]) ∧ Ext w w' ∧ OwnL 3 1 inc w.heap.size w' s' [3, 5, 9] := by
  have h := denied_Newer dn0 ⟨3, [3, 5, 9]⟩ _ s w RdL.nil hr
  rw [begun_newer] at h
  exact h
theorem begun_has' (s : Value) (w : World) (hr : RdL 1 inc w s [3, 5, 9]) :
    Calls Try.prog 26 #[.agg #[.int .i64 3, s], .int .i64 5] w fun e w' => e = .returned (.tuple #[.bool true, .int .i64 0]) ∧ Ext w w' := by
  have h := denied_Has ⟨3, [3, 5, 9]⟩ s 5 w hr
  rw [begun_has] at h
  exact h
theorem begun_twice' (s : Value) (w : World) (hr : RdL 1 inc w s [3, 5, 9]) :
    Calls Try.prog 24 #[.agg #[.int .i64 3, s], .int .i64 5] w fun e w' => ∃ s', e = .returned (.tuple #[.agg #[.int .i64 0, s'], .int .i64 6]) ∧ Ext w w' ∧ OwnL 3 1 inc w.heap.size w' s' [] := by
  have h := denied_Add ⟨3, [3, 5, 9]⟩ s 5 w hr
  rw [begun_twice] at h
  exact h
theorem begun_ck' (s : Value) (w : World) (hr : RdL 1 inc w s [3, 5, 9]) :
    Calls Try.prog 31 #[.agg #[.int .i64 3, s]] w fun e w' => e = .returned (.int .i64 0) ∧ Ext w w' := by
  have h := denied_Check ⟨3, [3, 5, 9]⟩ s w hr
  rw [begun_ck] at h
  exact h
theorem begun_same' (s u : Value) (w : World) (hr : RdL 1 inc w s [3, 5, 9]) (hs : RdL 1 inc w u [3, 5, 9]) :
    Calls Try.prog 34 #[.agg #[.int .i64 3, s], .agg #[.int .i64 3, u]] w fun e w' => e = .returned (.bool true) ∧ Ext w w' := by
  have h := ref_SameDenied ⟨3, [3, 5, 9]⟩ ⟨3, [3, 5, 9]⟩ s u w hr hs
  rw [show sameDn ⟨3, [3, 5, 9]⟩ ⟨3, [3, 5, 9]⟩ = true from by decide] at h
  exact h

set_option maxHeartbeats 4000000 in
theorem law_deniedBegun (w : World) :
    Calls Try.prog 30 #[] w fun e w' => e = .returned (.bool true) ∧ Ext w w' := by
  go_enter Try.func30, Try.ntmps30
  go_wp2_with fail
  (refine (begun_add' _ _ (RdL.ints [3, 9] (by unfold maxLen; simp) (by simp) (fun o => by rw [Row.new.2.1 o]; simp))).mono ?_; rintro e w1 ⟨s1, rfl, h1, ho1⟩; obtain ⟨A1, c1, rfl⟩ := ho1.form; have H1 := Lib.hid h1; have hz1 := h1.size; have HO1 := Lib.hid (OwnL.rd ho1 inc_size); (try simp only [World.size_alloc, size_set, World.heap_drewN, size_drew] at ho1); have HW1 := Lib.hid ho1; clear h1 ho1; (try simp only [World.size_alloc, size_set, World.heap_drewN, size_drew] at hz1))
  simp only [List.length_cons, List.length_nil, Nat.zero_add, Nat.reduceAdd] at HO1 ⊢
  go_wp2_with fail
  (refine (begun_newer' _ _ (HO1.out.ext (by repeat (first | (with_reducible exact Ext.refl _) | (with_reducible refine Ext.alloc ?_ _) | (with_reducible apply Ext.setC; focus (simp <;> omega)) | (with_reducible refine Ext.drew ?_) | (with_reducible refine Ext.drewN ?_ _) | (with_reducible refine Ext.trans ?_ (Hid.out ‹Hid (Ext _ _)›)))))).mono ?_; rintro e w2 ⟨s2, rfl, h2, ho2⟩; obtain ⟨A2, c2, rfl⟩ := ho2.form; have H2 := Lib.hid h2; have hz2 := h2.size; have HO2 := Lib.hid (OwnL.rd ho2 inc_size); (try simp only [World.size_alloc, size_set, World.heap_drewN, size_drew] at ho2); have HW2 := Lib.hid ho2; clear h2 ho2; (try simp only [World.size_alloc, size_set, World.heap_drewN, size_drew] at hz2); apply Row.use (w := w2) (g := w1.heap.size); (focus (repeat (first | (with_reducible exact Hid.out ‹Hid (Row _ _ _)›) | (with_reducible exact Row.newAt rfl) | (with_reducible apply Row.newAt; (simp; done)) | (with_reducible apply Row.set_) | (with_reducible apply Row.far; focus (simp <;> omega)) | (with_reducible apply Row.alloc) | (with_reducible apply Row.drew) | (with_reducible apply Row.drewN) | (with_reducible apply Row.ext (Hid.out ‹Hid (Ext _ _)›))))); intro q2_0 f2_0 l2_0 R2_0; (try simp only [List.setIfInBounds_toArray, List.set_cons_zero, List.set_cons_succ] at q2_0 R2_0))
  simp only [List.length_cons, List.length_nil, Nat.zero_add, Nat.reduceAdd] at HO2 ⊢
  go_wp2_with fail
  (refine (begun_has' _ _ (HO1.out.ext (by repeat (first | (with_reducible exact Ext.refl _) | (with_reducible refine Ext.alloc ?_ _) | (with_reducible apply Ext.setC; focus (simp <;> omega)) | (with_reducible refine Ext.drew ?_) | (with_reducible refine Ext.drewN ?_ _) | (with_reducible refine Ext.trans ?_ (Hid.out ‹Hid (Ext _ _)›)))))).mono ?_; rintro e w3 ⟨rfl, h3⟩; have H3 := Lib.hid h3; have hz3 := h3.size; clear h3; (try simp only [World.size_alloc, size_set, World.heap_drewN, size_drew] at hz3); apply Row.use (w := w3) (g := w1.heap.size); (focus (repeat (first | (with_reducible exact Hid.out ‹Hid (Row _ _ _)›) | (with_reducible exact Row.newAt rfl) | (with_reducible apply Row.newAt; (simp; done)) | (with_reducible apply Row.set_) | (with_reducible apply Row.far; focus (simp <;> omega)) | (with_reducible apply Row.alloc) | (with_reducible apply Row.drew) | (with_reducible apply Row.drewN) | (with_reducible apply Row.ext (Hid.out ‹Hid (Ext _ _)›))))); intro q3_0 f3_0 l3_0 R3_0; (try simp only [List.setIfInBounds_toArray, List.set_cons_zero, List.set_cons_succ] at q3_0 R3_0); apply Row.use (w := w3) (g := w2.heap.size); (focus (repeat (first | (with_reducible exact Hid.out ‹Hid (Row _ _ _)›) | (with_reducible exact Row.newAt rfl) | (with_reducible apply Row.newAt; (simp; done)) | (with_reducible apply Row.set_) | (with_reducible apply Row.far; focus (simp <;> omega)) | (with_reducible apply Row.alloc) | (with_reducible apply Row.drew) | (with_reducible apply Row.drewN) | (with_reducible apply Row.ext (Hid.out ‹Hid (Ext _ _)›))))); intro q3_1 f3_1 l3_1 R3_1; (try simp only [List.setIfInBounds_toArray, List.set_cons_zero, List.set_cons_succ] at q3_1 R3_1))
  go_wp2_with fail
  (refine (begun_twice' _ _ (HO1.out.ext (by repeat (first | (with_reducible exact Ext.refl _) | (with_reducible refine Ext.alloc ?_ _) | (with_reducible apply Ext.setC; focus (simp <;> omega)) | (with_reducible refine Ext.drew ?_) | (with_reducible refine Ext.drewN ?_ _) | (with_reducible refine Ext.trans ?_ (Hid.out ‹Hid (Ext _ _)›)))))).mono ?_; rintro e w4 ⟨s4, rfl, h4, ho4⟩; obtain ⟨A4, c4, rfl⟩ := ho4.form; have H4 := Lib.hid h4; have hz4 := h4.size; have HO4 := Lib.hid (OwnL.rd ho4 inc_size); (try simp only [World.size_alloc, size_set, World.heap_drewN, size_drew] at ho4); have HW4 := Lib.hid ho4; clear h4 ho4; (try simp only [World.size_alloc, size_set, World.heap_drewN, size_drew] at hz4); apply Row.use (w := w4) (g := w1.heap.size); (focus (repeat (first | (with_reducible exact Hid.out ‹Hid (Row _ _ _)›) | (with_reducible exact Row.newAt rfl) | (with_reducible apply Row.newAt; (simp; done)) | (with_reducible apply Row.set_) | (with_reducible apply Row.far; focus (simp <;> omega)) | (with_reducible apply Row.alloc) | (with_reducible apply Row.drew) | (with_reducible apply Row.drewN) | (with_reducible apply Row.ext (Hid.out ‹Hid (Ext _ _)›))))); intro q4_0 f4_0 l4_0 R4_0; (try simp only [List.setIfInBounds_toArray, List.set_cons_zero, List.set_cons_succ] at q4_0 R4_0); apply Row.use (w := w4) (g := w2.heap.size); (focus (repeat (first | (with_reducible exact Hid.out ‹Hid (Row _ _ _)›) | (with_reducible exact Row.newAt rfl) | (with_reducible apply Row.newAt; (simp; done)) | (with_reducible apply Row.set_) | (with_reducible apply Row.far; focus (simp <;> omega)) | (with_reducible apply Row.alloc) | (with_reducible apply Row.drew) | (with_reducible apply Row.drewN) | (with_reducible apply Row.ext (Hid.out ‹Hid (Ext _ _)›))))); intro q4_1 f4_1 l4_1 R4_1; (try simp only [List.setIfInBounds_toArray, List.set_cons_zero, List.set_cons_succ] at q4_1 R4_1))
  simp only [List.length_nil] at HO4 ⊢
  go_wp2_with fail
  (refine (begun_ck' _ _ (HO1.out.ext (by repeat (first | (with_reducible exact Ext.refl _) | (with_reducible refine Ext.alloc ?_ _) | (with_reducible apply Ext.setC; focus (simp <;> omega)) | (with_reducible refine Ext.drew ?_) | (with_reducible refine Ext.drewN ?_ _) | (with_reducible refine Ext.trans ?_ (Hid.out ‹Hid (Ext _ _)›)))))).mono ?_; rintro e w5 ⟨rfl, h5⟩; have H5 := Lib.hid h5; have hz5 := h5.size; clear h5; (try simp only [World.size_alloc, size_set, World.heap_drewN, size_drew] at hz5); apply Row.use (w := w5) (g := w1.heap.size); (focus (repeat (first | (with_reducible exact Hid.out ‹Hid (Row _ _ _)›) | (with_reducible exact Row.newAt rfl) | (with_reducible apply Row.newAt; (simp; done)) | (with_reducible apply Row.set_) | (with_reducible apply Row.far; focus (simp <;> omega)) | (with_reducible apply Row.alloc) | (with_reducible apply Row.drew) | (with_reducible apply Row.drewN) | (with_reducible apply Row.ext (Hid.out ‹Hid (Ext _ _)›))))); intro q5_0 f5_0 l5_0 R5_0; (try simp only [List.setIfInBounds_toArray, List.set_cons_zero, List.set_cons_succ] at q5_0 R5_0); apply Row.use (w := w5) (g := w2.heap.size); (focus (repeat (first | (with_reducible exact Hid.out ‹Hid (Row _ _ _)›) | (with_reducible exact Row.newAt rfl) | (with_reducible apply Row.newAt; (simp; done)) | (with_reducible apply Row.set_) | (with_reducible apply Row.far; focus (simp <;> omega)) | (with_reducible apply Row.alloc) | (with_reducible apply Row.drew) | (with_reducible apply Row.drewN) | (with_reducible apply Row.ext (Hid.out ‹Hid (Ext _ _)›))))); intro q5_1 f5_1 l5_1 R5_1; (try simp only [List.setIfInBounds_toArray, List.set_cons_zero, List.set_cons_succ] at q5_1 R5_1))
  have hE5 : Ext w1 w5 := by repeat (first | (with_reducible exact Ext.refl _) | (with_reducible refine Ext.alloc ?_ _) | (with_reducible apply Ext.setC; focus (simp <;> omega)) | (with_reducible refine Ext.drew ?_) | (with_reducible refine Ext.drewN ?_ _) | (with_reducible refine Ext.trans ?_ (Hid.out ‹Hid (Ext _ _)›)))
  obtain ⟨b, o, hA, hb, hcell⟩ := (HO1.out.ext hE5).int_at rfl (show 1 < [3, 5, 9].length by simp)
  subst hA
  simp only [List.getElem_cons_succ, List.getElem_cons_zero] at hcell
  go_wp2_with fail
  (refine (begun_same' _ _ _ (HO2.out.ext (by repeat (first | (with_reducible exact Ext.refl _) | (with_reducible refine Ext.alloc ?_ _) | (with_reducible apply Ext.setC; focus (simp <;> omega)) | (with_reducible refine Ext.drew ?_) | (with_reducible refine Ext.drewN ?_ _) | (with_reducible refine Ext.trans ?_ (Hid.out ‹Hid (Ext _ _)›))))) (HO1.out.ext (by repeat (first | (with_reducible exact Ext.refl _) | (with_reducible refine Ext.alloc ?_ _) | (with_reducible apply Ext.setC; focus (simp <;> omega)) | (with_reducible refine Ext.drew ?_) | (with_reducible refine Ext.drewN ?_ _) | (with_reducible refine Ext.trans ?_ (Hid.out ‹Hid (Ext _ _)›)))))).mono ?_; rintro e w6 ⟨rfl, h6⟩; have H6 := Lib.hid h6; have hz6 := h6.size; clear h6; (try simp only [World.size_alloc, size_set, World.heap_drewN, size_drew] at hz6))
  go_wp2_with fail
  go_ret
  refine ⟨ret_bool rfl, ?_⟩
  repeat (first | (with_reducible exact Ext.refl _) | (with_reducible refine Ext.alloc ?_ _) | (with_reducible apply Ext.setC; focus (simp <;> omega)) | (with_reducible refine Ext.drew ?_) | (with_reducible refine Ext.drewN ?_ _) | (with_reducible refine Ext.trans ?_ (Hid.out ‹Hid (Ext _ _)›)))
end Go.Proofs.Ythollackhkiofaa
