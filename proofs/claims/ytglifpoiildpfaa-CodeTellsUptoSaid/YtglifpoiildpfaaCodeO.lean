/- leeboardlaw.codeBegun answers true. -/
import Derived.Test.YtglifpoiildpfaaCodeN
import Derived.Test.YtglifpoiildpfaaTickJ
namespace Go.Proofs.Ytglifpoiildpfaa
set_option linter.unusedSimpArgs false
set_option linter.unusedVariables false
open Go Go.RowKit Lb

def code1 : List UInt8 := [48, 48, 48, 65, 76, 50, 65, 48, 72, 85, 53, 53, 82, 80]
theorem print_1 : printTk (single 1) = code1 := by decide +kernel
theorem parse_1 : parseTk code1 = some (single 1) := by decide +kernel
theorem mark_1 : markAll [49] = ([86], 0) := by decide +kernel
theorem mark_I : markAll [73] = ([], 1) := by decide +kernel
theorem print_call (w : World) : Calls Try.prog 26 #[.agg (tkc (single 1))] w fun e w' => e = .returned (.tuple #[.string (bs code1), .int .i64 0]) ∧ Ext w w' := by
  have h := code_Print (single 1) w
  rw [print_1, ok_1] at h
  exact h
theorem parse_call (w : World) : Calls Try.prog 27 #[.string (bs code1)] w fun e w' => e = .returned (.tuple #[.agg #[.int .i64 1, .int .i64 1, .int .i64 10, .int .i64 500, .int .i64 15, .int .i64 0], .int .i64 0]) ∧ Ext w w' := by
  have h := code_Parse code1 (by decide) w
  unfold parseE at h
  rw [parse_1] at h
  exact h
theorem mark1_call (w : World) : Calls Try.prog 28 #[.string ⟨#[49]⟩] w fun e w' => e = .returned (.tuple #[.string ⟨#[86]⟩, .int .i64 0]) ∧ Ext w w' := by
  have h := code_Mark [49] (by decide) w
  rw [mark_1] at h
  exact h
theorem markI_call (w : World) : Calls Try.prog 28 #[.string ⟨#[73]⟩] w fun e w' => e = .returned (.tuple #[.string (bs []), .int .i64 1]) ∧ Ext w w' := by
  have h := code_Mark [73] (by decide) w
  rw [mark_I] at h
  exact h

set_option maxRecDepth 100000 in
set_option maxHeartbeats 1000000 in
theorem law_codeBegun (w : World) :
    Calls Try.prog 33 #[] w fun e w' => e = .returned (.bool true) ∧ Ext w w' := by
  have hstd := stood_tk
  have hsz : (bs code1).size = 14 := rfl
  go_enter Try.func33, Try.ntmps33
  go_wp2_with fail
  (refine (law_single 1 _).mono ?_; rintro e w1 ⟨rfl, h1⟩; have H1 := Lib.hid h1; have hz1 := h1.size; clear h1; (try simp only [World.size_alloc, size_set, World.heap_drewN, size_drew] at hz1))
  go_wp2_with fail
  (refine (print_call _).mono ?_; rintro e w2 ⟨rfl, h2⟩; have H2 := Lib.hid h2; have hz2 := h2.size; clear h2; (try simp only [World.size_alloc, size_set, World.heap_drewN, size_drew] at hz2))
  go_wp2_with fail
  (refine (parse_call _).mono ?_; rintro e w3 ⟨rfl, h3⟩; have H3 := Lib.hid h3; have hz3 := h3.size; clear h3; (try simp only [World.size_alloc, size_set, World.heap_drewN, size_drew] at hz3))
  go_wp2_with fail
  (refine (mark1_call _).mono ?_; rintro e w4 ⟨rfl, h4⟩; have H4 := Lib.hid h4; have hz4 := h4.size; clear h4; (try simp only [World.size_alloc, size_set, World.heap_drewN, size_drew] at hz4); apply Row.use (w := w4) (g := w3.heap.size); (focus (repeat (first | (with_reducible exact Hid.out ‹Hid (Row _ _ _)›) | (with_reducible exact Row.newAt rfl) | (with_reducible apply Row.newAt; (simp; done)) | (with_reducible apply Row.set_) | (with_reducible apply Row.far; focus (simp <;> omega)) | (with_reducible apply Row.alloc) | (with_reducible apply Row.drew) | (with_reducible apply Row.drewN) | (with_reducible apply Row.ext (Hid.out ‹Hid (Ext _ _)›))))); intro q4_0 f4_0 l4_0 R4_0; (try simp only [List.setIfInBounds_toArray, List.set_cons_zero, List.set_cons_succ] at q4_0 R4_0))
  go_wp2_with fail
  (refine (markI_call _).mono ?_; rintro e w5 ⟨rfl, h5⟩; have H5 := Lib.hid h5; have hz5 := h5.size; clear h5; (try simp only [World.size_alloc, size_set, World.heap_drewN, size_drew] at hz5); apply Row.use (w := w5) (g := w3.heap.size); (focus (repeat (first | (with_reducible exact Hid.out ‹Hid (Row _ _ _)›) | (with_reducible exact Row.newAt rfl) | (with_reducible apply Row.newAt; (simp; done)) | (with_reducible apply Row.set_) | (with_reducible apply Row.far; focus (simp <;> omega)) | (with_reducible apply Row.alloc) | (with_reducible apply Row.drew) | (with_reducible apply Row.drewN) | (with_reducible apply Row.ext (Hid.out ‹Hid (Ext _ _)›))))); intro q5_0 f5_0 l5_0 R5_0; (try simp only [List.setIfInBounds_toArray, List.set_cons_zero, List.set_cons_succ] at q5_0 R5_0))
  have hs4 : (∀ o, w5.cell? ⟨w3.heap.size, o, none⟩ = (#[.int .i64 1, .int .i64 1, .int .i64 10, .int .i64 500, .int .i64 15, .int .i64 0] : Array Value)[o]?) ∧ w3.heap.size < w5.heap.size ∧ Ext w w5 := ⟨q5_0, l5_0, by repeat (first | (with_reducible exact Ext.refl _) | (with_reducible refine Ext.alloc ?_ _) | (with_reducible apply Ext.setC; focus (simp <;> omega)) | (with_reducible refine Ext.drew ?_) | (with_reducible refine Ext.drewN ?_ _) | (with_reducible refine Ext.trans ?_ (Hid.out ‹Hid (Ext _ _)›)))⟩
  have HS := Lib.hid hs4
  clear hs4
  go_wp2_with fail
  go_region_held3 (fun w' => (∀ o, w'.cell? ⟨w3.heap.size, o, none⟩ = (#[.int .i64 1, .int .i64 1, .int .i64 10, .int .i64 500, .int .i64 15, .int .i64 0] : Array Value)[o]?) ∧ w3.heap.size < w'.heap.size ∧ Ext w w')
    (first | (refine keepH ?_ h; assumption) | (refine keepH HS.out ?_; (repeat (first | (with_reducible exact Ext.refl _) | (with_reducible refine Ext.alloc ?_ _) | (with_reducible apply Ext.setC; focus (simp <;> omega)) | (with_reducible refine Ext.drew ?_) | (with_reducible refine Ext.drewN ?_ _) | (with_reducible refine Ext.trans ?_ (Hid.out ‹Hid (Ext _ _)›)))); done))
    (first | (go_at_call 38; refine (law_single' _ _).mono ?_; rintro e w' ⟨rfl, h⟩))
  all_goals
    go_wp2_with fail
    go_ret
    refine ⟨rfl, ?_⟩
    exact (‹(∀ o, World.cell? _ ⟨w3.heap.size, o, none⟩ = _) ∧ _ ∧ Ext w _›).2.2
end Go.Proofs.Ytglifpoiildpfaa
