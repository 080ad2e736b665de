import Derived.Test.YtglifpoiildpfaaTickI
import Derived.Test.YtglifpoiildpfaaEq
namespace Go.Proofs.Ytglifpoiildpfaa
set_option linter.unusedSimpArgs false
set_option linter.unusedVariables false
open Go Go.RowKit Lb

theorem enc_258 : encodeTk (single 258) = [1, 2, 0, 10, 1, 244, 31, 0] := by decide +kernel
theorem ok_258 : ckTicket (single 258) = 0 := by decide +kernel
theorem ok_1 : ckTicket (single 1) = 0 := by decide +kernel
theorem dec_258 : decodeTk [1, 2, 0, 10, 1, 244, 31, 0] = (single 258, 0) := by decide +kernel
theorem dec_258x : decodeTk [1, 2, 0, 10, 1, 244, 31, 0, 120] = (tk0, 1) := by decide +kernel

theorem enc_call (w : World) : Calls Try.prog 13 #[.agg (tkc (single 258))] w fun e w' => e = .returned (.tuple #[.string (bs [1, 2, 0, 10, 1, 244, 31, 0]), .int .i64 0]) ∧ Ext w w' := by
  have h := ticket_Encode (single 258) w
  rw [enc_258, ok_258] at h
  exact h
theorem dec_call (w : World) : Calls Try.prog 14 #[.string (bs [1, 2, 0, 10, 1, 244, 31, 0])] w fun e w' => e = .returned (.tuple #[.agg (tkc (single 258)), .int .i64 0]) ∧ Ext w w' := by
  have h := ticket_Decode [1, 2, 0, 10, 1, 244, 31, 0] w
  rw [dec_258] at h
  exact h
theorem decx_call (w : World) : Calls Try.prog 14 #[.string (bs [1, 2, 0, 10, 1, 244, 31, 0, 120])] w fun e w' => e = .returned (.tuple #[.agg (tkc tk0), .int .i64 1]) ∧ Ext w w' := by
  have h := ticket_Decode [1, 2, 0, 10, 1, 244, 31, 0, 120] w
  rw [dec_258x] at h
  exact h

theorem law_single' (id : Int) (w : World) :
    Calls Try.prog 38 #[.int .i64 id] w fun e w' => e = .returned (.agg #[.int .i64 id, .int .i64 1, .int .i64 10, .int .i64 500, .int .i64 15, .int .i64 0]) ∧ Ext w w' := law_single id w
theorem check_1 (w : World) : Calls Try.prog 19 #[.agg #[.int .i64 1, .int .i64 1, .int .i64 10, .int .i64 500, .int .i64 15, .int .i64 0]] w fun e w' => e = .returned (.int .i64 0) ∧ Ext w w' := by
  have h := ticket_Check (single 1) w
  rw [ok_1] at h
  exact h

set_option maxHeartbeats 1000000 in
theorem law_ticketBegun (w : World) :
    Calls Try.prog 18 #[] w fun e w' => e = .returned (.bool true) ∧ Ext w w' := by
  have hap : bs [1, 2, 0, 10, 1, 244, 31, 0] ++ ⟨#[120]⟩ = bs [1, 2, 0, 10, 1, 244, 31, 0, 120] := by decide +kernel
  have hst : (⟨#[1, 2, 0, 10, 1, 244, 31, 0]⟩ : ByteArray) = bs [1, 2, 0, 10, 1, 244, 31, 0] := rfl
  have hstd := stood_tk
  go_enter Try.func18, Try.ntmps18
  go_wp2_with fail
  (refine (law_single 258 _).mono ?_; rintro e w1 ⟨rfl, h1⟩; have H1 := Lib.hid h1; have hz1 := h1.size; clear h1; (try simp only [World.size_alloc, size_set, World.heap_drewN, size_drew] at hz1))
  go_wp2_with fail
  (refine (enc_call _).mono ?_; rintro e w2 ⟨rfl, h2⟩; have H2 := Lib.hid h2; have hz2 := h2.size; clear h2; (try simp only [World.size_alloc, size_set, World.heap_drewN, size_drew] at hz2))
  go_wp2_with fail
  (refine (dec_call _).mono ?_; rintro e w3 ⟨rfl, h3⟩; have H3 := Lib.hid h3; have hz3 := h3.size; clear h3; (try simp only [World.size_alloc, size_set, World.heap_drewN, size_drew] at hz3))
  simp only [tkc, single]
  go_wp2_with fail
  (refine (decx_call _).mono ?_; rintro e w4 ⟨rfl, h4⟩; have H4 := Lib.hid h4; have hz4 := h4.size; clear h4; (try simp only [World.size_alloc, size_set, World.heap_drewN, size_drew] at hz4); apply Row.use (w := w4) (g := w3.heap.size); (focus (repeat (first | (with_reducible exact Hid.out ‹Hid (Row _ _ _)›) | (with_reducible exact Row.newAt rfl) | (with_reducible apply Row.newAt; (simp; done)) | (with_reducible apply Row.set_) | (with_reducible apply Row.far; focus (simp <;> omega)) | (with_reducible apply Row.alloc) | (with_reducible apply Row.drew) | (with_reducible apply Row.drewN) | (with_reducible apply Row.ext (Hid.out ‹Hid (Ext _ _)›))))); intro q4_0 f4_0 l4_0 R4_0; (try simp only [List.setIfInBounds_toArray, List.set_cons_zero, List.set_cons_succ] at q4_0 R4_0))
  simp only [tkc, tk0]
  have hs4 : (∀ o, w4.cell? ⟨w3.heap.size, o, none⟩ = (#[.int .i64 258, .int .i64 1, .int .i64 10, .int .i64 500, .int .i64 15, .int .i64 0] : Array Value)[o]?) ∧ w3.heap.size < w4.heap.size ∧ Ext w w4 := ⟨q4_0, l4_0, by repeat (first | (with_reducible exact Ext.refl _) | (with_reducible refine Ext.alloc ?_ _) | (with_reducible apply Ext.setC; focus (simp <;> omega)) | (with_reducible refine Ext.drew ?_) | (with_reducible refine Ext.drewN ?_ _) | (with_reducible refine Ext.trans ?_ (Hid.out ‹Hid (Ext _ _)›)))⟩
  have HS := Lib.hid hs4
  clear hs4
  go_wp2_with fail
  go_region_held3 (fun w' => (∀ o, w'.cell? ⟨w3.heap.size, o, none⟩ = (#[.int .i64 258, .int .i64 1, .int .i64 10, .int .i64 500, .int .i64 15, .int .i64 0] : Array Value)[o]?) ∧ w3.heap.size < w'.heap.size ∧ Ext w w')
    (first | (refine keepH ?_ h; assumption) | (refine keepH HS.out ?_; (repeat (first | (with_reducible exact Ext.refl _) | (with_reducible refine Ext.alloc ?_ _) | (with_reducible apply Ext.setC; focus (simp <;> omega)) | (with_reducible refine Ext.drew ?_) | (with_reducible refine Ext.drewN ?_ _) | (with_reducible refine Ext.trans ?_ (Hid.out ‹Hid (Ext _ _)›)))); done))
    (first | (go_at_call 38; refine (law_single' _ _).mono ?_; rintro e w' ⟨rfl, h⟩) | (go_at_call 19; refine (check_1 _).mono ?_; rintro e w' ⟨rfl, h⟩))
  all_goals
    go_wp2_with fail
    go_ret
    refine ⟨rfl, ?_⟩
    exact (‹(∀ o, World.cell? _ ⟨w3.heap.size, o, none⟩ = _) ∧ _ ∧ Ext w _›).2.2
end Go.Proofs.Ytglifpoiildpfaa
