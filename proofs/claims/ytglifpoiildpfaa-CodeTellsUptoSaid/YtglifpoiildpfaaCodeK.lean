/- code.Print and code.Mark. -/
import Derived.Test.YtglifpoiildpfaaCodeJ
namespace Go.Proofs.Ytglifpoiildpfaa
set_option linter.unusedSimpArgs false
set_option linter.unusedVariables false
open Go Go.RowKit Lb

def printTk (t : Tk) : List UInt8 := if ckTicket t ≠ 0 then [] else codeOf t
def markAll (l : List UInt8) : List UInt8 × Int :=
  if 20 < l.length then ([], 2) else if l = [] ∨ areSigns l = false then ([], 1) else ([markSign l], 0)

set_option maxHeartbeats 1000000 in
theorem code_Print (t : Tk) (w : World) :
    Calls Try.prog 26 #[.agg (tkc t)] w fun e w' => e = .returned (.tuple #[.string (bs (printTk t)), .int .i64 (ckTicket t)]) ∧ Ext w w' := by
  have hc := fun w => ticket_Check t w
  have hx := fun h w => code_Text t h w
  unfold printTk
  by_cases h0 : ckTicket t = 0
  · have hx := hx h0
    rw [h0] at hc ⊢
    rw [if_neg (by simp)]
    generalize codeOf t = C at hx ⊢
    clear h0
    obtain ⟨a, b, c, d, x, f⟩ := t
    simp only [tkc] at hc hx ⊢
    have HC := Lib.hid hc
    have HX := Lib.hid hx
    clear hc hx
    go_enter Try.func26, Try.ntmps26
    go_wp2_with fail
    (refine (HC.out _).mono ?_; rintro e w1 ⟨rfl, h1⟩; have H1 := Lib.hid h1; have hz1 := h1.size; clear h1; (try simp only [World.size_alloc, size_set, World.heap_drewN, size_drew] at hz1); apply Row.use (w := w1) (g := w.heap.size); (focus (repeat (first | (with_reducible exact Hid.out ‹Hid (Row _ _ _)›) | (with_reducible exact Row.newAt rfl) | (with_reducible apply Row.newAt; (simp; done)) | (with_reducible apply Row.set_) | (with_reducible apply Row.far; focus (simp <;> omega)) | (with_reducible apply Row.alloc) | (with_reducible apply Row.drew) | (with_reducible apply Row.drewN) | (with_reducible apply Row.ext (Hid.out ‹Hid (Ext _ _)›))))); intro q1_0 f1_0 l1_0 R1_0; (try simp only [List.setIfInBounds_toArray, List.set_cons_zero, List.set_cons_succ] at q1_0 R1_0))
    go_wp2_with fail
    (refine (HX.out _).mono ?_; rintro e w2 ⟨rfl, h2⟩; have H2 := Lib.hid h2; have hz2 := h2.size; clear h2; (try simp only [World.size_alloc, size_set, World.heap_drewN, size_drew] at hz2); apply Row.use (w := w2) (g := w.heap.size); (focus (repeat (first | (with_reducible exact Hid.out ‹Hid (Row _ _ _)›) | (with_reducible exact Row.newAt rfl) | (with_reducible apply Row.newAt; (simp; done)) | (with_reducible apply Row.set_) | (with_reducible apply Row.far; focus (simp <;> omega)) | (with_reducible apply Row.alloc) | (with_reducible apply Row.drew) | (with_reducible apply Row.drewN) | (with_reducible apply Row.ext (Hid.out ‹Hid (Ext _ _)›))))); intro q2_0 f2_0 l2_0 R2_0; (try simp only [List.setIfInBounds_toArray, List.set_cons_zero, List.set_cons_succ] at q2_0 R2_0))
    go_wp2_with fail
    go_ret2
    refine ⟨rfl, ?_⟩
    repeat (first | (with_reducible exact Ext.refl _) | (with_reducible refine Ext.alloc ?_ _) | (with_reducible apply Ext.setC; focus (simp <;> omega)) | (with_reducible refine Ext.drew ?_) | (with_reducible refine Ext.drewN ?_ _) | (with_reducible refine Ext.trans ?_ (Hid.out ‹Hid (Ext _ _)›)))
  · rw [if_pos h0]
    have hb : (ckTicket t != 0) = true := by simpa using h0
    generalize ckTicket t = q at hc hb ⊢
    clear h0 hx
    obtain ⟨a, b, c, d, x, f⟩ := t
    simp only [tkc] at hc ⊢
    have HC := Lib.hid hc
    clear hc
    go_enter Try.func26, Try.ntmps26
    go_wp2_with fail
    (refine (HC.out _).mono ?_; rintro e w1 ⟨rfl, h1⟩; have H1 := Lib.hid h1; have hz1 := h1.size; clear h1; (try simp only [World.size_alloc, size_set, World.heap_drewN, size_drew] at hz1); apply Row.use (w := w1) (g := w.heap.size); (focus (repeat (first | (with_reducible exact Hid.out ‹Hid (Row _ _ _)›) | (with_reducible exact Row.newAt rfl) | (with_reducible apply Row.newAt; (simp; done)) | (with_reducible apply Row.set_) | (with_reducible apply Row.far; focus (simp <;> omega)) | (with_reducible apply Row.alloc) | (with_reducible apply Row.drew) | (with_reducible apply Row.drewN) | (with_reducible apply Row.ext (Hid.out ‹Hid (Ext _ _)›))))); intro q1_0 f1_0 l1_0 R1_0; (try simp only [List.setIfInBounds_toArray, List.set_cons_zero, List.set_cons_succ] at q1_0 R1_0))
    go_wp2_with fail
    go_ret2
    refine ⟨rfl, ?_⟩
    repeat (first | (with_reducible exact Ext.refl _) | (with_reducible refine Ext.alloc ?_ _) | (with_reducible apply Ext.setC; focus (simp <;> omega)) | (with_reducible refine Ext.drew ?_) | (with_reducible refine Ext.drewN ?_ _) | (with_reducible refine Ext.trans ?_ (Hid.out ‹Hid (Ext _ _)›)))

set_option maxHeartbeats 1000000 in
theorem code_Mark (l : List UInt8) (hm : l.length ≤ 9223372036854775807) (w : World) :
    Calls Try.prog 28 #[.string (bs l)] w fun e w' => e = .returned (.tuple #[.string (bs (markAll l).1), .int .i64 (markAll l).2]) ∧ Ext w w' := by
  have hsz := bs_size l
  unfold markAll
  by_cases hl : 20 < l.length
  · rw [if_pos hl]
    have hl' : ((20 : Int) < (l.length : Int)) := by omega
    go_enter Try.func28, Try.ntmps28
    go_wp2_with fail
    go_ret2
    exact ⟨rfl, Ext.refl _⟩
  · rw [if_neg hl]
    have hl' : ¬ ((20 : Int) < (l.length : Int)) := by omega
    have hv := fun w => code_values l (by omega) w
    cases ha : areSigns l with
    | false =>
      rw [if_pos (.inr rfl)]
      rw [ha] at hv
      have HV := Lib.hid hv
      clear hv ha
      go_enter Try.func28, Try.ntmps28
      go_wp2_with fail
      refine (HV.out _).mono ?_
      rintro e w1 ⟨h1, ⟨-, rfl⟩ | ⟨h2, -⟩⟩
      case inr => exact absurd h2 (by decide)
      have H1 := Lib.hid h1
      clear h1
      go_wp2_with fail
      go_ret2
      refine ⟨rfl, ?_⟩
      repeat (first | (with_reducible exact Ext.refl _) | (with_reducible refine Ext.alloc ?_ _) | (with_reducible apply Ext.setC; focus (simp <;> omega)) | (with_reducible refine Ext.drew ?_) | (with_reducible refine Ext.drewN ?_ _) | (with_reducible refine Ext.trans ?_ (Hid.out ‹Hid (Ext _ _)›)))
    | true =>
      rw [ha] at hv
      have hmk := code_mark l (by omega) ha
      have HV := Lib.hid hv
      have HMK := Lib.hid hmk
      have hem : (bs l).toList.isEmpty = decide (l = []) := by
        cases l with
        | nil => exact bs_nil
        | cons c l => rw [bs_cons]; simp
      clear hv ha hmk
      by_cases hn : l = []
      · rw [decide_eq_true hn] at hem
        rw [if_pos (.inl hn)]
        clear hn
        go_enter Try.func28, Try.ntmps28
        go_wp2_with fail
        refine (HV.out _).mono ?_
        rintro e w1 ⟨h1, ⟨h2, -⟩ | ⟨-, v, rfl, -⟩⟩
        · exact absurd h2 (by decide)
        have H1 := Lib.hid h1
        clear h1
        go_wp2_with fail
        go_ret2
        refine ⟨rfl, ?_⟩
        repeat (first | (with_reducible exact Ext.refl _) | (with_reducible refine Ext.alloc ?_ _) | (with_reducible apply Ext.setC; focus (simp <;> omega)) | (with_reducible refine Ext.drew ?_) | (with_reducible refine Ext.drewN ?_ _) | (with_reducible refine Ext.trans ?_ (Hid.out ‹Hid (Ext _ _)›)))
      · rw [decide_eq_false hn] at hem
        rw [if_neg (by simp [hn])]
        clear hn
        generalize markSign l = mk at HMK ⊢
        go_enter Try.func28, Try.ntmps28
        go_wp2_with fail
        refine (HV.out _).mono ?_
        rintro e w1 ⟨h1, ⟨h2, -⟩ | ⟨-, v, rfl, -⟩⟩
        · exact absurd h2 (by decide)
        have H1 := Lib.hid h1
        clear h1
        go_wp2_with fail
        refine (HMK.out _).mono ?_
        rintro e w2 ⟨rfl, h2⟩
        have H2 := Lib.hid h2
        clear h2
        go_wp2_with fail
        go_ret2
        refine ⟨rfl, ?_⟩
        repeat (first | (with_reducible exact Ext.refl _) | (with_reducible refine Ext.alloc ?_ _) | (with_reducible apply Ext.setC; focus (simp <;> omega)) | (with_reducible refine Ext.drew ?_) | (with_reducible refine Ext.drewN ?_ _) | (with_reducible refine Ext.trans ?_ (Hid.out ‹Hid (Ext _ _)›)))
end Go.Proofs.Ytglifpoiildpfaa
