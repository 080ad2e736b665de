/- The judge's answer, and rule.Raw; the references' JudgeOf. -/
import Derived.Test.YtbboonepfmkgnaaRuleD
import Derived.StillTailTactics
namespace Go.Proofs.Ytbboonepfmkgnaa
set_option linter.unusedSimpArgs false
set_option linter.unusedVariables false
set_option maxRecDepth 100000
open Go Go.RowKit Lb

theorem judge_eq (t : Tk) (last : Option Int) (rides : Int) (p : Tp) : judge t last rides p =
    if place t p.time p.zone ≠ 0 then (3, place t p.time p.zone) else if goesOn last p.time = true then (2, 0) else if spentB t rides = true then (3, 10) else (1, 0) := by
  simp only [judge, spentB, decide_eq_true_eq]

set_option maxHeartbeats 2000000 in
theorem judge_say (t : Tk) (la : Option Addr) (last : Option Int) (rides : Int) (p : Tp) (g : Nat) (w : World) (hr : Row w g (jgc t la rides)) (h0 : 0 ≤ t.zones) (h1 : t.zones < 16) (hz : isZone p.zone = true)
    (hgo : ∀ w1, Ext w w1 → Calls Try.prog 109 #[.pointer (some ⟨g, 0, none⟩), .int .i64 p.time] w1 fun e w' => e = .returned (.bool (goesOn last p.time)) ∧ Ext w1 w') :
    Calls Try.prog 94 #[.pointer (some ⟨g, 0, none⟩), .agg (tpc p)] w fun e w' => e = .returned (.tuple #[.int .i64 (judge t last rides p).1, .int .i64 (judge t last rides p).2]) ∧ Ext w w' := by
  have hpl := fun w => rule_Place t p.time p.zone w h0 h1 hz
  have hsp := fun w h => judge_spent t la rides g w h
  rw [judge_eq]
  generalize place t p.time p.zone = r at hpl
  generalize goesOn last p.time = gb at hgo
  generalize spentB t rides = sb at hsp
  generalize hres : (if r ≠ 0 then ((3 : Int), r) else if gb = true then (2, 0) else if sb = true then (3, 10) else (1, 0)) = res
  have HQ := Lib.hid hres
  clear hres
  obtain ⟨a, b, c, d, x, f⟩ := t
  obtain ⟨pt, pg, ps, pti, pz⟩ := p
  have hq := hr.2.1
  have hfz := hr.2.2
  have hlt := hr.1
  have hlt1 : g < w.heap.size + 1 := by omega
  have HR := Lib.hid hr
  unfold jgc at hq
  unfold tkc at hpl
  unfold tpc
  simp only at hpl hgo
  have HP := Lib.hid hpl
  have HG := Lib.hid hgo
  have HS := Lib.hid hsp
  clear hpl hgo hsp hr h0 h1 hz
  go_enter Try.func94, Try.ntmps94
  go_wp2_with fail
  have hqa : ∀ o, (w.alloc (.cells #[.int .i64 pt, .int .i64 pg, .int .i64 ps, .int .i64 pti, .int .i64 pz] 30)).cell? ⟨g, o, none⟩ = (#[.int .i64 a, .int .i64 b, .int .i64 c, .int .i64 d, .int .i64 x, .int .i64 f, .pointer la, .int .i64 rides] : Array Value)[o]? := fun o => (cellA hlt).trans (hq o)
  have hqb : ∀ o, (w.alloc (.cells #[.int .i64 pt, .int .i64 pg, .int .i64 ps, .int .i64 pti, .int .i64 pz] 30)).cell? ⟨w.heap.size, o, none⟩ = (#[.int .i64 pt, .int .i64 pg, .int .i64 ps, .int .i64 pti, .int .i64 pz] : Array Value)[o]? := Row.new.2.1
  generalize hW : w.alloc (.cells #[.int .i64 pt, .int .i64 pg, .int .i64 ps, .int .i64 pti, .int .i64 pz] 30) = W at hqa hqb ⊢
  have HW := Lib.hid hW
  clear hW
  go_still_tail 8, (by kernel_rfl)
  change wpList _ _ _ _ _ W.drew
  have HE0 : Hid (Ext w W.drew) := by rw [← HW.out]; exact ((Ext.refl w).alloc _).drew
  have HRb : Hid (Row W w.heap.size #[.int .i64 pt, .int .i64 pg, .int .i64 ps, .int .i64 pti, .int .i64 pz]) := by rw [← HW.out]; exact Row.new
  generalize hW2 : W.drew = W2 at HE0 ⊢
  have HRb2 : Hid (Row W2 w.heap.size #[.int .i64 pt, .int .i64 pg, .int .i64 ps, .int .i64 pti, .int .i64 pz]) := by rw [← hW2]; exact HRb.out.drew
  have HRa2 : Hid (Row W2 g (jgc ⟨a, b, c, d, x, f⟩ la rides)) := HR.out.ext HE0.out
  clear hW2 hqa hqb hq hfz HRb HW HR
  clear W
  go_wp2_with fail
  (refine (HP.out _).mono ?_; rintro e w1 ⟨rfl, h1⟩; have H1 := Lib.hid h1; have hz1 := h1.size; clear h1; (try simp only [World.size_alloc, size_set, World.heap_drewN, size_drew] at hz1); apply Row.use (w := w1) (g := w.heap.size); (focus (repeat (first | (with_reducible exact Hid.out ‹Hid (Row _ _ _)›) | (with_reducible exact Row.newAt rfl) | (with_reducible apply Row.newAt; (simp; done)) | (with_reducible apply Row.set_) | (with_reducible apply Row.far; focus (simp <;> omega)) | (with_reducible apply Row.alloc) | (with_reducible apply Row.drew) | (with_reducible apply Row.drewN) | (with_reducible apply Row.ext (Hid.out ‹Hid (Ext _ _)›))))); intro q1_0 f1_0 l1_0 R1_0; (try simp only [List.setIfInBounds_toArray, List.set_cons_zero, List.set_cons_succ] at q1_0 R1_0); apply Row.use (w := w1) (g := g); (focus (repeat (first | (with_reducible exact Hid.out ‹Hid (Row _ _ _)›) | (with_reducible exact Row.newAt rfl) | (with_reducible apply Row.newAt; (simp; done)) | (with_reducible apply Row.set_) | (with_reducible apply Row.far; focus (simp <;> omega)) | (with_reducible apply Row.alloc) | (with_reducible apply Row.drew) | (with_reducible apply Row.drewN) | (with_reducible apply Row.ext (Hid.out ‹Hid (Ext _ _)›))))); intro q1_1 f1_1 l1_1 R1_1; (try simp only [List.setIfInBounds_toArray, List.set_cons_zero, List.set_cons_succ] at q1_1 R1_1))
  have Ew1 : Ext w w1 := HE0.out.trans H1.out
  have EwH := Lib.hid Ew1
  by_cases hr0 : r = 0
  · have hrb : (r != 0) = false := by simpa using hr0
    subst hr0
    cases gb
    · cases sb
      · go_wp2_with fail
        refine (HG.out _ Ew1).mono ?_
        rintro e w2 ⟨rfl, h2⟩
        have H2 := Lib.hid h2
        have hR2 := (R1_1.out).ext h2
        have HR2 := Lib.hid hR2
        clear h2 hR2
        go_wp2_with fail
        refine (HS.out _ HR2.out).mono ?_
        rintro e w3 ⟨rfl, h3⟩
        have H3 := Lib.hid h3
        clear h3
        go_wp2_with fail
        go_ret2
        refine ⟨by rw [← HQ.out]; simp_all, ?_⟩
        clear Ew1
        repeat (first | (with_reducible exact Ext.refl _) | (with_reducible refine Ext.alloc ?_ _) | (with_reducible apply Ext.setC; focus (simp <;> omega)) | (with_reducible refine Ext.drew ?_) | (with_reducible refine Ext.drewN ?_ _) | (with_reducible refine Ext.trans ?_ (Hid.out ‹Hid (Ext _ _)›)))
      · go_wp2_with fail
        refine (HG.out _ Ew1).mono ?_
        rintro e w2 ⟨rfl, h2⟩
        have H2 := Lib.hid h2
        have hR2 := (R1_1.out).ext h2
        have HR2 := Lib.hid hR2
        clear h2 hR2
        go_wp2_with fail
        refine (HS.out _ HR2.out).mono ?_
        rintro e w3 ⟨rfl, h3⟩
        have H3 := Lib.hid h3
        clear h3
        go_wp2_with fail
        go_ret2
        refine ⟨by rw [← HQ.out]; simp_all, ?_⟩
        clear Ew1
        repeat (first | (with_reducible exact Ext.refl _) | (with_reducible refine Ext.alloc ?_ _) | (with_reducible apply Ext.setC; focus (simp <;> omega)) | (with_reducible refine Ext.drew ?_) | (with_reducible refine Ext.drewN ?_ _) | (with_reducible refine Ext.trans ?_ (Hid.out ‹Hid (Ext _ _)›)))
    · go_wp2_with fail
      refine (HG.out _ Ew1).mono ?_
      rintro e w2 ⟨rfl, h2⟩
      have H2 := Lib.hid h2
      have hR2 := (R1_1.out).ext h2
      have HR2 := Lib.hid hR2
      clear h2 hR2
      go_wp2_with fail
      go_ret2
      refine ⟨by rw [← HQ.out]; simp_all, ?_⟩
      clear Ew1
      repeat (first | (with_reducible exact Ext.refl _) | (with_reducible refine Ext.alloc ?_ _) | (with_reducible apply Ext.setC; focus (simp <;> omega)) | (with_reducible refine Ext.drew ?_) | (with_reducible refine Ext.drewN ?_ _) | (with_reducible refine Ext.trans ?_ (Hid.out ‹Hid (Ext _ _)›)))
  · have hrb : (r != 0) = true := by simpa using hr0
    go_wp2_with fail
    go_ret2
    refine ⟨by rw [← HQ.out]; simp_all, ?_⟩
    clear Ew1
    repeat (first | (with_reducible exact Ext.refl _) | (with_reducible refine Ext.alloc ?_ _) | (with_reducible apply Ext.setC; focus (simp <;> omega)) | (with_reducible refine Ext.drew ?_) | (with_reducible refine Ext.drewN ?_ _) | (with_reducible refine Ext.trans ?_ (Hid.out ‹Hid (Ext _ _)›)))
end Go.Proofs.Ytbboonepfmkgnaa
