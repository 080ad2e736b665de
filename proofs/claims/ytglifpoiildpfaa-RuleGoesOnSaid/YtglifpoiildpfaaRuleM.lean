/- leeboardlaw.RuleTells answers true. -/
import Derived.Test.YtglifpoiildpfaaRuleL
namespace Go.Proofs.Ytglifpoiildpfaa
set_option linter.unusedSimpArgs false
set_option linter.unusedVariables false
open Go Go.RowKit Lb

theorem ckJ_ok {t : Tk} {was : List Tp} {rides : Int} {p : Tp} (h : ckJudge t was rides p = 0) :
    (0 ≤ t.zones ∧ t.zones < 16) ∧ isZone p.zone = true ∧ (∀ x ∈ was, 0 ≤ x.time ∧ x.time ≤ 9999) := by
  unfold ckJudge at h
  by_cases a1 : ckTicket t = 0
  · by_cases a2 : ckTap p = 0
    · cases a3 : within rides 0 60
      · simp [a1, a2, a3] at h
      · by_cases a4 : eachTap ckTap was = 0
        · exact ⟨zones_ok a1, (tap_ok a2).1, fun x hx => (tap_ok (each_ok a4 x hx)).2⟩
        · simp [a1, a2, a3, a4] at h
    · simp [a1, a2] at h
  · simp [a1] at h

set_option maxRecDepth 100000 in
set_option maxHeartbeats 4000000 in
theorem law_RuleTells (t : Tk) (was : List Tp) (v : Value) (rides : Int) (p : Tp) (w : World) (hr : RdL 5 tpc w v was) :
    Calls Try.prog 6 #[.agg (tkc t), v, .int .i64 rides, .agg (tpc p)] w fun e w' => e = .returned (.bool true) ∧ Ext w w' := by
  have hcj := fun w hr => rule_Judge t was rides p v w hr
  have hcc := fun w hr => ref_CheckJudge t was rides p v w hr
  have hk1 := fun w => rule_Check p w
  have hk2 := fun w => ref_CheckTap p w
  have hj : judgeAll t was rides p = if ckJudge t was rides p ≠ 0 then (0, ckJudge t was rides p) else judge t (lastTime was) rides p := rfl
  have HRd := Lib.hid hr
  clear hr
  by_cases h0 : ckJudge t was rides p = 0
  · rw [if_neg (by simpa using h0)] at hj
    obtain ⟨⟨z0, z1⟩, hz, hw⟩ := ckJ_ok h0
    rw [h0] at hcc
    rw [hj] at hcj
    clear hj h0
    rcases List.eq_nil_or_concat was with rfl | ⟨l', x, hx⟩
    · obtain ⟨v', rfl⟩ : ∃ v', v' = v := ⟨v, rfl⟩
      obtain ⟨A, c, rfl, -, -, -⟩ := HRd.out
      have hjn := fun w => ref_JudgeOf_none t rides p w z0 z1 hz
      rw [show lastTime [] = none from rfl] at hcj
      generalize judge t none rides p = j at hcj hjn
      obtain ⟨j1, j2⟩ := j
      generalize ckTap p = q at hk1 hk2
      obtain ⟨a, b, c1, d, x, f⟩ := t
      obtain ⟨pt, pg, ps, pti, pz⟩ := p
      simp only [tkc, tpc] at hcj hcc hk1 hk2 hjn ⊢
      have HCJ := Lib.hid hcj
      have HCC := Lib.hid hcc
      have HK1 := Lib.hid hk1
      have HK2 := Lib.hid hk2
      have HJN := Lib.hid hjn
      clear hcj hcc hk1 hk2 hjn z0 z1 hz hw
      simp only [List.length_nil]
      go_enter Try.func6, Try.ntmps6
      go_wp2_with fail
      (refine (HCJ.out _ (HRd.out.ext (((Ext.refl w).alloc _).alloc _))).mono ?_; rintro e w1 ⟨rfl, h1⟩; have H1 := Lib.hid h1; have hz1 := h1.size; clear h1; (try simp only [World.size_alloc, size_set, World.heap_drewN, size_drew] at hz1); apply Row.use (w := w1) (g := w.heap.size); (focus (repeat (first | (with_reducible exact Hid.out ‹Hid (Row _ _ _)›) | (with_reducible exact Row.newAt rfl) | (with_reducible apply Row.newAt; (simp; done)) | (with_reducible apply Row.set_) | (with_reducible apply Row.far; focus (simp <;> omega)) | (with_reducible apply Row.alloc) | (with_reducible apply Row.drew) | (with_reducible apply Row.drewN) | (with_reducible apply Row.ext (Hid.out ‹Hid (Ext _ _)›))))); intro q1_0 f1_0 l1_0 R1_0; (try simp only [List.setIfInBounds_toArray, List.set_cons_zero, List.set_cons_succ] at q1_0 R1_0); apply Row.use (w := w1) (g := w.heap.size + 1); (focus (repeat (first | (with_reducible exact Hid.out ‹Hid (Row _ _ _)›) | (with_reducible exact Row.newAt rfl) | (with_reducible apply Row.newAt; (simp; done)) | (with_reducible apply Row.set_) | (with_reducible apply Row.far; focus (simp <;> omega)) | (with_reducible apply Row.alloc) | (with_reducible apply Row.drew) | (with_reducible apply Row.drewN) | (with_reducible apply Row.ext (Hid.out ‹Hid (Ext _ _)›))))); intro q1_1 f1_1 l1_1 R1_1; (try simp only [List.setIfInBounds_toArray, List.set_cons_zero, List.set_cons_succ] at q1_1 R1_1))
      go_wp2_with fail
      (refine (HCC.out _ (HRd.out.ext ((((Ext.refl w).alloc _).alloc _).trans H1.out))).mono ?_; rintro e w2 ⟨rfl, h2⟩; have H2 := Lib.hid h2; have hz2 := h2.size; clear h2; (try simp only [World.size_alloc, size_set, World.heap_drewN, size_drew] at hz2); apply Row.use (w := w2) (g := w.heap.size); (focus (repeat (first | (with_reducible exact Hid.out ‹Hid (Row _ _ _)›) | (with_reducible exact Row.newAt rfl) | (with_reducible apply Row.newAt; (simp; done)) | (with_reducible apply Row.set_) | (with_reducible apply Row.far; focus (simp <;> omega)) | (with_reducible apply Row.alloc) | (with_reducible apply Row.drew) | (with_reducible apply Row.drewN) | (with_reducible apply Row.ext (Hid.out ‹Hid (Ext _ _)›))))); intro q2_0 f2_0 l2_0 R2_0; (try simp only [List.setIfInBounds_toArray, List.set_cons_zero, List.set_cons_succ] at q2_0 R2_0); apply Row.use (w := w2) (g := w.heap.size + 1); (focus (repeat (first | (with_reducible exact Hid.out ‹Hid (Row _ _ _)›) | (with_reducible exact Row.newAt rfl) | (with_reducible apply Row.newAt; (simp; done)) | (with_reducible apply Row.set_) | (with_reducible apply Row.far; focus (simp <;> omega)) | (with_reducible apply Row.alloc) | (with_reducible apply Row.drew) | (with_reducible apply Row.drewN) | (with_reducible apply Row.ext (Hid.out ‹Hid (Ext _ _)›))))); intro q2_1 f2_1 l2_1 R2_1; (try simp only [List.setIfInBounds_toArray, List.set_cons_zero, List.set_cons_succ] at q2_1 R2_1))
      go_wp2_with fail
      (refine (HJN.out _).mono ?_; rintro e w3 ⟨rfl, h3⟩; have H3 := Lib.hid h3; have hz3 := h3.size; clear h3; (try simp only [World.size_alloc, size_set, World.heap_drewN, size_drew] at hz3); apply Row.use (w := w3) (g := w.heap.size); (focus (repeat (first | (with_reducible exact Hid.out ‹Hid (Row _ _ _)›) | (with_reducible exact Row.newAt rfl) | (with_reducible apply Row.newAt; (simp; done)) | (with_reducible apply Row.set_) | (with_reducible apply Row.far; focus (simp <;> omega)) | (with_reducible apply Row.alloc) | (with_reducible apply Row.drew) | (with_reducible apply Row.drewN) | (with_reducible apply Row.ext (Hid.out ‹Hid (Ext _ _)›))))); intro q3_0 f3_0 l3_0 R3_0; (try simp only [List.setIfInBounds_toArray, List.set_cons_zero, List.set_cons_succ] at q3_0 R3_0); apply Row.use (w := w3) (g := w.heap.size + 1); (focus (repeat (first | (with_reducible exact Hid.out ‹Hid (Row _ _ _)›) | (with_reducible exact Row.newAt rfl) | (with_reducible apply Row.newAt; (simp; done)) | (with_reducible apply Row.set_) | (with_reducible apply Row.far; focus (simp <;> omega)) | (with_reducible apply Row.alloc) | (with_reducible apply Row.drew) | (with_reducible apply Row.drewN) | (with_reducible apply Row.ext (Hid.out ‹Hid (Ext _ _)›))))); intro q3_1 f3_1 l3_1 R3_1; (try simp only [List.setIfInBounds_toArray, List.set_cons_zero, List.set_cons_succ] at q3_1 R3_1))
      go_wp2_with fail
      have hs4 : (∀ o, w3.cell? ⟨w.heap.size + 1, o, none⟩ = (#[.int .i64 pt, .int .i64 pg, .int .i64 ps, .int .i64 pti, .int .i64 pz] : Array Value)[o]?) ∧ w.heap.size + 1 < w3.heap.size ∧ Ext w w3 := ⟨q3_1, l3_1, by repeat (first | (with_reducible exact Ext.refl _) | (with_reducible refine Ext.alloc ?_ _) | (with_reducible apply Ext.setC; focus (simp <;> omega)) | (with_reducible refine Ext.drew ?_) | (with_reducible refine Ext.drewN ?_ _) | (with_reducible refine Ext.trans ?_ (Hid.out ‹Hid (Ext _ _)›)))⟩
      have HS := Lib.hid hs4
      clear hs4
      go_region_held3 (fun w' => (∀ o, w'.cell? ⟨w.heap.size + 1, o, none⟩ = (#[.int .i64 pt, .int .i64 pg, .int .i64 ps, .int .i64 pti, .int .i64 pz] : Array Value)[o]?) ∧ w.heap.size + 1 < w'.heap.size ∧ Ext w w')
        (first | (refine keepH ?_ h; assumption) | (refine keepH HS.out ?_; (repeat (first | (with_reducible exact Ext.refl _) | (with_reducible refine Ext.alloc ?_ _) | (with_reducible apply Ext.setC; focus (simp <;> omega)) | (with_reducible refine Ext.drew ?_) | (with_reducible refine Ext.drewN ?_ _) | (with_reducible refine Ext.trans ?_ (Hid.out ‹Hid (Ext _ _)›)))); done))
        (first | (go_at_call 23; refine (law_ruleBegun _).mono ?_; rintro e w' ⟨rfl, h⟩) | (go_at_call 24; refine (HK1.out _).mono ?_; rintro e w' ⟨rfl, h⟩) | (go_at_call 25; refine (HK2.out _).mono ?_; rintro e w' ⟨rfl, h⟩))
      all_goals
        go_wp2_with fail
        go_ret
        refine ⟨rfl, ?_⟩
        exact (‹(∀ o, World.cell? _ ⟨w.heap.size + 1, o, none⟩ = _) ∧ _ ∧ Ext w _›).2.2
    · obtain ⟨v', rfl⟩ : ∃ v', v' = v := ⟨v, rfl⟩
      rw [List.concat_eq_append] at hx
      have hl : was.length = l'.length + 1 := by rw [hx]; simp
      have hlx : was[l'.length]! = x := by rw [hx]; simp
      have hxw := hw x (by rw [hx]; simp)
      have hlt : lastTime was = some x.time := by rw [hx]; simp [lastTime]
      obtain ⟨A, c, rfl, hm1, hm2, h3⟩ := HRd.out
      have hm : (l'.length : Int) + 1 ≤ 9223372036854775807 := by unfold maxLen at hm2; omega
      have hjn := fun w => ref_JudgeOf_some t x.time rides p w z0 z1 hz hxw.1 hxw.2
      rw [hlt] at hcj
      obtain ⟨b', o, rfl, hb, hc⟩ := h3 (by omega)
      have hc := hc l'.length (by omega) 3 (.int .i64 x.time) (by rw [hlx]; rfl)
      generalize judge t (some x.time) rides p = j at hcj hjn
      obtain ⟨j1, j2⟩ := j
      generalize ckTap p = q at hk1 hk2
      generalize x.time = xt at hc hjn
      have HRe : Hid (∀ W, Ext w W → RdL 5 tpc W (.slice (some ⟨b', o, none⟩) (l'.length + 1) c) was) := by
        intro W hE
        rw [← hl]
        exact HRd.out.ext hE
      clear hlx hxw hlt hx hm1 hm2 h3 hw
      rw [hl] at hcj hcc ⊢
      clear hl HRd
      generalize l'.length = n at *
      obtain ⟨a, b, c1, d, x0, f⟩ := t
      obtain ⟨pt, pg, ps, pti, pz⟩ := p
      simp only [tkc, tpc] at hcj hcc hk1 hk2 hjn ⊢
      have HCJ := Lib.hid hcj
      have HCC := Lib.hid hcc
      have HK1 := Lib.hid hk1
      have HK2 := Lib.hid hk2
      have HJN := Lib.hid hjn
      clear hcj hcc hk1 hk2 hjn z0 z1 hz
      go_enter Try.func6, Try.ntmps6
      go_wp2_with fail
      (refine (HCJ.out _ (HRe.out _ (((Ext.refl w).alloc _).alloc _))).mono ?_; rintro e w1 ⟨rfl, h1⟩; have H1 := Lib.hid h1; have hz1 := h1.size; clear h1; (try simp only [World.size_alloc, size_set, World.heap_drewN, size_drew] at hz1); apply Row.use (w := w1) (g := w.heap.size); (focus (repeat (first | (with_reducible exact Hid.out ‹Hid (Row _ _ _)›) | (with_reducible exact Row.newAt rfl) | (with_reducible apply Row.newAt; (simp; done)) | (with_reducible apply Row.set_) | (with_reducible apply Row.far; focus (simp <;> omega)) | (with_reducible apply Row.alloc) | (with_reducible apply Row.drew) | (with_reducible apply Row.drewN) | (with_reducible apply Row.ext (Hid.out ‹Hid (Ext _ _)›))))); intro q1_0 f1_0 l1_0 R1_0; (try simp only [List.setIfInBounds_toArray, List.set_cons_zero, List.set_cons_succ] at q1_0 R1_0); apply Row.use (w := w1) (g := w.heap.size + 1); (focus (repeat (first | (with_reducible exact Hid.out ‹Hid (Row _ _ _)›) | (with_reducible exact Row.newAt rfl) | (with_reducible apply Row.newAt; (simp; done)) | (with_reducible apply Row.set_) | (with_reducible apply Row.far; focus (simp <;> omega)) | (with_reducible apply Row.alloc) | (with_reducible apply Row.drew) | (with_reducible apply Row.drewN) | (with_reducible apply Row.ext (Hid.out ‹Hid (Ext _ _)›))))); intro q1_1 f1_1 l1_1 R1_1; (try simp only [List.setIfInBounds_toArray, List.set_cons_zero, List.set_cons_succ] at q1_1 R1_1))
      go_wp2_with fail
      (refine (HCC.out _ (HRe.out _ ((((Ext.refl w).alloc _).alloc _).trans H1.out))).mono ?_; rintro e w2 ⟨rfl, h2⟩; have H2 := Lib.hid h2; have hz2 := h2.size; clear h2; (try simp only [World.size_alloc, size_set, World.heap_drewN, size_drew] at hz2); apply Row.use (w := w2) (g := w.heap.size); (focus (repeat (first | (with_reducible exact Hid.out ‹Hid (Row _ _ _)›) | (with_reducible exact Row.newAt rfl) | (with_reducible apply Row.newAt; (simp; done)) | (with_reducible apply Row.set_) | (with_reducible apply Row.far; focus (simp <;> omega)) | (with_reducible apply Row.alloc) | (with_reducible apply Row.drew) | (with_reducible apply Row.drewN) | (with_reducible apply Row.ext (Hid.out ‹Hid (Ext _ _)›))))); intro q2_0 f2_0 l2_0 R2_0; (try simp only [List.setIfInBounds_toArray, List.set_cons_zero, List.set_cons_succ] at q2_0 R2_0); apply Row.use (w := w2) (g := w.heap.size + 1); (focus (repeat (first | (with_reducible exact Hid.out ‹Hid (Row _ _ _)›) | (with_reducible exact Row.newAt rfl) | (with_reducible apply Row.newAt; (simp; done)) | (with_reducible apply Row.set_) | (with_reducible apply Row.far; focus (simp <;> omega)) | (with_reducible apply Row.alloc) | (with_reducible apply Row.drew) | (with_reducible apply Row.drewN) | (with_reducible apply Row.ext (Hid.out ‹Hid (Ext _ _)›))))); intro q2_1 f2_1 l2_1 R2_1; (try simp only [List.setIfInBounds_toArray, List.set_cons_zero, List.set_cons_succ] at q2_1 R2_1))
      have hb2 : b' < w2.heap.size := by omega
      have c3 : w2.cell? ⟨b', o + n * 5 + 3, none⟩ = some (.int .i64 xt) := (((((Ext.refl w).alloc _).alloc _).trans H1.out).trans H2.out).cells b' _ hb |>.trans hc
      go_wp2_with fail
      (refine (HJN.out _).mono ?_; rintro e w3 ⟨rfl, h3⟩; have H3 := Lib.hid h3; have hz3 := h3.size; clear h3; (try simp only [World.size_alloc, size_set, World.heap_drewN, size_drew] at hz3); apply Row.use (w := w3) (g := w.heap.size); (focus (repeat (first | (with_reducible exact Hid.out ‹Hid (Row _ _ _)›) | (with_reducible exact Row.newAt rfl) | (with_reducible apply Row.newAt; (simp; done)) | (with_reducible apply Row.set_) | (with_reducible apply Row.far; focus (simp <;> omega)) | (with_reducible apply Row.alloc) | (with_reducible apply Row.drew) | (with_reducible apply Row.drewN) | (with_reducible apply Row.ext (Hid.out ‹Hid (Ext _ _)›))))); intro q3_0 f3_0 l3_0 R3_0; (try simp only [List.setIfInBounds_toArray, List.set_cons_zero, List.set_cons_succ] at q3_0 R3_0); apply Row.use (w := w3) (g := w.heap.size + 1); (focus (repeat (first | (with_reducible exact Hid.out ‹Hid (Row _ _ _)›) | (with_reducible exact Row.newAt rfl) | (with_reducible apply Row.newAt; (simp; done)) | (with_reducible apply Row.set_) | (with_reducible apply Row.far; focus (simp <;> omega)) | (with_reducible apply Row.alloc) | (with_reducible apply Row.drew) | (with_reducible apply Row.drewN) | (with_reducible apply Row.ext (Hid.out ‹Hid (Ext _ _)›))))); intro q3_1 f3_1 l3_1 R3_1; (try simp only [List.setIfInBounds_toArray, List.set_cons_zero, List.set_cons_succ] at q3_1 R3_1))
      go_wp2_with fail
      have hs4 : (∀ o, w3.cell? ⟨w.heap.size + 1, o, none⟩ = (#[.int .i64 pt, .int .i64 pg, .int .i64 ps, .int .i64 pti, .int .i64 pz] : Array Value)[o]?) ∧ w.heap.size + 1 < w3.heap.size ∧ Ext w w3 := ⟨q3_1, l3_1, by repeat (first | (with_reducible exact Ext.refl _) | (with_reducible refine Ext.alloc ?_ _) | (with_reducible apply Ext.setC; focus (simp <;> omega)) | (with_reducible refine Ext.drew ?_) | (with_reducible refine Ext.drewN ?_ _) | (with_reducible refine Ext.trans ?_ (Hid.out ‹Hid (Ext _ _)›)))⟩
      have HS := Lib.hid hs4
      clear hs4
      go_region_held3 (fun w' => (∀ o, w'.cell? ⟨w.heap.size + 1, o, none⟩ = (#[.int .i64 pt, .int .i64 pg, .int .i64 ps, .int .i64 pti, .int .i64 pz] : Array Value)[o]?) ∧ w.heap.size + 1 < w'.heap.size ∧ Ext w w')
        (first | (refine keepH ?_ h; assumption) | (refine keepH HS.out ?_; (repeat (first | (with_reducible exact Ext.refl _) | (with_reducible refine Ext.alloc ?_ _) | (with_reducible apply Ext.setC; focus (simp <;> omega)) | (with_reducible refine Ext.drew ?_) | (with_reducible refine Ext.drewN ?_ _) | (with_reducible refine Ext.trans ?_ (Hid.out ‹Hid (Ext _ _)›)))); done))
        (first | (go_at_call 23; refine (law_ruleBegun _).mono ?_; rintro e w' ⟨rfl, h⟩) | (go_at_call 24; refine (HK1.out _).mono ?_; rintro e w' ⟨rfl, h⟩) | (go_at_call 25; refine (HK2.out _).mono ?_; rintro e w' ⟨rfl, h⟩))
      all_goals
        go_wp2_with fail
        go_ret
        refine ⟨rfl, ?_⟩
        exact (‹(∀ o, World.cell? _ ⟨w.heap.size + 1, o, none⟩ = _) ∧ _ ∧ Ext w _›).2.2
  · rw [if_pos (by simpa using h0)] at hj
    rw [hj] at hcj
    generalize ckJudge t was rides p = u at hcj hcc h0
    have hu : (u == 0) = false := by simpa using h0
    clear hj h0
    obtain ⟨v', rfl⟩ : ∃ v', v' = v := ⟨v, rfl⟩
    obtain ⟨A, c, rfl, -, -, -⟩ := HRd.out
    generalize ckTap p = q at hk1 hk2
    obtain ⟨a, b, c1, d, x, f⟩ := t
    obtain ⟨pt, pg, ps, pti, pz⟩ := p
    simp only [tkc, tpc] at hcj hcc hk1 hk2 ⊢
    have HCJ := Lib.hid hcj
    have HCC := Lib.hid hcc
    have HK1 := Lib.hid hk1
    have HK2 := Lib.hid hk2
    clear hcj hcc hk1 hk2
    go_enter Try.func6, Try.ntmps6
    go_wp2_with fail
    (refine (HCJ.out _ (HRd.out.ext (((Ext.refl w).alloc _).alloc _))).mono ?_; rintro e w1 ⟨rfl, h1⟩; have H1 := Lib.hid h1; have hz1 := h1.size; clear h1; (try simp only [World.size_alloc, size_set, World.heap_drewN, size_drew] at hz1); apply Row.use (w := w1) (g := w.heap.size); (focus (repeat (first | (with_reducible exact Hid.out ‹Hid (Row _ _ _)›) | (with_reducible exact Row.newAt rfl) | (with_reducible apply Row.newAt; (simp; done)) | (with_reducible apply Row.set_) | (with_reducible apply Row.far; focus (simp <;> omega)) | (with_reducible apply Row.alloc) | (with_reducible apply Row.drew) | (with_reducible apply Row.drewN) | (with_reducible apply Row.ext (Hid.out ‹Hid (Ext _ _)›))))); intro q1_0 f1_0 l1_0 R1_0; (try simp only [List.setIfInBounds_toArray, List.set_cons_zero, List.set_cons_succ] at q1_0 R1_0); apply Row.use (w := w1) (g := w.heap.size + 1); (focus (repeat (first | (with_reducible exact Hid.out ‹Hid (Row _ _ _)›) | (with_reducible exact Row.newAt rfl) | (with_reducible apply Row.newAt; (simp; done)) | (with_reducible apply Row.set_) | (with_reducible apply Row.far; focus (simp <;> omega)) | (with_reducible apply Row.alloc) | (with_reducible apply Row.drew) | (with_reducible apply Row.drewN) | (with_reducible apply Row.ext (Hid.out ‹Hid (Ext _ _)›))))); intro q1_1 f1_1 l1_1 R1_1; (try simp only [List.setIfInBounds_toArray, List.set_cons_zero, List.set_cons_succ] at q1_1 R1_1))
    go_wp2_with fail
    (refine (HCC.out _ (HRd.out.ext ((((Ext.refl w).alloc _).alloc _).trans H1.out))).mono ?_; rintro e w2 ⟨rfl, h2⟩; have H2 := Lib.hid h2; have hz2 := h2.size; clear h2; (try simp only [World.size_alloc, size_set, World.heap_drewN, size_drew] at hz2); apply Row.use (w := w2) (g := w.heap.size); (focus (repeat (first | (with_reducible exact Hid.out ‹Hid (Row _ _ _)›) | (with_reducible exact Row.newAt rfl) | (with_reducible apply Row.newAt; (simp; done)) | (with_reducible apply Row.set_) | (with_reducible apply Row.far; focus (simp <;> omega)) | (with_reducible apply Row.alloc) | (with_reducible apply Row.drew) | (with_reducible apply Row.drewN) | (with_reducible apply Row.ext (Hid.out ‹Hid (Ext _ _)›))))); intro q2_0 f2_0 l2_0 R2_0; (try simp only [List.setIfInBounds_toArray, List.set_cons_zero, List.set_cons_succ] at q2_0 R2_0); apply Row.use (w := w2) (g := w.heap.size + 1); (focus (repeat (first | (with_reducible exact Hid.out ‹Hid (Row _ _ _)›) | (with_reducible exact Row.newAt rfl) | (with_reducible apply Row.newAt; (simp; done)) | (with_reducible apply Row.set_) | (with_reducible apply Row.far; focus (simp <;> omega)) | (with_reducible apply Row.alloc) | (with_reducible apply Row.drew) | (with_reducible apply Row.drewN) | (with_reducible apply Row.ext (Hid.out ‹Hid (Ext _ _)›))))); intro q2_1 f2_1 l2_1 R2_1; (try simp only [List.setIfInBounds_toArray, List.set_cons_zero, List.set_cons_succ] at q2_1 R2_1))
    go_wp2_with fail
    have hs4 : (∀ o, w2.cell? ⟨w.heap.size + 1, o, none⟩ = (#[.int .i64 pt, .int .i64 pg, .int .i64 ps, .int .i64 pti, .int .i64 pz] : Array Value)[o]?) ∧ w.heap.size + 1 < w2.heap.size ∧ Ext w w2 := ⟨q2_1, l2_1, by repeat (first | (with_reducible exact Ext.refl _) | (with_reducible refine Ext.alloc ?_ _) | (with_reducible apply Ext.setC; focus (simp <;> omega)) | (with_reducible refine Ext.drew ?_) | (with_reducible refine Ext.drewN ?_ _) | (with_reducible refine Ext.trans ?_ (Hid.out ‹Hid (Ext _ _)›)))⟩
    have HS := Lib.hid hs4
    clear hs4
    go_region_held3 (fun w' => (∀ o, w'.cell? ⟨w.heap.size + 1, o, none⟩ = (#[.int .i64 pt, .int .i64 pg, .int .i64 ps, .int .i64 pti, .int .i64 pz] : Array Value)[o]?) ∧ w.heap.size + 1 < w'.heap.size ∧ Ext w w')
      (first | (refine keepH ?_ h; assumption) | (refine keepH HS.out ?_; (repeat (first | (with_reducible exact Ext.refl _) | (with_reducible refine Ext.alloc ?_ _) | (with_reducible apply Ext.setC; focus (simp <;> omega)) | (with_reducible refine Ext.drew ?_) | (with_reducible refine Ext.drewN ?_ _) | (with_reducible refine Ext.trans ?_ (Hid.out ‹Hid (Ext _ _)›)))); done))
      (first | (go_at_call 23; refine (law_ruleBegun _).mono ?_; rintro e w' ⟨rfl, h⟩) | (go_at_call 24; refine (HK1.out _).mono ?_; rintro e w' ⟨rfl, h⟩) | (go_at_call 25; refine (HK2.out _).mono ?_; rintro e w' ⟨rfl, h⟩))
    all_goals
      go_wp2_with fail
      go_ret
      refine ⟨rfl, ?_⟩
      exact (‹(∀ o, World.cell? _ ⟨w.heap.size + 1, o, none⟩ = _) ∧ _ ∧ Ext w _›).2.2
end Go.Proofs.Ytglifpoiildpfaa
