/- rule.Judge answers as the plain judgeAll. -/
import Derived.Test.YtglifpoiildpfaaRuleI
import Derived.Test.YtglifpoiildpfaaTickI
namespace Go.Proofs.Ytglifpoiildpfaa
set_option linter.unusedSimpArgs false
set_option linter.unusedVariables false
open Go Go.RowKit Lb

theorem tap_ok {p : Tp} (h : ckTap p = 0) : isZone p.zone = true ∧ 0 ≤ p.time ∧ p.time ≤ 9999 := by
  unfold ckTap at h
  by_cases hz : isZone p.zone = true
  · refine ⟨hz, ?_⟩
    split at h
    · simp at h
    · rename_i hh
      simp [within] at hh
      omega
  · simp [hz] at h
    split at h <;> simp at h
theorem each_ok {f : Tp → Int} {l : List Tp} (h : eachTap f l = 0) : ∀ x ∈ l, f x = 0 := by
  induction l with
  | nil => simp
  | cons a l ih =>
    simp only [eachTap] at h
    by_cases ha : f a = 0
    · simp only [ha, ne_eq, not_true_eq_false, if_false] at h
      intro x hx
      rcases List.mem_cons.1 hx with rfl | hx
      · exact ha
      · exact ih h x hx
    · simp only [ne_eq, ha, not_false_eq_true, if_true] at h
theorem zones_ok {t : Tk} (h : ckTicket t = 0) : 0 ≤ t.zones ∧ t.zones < 16 := by
  have := small_of_ok h
  exact ⟨this.2.2.2.2.2.2.2.2.1, this.2.2.2.2.2.2.2.2.2.1⟩

set_option maxRecDepth 100000 in
set_option maxHeartbeats 4000000 in
theorem rule_Judge (t : Tk) (was : List Tp) (rides : Int) (p : Tp) (v : Value) (w : World) (hr : RdL 5 tpc w v was) :
    Calls Try.prog 20 #[.agg (tkc t), v, .int .i64 rides, .agg (tpc p)] w fun e w' => e = .returned (.tuple #[.int .i64 (judgeAll t was rides p).1, .int .i64 (judgeAll t was rides p).2]) ∧ Ext w w' := by
  have hc1 := fun w => ticket_Check t w
  have hc2 := fun w => rule_Check p w
  have hc4 := fun w h => rule_Each_Check was v w h
  have hc5 := fun g w h hg => judge_other p g t.id w h hg
  have hc6 := fun g w (h : ∀ W, Ext w W → W.cell? ⟨g, 0, none⟩ = some (.int .i64 t.id)) (hg : g < w.heap.size) (hr : RdL 5 tpc w v was) =>
    ContainsFunc_tap (fun x => x.ticket != t.id) 42 #[.pointer (some ⟨g, 0, none⟩)] (fun args w => by simp [go_sem]) was v w hr
      (fun W x hE => by
        rw [show (#[.agg (tpc x)] ++ #[.pointer (some ⟨g, 0, none⟩)] : Array Value) = #[.agg (tpc x), .pointer (some ⟨g, 0, none⟩)] from rfl]
        exact judge_other x g t.id W (h W hE) (Nat.lt_of_lt_of_le hg hE.size))
  have hc7 := fun (h1 : ckTicket t = 0) (h2 : ckTap p = 0) (h4 : eachTap ckTap was = 0) w (hr : RdL 5 tpc w v was) =>
    rule_Raw t was rides p v w hr (zones_ok h1).1 (zones_ok h1).2 (tap_ok h2).1 (tap_ok h2).2.1 (tap_ok h2).2.2 (fun x hx => (tap_ok (each_ok h4 x hx)).2)
  have hj : judgeAll t was rides p = if ckTicket t ≠ 0 then (0, ckTicket t) else if ckTap p ≠ 0 then (0, ckTap p) else if within rides 0 60 = false then (0, 3) else if eachTap ckTap was ≠ 0 then (0, eachTap ckTap was)
      else if (p.ticket != t.id) = true then (0, 4) else if (was.any fun x => x.ticket != t.id) = true then (0, 4) else judge t (lastTime was) rides p := by
    unfold judgeAll ckJudge
    by_cases a1 : ckTicket t = 0 <;> by_cases a2 : ckTap p = 0 <;> cases a3 : within rides 0 60 <;> by_cases a4 : eachTap ckTap was = 0 <;> by_cases a5 : p.ticket = t.id <;> cases a6 : (was.any fun x => x.ticket != t.id) <;> simp [a1, a2, a3, a4, a5, a6]
  have HJ := Lib.hid hj
  have HRd := Lib.hid hr
  have hw3 := fun w => rule_within rides 0 60 w
  clear hj hr
  generalize judgeAll t was rides p = res at HJ ⊢
  obtain ⟨v', rfl⟩ : ∃ v', v' = v := ⟨v, rfl⟩
  obtain ⟨A, c, rfl, -, -, -⟩ := HRd.out
  by_cases a1 : ckTicket t = 0
  · by_cases a2 : ckTap p = 0
    · cases a3 : within rides 0 60 with
      | false =>
        rw [if_neg (by simpa using a1), if_neg (by simpa using a2), if_pos a3] at HJ
        rw [a1] at hc1
        rw [a2] at hc2
        rw [a3] at hw3
        clear hc4 hc5 hc6 hc7 a1 a2 a3
        obtain ⟨a, b, c1, d, x, f⟩ := t
        obtain ⟨pt, pg, ps, pti, pz⟩ := p
        unfold tkc at hc1 ⊢
        unfold tpc at hc2 ⊢
        have HC1 := Lib.hid hc1
        have HC2 := Lib.hid hc2
        have HW3 := Lib.hid hw3
        clear hc1 hc2 hw3
        go_enter Try.func20, Try.ntmps20
        go_wp2_with fail
        refine (HC1.out _).mono ?_
        rintro e w1 ⟨rfl, h1⟩
        have H1 := Lib.hid h1
        have hz1 := h1.size
        clear h1
        (try simp only [World.size_alloc, size_set, World.heap_drewN, size_drew] at hz1)
        (apply Row.use (w := w1) (g := w.heap.size); (focus (repeat (first | (with_reducible exact Hid.out ‹Hid (Row _ _ _)›) | (with_reducible exact Row.newAt rfl) | (with_reducible apply Row.newAt; (simp; done)) | (with_reducible apply Row.set_) | (with_reducible apply Row.far; focus (simp <;> omega)) | (with_reducible apply Row.alloc) | (with_reducible apply Row.drew) | (with_reducible apply Row.drewN) | (with_reducible apply Row.ext (Hid.out ‹Hid (Ext _ _)›))))); intro q1_0 f1_0 l1_0 R1_0; (try simp only [List.setIfInBounds_toArray, List.set_cons_zero, List.set_cons_succ] at q1_0 R1_0); apply Row.use (w := w1) (g := w.heap.size + 1); (focus (repeat (first | (with_reducible exact Hid.out ‹Hid (Row _ _ _)›) | (with_reducible exact Row.newAt rfl) | (with_reducible apply Row.newAt; (simp; done)) | (with_reducible apply Row.set_) | (with_reducible apply Row.far; focus (simp <;> omega)) | (with_reducible apply Row.alloc) | (with_reducible apply Row.drew) | (with_reducible apply Row.drewN) | (with_reducible apply Row.ext (Hid.out ‹Hid (Ext _ _)›))))); intro q1_1 f1_1 l1_1 R1_1; (try simp only [List.setIfInBounds_toArray, List.set_cons_zero, List.set_cons_succ] at q1_1 R1_1))
        go_wp2_with fail
        refine (HC2.out _).mono ?_
        rintro e w2 ⟨rfl, h2⟩
        have H2 := Lib.hid h2
        have hz2 := h2.size
        clear h2
        (try simp only [World.size_alloc, size_set, World.heap_drewN, size_drew] at hz2)
        (apply Row.use (w := w2) (g := w.heap.size); (focus (repeat (first | (with_reducible exact Hid.out ‹Hid (Row _ _ _)›) | (with_reducible exact Row.newAt rfl) | (with_reducible apply Row.newAt; (simp; done)) | (with_reducible apply Row.set_) | (with_reducible apply Row.far; focus (simp <;> omega)) | (with_reducible apply Row.alloc) | (with_reducible apply Row.drew) | (with_reducible apply Row.drewN) | (with_reducible apply Row.ext (Hid.out ‹Hid (Ext _ _)›))))); intro q2_0 f2_0 l2_0 R2_0; (try simp only [List.setIfInBounds_toArray, List.set_cons_zero, List.set_cons_succ] at q2_0 R2_0); apply Row.use (w := w2) (g := w.heap.size + 1); (focus (repeat (first | (with_reducible exact Hid.out ‹Hid (Row _ _ _)›) | (with_reducible exact Row.newAt rfl) | (with_reducible apply Row.newAt; (simp; done)) | (with_reducible apply Row.set_) | (with_reducible apply Row.far; focus (simp <;> omega)) | (with_reducible apply Row.alloc) | (with_reducible apply Row.drew) | (with_reducible apply Row.drewN) | (with_reducible apply Row.ext (Hid.out ‹Hid (Ext _ _)›))))); intro q2_1 f2_1 l2_1 R2_1; (try simp only [List.setIfInBounds_toArray, List.set_cons_zero, List.set_cons_succ] at q2_1 R2_1))
        go_wp2_with fail
        refine (HW3.out _).mono ?_
        rintro e wz ⟨rfl, rfl⟩
        go_wp2_with fail
        go_ret2
        refine ⟨by rw [HJ.out]; rfl, ?_⟩
        repeat (first | (with_reducible exact Ext.refl _) | (with_reducible refine Ext.alloc ?_ _) | (with_reducible apply Ext.setC; focus (simp <;> omega)) | (with_reducible refine Ext.drew ?_) | (with_reducible refine Ext.drewN ?_ _) | (with_reducible refine Ext.trans ?_ (Hid.out ‹Hid (Ext _ _)›)))
      | true =>
        rw [a3] at hw3
        by_cases a4 : eachTap ckTap was = 0
        · cases a5 : (p.ticket != t.id) with
          | true =>
            rw [if_neg (by simpa using a1), if_neg (by simpa using a2), if_neg (by simp [a3]), if_neg (by simpa using a4), if_pos a5] at HJ
            rw [a1] at hc1
            rw [a2] at hc2
            rw [a4] at hc4
            rw [a5] at hc5
            clear hc6 hc7 a1 a2 a3 a4 a5
            obtain ⟨a, b, c1, d, x, f⟩ := t
            obtain ⟨pt, pg, ps, pti, pz⟩ := p
            unfold tkc at hc1 ⊢
            unfold tpc at hc2 hc5 ⊢
            have HC1 := Lib.hid hc1
            have HC2 := Lib.hid hc2
            have HW3 := Lib.hid hw3
            have HC4 := Lib.hid hc4
            have HC5 := Lib.hid hc5
            clear hc1 hc2 hw3 hc4 hc5
            go_enter Try.func20, Try.ntmps20
            go_wp2_with fail
            refine (HC1.out _).mono ?_
            rintro e w1 ⟨rfl, h1⟩
            have H1 := Lib.hid h1
            have hz1 := h1.size
            clear h1
            (try simp only [World.size_alloc, size_set, World.heap_drewN, size_drew] at hz1)
            (apply Row.use (w := w1) (g := w.heap.size); (focus (repeat (first | (with_reducible exact Hid.out ‹Hid (Row _ _ _)›) | (with_reducible exact Row.newAt rfl) | (with_reducible apply Row.newAt; (simp; done)) | (with_reducible apply Row.set_) | (with_reducible apply Row.far; focus (simp <;> omega)) | (with_reducible apply Row.alloc) | (with_reducible apply Row.drew) | (with_reducible apply Row.drewN) | (with_reducible apply Row.ext (Hid.out ‹Hid (Ext _ _)›))))); intro q1_0 f1_0 l1_0 R1_0; (try simp only [List.setIfInBounds_toArray, List.set_cons_zero, List.set_cons_succ] at q1_0 R1_0); apply Row.use (w := w1) (g := w.heap.size + 1); (focus (repeat (first | (with_reducible exact Hid.out ‹Hid (Row _ _ _)›) | (with_reducible exact Row.newAt rfl) | (with_reducible apply Row.newAt; (simp; done)) | (with_reducible apply Row.set_) | (with_reducible apply Row.far; focus (simp <;> omega)) | (with_reducible apply Row.alloc) | (with_reducible apply Row.drew) | (with_reducible apply Row.drewN) | (with_reducible apply Row.ext (Hid.out ‹Hid (Ext _ _)›))))); intro q1_1 f1_1 l1_1 R1_1; (try simp only [List.setIfInBounds_toArray, List.set_cons_zero, List.set_cons_succ] at q1_1 R1_1))
            go_wp2_with fail
            refine (HC2.out _).mono ?_
            rintro e w2 ⟨rfl, h2⟩
            have H2 := Lib.hid h2
            have hz2 := h2.size
            clear h2
            (try simp only [World.size_alloc, size_set, World.heap_drewN, size_drew] at hz2)
            (apply Row.use (w := w2) (g := w.heap.size); (focus (repeat (first | (with_reducible exact Hid.out ‹Hid (Row _ _ _)›) | (with_reducible exact Row.newAt rfl) | (with_reducible apply Row.newAt; (simp; done)) | (with_reducible apply Row.set_) | (with_reducible apply Row.far; focus (simp <;> omega)) | (with_reducible apply Row.alloc) | (with_reducible apply Row.drew) | (with_reducible apply Row.drewN) | (with_reducible apply Row.ext (Hid.out ‹Hid (Ext _ _)›))))); intro q2_0 f2_0 l2_0 R2_0; (try simp only [List.setIfInBounds_toArray, List.set_cons_zero, List.set_cons_succ] at q2_0 R2_0); apply Row.use (w := w2) (g := w.heap.size + 1); (focus (repeat (first | (with_reducible exact Hid.out ‹Hid (Row _ _ _)›) | (with_reducible exact Row.newAt rfl) | (with_reducible apply Row.newAt; (simp; done)) | (with_reducible apply Row.set_) | (with_reducible apply Row.far; focus (simp <;> omega)) | (with_reducible apply Row.alloc) | (with_reducible apply Row.drew) | (with_reducible apply Row.drewN) | (with_reducible apply Row.ext (Hid.out ‹Hid (Ext _ _)›))))); intro q2_1 f2_1 l2_1 R2_1; (try simp only [List.setIfInBounds_toArray, List.set_cons_zero, List.set_cons_succ] at q2_1 R2_1))
            go_wp2_with fail
            refine (HW3.out _).mono ?_
            rintro e wz ⟨rfl, rfl⟩
            go_wp2_with fail
            refine (HC4.out _ (HRd.out.ext ?he4e)).mono ?_
            case he4e => repeat (first | (with_reducible exact Ext.refl _) | (with_reducible refine Ext.alloc ?_ _) | (with_reducible apply Ext.setC; focus (simp <;> omega)) | (with_reducible refine Ext.drew ?_) | (with_reducible refine Ext.drewN ?_ _) | (with_reducible refine Ext.trans ?_ (Hid.out ‹Hid (Ext _ _)›)))
            rintro e w4 ⟨rfl, h4⟩
            have H4 := Lib.hid h4
            have hz4 := h4.size
            clear h4
            (try simp only [World.size_alloc, size_set, World.heap_drewN, size_drew] at hz4)
            (apply Row.use (w := w4) (g := w.heap.size); (focus (repeat (first | (with_reducible exact Hid.out ‹Hid (Row _ _ _)›) | (with_reducible exact Row.newAt rfl) | (with_reducible apply Row.newAt; (simp; done)) | (with_reducible apply Row.set_) | (with_reducible apply Row.far; focus (simp <;> omega)) | (with_reducible apply Row.alloc) | (with_reducible apply Row.drew) | (with_reducible apply Row.drewN) | (with_reducible apply Row.ext (Hid.out ‹Hid (Ext _ _)›))))); intro q4_0 f4_0 l4_0 R4_0; (try simp only [List.setIfInBounds_toArray, List.set_cons_zero, List.set_cons_succ] at q4_0 R4_0); apply Row.use (w := w4) (g := w.heap.size + 1); (focus (repeat (first | (with_reducible exact Hid.out ‹Hid (Row _ _ _)›) | (with_reducible exact Row.newAt rfl) | (with_reducible apply Row.newAt; (simp; done)) | (with_reducible apply Row.set_) | (with_reducible apply Row.far; focus (simp <;> omega)) | (with_reducible apply Row.alloc) | (with_reducible apply Row.drew) | (with_reducible apply Row.drewN) | (with_reducible apply Row.ext (Hid.out ‹Hid (Ext _ _)›))))); intro q4_1 f4_1 l4_1 R4_1; (try simp only [List.setIfInBounds_toArray, List.set_cons_zero, List.set_cons_succ] at q4_1 R4_1))
            go_wp2_with fail
            refine (HC5.out _ _ (q4_0 0) l4_0).mono ?_
            rintro e w5 ⟨rfl, h5⟩
            have H5 := Lib.hid h5
            have hz5 := h5.size
            clear h5
            (try simp only [World.size_alloc, size_set, World.heap_drewN, size_drew] at hz5)
            (apply Row.use (w := w5) (g := w.heap.size); (focus (repeat (first | (with_reducible exact Hid.out ‹Hid (Row _ _ _)›) | (with_reducible exact Row.newAt rfl) | (with_reducible apply Row.newAt; (simp; done)) | (with_reducible apply Row.set_) | (with_reducible apply Row.far; focus (simp <;> omega)) | (with_reducible apply Row.alloc) | (with_reducible apply Row.drew) | (with_reducible apply Row.drewN) | (with_reducible apply Row.ext (Hid.out ‹Hid (Ext _ _)›))))); intro q5_0 f5_0 l5_0 R5_0; (try simp only [List.setIfInBounds_toArray, List.set_cons_zero, List.set_cons_succ] at q5_0 R5_0); apply Row.use (w := w5) (g := w.heap.size + 1); (focus (repeat (first | (with_reducible exact Hid.out ‹Hid (Row _ _ _)›) | (with_reducible exact Row.newAt rfl) | (with_reducible apply Row.newAt; (simp; done)) | (with_reducible apply Row.set_) | (with_reducible apply Row.far; focus (simp <;> omega)) | (with_reducible apply Row.alloc) | (with_reducible apply Row.drew) | (with_reducible apply Row.drewN) | (with_reducible apply Row.ext (Hid.out ‹Hid (Ext _ _)›))))); intro q5_1 f5_1 l5_1 R5_1; (try simp only [List.setIfInBounds_toArray, List.set_cons_zero, List.set_cons_succ] at q5_1 R5_1))
            go_wp2_with fail
            go_ret2
            refine ⟨by rw [HJ.out]; rfl, ?_⟩
            repeat (first | (with_reducible exact Ext.refl _) | (with_reducible refine Ext.alloc ?_ _) | (with_reducible apply Ext.setC; focus (simp <;> omega)) | (with_reducible refine Ext.drew ?_) | (with_reducible refine Ext.drewN ?_ _) | (with_reducible refine Ext.trans ?_ (Hid.out ‹Hid (Ext _ _)›)))
          | false =>
            cases a6 : (was.any fun x => x.ticket != t.id) with
            | true =>
              rw [if_neg (by simpa using a1), if_neg (by simpa using a2), if_neg (by simp [a3]), if_neg (by simpa using a4), if_neg (by simp [a5]), if_pos a6] at HJ
              rw [a1] at hc1
              rw [a2] at hc2
              rw [a4] at hc4
              rw [a5] at hc5
              rw [a6] at hc6
              clear hc7 a1 a2 a3 a4 a5 a6
              obtain ⟨a, b, c1, d, x, f⟩ := t
              obtain ⟨pt, pg, ps, pti, pz⟩ := p
              unfold tkc at hc1 ⊢
              unfold tpc at hc2 hc5 ⊢
              have HC1 := Lib.hid hc1
              have HC2 := Lib.hid hc2
              have HW3 := Lib.hid hw3
              have HC4 := Lib.hid hc4
              have HC5 := Lib.hid hc5
              have HC6 := Lib.hid hc6
              clear hc1 hc2 hw3 hc4 hc5 hc6
              go_enter Try.func20, Try.ntmps20
              go_wp2_with fail
              refine (HC1.out _).mono ?_
              rintro e w1 ⟨rfl, h1⟩
              have H1 := Lib.hid h1
              have hz1 := h1.size
              clear h1
              (try simp only [World.size_alloc, size_set, World.heap_drewN, size_drew] at hz1)
              (apply Row.use (w := w1) (g := w.heap.size); (focus (repeat (first | (with_reducible exact Hid.out ‹Hid (Row _ _ _)›) | (with_reducible exact Row.newAt rfl) | (with_reducible apply Row.newAt; (simp; done)) | (with_reducible apply Row.set_) | (with_reducible apply Row.far; focus (simp <;> omega)) | (with_reducible apply Row.alloc) | (with_reducible apply Row.drew) | (with_reducible apply Row.drewN) | (with_reducible apply Row.ext (Hid.out ‹Hid (Ext _ _)›))))); intro q1_0 f1_0 l1_0 R1_0; (try simp only [List.setIfInBounds_toArray, List.set_cons_zero, List.set_cons_succ] at q1_0 R1_0); apply Row.use (w := w1) (g := w.heap.size + 1); (focus (repeat (first | (with_reducible exact Hid.out ‹Hid (Row _ _ _)›) | (with_reducible exact Row.newAt rfl) | (with_reducible apply Row.newAt; (simp; done)) | (with_reducible apply Row.set_) | (with_reducible apply Row.far; focus (simp <;> omega)) | (with_reducible apply Row.alloc) | (with_reducible apply Row.drew) | (with_reducible apply Row.drewN) | (with_reducible apply Row.ext (Hid.out ‹Hid (Ext _ _)›))))); intro q1_1 f1_1 l1_1 R1_1; (try simp only [List.setIfInBounds_toArray, List.set_cons_zero, List.set_cons_succ] at q1_1 R1_1))
              go_wp2_with fail
              refine (HC2.out _).mono ?_
              rintro e w2 ⟨rfl, h2⟩
              have H2 := Lib.hid h2
              have hz2 := h2.size
              clear h2
              (try simp only [World.size_alloc, size_set, World.heap_drewN, size_drew] at hz2)
              (apply Row.use (w := w2) (g := w.heap.size); (focus (repeat (first | (with_reducible exact Hid.out ‹Hid (Row _ _ _)›) | (with_reducible exact Row.newAt rfl) | (with_reducible apply Row.newAt; (simp; done)) | (with_reducible apply Row.set_) | (with_reducible apply Row.far; focus (simp <;> omega)) | (with_reducible apply Row.alloc) | (with_reducible apply Row.drew) | (with_reducible apply Row.drewN) | (with_reducible apply Row.ext (Hid.out ‹Hid (Ext _ _)›))))); intro q2_0 f2_0 l2_0 R2_0; (try simp only [List.setIfInBounds_toArray, List.set_cons_zero, List.set_cons_succ] at q2_0 R2_0); apply Row.use (w := w2) (g := w.heap.size + 1); (focus (repeat (first | (with_reducible exact Hid.out ‹Hid (Row _ _ _)›) | (with_reducible exact Row.newAt rfl) | (with_reducible apply Row.newAt; (simp; done)) | (with_reducible apply Row.set_) | (with_reducible apply Row.far; focus (simp <;> omega)) | (with_reducible apply Row.alloc) | (with_reducible apply Row.drew) | (with_reducible apply Row.drewN) | (with_reducible apply Row.ext (Hid.out ‹Hid (Ext _ _)›))))); intro q2_1 f2_1 l2_1 R2_1; (try simp only [List.setIfInBounds_toArray, List.set_cons_zero, List.set_cons_succ] at q2_1 R2_1))
              go_wp2_with fail
              refine (HW3.out _).mono ?_
              rintro e wz ⟨rfl, rfl⟩
              go_wp2_with fail
              refine (HC4.out _ (HRd.out.ext ?he4f)).mono ?_
              case he4f => repeat (first | (with_reducible exact Ext.refl _) | (with_reducible refine Ext.alloc ?_ _) | (with_reducible apply Ext.setC; focus (simp <;> omega)) | (with_reducible refine Ext.drew ?_) | (with_reducible refine Ext.drewN ?_ _) | (with_reducible refine Ext.trans ?_ (Hid.out ‹Hid (Ext _ _)›)))
              rintro e w4 ⟨rfl, h4⟩
              have H4 := Lib.hid h4
              have hz4 := h4.size
              clear h4
              (try simp only [World.size_alloc, size_set, World.heap_drewN, size_drew] at hz4)
              (apply Row.use (w := w4) (g := w.heap.size); (focus (repeat (first | (with_reducible exact Hid.out ‹Hid (Row _ _ _)›) | (with_reducible exact Row.newAt rfl) | (with_reducible apply Row.newAt; (simp; done)) | (with_reducible apply Row.set_) | (with_reducible apply Row.far; focus (simp <;> omega)) | (with_reducible apply Row.alloc) | (with_reducible apply Row.drew) | (with_reducible apply Row.drewN) | (with_reducible apply Row.ext (Hid.out ‹Hid (Ext _ _)›))))); intro q4_0 f4_0 l4_0 R4_0; (try simp only [List.setIfInBounds_toArray, List.set_cons_zero, List.set_cons_succ] at q4_0 R4_0); apply Row.use (w := w4) (g := w.heap.size + 1); (focus (repeat (first | (with_reducible exact Hid.out ‹Hid (Row _ _ _)›) | (with_reducible exact Row.newAt rfl) | (with_reducible apply Row.newAt; (simp; done)) | (with_reducible apply Row.set_) | (with_reducible apply Row.far; focus (simp <;> omega)) | (with_reducible apply Row.alloc) | (with_reducible apply Row.drew) | (with_reducible apply Row.drewN) | (with_reducible apply Row.ext (Hid.out ‹Hid (Ext _ _)›))))); intro q4_1 f4_1 l4_1 R4_1; (try simp only [List.setIfInBounds_toArray, List.set_cons_zero, List.set_cons_succ] at q4_1 R4_1))
              go_wp2_with fail
              refine (HC5.out _ _ (q4_0 0) l4_0).mono ?_
              rintro e w5 ⟨rfl, h5⟩
              have H5 := Lib.hid h5
              have hz5 := h5.size
              clear h5
              (try simp only [World.size_alloc, size_set, World.heap_drewN, size_drew] at hz5)
              (apply Row.use (w := w5) (g := w.heap.size); (focus (repeat (first | (with_reducible exact Hid.out ‹Hid (Row _ _ _)›) | (with_reducible exact Row.newAt rfl) | (with_reducible apply Row.newAt; (simp; done)) | (with_reducible apply Row.set_) | (with_reducible apply Row.far; focus (simp <;> omega)) | (with_reducible apply Row.alloc) | (with_reducible apply Row.drew) | (with_reducible apply Row.drewN) | (with_reducible apply Row.ext (Hid.out ‹Hid (Ext _ _)›))))); intro q5_0 f5_0 l5_0 R5_0; (try simp only [List.setIfInBounds_toArray, List.set_cons_zero, List.set_cons_succ] at q5_0 R5_0); apply Row.use (w := w5) (g := w.heap.size + 1); (focus (repeat (first | (with_reducible exact Hid.out ‹Hid (Row _ _ _)›) | (with_reducible exact Row.newAt rfl) | (with_reducible apply Row.newAt; (simp; done)) | (with_reducible apply Row.set_) | (with_reducible apply Row.far; focus (simp <;> omega)) | (with_reducible apply Row.alloc) | (with_reducible apply Row.drew) | (with_reducible apply Row.drewN) | (with_reducible apply Row.ext (Hid.out ‹Hid (Ext _ _)›))))); intro q5_1 f5_1 l5_1 R5_1; (try simp only [List.setIfInBounds_toArray, List.set_cons_zero, List.set_cons_succ] at q5_1 R5_1))
              go_wp2_with fail
              refine (HC6.out _ _ (fun W hE => ((R5_0.out).ext hE).2.1 0) l5_0 (HRd.out.ext ?he6f)).mono ?_
              case he6f => repeat (first | (with_reducible exact Ext.refl _) | (with_reducible refine Ext.alloc ?_ _) | (with_reducible apply Ext.setC; focus (simp <;> omega)) | (with_reducible refine Ext.drew ?_) | (with_reducible refine Ext.drewN ?_ _) | (with_reducible refine Ext.trans ?_ (Hid.out ‹Hid (Ext _ _)›)))
              rintro e w6 ⟨rfl, h6⟩
              have H6 := Lib.hid h6
              have hz6 := h6.size
              clear h6
              (try simp only [World.size_alloc, size_set, World.heap_drewN, size_drew] at hz6)
              (apply Row.use (w := w6) (g := w.heap.size); (focus (repeat (first | (with_reducible exact Hid.out ‹Hid (Row _ _ _)›) | (with_reducible exact Row.newAt rfl) | (with_reducible apply Row.newAt; (simp; done)) | (with_reducible apply Row.set_) | (with_reducible apply Row.far; focus (simp <;> omega)) | (with_reducible apply Row.alloc) | (with_reducible apply Row.drew) | (with_reducible apply Row.drewN) | (with_reducible apply Row.ext (Hid.out ‹Hid (Ext _ _)›))))); intro q6_0 f6_0 l6_0 R6_0; (try simp only [List.setIfInBounds_toArray, List.set_cons_zero, List.set_cons_succ] at q6_0 R6_0); apply Row.use (w := w6) (g := w.heap.size + 1); (focus (repeat (first | (with_reducible exact Hid.out ‹Hid (Row _ _ _)›) | (with_reducible exact Row.newAt rfl) | (with_reducible apply Row.newAt; (simp; done)) | (with_reducible apply Row.set_) | (with_reducible apply Row.far; focus (simp <;> omega)) | (with_reducible apply Row.alloc) | (with_reducible apply Row.drew) | (with_reducible apply Row.drewN) | (with_reducible apply Row.ext (Hid.out ‹Hid (Ext _ _)›))))); intro q6_1 f6_1 l6_1 R6_1; (try simp only [List.setIfInBounds_toArray, List.set_cons_zero, List.set_cons_succ] at q6_1 R6_1))
              go_wp2_with fail
              go_ret2
              refine ⟨by rw [HJ.out]; rfl, ?_⟩
              repeat (first | (with_reducible exact Ext.refl _) | (with_reducible refine Ext.alloc ?_ _) | (with_reducible apply Ext.setC; focus (simp <;> omega)) | (with_reducible refine Ext.drew ?_) | (with_reducible refine Ext.drewN ?_ _) | (with_reducible refine Ext.trans ?_ (Hid.out ‹Hid (Ext _ _)›)))
            | false =>
              rw [if_neg (by simpa using a1), if_neg (by simpa using a2), if_neg (by simp [a3]), if_neg (by simpa using a4), if_neg (by simp [a5]), if_neg (by simp [a6])] at HJ
              have hc7' := hc7 a1 a2 a4
              rw [a1] at hc1
              rw [a2] at hc2
              rw [a4] at hc4
              rw [a5] at hc5
              rw [a6] at hc6
              rw [← HJ.out] at hc7'
              clear hc7 a1 a2 a3 a4 a5 a6
              obtain ⟨a, b, c1, d, x, f⟩ := t
              obtain ⟨pt, pg, ps, pti, pz⟩ := p
              unfold tkc at hc1 hc7' ⊢
              unfold tpc at hc2 hc5 hc7' ⊢
              have HC1 := Lib.hid hc1
              have HC2 := Lib.hid hc2
              have HW3 := Lib.hid hw3
              have HC4 := Lib.hid hc4
              have HC5 := Lib.hid hc5
              have HC6 := Lib.hid hc6
              have HC7 := Lib.hid hc7'
              clear hc1 hc2 hw3 hc4 hc5 hc6 hc7'
              go_enter Try.func20, Try.ntmps20
              go_wp2_with fail
              refine (HC1.out _).mono ?_
              rintro e w1 ⟨rfl, h1⟩
              have H1 := Lib.hid h1
              have hz1 := h1.size
              clear h1
              (try simp only [World.size_alloc, size_set, World.heap_drewN, size_drew] at hz1)
              (apply Row.use (w := w1) (g := w.heap.size); (focus (repeat (first | (with_reducible exact Hid.out ‹Hid (Row _ _ _)›) | (with_reducible exact Row.newAt rfl) | (with_reducible apply Row.newAt; (simp; done)) | (with_reducible apply Row.set_) | (with_reducible apply Row.far; focus (simp <;> omega)) | (with_reducible apply Row.alloc) | (with_reducible apply Row.drew) | (with_reducible apply Row.drewN) | (with_reducible apply Row.ext (Hid.out ‹Hid (Ext _ _)›))))); intro q1_0 f1_0 l1_0 R1_0; (try simp only [List.setIfInBounds_toArray, List.set_cons_zero, List.set_cons_succ] at q1_0 R1_0); apply Row.use (w := w1) (g := w.heap.size + 1); (focus (repeat (first | (with_reducible exact Hid.out ‹Hid (Row _ _ _)›) | (with_reducible exact Row.newAt rfl) | (with_reducible apply Row.newAt; (simp; done)) | (with_reducible apply Row.set_) | (with_reducible apply Row.far; focus (simp <;> omega)) | (with_reducible apply Row.alloc) | (with_reducible apply Row.drew) | (with_reducible apply Row.drewN) | (with_reducible apply Row.ext (Hid.out ‹Hid (Ext _ _)›))))); intro q1_1 f1_1 l1_1 R1_1; (try simp only [List.setIfInBounds_toArray, List.set_cons_zero, List.set_cons_succ] at q1_1 R1_1))
              go_wp2_with fail
              refine (HC2.out _).mono ?_
              rintro e w2 ⟨rfl, h2⟩
              have H2 := Lib.hid h2
              have hz2 := h2.size
              clear h2
              (try simp only [World.size_alloc, size_set, World.heap_drewN, size_drew] at hz2)
              (apply Row.use (w := w2) (g := w.heap.size); (focus (repeat (first | (with_reducible exact Hid.out ‹Hid (Row _ _ _)›) | (with_reducible exact Row.newAt rfl) | (with_reducible apply Row.newAt; (simp; done)) | (with_reducible apply Row.set_) | (with_reducible apply Row.far; focus (simp <;> omega)) | (with_reducible apply Row.alloc) | (with_reducible apply Row.drew) | (with_reducible apply Row.drewN) | (with_reducible apply Row.ext (Hid.out ‹Hid (Ext _ _)›))))); intro q2_0 f2_0 l2_0 R2_0; (try simp only [List.setIfInBounds_toArray, List.set_cons_zero, List.set_cons_succ] at q2_0 R2_0); apply Row.use (w := w2) (g := w.heap.size + 1); (focus (repeat (first | (with_reducible exact Hid.out ‹Hid (Row _ _ _)›) | (with_reducible exact Row.newAt rfl) | (with_reducible apply Row.newAt; (simp; done)) | (with_reducible apply Row.set_) | (with_reducible apply Row.far; focus (simp <;> omega)) | (with_reducible apply Row.alloc) | (with_reducible apply Row.drew) | (with_reducible apply Row.drewN) | (with_reducible apply Row.ext (Hid.out ‹Hid (Ext _ _)›))))); intro q2_1 f2_1 l2_1 R2_1; (try simp only [List.setIfInBounds_toArray, List.set_cons_zero, List.set_cons_succ] at q2_1 R2_1))
              go_wp2_with fail
              refine (HW3.out _).mono ?_
              rintro e wz ⟨rfl, rfl⟩
              go_wp2_with fail
              refine (HC4.out _ (HRd.out.ext ?he4g)).mono ?_
              case he4g => repeat (first | (with_reducible exact Ext.refl _) | (with_reducible refine Ext.alloc ?_ _) | (with_reducible apply Ext.setC; focus (simp <;> omega)) | (with_reducible refine Ext.drew ?_) | (with_reducible refine Ext.drewN ?_ _) | (with_reducible refine Ext.trans ?_ (Hid.out ‹Hid (Ext _ _)›)))
              rintro e w4 ⟨rfl, h4⟩
              have H4 := Lib.hid h4
              have hz4 := h4.size
              clear h4
              (try simp only [World.size_alloc, size_set, World.heap_drewN, size_drew] at hz4)
              (apply Row.use (w := w4) (g := w.heap.size); (focus (repeat (first | (with_reducible exact Hid.out ‹Hid (Row _ _ _)›) | (with_reducible exact Row.newAt rfl) | (with_reducible apply Row.newAt; (simp; done)) | (with_reducible apply Row.set_) | (with_reducible apply Row.far; focus (simp <;> omega)) | (with_reducible apply Row.alloc) | (with_reducible apply Row.drew) | (with_reducible apply Row.drewN) | (with_reducible apply Row.ext (Hid.out ‹Hid (Ext _ _)›))))); intro q4_0 f4_0 l4_0 R4_0; (try simp only [List.setIfInBounds_toArray, List.set_cons_zero, List.set_cons_succ] at q4_0 R4_0); apply Row.use (w := w4) (g := w.heap.size + 1); (focus (repeat (first | (with_reducible exact Hid.out ‹Hid (Row _ _ _)›) | (with_reducible exact Row.newAt rfl) | (with_reducible apply Row.newAt; (simp; done)) | (with_reducible apply Row.set_) | (with_reducible apply Row.far; focus (simp <;> omega)) | (with_reducible apply Row.alloc) | (with_reducible apply Row.drew) | (with_reducible apply Row.drewN) | (with_reducible apply Row.ext (Hid.out ‹Hid (Ext _ _)›))))); intro q4_1 f4_1 l4_1 R4_1; (try simp only [List.setIfInBounds_toArray, List.set_cons_zero, List.set_cons_succ] at q4_1 R4_1))
              go_wp2_with fail
              refine (HC5.out _ _ (q4_0 0) l4_0).mono ?_
              rintro e w5 ⟨rfl, h5⟩
              have H5 := Lib.hid h5
              have hz5 := h5.size
              clear h5
              (try simp only [World.size_alloc, size_set, World.heap_drewN, size_drew] at hz5)
              (apply Row.use (w := w5) (g := w.heap.size); (focus (repeat (first | (with_reducible exact Hid.out ‹Hid (Row _ _ _)›) | (with_reducible exact Row.newAt rfl) | (with_reducible apply Row.newAt; (simp; done)) | (with_reducible apply Row.set_) | (with_reducible apply Row.far; focus (simp <;> omega)) | (with_reducible apply Row.alloc) | (with_reducible apply Row.drew) | (with_reducible apply Row.drewN) | (with_reducible apply Row.ext (Hid.out ‹Hid (Ext _ _)›))))); intro q5_0 f5_0 l5_0 R5_0; (try simp only [List.setIfInBounds_toArray, List.set_cons_zero, List.set_cons_succ] at q5_0 R5_0); apply Row.use (w := w5) (g := w.heap.size + 1); (focus (repeat (first | (with_reducible exact Hid.out ‹Hid (Row _ _ _)›) | (with_reducible exact Row.newAt rfl) | (with_reducible apply Row.newAt; (simp; done)) | (with_reducible apply Row.set_) | (with_reducible apply Row.far; focus (simp <;> omega)) | (with_reducible apply Row.alloc) | (with_reducible apply Row.drew) | (with_reducible apply Row.drewN) | (with_reducible apply Row.ext (Hid.out ‹Hid (Ext _ _)›))))); intro q5_1 f5_1 l5_1 R5_1; (try simp only [List.setIfInBounds_toArray, List.set_cons_zero, List.set_cons_succ] at q5_1 R5_1))
              go_wp2_with fail
              refine (HC6.out _ _ (fun W hE => ((R5_0.out).ext hE).2.1 0) l5_0 (HRd.out.ext ?he6g)).mono ?_
              case he6g => repeat (first | (with_reducible exact Ext.refl _) | (with_reducible refine Ext.alloc ?_ _) | (with_reducible apply Ext.setC; focus (simp <;> omega)) | (with_reducible refine Ext.drew ?_) | (with_reducible refine Ext.drewN ?_ _) | (with_reducible refine Ext.trans ?_ (Hid.out ‹Hid (Ext _ _)›)))
              rintro e w6 ⟨rfl, h6⟩
              have H6 := Lib.hid h6
              have hz6 := h6.size
              clear h6
              (try simp only [World.size_alloc, size_set, World.heap_drewN, size_drew] at hz6)
              (apply Row.use (w := w6) (g := w.heap.size); (focus (repeat (first | (with_reducible exact Hid.out ‹Hid (Row _ _ _)›) | (with_reducible exact Row.newAt rfl) | (with_reducible apply Row.newAt; (simp; done)) | (with_reducible apply Row.set_) | (with_reducible apply Row.far; focus (simp <;> omega)) | (with_reducible apply Row.alloc) | (with_reducible apply Row.drew) | (with_reducible apply Row.drewN) | (with_reducible apply Row.ext (Hid.out ‹Hid (Ext _ _)›))))); intro q6_0 f6_0 l6_0 R6_0; (try simp only [List.setIfInBounds_toArray, List.set_cons_zero, List.set_cons_succ] at q6_0 R6_0); apply Row.use (w := w6) (g := w.heap.size + 1); (focus (repeat (first | (with_reducible exact Hid.out ‹Hid (Row _ _ _)›) | (with_reducible exact Row.newAt rfl) | (with_reducible apply Row.newAt; (simp; done)) | (with_reducible apply Row.set_) | (with_reducible apply Row.far; focus (simp <;> omega)) | (with_reducible apply Row.alloc) | (with_reducible apply Row.drew) | (with_reducible apply Row.drewN) | (with_reducible apply Row.ext (Hid.out ‹Hid (Ext _ _)›))))); intro q6_1 f6_1 l6_1 R6_1; (try simp only [List.setIfInBounds_toArray, List.set_cons_zero, List.set_cons_succ] at q6_1 R6_1))
              go_wp2_with fail
              refine (HC7.out _ (HRd.out.ext ?he7g)).mono ?_
              case he7g => repeat (first | (with_reducible exact Ext.refl _) | (with_reducible refine Ext.alloc ?_ _) | (with_reducible apply Ext.setC; focus (simp <;> omega)) | (with_reducible refine Ext.drew ?_) | (with_reducible refine Ext.drewN ?_ _) | (with_reducible refine Ext.trans ?_ (Hid.out ‹Hid (Ext _ _)›)))
              rintro e w7 ⟨rfl, h7⟩
              have H7 := Lib.hid h7
              have hz7 := h7.size
              clear h7
              (try simp only [World.size_alloc, size_set, World.heap_drewN, size_drew] at hz7)
              (apply Row.use (w := w7) (g := w.heap.size); (focus (repeat (first | (with_reducible exact Hid.out ‹Hid (Row _ _ _)›) | (with_reducible exact Row.newAt rfl) | (with_reducible apply Row.newAt; (simp; done)) | (with_reducible apply Row.set_) | (with_reducible apply Row.far; focus (simp <;> omega)) | (with_reducible apply Row.alloc) | (with_reducible apply Row.drew) | (with_reducible apply Row.drewN) | (with_reducible apply Row.ext (Hid.out ‹Hid (Ext _ _)›))))); intro q7_0 f7_0 l7_0 R7_0; (try simp only [List.setIfInBounds_toArray, List.set_cons_zero, List.set_cons_succ] at q7_0 R7_0); apply Row.use (w := w7) (g := w.heap.size + 1); (focus (repeat (first | (with_reducible exact Hid.out ‹Hid (Row _ _ _)›) | (with_reducible exact Row.newAt rfl) | (with_reducible apply Row.newAt; (simp; done)) | (with_reducible apply Row.set_) | (with_reducible apply Row.far; focus (simp <;> omega)) | (with_reducible apply Row.alloc) | (with_reducible apply Row.drew) | (with_reducible apply Row.drewN) | (with_reducible apply Row.ext (Hid.out ‹Hid (Ext _ _)›))))); intro q7_1 f7_1 l7_1 R7_1; (try simp only [List.setIfInBounds_toArray, List.set_cons_zero, List.set_cons_succ] at q7_1 R7_1))
              go_wp2_with fail
              go_ret2
              refine ⟨rfl, ?_⟩
              repeat (first | (with_reducible exact Ext.refl _) | (with_reducible refine Ext.alloc ?_ _) | (with_reducible apply Ext.setC; focus (simp <;> omega)) | (with_reducible refine Ext.drew ?_) | (with_reducible refine Ext.drewN ?_ _) | (with_reducible refine Ext.trans ?_ (Hid.out ‹Hid (Ext _ _)›)))
        · rw [if_neg (by simpa using a1), if_neg (by simpa using a2), if_neg (by simp [a3]), if_pos a4] at HJ
          rw [a1] at hc1
          rw [a2] at hc2
          generalize eachTap ckTap was = q at hc4 HJ a4
          have hq1 : (q == 0) = false := by simpa using a4
          have hq2 : (q != 0) = true := by simpa using a4
          clear hc5 hc6 hc7 a1 a2 a3 a4
          obtain ⟨a, b, c1, d, x, f⟩ := t
          obtain ⟨pt, pg, ps, pti, pz⟩ := p
          unfold tkc at hc1 ⊢
          unfold tpc at hc2 ⊢
          have HC1 := Lib.hid hc1
          have HC2 := Lib.hid hc2
          have HW3 := Lib.hid hw3
          have HC4 := Lib.hid hc4
          clear hc1 hc2 hw3 hc4
          go_enter Try.func20, Try.ntmps20
          go_wp2_with fail
          refine (HC1.out _).mono ?_
          rintro e w1 ⟨rfl, h1⟩
          have H1 := Lib.hid h1
          have hz1 := h1.size
          clear h1
          (try simp only [World.size_alloc, size_set, World.heap_drewN, size_drew] at hz1)
          (apply Row.use (w := w1) (g := w.heap.size); (focus (repeat (first | (with_reducible exact Hid.out ‹Hid (Row _ _ _)›) | (with_reducible exact Row.newAt rfl) | (with_reducible apply Row.newAt; (simp; done)) | (with_reducible apply Row.set_) | (with_reducible apply Row.far; focus (simp <;> omega)) | (with_reducible apply Row.alloc) | (with_reducible apply Row.drew) | (with_reducible apply Row.drewN) | (with_reducible apply Row.ext (Hid.out ‹Hid (Ext _ _)›))))); intro q1_0 f1_0 l1_0 R1_0; (try simp only [List.setIfInBounds_toArray, List.set_cons_zero, List.set_cons_succ] at q1_0 R1_0); apply Row.use (w := w1) (g := w.heap.size + 1); (focus (repeat (first | (with_reducible exact Hid.out ‹Hid (Row _ _ _)›) | (with_reducible exact Row.newAt rfl) | (with_reducible apply Row.newAt; (simp; done)) | (with_reducible apply Row.set_) | (with_reducible apply Row.far; focus (simp <;> omega)) | (with_reducible apply Row.alloc) | (with_reducible apply Row.drew) | (with_reducible apply Row.drewN) | (with_reducible apply Row.ext (Hid.out ‹Hid (Ext _ _)›))))); intro q1_1 f1_1 l1_1 R1_1; (try simp only [List.setIfInBounds_toArray, List.set_cons_zero, List.set_cons_succ] at q1_1 R1_1))
          go_wp2_with fail
          refine (HC2.out _).mono ?_
          rintro e w2 ⟨rfl, h2⟩
          have H2 := Lib.hid h2
          have hz2 := h2.size
          clear h2
          (try simp only [World.size_alloc, size_set, World.heap_drewN, size_drew] at hz2)
          (apply Row.use (w := w2) (g := w.heap.size); (focus (repeat (first | (with_reducible exact Hid.out ‹Hid (Row _ _ _)›) | (with_reducible exact Row.newAt rfl) | (with_reducible apply Row.newAt; (simp; done)) | (with_reducible apply Row.set_) | (with_reducible apply Row.far; focus (simp <;> omega)) | (with_reducible apply Row.alloc) | (with_reducible apply Row.drew) | (with_reducible apply Row.drewN) | (with_reducible apply Row.ext (Hid.out ‹Hid (Ext _ _)›))))); intro q2_0 f2_0 l2_0 R2_0; (try simp only [List.setIfInBounds_toArray, List.set_cons_zero, List.set_cons_succ] at q2_0 R2_0); apply Row.use (w := w2) (g := w.heap.size + 1); (focus (repeat (first | (with_reducible exact Hid.out ‹Hid (Row _ _ _)›) | (with_reducible exact Row.newAt rfl) | (with_reducible apply Row.newAt; (simp; done)) | (with_reducible apply Row.set_) | (with_reducible apply Row.far; focus (simp <;> omega)) | (with_reducible apply Row.alloc) | (with_reducible apply Row.drew) | (with_reducible apply Row.drewN) | (with_reducible apply Row.ext (Hid.out ‹Hid (Ext _ _)›))))); intro q2_1 f2_1 l2_1 R2_1; (try simp only [List.setIfInBounds_toArray, List.set_cons_zero, List.set_cons_succ] at q2_1 R2_1))
          go_wp2_with fail
          refine (HW3.out _).mono ?_
          rintro e wz ⟨rfl, rfl⟩
          go_wp2_with fail
          refine (HC4.out _ (HRd.out.ext ?he4d)).mono ?_
          case he4d => repeat (first | (with_reducible exact Ext.refl _) | (with_reducible refine Ext.alloc ?_ _) | (with_reducible apply Ext.setC; focus (simp <;> omega)) | (with_reducible refine Ext.drew ?_) | (with_reducible refine Ext.drewN ?_ _) | (with_reducible refine Ext.trans ?_ (Hid.out ‹Hid (Ext _ _)›)))
          rintro e w4 ⟨rfl, h4⟩
          have H4 := Lib.hid h4
          have hz4 := h4.size
          clear h4
          (try simp only [World.size_alloc, size_set, World.heap_drewN, size_drew] at hz4)
          (apply Row.use (w := w4) (g := w.heap.size); (focus (repeat (first | (with_reducible exact Hid.out ‹Hid (Row _ _ _)›) | (with_reducible exact Row.newAt rfl) | (with_reducible apply Row.newAt; (simp; done)) | (with_reducible apply Row.set_) | (with_reducible apply Row.far; focus (simp <;> omega)) | (with_reducible apply Row.alloc) | (with_reducible apply Row.drew) | (with_reducible apply Row.drewN) | (with_reducible apply Row.ext (Hid.out ‹Hid (Ext _ _)›))))); intro q4_0 f4_0 l4_0 R4_0; (try simp only [List.setIfInBounds_toArray, List.set_cons_zero, List.set_cons_succ] at q4_0 R4_0); apply Row.use (w := w4) (g := w.heap.size + 1); (focus (repeat (first | (with_reducible exact Hid.out ‹Hid (Row _ _ _)›) | (with_reducible exact Row.newAt rfl) | (with_reducible apply Row.newAt; (simp; done)) | (with_reducible apply Row.set_) | (with_reducible apply Row.far; focus (simp <;> omega)) | (with_reducible apply Row.alloc) | (with_reducible apply Row.drew) | (with_reducible apply Row.drewN) | (with_reducible apply Row.ext (Hid.out ‹Hid (Ext _ _)›))))); intro q4_1 f4_1 l4_1 R4_1; (try simp only [List.setIfInBounds_toArray, List.set_cons_zero, List.set_cons_succ] at q4_1 R4_1))
          go_wp2_with fail
          go_ret2
          refine ⟨by rw [HJ.out]; rfl, ?_⟩
          repeat (first | (with_reducible exact Ext.refl _) | (with_reducible refine Ext.alloc ?_ _) | (with_reducible apply Ext.setC; focus (simp <;> omega)) | (with_reducible refine Ext.drew ?_) | (with_reducible refine Ext.drewN ?_ _) | (with_reducible refine Ext.trans ?_ (Hid.out ‹Hid (Ext _ _)›)))
    · rw [if_neg (by simpa using a1), if_pos a2] at HJ
      rw [a1] at hc1
      generalize ckTap p = q at hc2 HJ a2
      have hq1 : (q == 0) = false := by simpa using a2
      have hq2 : (q != 0) = true := by simpa using a2
      clear hc4 hc5 hc6 hc7 hw3 a1 a2
      obtain ⟨a, b, c1, d, x, f⟩ := t
      obtain ⟨pt, pg, ps, pti, pz⟩ := p
      unfold tkc at hc1 ⊢
      unfold tpc at hc2 ⊢
      have HC1 := Lib.hid hc1
      have HC2 := Lib.hid hc2
      clear hc1 hc2
      go_enter Try.func20, Try.ntmps20
      go_wp2_with fail
      refine (HC1.out _).mono ?_
      rintro e w1 ⟨rfl, h1⟩
      have H1 := Lib.hid h1
      have hz1 := h1.size
      clear h1
      (try simp only [World.size_alloc, size_set, World.heap_drewN, size_drew] at hz1)
      (apply Row.use (w := w1) (g := w.heap.size); (focus (repeat (first | (with_reducible exact Hid.out ‹Hid (Row _ _ _)›) | (with_reducible exact Row.newAt rfl) | (with_reducible apply Row.newAt; (simp; done)) | (with_reducible apply Row.set_) | (with_reducible apply Row.far; focus (simp <;> omega)) | (with_reducible apply Row.alloc) | (with_reducible apply Row.drew) | (with_reducible apply Row.drewN) | (with_reducible apply Row.ext (Hid.out ‹Hid (Ext _ _)›))))); intro q1_0 f1_0 l1_0 R1_0; (try simp only [List.setIfInBounds_toArray, List.set_cons_zero, List.set_cons_succ] at q1_0 R1_0); apply Row.use (w := w1) (g := w.heap.size + 1); (focus (repeat (first | (with_reducible exact Hid.out ‹Hid (Row _ _ _)›) | (with_reducible exact Row.newAt rfl) | (with_reducible apply Row.newAt; (simp; done)) | (with_reducible apply Row.set_) | (with_reducible apply Row.far; focus (simp <;> omega)) | (with_reducible apply Row.alloc) | (with_reducible apply Row.drew) | (with_reducible apply Row.drewN) | (with_reducible apply Row.ext (Hid.out ‹Hid (Ext _ _)›))))); intro q1_1 f1_1 l1_1 R1_1; (try simp only [List.setIfInBounds_toArray, List.set_cons_zero, List.set_cons_succ] at q1_1 R1_1))
      go_wp2_with fail
      refine (HC2.out _).mono ?_
      rintro e w2 ⟨rfl, h2⟩
      have H2 := Lib.hid h2
      have hz2 := h2.size
      clear h2
      (try simp only [World.size_alloc, size_set, World.heap_drewN, size_drew] at hz2)
      (apply Row.use (w := w2) (g := w.heap.size); (focus (repeat (first | (with_reducible exact Hid.out ‹Hid (Row _ _ _)›) | (with_reducible exact Row.newAt rfl) | (with_reducible apply Row.newAt; (simp; done)) | (with_reducible apply Row.set_) | (with_reducible apply Row.far; focus (simp <;> omega)) | (with_reducible apply Row.alloc) | (with_reducible apply Row.drew) | (with_reducible apply Row.drewN) | (with_reducible apply Row.ext (Hid.out ‹Hid (Ext _ _)›))))); intro q2_0 f2_0 l2_0 R2_0; (try simp only [List.setIfInBounds_toArray, List.set_cons_zero, List.set_cons_succ] at q2_0 R2_0); apply Row.use (w := w2) (g := w.heap.size + 1); (focus (repeat (first | (with_reducible exact Hid.out ‹Hid (Row _ _ _)›) | (with_reducible exact Row.newAt rfl) | (with_reducible apply Row.newAt; (simp; done)) | (with_reducible apply Row.set_) | (with_reducible apply Row.far; focus (simp <;> omega)) | (with_reducible apply Row.alloc) | (with_reducible apply Row.drew) | (with_reducible apply Row.drewN) | (with_reducible apply Row.ext (Hid.out ‹Hid (Ext _ _)›))))); intro q2_1 f2_1 l2_1 R2_1; (try simp only [List.setIfInBounds_toArray, List.set_cons_zero, List.set_cons_succ] at q2_1 R2_1))
      go_wp2_with fail
      go_ret2
      refine ⟨by rw [HJ.out]; rfl, ?_⟩
      repeat (first | (with_reducible exact Ext.refl _) | (with_reducible refine Ext.alloc ?_ _) | (with_reducible apply Ext.setC; focus (simp <;> omega)) | (with_reducible refine Ext.drew ?_) | (with_reducible refine Ext.drewN ?_ _) | (with_reducible refine Ext.trans ?_ (Hid.out ‹Hid (Ext _ _)›)))
  · rw [if_pos a1] at HJ
    generalize ckTicket t = q at hc1 HJ a1
    have hq1 : (q == 0) = false := by simpa using a1
    have hq2 : (q != 0) = true := by simpa using a1
    clear hc2 hc4 hc5 hc6 hc7 hw3 a1
    obtain ⟨a, b, c1, d, x, f⟩ := t
    obtain ⟨pt, pg, ps, pti, pz⟩ := p
    unfold tkc at hc1 ⊢
    unfold tpc
    have HC1 := Lib.hid hc1
    clear hc1
    go_enter Try.func20, Try.ntmps20
    go_wp2_with fail
    refine (HC1.out _).mono ?_
    rintro e w1 ⟨rfl, h1⟩
    have H1 := Lib.hid h1
    have hz1 := h1.size
    clear h1
    (try simp only [World.size_alloc, size_set, World.heap_drewN, size_drew] at hz1)
    (apply Row.use (w := w1) (g := w.heap.size); (focus (repeat (first | (with_reducible exact Hid.out ‹Hid (Row _ _ _)›) | (with_reducible exact Row.newAt rfl) | (with_reducible apply Row.newAt; (simp; done)) | (with_reducible apply Row.set_) | (with_reducible apply Row.far; focus (simp <;> omega)) | (with_reducible apply Row.alloc) | (with_reducible apply Row.drew) | (with_reducible apply Row.drewN) | (with_reducible apply Row.ext (Hid.out ‹Hid (Ext _ _)›))))); intro q1_0 f1_0 l1_0 R1_0; (try simp only [List.setIfInBounds_toArray, List.set_cons_zero, List.set_cons_succ] at q1_0 R1_0); apply Row.use (w := w1) (g := w.heap.size + 1); (focus (repeat (first | (with_reducible exact Hid.out ‹Hid (Row _ _ _)›) | (with_reducible exact Row.newAt rfl) | (with_reducible apply Row.newAt; (simp; done)) | (with_reducible apply Row.set_) | (with_reducible apply Row.far; focus (simp <;> omega)) | (with_reducible apply Row.alloc) | (with_reducible apply Row.drew) | (with_reducible apply Row.drewN) | (with_reducible apply Row.ext (Hid.out ‹Hid (Ext _ _)›))))); intro q1_1 f1_1 l1_1 R1_1; (try simp only [List.setIfInBounds_toArray, List.set_cons_zero, List.set_cons_succ] at q1_1 R1_1))
    go_wp2_with fail
    go_ret2
    refine ⟨by rw [HJ.out]; rfl, ?_⟩
    repeat (first | (with_reducible exact Ext.refl _) | (with_reducible refine Ext.alloc ?_ _) | (with_reducible apply Ext.setC; focus (simp <;> omega)) | (with_reducible refine Ext.drew ?_) | (with_reducible refine Ext.drewN ?_ _) | (with_reducible refine Ext.trans ?_ (Hid.out ‹Hid (Ext _ _)›)))
end Go.Proofs.Ytglifpoiildpfaa
