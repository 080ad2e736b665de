/- leeboardlaw.RuleGoesOn answers true. -/
import Derived.Test.YtglifpoiildpfaaRuleN
namespace Go.Proofs.Ytglifpoiildpfaa
set_option linter.unusedSimpArgs false
set_option linter.unusedVariables false
open Go Go.RowKit Lb

theorem place_later {t : Tk} {p : Tp} {n : Int} (h : place t p.time p.zone = 0) (h0 : 0 ≤ n) (h1 : p.time + n ≤ t.til) : place t (p.time + n) p.zone = 0 := by
  unfold place at h ⊢
  split at h
  · simp at h
  · rename_i hh
    rw [if_neg (by omega)]
    exact h

/-- What the second tap is answered. -/
theorem second {t : Tk} {p : Tp} {n : Int} (h : judgeAll t [] 0 p = (1, 0)) (h0 : 0 ≤ n) (h2 : n ≤ 9999 - p.time) (h1 : p.time + n ≤ t.til) :
    judgeAll t [p] 1 ⟨p.ticket, p.gate, p.seq, p.time + n, p.zone⟩ = if n < 60 then (2, 0) else if t.kind = 1 then (3, 10) else (1, 0) := by
  obtain ⟨hck, hjj⟩ := judgeAll_good t [] 0 p (by rw [h])
  have a1 : ckTicket t = 0 := by
    by_cases h : ckTicket t = 0
    · exact h
    · simp [ckJudge, h] at hck
  have a2 : ckTap p = 0 := by
    by_cases h : ckTap p = 0
    · exact h
    · simp [ckJudge, a1, h] at hck
  have a3 : p.ticket = t.id := by
    by_cases h : p.ticket = t.id
    · exact h
    · simp [ckJudge, a1, a2, within, eachTap, h] at hck
  have a4 : ckTap ⟨p.ticket, p.gate, p.seq, p.time + n, p.zone⟩ = 0 := by
    have ht := tap_ok a2
    unfold ckTap at a2 ⊢
    simp only at a2 ⊢
    have e1 : within (p.time + n) 0 9999 = true := by simp [within]; omega
    have e2 : within p.time 0 9999 = true := by simp [within]; omega
    simp only [e1, e2] at a2 ⊢
    exact a2
  have a5 : ckJudge t [p] 1 ⟨p.ticket, p.gate, p.seq, p.time + n, p.zone⟩ = 0 := by
    have a4' := a4
    rw [a3] at a4'
    simp [ckJudge, a1, a2, a4', within, eachTap, a3]
  have hj := hjj.symm.trans h
  have hp : place t p.time p.zone = 0 := by
    by_cases hp : place t p.time p.zone = 0
    · exact hp
    · simp [judge, hp] at hj
  unfold judgeAll
  rw [if_neg (by simpa using a5)]
  unfold judge
  have hpn := place_later hp h0 h1
  have hgo : goesOn (lastTime [p]) (p.time + n) = decide (n < 60) := by
    simp only [lastTime, List.getLast?_singleton, Option.map_some, goesOn]
    have e3 : decide (p.time ≤ p.time + n) = true := decide_eq_true (by omega)
    have e4 : decide (p.time + n < p.time + 60) = decide (n < 60) := by
      by_cases h : n < 60
      · rw [decide_eq_true h]; exact decide_eq_true (by omega)
      · rw [decide_eq_false h]; exact decide_eq_false (by omega)
    rw [e3, e4]; rfl
  dsimp only
  rw [hpn, hgo]
  simp only [ne_eq, not_true_eq_false, if_false, decide_eq_true_eq]
  split
  · rfl
  · by_cases k1 : t.kind = 1
    · rw [if_pos (.inl ⟨k1, by decide⟩), if_pos k1]
    · have hr : ¬ (t.kind = 3 ∧ t.rides ≤ 1) := by
        rintro ⟨k3, hr⟩
        unfold ckTicket at a1
        split at a1
        · simp at a1
        · split at a1
          · simp at a1
          · split at a1
            · simp at a1
            · split at a1
              · simp at a1
              · rename_i hh
                have : within t.rides 2 9 = false := by simp [within]; omega
                exact hh (.inl ⟨k3, this⟩)
      rw [if_neg (by omega), if_neg k1]

set_option maxRecDepth 100000 in
set_option maxHeartbeats 4000000 in
theorem law_RuleGoesOn (t : Tk) (p : Tp) (n : Int) (w : World) :
    Calls Try.prog 8 #[.agg (tkc t), .agg (tpc p), .int .i64 n] w fun e w' => e = .returned (.bool true) ∧ Ext w w' := by
  have hcj := fun w => rule_Judge t [] 0 p (.slice none 0 0) w RdL.nil
  have hc2 := fun g w (hr : RdL 5 tpc w (.slice (some ⟨g, 0, none⟩) 1 1) [p]) => rule_Judge t [p] 1 ⟨p.ticket, p.gate, p.seq, p.time + n, p.zone⟩ _ w hr
  by_cases h0 : (judgeAll t [] 0 p).2 = 0
  · obtain ⟨hck, hjj⟩ := judgeAll_good t [] 0 p h0
    have hg := judge_good (t := t) (l := lastTime []) (rides := 0) (p := p) (by rw [← hjj]; exact h0)
    have hp : 0 ≤ p.time ∧ p.time ≤ 9999 := by
      have a2 : ckTap p = 0 := by
        unfold ckJudge at hck
        by_cases a1 : ckTicket t = 0
        · by_cases h : ckTap p = 0
          · exact h
          · simp [a1, h] at hck
        · simp [a1] at hck
      exact (tap_ok a2).2
    have hj1 : judgeAll t [] 0 p = (1, 0) := by
      have : (judgeAll t [] 0 p).1 = 1 := by
        rw [hjj]
        rcases hg.2.1 with h | h
        · exact h.1
        · exact absurd rfl h.2
      exact Prod.ext this h0
    have hsec := second (t := t) (p := p) (n := n) hj1
    rw [hj1] at hcj
    clear hjj hck h0 hg hj1
    generalize hK : judgeAll t [p] 1 ⟨p.ticket, p.gate, p.seq, p.time + n, p.zone⟩ = k at hc2 hsec
    clear hK
    obtain ⟨k1, k2⟩ := k
    obtain ⟨a, b, c1, d, x, f⟩ := t
    obtain ⟨pt, pg, ps, pti, pz⟩ := p
    simp only [tkc, tpc] at hcj hc2 hsec hp ⊢
    obtain ⟨hp0, hp1⟩ := hp
    have HCJ := Lib.hid hcj
    have HC2 := Lib.hid hc2
    clear hcj hc2
    have hcase : n < 0 ∨ (¬ n < 0 ∧ 9999 - pti < n) ∨ (¬ n < 0 ∧ ¬ 9999 - pti < n ∧ d < pti + n) ∨ (¬ n < 0 ∧ ¬ 9999 - pti < n ∧ ¬ d < pti + n) := by omega
    rcases hcase with g1 | ⟨g1, g2⟩ | ⟨g1, g2, g3⟩ | ⟨g1, g2, g3⟩
    rotate_left 3
    · have hsec2 := hsec (by omega) (by omega) (by omega)
      clear hsec
      have hcase : (n < 60 ∧ k1 = 2 ∧ k2 = 0) ∨ (¬ n < 60 ∧ b = 1 ∧ k1 = 3 ∧ k2 = 10) ∨ (¬ n < 60 ∧ (b == 1) = false ∧ k1 = 1 ∧ k2 = 0) := by
        by_cases e1 : n < 60 <;> by_cases e2 : b = 1 <;> simp [e1, e2] at hsec2 ⊢ <;> exact hsec2
      clear hsec2
      rcases hcase with ⟨m1, rfl, rfl⟩ | ⟨m1, rfl, rfl, rfl⟩ | ⟨m1, m2, rfl, rfl⟩
      all_goals
        go_enter Try.func8, Try.ntmps8
        go_wp2_with fail
        (refine (HCJ.out _).mono ?_; rintro e w1 ⟨rfl, h1⟩; have H1 := Lib.hid h1; have hz1 := h1.size; clear h1; (try simp only [World.size_alloc, size_set, World.heap_drewN, size_drew] at hz1); apply Row.use (w := w1) (g := w.heap.size); (focus (repeat (first | (with_reducible exact Hid.out ‹Hid (Row _ _ _)›) | (with_reducible exact Row.newAt rfl) | (with_reducible apply Row.newAt; (simp; done)) | (with_reducible apply Row.set_) | (with_reducible apply Row.far; focus (simp <;> omega)) | (with_reducible apply Row.alloc) | (with_reducible apply Row.drew) | (with_reducible apply Row.drewN) | (with_reducible apply Row.ext (Hid.out ‹Hid (Ext _ _)›))))); intro q1_0 f1_0 l1_0 R1_0; (try simp only [List.setIfInBounds_toArray, List.set_cons_zero, List.set_cons_succ] at q1_0 R1_0); apply Row.use (w := w1) (g := w.heap.size + 1); (focus (repeat (first | (with_reducible exact Hid.out ‹Hid (Row _ _ _)›) | (with_reducible exact Row.newAt rfl) | (with_reducible apply Row.newAt; (simp; done)) | (with_reducible apply Row.set_) | (with_reducible apply Row.far; focus (simp <;> omega)) | (with_reducible apply Row.alloc) | (with_reducible apply Row.drew) | (with_reducible apply Row.drewN) | (with_reducible apply Row.ext (Hid.out ‹Hid (Ext _ _)›))))); intro q1_1 f1_1 l1_1 R1_1; (try simp only [List.setIfInBounds_toArray, List.set_cons_zero, List.set_cons_succ] at q1_1 R1_1))
        go_wp2_with fail
        (refine (law_ruleBegun _).mono ?_; rintro e w2 ⟨rfl, h2⟩; have H2 := Lib.hid h2; have hz2 := h2.size; clear h2; (try simp only [World.size_alloc, size_set, World.heap_drewN, size_drew] at hz2); apply Row.use (w := w2) (g := w.heap.size); (focus (repeat (first | (with_reducible exact Hid.out ‹Hid (Row _ _ _)›) | (with_reducible exact Row.newAt rfl) | (with_reducible apply Row.newAt; (simp; done)) | (with_reducible apply Row.set_) | (with_reducible apply Row.far; focus (simp <;> omega)) | (with_reducible apply Row.alloc) | (with_reducible apply Row.drew) | (with_reducible apply Row.drewN) | (with_reducible apply Row.ext (Hid.out ‹Hid (Ext _ _)›))))); intro q2_0 f2_0 l2_0 R2_0; (try simp only [List.setIfInBounds_toArray, List.set_cons_zero, List.set_cons_succ] at q2_0 R2_0); apply Row.use (w := w2) (g := w.heap.size + 1); (focus (repeat (first | (with_reducible exact Hid.out ‹Hid (Row _ _ _)›) | (with_reducible exact Row.newAt rfl) | (with_reducible apply Row.newAt; (simp; done)) | (with_reducible apply Row.set_) | (with_reducible apply Row.far; focus (simp <;> omega)) | (with_reducible apply Row.alloc) | (with_reducible apply Row.drew) | (with_reducible apply Row.drewN) | (with_reducible apply Row.ext (Hid.out ‹Hid (Ext _ _)›))))); intro q2_1 f2_1 l2_1 R2_1; (try simp only [List.setIfInBounds_toArray, List.set_cons_zero, List.set_cons_succ] at q2_1 R2_1))
        go_wp2_with fail
        refine (HC2.out _ _ (RdL_one (Row.newAt (by simp)).2.1 (Row.newAt (by simp)).1)).mono ?_
        rintro e w3 ⟨rfl, h3⟩
        have H3 := Lib.hid h3
        have hz3 := h3.size
        clear h3
        (try simp only [World.size_alloc, size_set, World.heap_drewN, size_drew] at hz3)
        (apply Row.use (w := w3) (g := w.heap.size); (focus (repeat (first | (with_reducible exact Hid.out ‹Hid (Row _ _ _)›) | (with_reducible exact Row.newAt rfl) | (with_reducible apply Row.newAt; (simp; done)) | (with_reducible apply Row.set_) | (with_reducible apply Row.far; focus (simp <;> omega)) | (with_reducible apply Row.alloc) | (with_reducible apply Row.drew) | (with_reducible apply Row.drewN) | (with_reducible apply Row.ext (Hid.out ‹Hid (Ext _ _)›))))); intro q3_0 f3_0 l3_0 R3_0; (try simp only [List.setIfInBounds_toArray, List.set_cons_zero, List.set_cons_succ] at q3_0 R3_0); apply Row.use (w := w3) (g := w.heap.size + 1); (focus (repeat (first | (with_reducible exact Hid.out ‹Hid (Row _ _ _)›) | (with_reducible exact Row.newAt rfl) | (with_reducible apply Row.newAt; (simp; done)) | (with_reducible apply Row.set_) | (with_reducible apply Row.far; focus (simp <;> omega)) | (with_reducible apply Row.alloc) | (with_reducible apply Row.drew) | (with_reducible apply Row.drewN) | (with_reducible apply Row.ext (Hid.out ‹Hid (Ext _ _)›))))); intro q3_1 f3_1 l3_1 R3_1; (try simp only [List.setIfInBounds_toArray, List.set_cons_zero, List.set_cons_succ] at q3_1 R3_1))
        go_wp2_with fail
        all_goals
          go_ret
          refine ⟨?_, ?_⟩
          · first | rfl | (refine ret_bool ?_; simp_all; done) | (refine ret_bool ?_; simp [*]; done)
          repeat (first | (with_reducible exact Ext.refl _) | (with_reducible refine Ext.alloc ?_ _) | (with_reducible apply Ext.setC; focus (simp <;> omega)) | (with_reducible refine Ext.drew ?_) | (with_reducible refine Ext.drewN ?_ _) | (with_reducible refine Ext.trans ?_ (Hid.out ‹Hid (Ext _ _)›)))
    all_goals
      clear hsec
      go_enter Try.func8, Try.ntmps8
      go_wp2_with fail
      (refine (HCJ.out _).mono ?_; rintro e w1 ⟨rfl, h1⟩; have H1 := Lib.hid h1; have hz1 := h1.size; clear h1; (try simp only [World.size_alloc, size_set, World.heap_drewN, size_drew] at hz1); apply Row.use (w := w1) (g := w.heap.size); (focus (repeat (first | (with_reducible exact Hid.out ‹Hid (Row _ _ _)›) | (with_reducible exact Row.newAt rfl) | (with_reducible apply Row.newAt; (simp; done)) | (with_reducible apply Row.set_) | (with_reducible apply Row.far; focus (simp <;> omega)) | (with_reducible apply Row.alloc) | (with_reducible apply Row.drew) | (with_reducible apply Row.drewN) | (with_reducible apply Row.ext (Hid.out ‹Hid (Ext _ _)›))))); intro q1_0 f1_0 l1_0 R1_0; (try simp only [List.setIfInBounds_toArray, List.set_cons_zero, List.set_cons_succ] at q1_0 R1_0); apply Row.use (w := w1) (g := w.heap.size + 1); (focus (repeat (first | (with_reducible exact Hid.out ‹Hid (Row _ _ _)›) | (with_reducible exact Row.newAt rfl) | (with_reducible apply Row.newAt; (simp; done)) | (with_reducible apply Row.set_) | (with_reducible apply Row.far; focus (simp <;> omega)) | (with_reducible apply Row.alloc) | (with_reducible apply Row.drew) | (with_reducible apply Row.drewN) | (with_reducible apply Row.ext (Hid.out ‹Hid (Ext _ _)›))))); intro q1_1 f1_1 l1_1 R1_1; (try simp only [List.setIfInBounds_toArray, List.set_cons_zero, List.set_cons_succ] at q1_1 R1_1))
      go_wp2_with fail
      (refine (law_ruleBegun _).mono ?_; rintro e w2 ⟨rfl, h2⟩; have H2 := Lib.hid h2; have hz2 := h2.size; clear h2; (try simp only [World.size_alloc, size_set, World.heap_drewN, size_drew] at hz2); apply Row.use (w := w2) (g := w.heap.size); (focus (repeat (first | (with_reducible exact Hid.out ‹Hid (Row _ _ _)›) | (with_reducible exact Row.newAt rfl) | (with_reducible apply Row.newAt; (simp; done)) | (with_reducible apply Row.set_) | (with_reducible apply Row.far; focus (simp <;> omega)) | (with_reducible apply Row.alloc) | (with_reducible apply Row.drew) | (with_reducible apply Row.drewN) | (with_reducible apply Row.ext (Hid.out ‹Hid (Ext _ _)›))))); intro q2_0 f2_0 l2_0 R2_0; (try simp only [List.setIfInBounds_toArray, List.set_cons_zero, List.set_cons_succ] at q2_0 R2_0); apply Row.use (w := w2) (g := w.heap.size + 1); (focus (repeat (first | (with_reducible exact Hid.out ‹Hid (Row _ _ _)›) | (with_reducible exact Row.newAt rfl) | (with_reducible apply Row.newAt; (simp; done)) | (with_reducible apply Row.set_) | (with_reducible apply Row.far; focus (simp <;> omega)) | (with_reducible apply Row.alloc) | (with_reducible apply Row.drew) | (with_reducible apply Row.drewN) | (with_reducible apply Row.ext (Hid.out ‹Hid (Ext _ _)›))))); intro q2_1 f2_1 l2_1 R2_1; (try simp only [List.setIfInBounds_toArray, List.set_cons_zero, List.set_cons_succ] at q2_1 R2_1))
      go_wp2_with fail
      all_goals
        first
        | (refine bodyPost_ret (v := .bool true) (by simp [results, Try.results8, go_sem]) rfl ⟨rfl, ?_⟩)
        | (go_ret; refine ⟨rfl, ?_⟩)
        | (go_show; fail)
      all_goals (repeat (first | (with_reducible exact Ext.refl _) | (with_reducible refine Ext.alloc ?_ _) | (with_reducible apply Ext.setC; focus (simp <;> omega)) | (with_reducible refine Ext.drew ?_) | (with_reducible refine Ext.drewN ?_ _) | (with_reducible refine Ext.trans ?_ (Hid.out ‹Hid (Ext _ _)›))))
  · have hbad := judgeAll_bad t [] 0 p h0
    generalize judgeAll t [] 0 p = j at hcj h0 hbad
    obtain ⟨j1, j2⟩ := j
    simp only at h0 hbad hcj
    have hj2 : (j2 == 0) = false := by simpa using h0
    have hj3 : (j2 != 0) = true := by simpa using h0
    clear h0 hc2
    obtain ⟨a, b, c1, d, x, f⟩ := t
    obtain ⟨pt, pg, ps, pti, pz⟩ := p
    simp only [tkc, tpc] at hcj ⊢
    have HCJ := Lib.hid hcj
    clear hcj
    rcases hbad with rfl | rfl
    all_goals
      go_enter Try.func8, Try.ntmps8
      go_wp2_with fail
      (refine (HCJ.out _).mono ?_; rintro e w1 ⟨rfl, h1⟩; have H1 := Lib.hid h1; have hz1 := h1.size; clear h1; (try simp only [World.size_alloc, size_set, World.heap_drewN, size_drew] at hz1); apply Row.use (w := w1) (g := w.heap.size); (focus (repeat (first | (with_reducible exact Hid.out ‹Hid (Row _ _ _)›) | (with_reducible exact Row.newAt rfl) | (with_reducible apply Row.newAt; (simp; done)) | (with_reducible apply Row.set_) | (with_reducible apply Row.far; focus (simp <;> omega)) | (with_reducible apply Row.alloc) | (with_reducible apply Row.drew) | (with_reducible apply Row.drewN) | (with_reducible apply Row.ext (Hid.out ‹Hid (Ext _ _)›))))); intro q1_0 f1_0 l1_0 R1_0; (try simp only [List.setIfInBounds_toArray, List.set_cons_zero, List.set_cons_succ] at q1_0 R1_0); apply Row.use (w := w1) (g := w.heap.size + 1); (focus (repeat (first | (with_reducible exact Hid.out ‹Hid (Row _ _ _)›) | (with_reducible exact Row.newAt rfl) | (with_reducible apply Row.newAt; (simp; done)) | (with_reducible apply Row.set_) | (with_reducible apply Row.far; focus (simp <;> omega)) | (with_reducible apply Row.alloc) | (with_reducible apply Row.drew) | (with_reducible apply Row.drewN) | (with_reducible apply Row.ext (Hid.out ‹Hid (Ext _ _)›))))); intro q1_1 f1_1 l1_1 R1_1; (try simp only [List.setIfInBounds_toArray, List.set_cons_zero, List.set_cons_succ] at q1_1 R1_1))
      go_wp2_with fail
      (refine (law_ruleBegun _).mono ?_; rintro e w2 ⟨rfl, h2⟩; have H2 := Lib.hid h2; have hz2 := h2.size; clear h2; (try simp only [World.size_alloc, size_set, World.heap_drewN, size_drew] at hz2); apply Row.use (w := w2) (g := w.heap.size); (focus (repeat (first | (with_reducible exact Hid.out ‹Hid (Row _ _ _)›) | (with_reducible exact Row.newAt rfl) | (with_reducible apply Row.newAt; (simp; done)) | (with_reducible apply Row.set_) | (with_reducible apply Row.far; focus (simp <;> omega)) | (with_reducible apply Row.alloc) | (with_reducible apply Row.drew) | (with_reducible apply Row.drewN) | (with_reducible apply Row.ext (Hid.out ‹Hid (Ext _ _)›))))); intro q2_0 f2_0 l2_0 R2_0; (try simp only [List.setIfInBounds_toArray, List.set_cons_zero, List.set_cons_succ] at q2_0 R2_0); apply Row.use (w := w2) (g := w.heap.size + 1); (focus (repeat (first | (with_reducible exact Hid.out ‹Hid (Row _ _ _)›) | (with_reducible exact Row.newAt rfl) | (with_reducible apply Row.newAt; (simp; done)) | (with_reducible apply Row.set_) | (with_reducible apply Row.far; focus (simp <;> omega)) | (with_reducible apply Row.alloc) | (with_reducible apply Row.drew) | (with_reducible apply Row.drewN) | (with_reducible apply Row.ext (Hid.out ‹Hid (Ext _ _)›))))); intro q2_1 f2_1 l2_1 R2_1; (try simp only [List.setIfInBounds_toArray, List.set_cons_zero, List.set_cons_succ] at q2_1 R2_1))
      go_wp2_with fail
      all_goals
        first
        | (go_ret; refine ⟨rfl, ?_⟩)
        | (go_show; fail)
      all_goals (repeat (first | (with_reducible exact Ext.refl _) | (with_reducible refine Ext.alloc ?_ _) | (with_reducible apply Ext.setC; focus (simp <;> omega)) | (with_reducible refine Ext.drew ?_) | (with_reducible refine Ext.drewN ?_ _) | (with_reducible refine Ext.trans ?_ (Hid.out ‹Hid (Ext _ _)›))))
end Go.Proofs.Ytglifpoiildpfaa
