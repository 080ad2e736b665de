/- denied.Pick, two, Newer, Has. -/
import Derived.Test.YthollackhkiofaaDnF
namespace Go.Proofs.Ythollackhkiofaa
set_option linter.unusedSimpArgs false
set_option linter.unusedVariables false
set_option maxRecDepth 100000
open Go Go.RowKit Lb

set_option maxHeartbeats 4000000 in
theorem denied_Pick (a b : Dn) (s u : Value) (w : World) (hr : RdL 1 inc w s a.ids) (hs : RdL 1 inc w u b.ids) (ha : a.ids.length ≤ 100) (hb : b.ids.length ≤ 100) :
    Calls Try.prog 56 #[.agg #[.int .i64 a.version, s], .agg #[.int .i64 b.version, u]] w fun e w' => ∃ s', e = .returned (.agg #[.int .i64 (pickD a b).version, s']) ∧ Ext w w' ∧ OwnL 3 1 inc w.heap.size w' s' (pickD a b).ids := by
  obtain ⟨va, la⟩ := a
  obtain ⟨vb, lb⟩ := b
  simp only at *
  obtain ⟨A, c, rfl, -, -⟩ := hr.form
  obtain ⟨A2, c2, rfl, -, -⟩ := hs.form
  have HA := Lib.hid (fun (w' : World) (h : Ext w w') => denied_Own ⟨va, la⟩ _ w' (hr.ext h) (show la.length * 8 ≤ 140737488355328 by omega))
  have HB := Lib.hid (fun (w' : World) (h : Ext w w') => denied_Own ⟨vb, lb⟩ _ w' (hs.ext h) (show lb.length * 8 ≤ 140737488355328 by omega))
  simp only at HA HB
  unfold pickD
  simp only
  clear hr hs ha hb
  by_cases hlt : va < vb
  · rw [if_pos hlt]
    go_enter Try.func56, Try.ntmps56
    go_wp2_with fail
    refine (HB.out _ (by repeat (first | (with_reducible exact Ext.refl _) | (with_reducible refine Ext.alloc ?_ _) | (with_reducible apply Ext.setC; focus (simp <;> omega)) | (with_reducible refine Ext.drew ?_) | (with_reducible refine Ext.drewN ?_ _) | (with_reducible refine Ext.trans ?_ (Hid.out ‹Hid (Ext _ _)›))))).mono ?_
    rintro e w1 ⟨s1, rfl, h1, ho1⟩
    obtain ⟨A1, c1, rfl⟩ := ho1.form
    have hz1 := h1.size
    have H1 := Lib.hid h1
    have HO1 := Lib.hid ho1
    clear h1 ho1
    (try simp only [World.size_alloc, size_set, World.heap_drewN, size_drew] at hz1)
    (apply Row.use (w := w1) (g := w.heap.size + 1 + 1); (focus (repeat (first | (with_reducible exact Hid.out ‹Hid (Row _ _ _)›) | (with_reducible exact Row.newAt rfl) | (with_reducible apply Row.newAt; (simp; done)) | (with_reducible apply Row.set_) | (with_reducible apply Row.far; focus (simp <;> omega)) | (with_reducible apply Row.alloc) | (with_reducible apply Row.drew) | (with_reducible apply Row.drewN) | (with_reducible apply Row.ext (Hid.out ‹Hid (Ext _ _)›))))); intro q1_0 f1_0 l1_0 R1_0; (try simp only [List.setIfInBounds_toArray, List.set_cons_zero, List.set_cons_succ] at q1_0 R1_0))
    go_wp2_with fail
    refine bodyPost_ret (v := .agg #[.int .i64 vb, .slice A1 lb.length c1]) (by simp [results, Try.results56, go_sem, *]) rfl ⟨_, rfl, ?_, ?_⟩
    · repeat (first | (with_reducible exact Ext.refl _) | (with_reducible refine Ext.alloc ?_ _) | (with_reducible apply Ext.setC; focus (simp <;> omega)) | (with_reducible refine Ext.drew ?_) | (with_reducible refine Ext.drewN ?_ _) | (with_reducible refine Ext.trans ?_ (Hid.out ‹Hid (Ext _ _)›)))
    · have ho1 := HO1.out
      (try simp only [World.size_alloc, size_set, World.heap_drewN, size_drew] at ho1)
      (refine OwnL.lower (base := w.heap.size + 1 + 1 + 1) ?_ (by omega); repeat (first | (with_reducible assumption) | (with_reducible exact Hid.out ‹Hid (OwnL _ _ _ _ _ _ _)›) | (with_reducible apply OwnL.setC; focus (simp <;> omega)) | (with_reducible refine OwnL.put ?_ (by assumption) _) | (with_reducible apply OwnL.alloc) | (with_reducible apply OwnL.drew) | (with_reducible apply OwnL.drewN) | (with_reducible refine OwnL.ext ?_ (Hid.out ‹Hid (Ext _ _)›))))
  · rw [if_neg hlt]
    go_enter Try.func56, Try.ntmps56
    go_wp2_with fail
    refine (HA.out _ (by repeat (first | (with_reducible exact Ext.refl _) | (with_reducible refine Ext.alloc ?_ _) | (with_reducible apply Ext.setC; focus (simp <;> omega)) | (with_reducible refine Ext.drew ?_) | (with_reducible refine Ext.drewN ?_ _) | (with_reducible refine Ext.trans ?_ (Hid.out ‹Hid (Ext _ _)›))))).mono ?_
    rintro e w1 ⟨s1, rfl, h1, ho1⟩
    obtain ⟨A1, c1, rfl⟩ := ho1.form
    have hz1 := h1.size
    have H1 := Lib.hid h1
    have HO1 := Lib.hid ho1
    clear h1 ho1
    (try simp only [World.size_alloc, size_set, World.heap_drewN, size_drew] at hz1)
    (apply Row.use (w := w1) (g := w.heap.size + 1 + 1); (focus (repeat (first | (with_reducible exact Hid.out ‹Hid (Row _ _ _)›) | (with_reducible exact Row.newAt rfl) | (with_reducible apply Row.newAt; (simp; done)) | (with_reducible apply Row.set_) | (with_reducible apply Row.far; focus (simp <;> omega)) | (with_reducible apply Row.alloc) | (with_reducible apply Row.drew) | (with_reducible apply Row.drewN) | (with_reducible apply Row.ext (Hid.out ‹Hid (Ext _ _)›))))); intro q1_0 f1_0 l1_0 R1_0; (try simp only [List.setIfInBounds_toArray, List.set_cons_zero, List.set_cons_succ] at q1_0 R1_0))
    go_wp2_with fail
    refine bodyPost_ret (v := .agg #[.int .i64 va, .slice A1 la.length c1]) (by simp [results, Try.results56, go_sem, *]) rfl ⟨_, rfl, ?_, ?_⟩
    · repeat (first | (with_reducible exact Ext.refl _) | (with_reducible refine Ext.alloc ?_ _) | (with_reducible apply Ext.setC; focus (simp <;> omega)) | (with_reducible refine Ext.drew ?_) | (with_reducible refine Ext.drewN ?_ _) | (with_reducible refine Ext.trans ?_ (Hid.out ‹Hid (Ext _ _)›)))
    · have ho1 := HO1.out
      (try simp only [World.size_alloc, size_set, World.heap_drewN, size_drew] at ho1)
      (refine OwnL.lower (base := w.heap.size + 1 + 1 + 1) ?_ (by omega); repeat (first | (with_reducible assumption) | (with_reducible exact Hid.out ‹Hid (OwnL _ _ _ _ _ _ _)›) | (with_reducible apply OwnL.setC; focus (simp <;> omega)) | (with_reducible refine OwnL.put ?_ (by assumption) _) | (with_reducible apply OwnL.alloc) | (with_reducible apply OwnL.drew) | (with_reducible apply OwnL.drewN) | (with_reducible refine OwnL.ext ?_ (Hid.out ‹Hid (Ext _ _)›))))

set_option maxHeartbeats 4000000 in
theorem denied_two (a b : Dn) (s u : Value) (g : Nat) (w : World) (hr : RdL 1 inc w s a.ids) (hs : RdL 1 inc w u b.ids) (hg : Row w g #[.int .i64 a.version, s, .int .i64 b.version, u]) :
    Calls Try.prog 55 #[.slice (some ⟨g, 0, none⟩) 2 2] w fun e w' => e = .returned (.int .i64 (if ckDn a ≠ 0 then ckDn a else ckDn b)) ∧ Ext w w' := by
  obtain ⟨va, la⟩ := a
  obtain ⟨vb, lb⟩ := b
  simp only at *
  obtain ⟨A, c, rfl, -, -⟩ := hr.form
  obtain ⟨A2, c2, rfl, -, -⟩ := hs.form
  have HA := Lib.hid (fun (w' : World) (h : Ext w w') => denied_Check ⟨va, la⟩ _ w' (hr.ext h))
  have HB := Lib.hid (fun (w' : World) (h : Ext w w') => denied_Check ⟨vb, lb⟩ _ w' (hs.ext h))
  simp only at HA HB
  generalize ckDn ⟨va, la⟩ = ra at HA ⊢
  generalize ckDn ⟨vb, lb⟩ = rb at HB ⊢
  generalize hres : (if ra ≠ 0 then ra else rb) = res
  have HRES := Lib.hid hres
  have HG := Lib.hid hg
  clear hr hs hg hres
  go_enter Try.func55, Try.ntmps55
  go_wp2_with fail
  go_loopg [2, 4, 5, 8] 2 (fun gg _ _ _ s8 wr => ∃ k : Nat, k ≤ 2 ∧ 2 - k ≤ gg ∧ s8 = .int .i64 k ∧ Aside (Ext w wr) ∧ Aside ((0 < k → ra = 0) ∧ (1 < k → rb = 0)))
  case atStart => exact ⟨0, by omega, by omega, rfl, Ext.refl _, by omega, by omega⟩
  case round =>
    obtain ⟨k, hk, hgk, rfl, HE, HA0⟩ := hrel
    have hRow := HG.out.ext HE.out
    have hq := hRow.2.1
    have hfz := hRow.2.2
    have hltg := hRow.1
    have HR := Lib.hid hRow
    have HE2 := Lib.hid HE.out
    have HK := Lib.hid HA0.out
    clear hRow HE HA0
    have h3 : k = 0 ∨ k = 1 ∨ k = 2 := by omega
    rcases h3 with rfl | rfl | rfl
    · by_cases h0 : ra = 0
      · subst h0
        go_wp2_with fail
        refine (HA.out _ (by repeat (first | (with_reducible exact Ext.refl _) | (with_reducible refine Ext.alloc ?_ _) | (with_reducible apply Ext.setC; focus (simp <;> omega)) | (with_reducible refine Ext.drew ?_) | (with_reducible refine Ext.drewN ?_ _) | (with_reducible refine Ext.trans ?_ (Hid.out ‹Hid (Ext _ _)›))))).mono ?_
        rintro e w1 ⟨rfl, h1⟩
        have H1 := Lib.hid h1
        clear h1
        go_wp2_with fail
        go_roundg 1
        case measure => omega
        case rel => exact ⟨1, by omega, by omega, by go_num, (show Ext w _ by repeat (first | (with_reducible exact Ext.refl _) | (with_reducible refine Ext.alloc ?_ _) | (with_reducible apply Ext.setC; focus (simp <;> omega)) | (with_reducible refine Ext.drew ?_) | (with_reducible refine Ext.drewN ?_ _) | (with_reducible refine Ext.trans ?_ (Hid.out ‹Hid (Ext _ _)›)))), fun _ => by simp, fun h => by omega⟩
      · have hb0 : (ra != 0) = true := by simpa using h0
        have HRE := Lib.hid (show res = ra by rw [← HRES.out, if_pos h0])
        clear HRES h0
        go_wp2_with fail
        refine (HA.out _ (by repeat (first | (with_reducible exact Ext.refl _) | (with_reducible refine Ext.alloc ?_ _) | (with_reducible apply Ext.setC; focus (simp <;> omega)) | (with_reducible refine Ext.drew ?_) | (with_reducible refine Ext.drewN ?_ _) | (with_reducible refine Ext.trans ?_ (Hid.out ‹Hid (Ext _ _)›))))).mono ?_
        rintro e w1 ⟨rfl, h1⟩
        have H1 := Lib.hid h1
        clear h1
        go_wp2_with fail
        go_ret
        refine ⟨ret_int (by rw [HRE.out]), ?_⟩
        repeat (first | (with_reducible exact Ext.refl _) | (with_reducible refine Ext.alloc ?_ _) | (with_reducible apply Ext.setC; focus (simp <;> omega)) | (with_reducible refine Ext.drew ?_) | (with_reducible refine Ext.drewN ?_ _) | (with_reducible refine Ext.trans ?_ (Hid.out ‹Hid (Ext _ _)›)))
    · have hra := HK.out.1 (by omega)
      subst hra
      by_cases h0 : rb = 0
      · subst h0
        go_wp2_with fail
        refine (HB.out _ (by repeat (first | (with_reducible exact Ext.refl _) | (with_reducible refine Ext.alloc ?_ _) | (with_reducible apply Ext.setC; focus (simp <;> omega)) | (with_reducible refine Ext.drew ?_) | (with_reducible refine Ext.drewN ?_ _) | (with_reducible refine Ext.trans ?_ (Hid.out ‹Hid (Ext _ _)›))))).mono ?_
        rintro e w1 ⟨rfl, h1⟩
        have H1 := Lib.hid h1
        clear h1
        go_wp2_with fail
        go_roundg 0
        case measure => omega
        case rel => exact ⟨2, by omega, by omega, by go_num, (show Ext w _ by repeat (first | (with_reducible exact Ext.refl _) | (with_reducible refine Ext.alloc ?_ _) | (with_reducible apply Ext.setC; focus (simp <;> omega)) | (with_reducible refine Ext.drew ?_) | (with_reducible refine Ext.drewN ?_ _) | (with_reducible refine Ext.trans ?_ (Hid.out ‹Hid (Ext _ _)›)))), fun _ => by simp, fun _ => by simp⟩
      · have hb0 : (rb != 0) = true := by simpa using h0
        have HRE := Lib.hid (show res = rb by rw [← HRES.out]; simp)
        clear HRES h0
        go_wp2_with fail
        refine (HB.out _ (by repeat (first | (with_reducible exact Ext.refl _) | (with_reducible refine Ext.alloc ?_ _) | (with_reducible apply Ext.setC; focus (simp <;> omega)) | (with_reducible refine Ext.drew ?_) | (with_reducible refine Ext.drewN ?_ _) | (with_reducible refine Ext.trans ?_ (Hid.out ‹Hid (Ext _ _)›))))).mono ?_
        rintro e w1 ⟨rfl, h1⟩
        have H1 := Lib.hid h1
        clear h1
        go_wp2_with fail
        go_ret
        refine ⟨ret_int (by rw [HRE.out]), ?_⟩
        repeat (first | (with_reducible exact Ext.refl _) | (with_reducible refine Ext.alloc ?_ _) | (with_reducible apply Ext.setC; focus (simp <;> omega)) | (with_reducible refine Ext.drew ?_) | (with_reducible refine Ext.drewN ?_ _) | (with_reducible refine Ext.trans ?_ (Hid.out ‹Hid (Ext _ _)›)))
    · have hra := HK.out.1 (by omega)
      have hrb := HK.out.2 (by omega)
      subst hra hrb
      have HRE := Lib.hid (show res = 0 by rw [← HRES.out]; simp)
      clear HRES
      go_wp2_with fail
      go_ret
      refine ⟨ret_int (by rw [HRE.out]), HE2.out⟩

set_option maxHeartbeats 4000000 in
theorem denied_Newer (a b : Dn) (s u : Value) (w : World) (hr : RdL 1 inc w s a.ids) (hs : RdL 1 inc w u b.ids) :
    Calls Try.prog 25 #[.agg #[.int .i64 a.version, s], .agg #[.int .i64 b.version, u]] w fun e w' => ∃ s', e = .returned (.tuple #[.agg #[.int .i64 (newerAll a b).1.version, s'], .int .i64 (newerAll a b).2]) ∧ Ext w w' ∧ OwnL 3 1 inc w.heap.size w' s' (newerAll a b).1.ids := by
  obtain ⟨A, c, h1, -, -⟩ := hr.form
  obtain ⟨A2, c2, h2, -, -⟩ := hs.form
  have HT := Lib.hid (fun (g : Nat) (w' : World) (h : Ext w w') (hg : Row w' g #[.int .i64 a.version, s, .int .i64 b.version, u]) => denied_two a b s u g w' (hr.ext h) (hs.ext h) hg)
  by_cases hd : ckDn a = 0 ∧ ckDn b = 0
  · have hP := Lib.hid (fun (w' : World) (h : Ext w w') => denied_Pick a b s u w' (hr.ext h) (hs.ext h) (by have := ((ckDn_ok a).1 hd.1).2.1; omega) (by have := ((ckDn_ok b).1 hd.2).2.1; omega))
    have hres : newerAll a b = (pickD a b, 0) := by unfold newerAll; rw [if_neg (by rw [hd.1]; decide), if_neg (by rw [hd.2]; decide)]
    rw [hres]
    have hz : (if ckDn a ≠ 0 then ckDn a else ckDn b) = 0 := by rw [hd.1, hd.2]; simp
    rw [hz] at HT
    simp only
    generalize pickD a b = r at hP ⊢
    clear hr hs hres hd hz
    subst h1 h2
    go_enter Try.func25, Try.ntmps25
    go_wp2_with fail
    refine (HT.out _ _ (by repeat (first | (with_reducible exact Ext.refl _) | (with_reducible refine Ext.alloc ?_ _) | (with_reducible apply Ext.setC; focus (simp <;> omega)) | (with_reducible refine Ext.drew ?_) | (with_reducible refine Ext.drewN ?_ _) | (with_reducible refine Ext.trans ?_ (Hid.out ‹Hid (Ext _ _)›)))) (Row.newAt (by simp))).mono ?_
    rintro e w1 ⟨rfl, h1⟩
    have H1 := Lib.hid h1
    have hz1 := h1.size
    clear h1
    (try simp only [World.size_alloc, size_set, World.heap_drewN, size_drew] at hz1)
    (apply Row.use (w := w1) (g := w.heap.size); (focus (repeat (first | (with_reducible exact Hid.out ‹Hid (Row _ _ _)›) | (with_reducible exact Row.newAt rfl) | (with_reducible apply Row.newAt; (simp; done)) | (with_reducible apply Row.set_) | (with_reducible apply Row.far; focus (simp <;> omega)) | (with_reducible apply Row.alloc) | (with_reducible apply Row.drew) | (with_reducible apply Row.drewN) | (with_reducible apply Row.ext (Hid.out ‹Hid (Ext _ _)›))))); intro q1_0 f1_0 l1_0 R1_0; (try simp only [List.setIfInBounds_toArray, List.set_cons_zero, List.set_cons_succ] at q1_0 R1_0); apply Row.use (w := w1) (g := w.heap.size + 1); (focus (repeat (first | (with_reducible exact Hid.out ‹Hid (Row _ _ _)›) | (with_reducible exact Row.newAt rfl) | (with_reducible apply Row.newAt; (simp; done)) | (with_reducible apply Row.set_) | (with_reducible apply Row.far; focus (simp <;> omega)) | (with_reducible apply Row.alloc) | (with_reducible apply Row.drew) | (with_reducible apply Row.drewN) | (with_reducible apply Row.ext (Hid.out ‹Hid (Ext _ _)›))))); intro q1_1 f1_1 l1_1 R1_1; (try simp only [List.setIfInBounds_toArray, List.set_cons_zero, List.set_cons_succ] at q1_1 R1_1); apply Row.use (w := w1) (g := w.heap.size + 1 + 1); (focus (repeat (first | (with_reducible exact Hid.out ‹Hid (Row _ _ _)›) | (with_reducible exact Row.newAt rfl) | (with_reducible apply Row.newAt; (simp; done)) | (with_reducible apply Row.set_) | (with_reducible apply Row.far; focus (simp <;> omega)) | (with_reducible apply Row.alloc) | (with_reducible apply Row.drew) | (with_reducible apply Row.drewN) | (with_reducible apply Row.ext (Hid.out ‹Hid (Ext _ _)›))))); intro q1_2 f1_2 l1_2 R1_2; (try simp only [List.setIfInBounds_toArray, List.set_cons_zero, List.set_cons_succ] at q1_2 R1_2))
    go_wp2_with fail
    refine (hP.out _ (by repeat (first | (with_reducible exact Ext.refl _) | (with_reducible refine Ext.alloc ?_ _) | (with_reducible apply Ext.setC; focus (simp <;> omega)) | (with_reducible refine Ext.drew ?_) | (with_reducible refine Ext.drewN ?_ _) | (with_reducible refine Ext.trans ?_ (Hid.out ‹Hid (Ext _ _)›))))).mono ?_
    rintro e w2 ⟨s2, rfl, h2, ho2⟩
    obtain ⟨A3, c3, rfl⟩ := ho2.form
    have hz2 := h2.size
    have H2 := Lib.hid h2
    have HO2 := Lib.hid ho2
    clear h2 ho2
    (apply Row.use (w := w2) (g := w.heap.size + 1 + 1); (focus (repeat (first | (with_reducible exact Hid.out ‹Hid (Row _ _ _)›) | (with_reducible exact Row.newAt rfl) | (with_reducible apply Row.newAt; (simp; done)) | (with_reducible apply Row.set_) | (with_reducible apply Row.far; focus (simp <;> omega)) | (with_reducible apply Row.alloc) | (with_reducible apply Row.drew) | (with_reducible apply Row.drewN) | (with_reducible apply Row.ext (Hid.out ‹Hid (Ext _ _)›))))); intro q2_0 f2_0 l2_0 R2_0; (try simp only [List.setIfInBounds_toArray, List.set_cons_zero, List.set_cons_succ] at q2_0 R2_0))
    go_wp2_with fail
    refine bodyPost_ret (v := .tuple #[.agg #[.int .i64 r.version, .slice A3 r.ids.length c3], .int .i64 0]) (by simp [results, Try.results25, go_sem, *]) rfl ⟨_, rfl, ?_, ?_⟩
    · repeat (first | (with_reducible exact Ext.refl _) | (with_reducible refine Ext.alloc ?_ _) | (with_reducible apply Ext.setC; focus (simp <;> omega)) | (with_reducible refine Ext.drew ?_) | (with_reducible refine Ext.drewN ?_ _) | (with_reducible refine Ext.trans ?_ (Hid.out ‹Hid (Ext _ _)›)))
    · (refine OwnL.lower (base := w1.heap.size) ?_ (by omega); repeat (first | (with_reducible assumption) | (with_reducible exact Hid.out ‹Hid (OwnL _ _ _ _ _ _ _)›) | (with_reducible apply OwnL.setC; focus (simp <;> omega)) | (with_reducible refine OwnL.put ?_ (by assumption) _) | (with_reducible apply OwnL.alloc) | (with_reducible apply OwnL.drew) | (with_reducible apply OwnL.drewN) | (with_reducible refine OwnL.ext ?_ (Hid.out ‹Hid (Ext _ _)›))))
  · generalize hz : (if ckDn a ≠ 0 then ckDn a else ckDn b) = r at HT
    have hr0 : r ≠ 0 := by
      rw [← hz]
      split
      · assumption
      · omega
    have hres : newerAll a b = (dn0, r) := by
      unfold newerAll
      rw [← hz]
      split
      · rfl
      · rw [if_pos (by omega)]
    rw [hres]
    have hb0 : (r != 0) = true := by simpa using hr0
    clear hr hs hres hd hz hr0
    subst h1 h2
    go_enter Try.func25, Try.ntmps25
    go_wp2_with fail
    refine (HT.out _ _ (by repeat (first | (with_reducible exact Ext.refl _) | (with_reducible refine Ext.alloc ?_ _) | (with_reducible apply Ext.setC; focus (simp <;> omega)) | (with_reducible refine Ext.drew ?_) | (with_reducible refine Ext.drewN ?_ _) | (with_reducible refine Ext.trans ?_ (Hid.out ‹Hid (Ext _ _)›)))) (Row.newAt (by simp))).mono ?_
    rintro e w1 ⟨rfl, h1⟩
    have H1 := Lib.hid h1
    have hz1 := h1.size
    clear h1
    (try simp only [World.size_alloc, size_set, World.heap_drewN, size_drew] at hz1)
    (apply Row.use (w := w1) (g := w.heap.size + 1 + 1); (focus (repeat (first | (with_reducible exact Hid.out ‹Hid (Row _ _ _)›) | (with_reducible exact Row.newAt rfl) | (with_reducible apply Row.newAt; (simp; done)) | (with_reducible apply Row.set_) | (with_reducible apply Row.far; focus (simp <;> omega)) | (with_reducible apply Row.alloc) | (with_reducible apply Row.drew) | (with_reducible apply Row.drewN) | (with_reducible apply Row.ext (Hid.out ‹Hid (Ext _ _)›))))); intro q1_0 f1_0 l1_0 R1_0; (try simp only [List.setIfInBounds_toArray, List.set_cons_zero, List.set_cons_succ] at q1_0 R1_0))
    go_wp2_with fail
    refine bodyPost_ret (v := .tuple #[.agg #[.int .i64 0, .slice none 0 0], .int .i64 r]) (by simp [results, Try.results25, go_sem, *]) rfl ⟨_, rfl, ?_, OwnL.nil⟩
    repeat (first | (with_reducible exact Ext.refl _) | (with_reducible refine Ext.alloc ?_ _) | (with_reducible apply Ext.setC; focus (simp <;> omega)) | (with_reducible refine Ext.drew ?_) | (with_reducible refine Ext.drewN ?_ _) | (with_reducible refine Ext.trans ?_ (Hid.out ‹Hid (Ext _ _)›)))

set_option maxHeartbeats 4000000 in
theorem denied_Has (d : Dn) (s : Value) (id : Int) (w : World) (hr : RdL 1 inc w s d.ids) :
    Calls Try.prog 26 #[.agg #[.int .i64 d.version, s], .int .i64 id] w fun e w' => e = .returned (.tuple #[.bool (hasAll d id).1, .int .i64 (hasAll d id).2]) ∧ Ext w w' := by
  obtain ⟨A, c, rfl, -, -⟩ := hr.form
  have HC := Lib.hid (fun (w' : World) (h : Ext w w') => denied_Check d _ w' (hr.ext h))
  have HH := Lib.hid (fun (w' : World) (h : Ext w w') => slices_Contains_int d.ids id _ w' (hr.ext h))
  have HW := Lib.hid (fun w => denied_within id 1 9999 w)
  have hany : d.ids.any (fun x => id == x) = d.ids.contains id := by
    rw [List.contains_eq_any_beq]
  rw [hany] at HH
  unfold hasAll
  generalize ckDn d = r at HC ⊢
  generalize within id 1 9999 = z at HW ⊢
  generalize d.ids.contains id = q at HH ⊢
  clear hany hr
  by_cases h0 : r = 0
  · subst h0
    cases z
    · go_enter Try.func26, Try.ntmps26
      go_wp2_with fail
      (refine (HC.out _ (by repeat (first | (with_reducible exact Ext.refl _) | (with_reducible refine Ext.alloc ?_ _) | (with_reducible apply Ext.setC; focus (simp <;> omega)) | (with_reducible refine Ext.drew ?_) | (with_reducible refine Ext.drewN ?_ _) | (with_reducible refine Ext.trans ?_ (Hid.out ‹Hid (Ext _ _)›))))).mono ?_; rintro e w1 ⟨rfl, h1⟩; have H1 := Lib.hid h1; have hz1 := h1.size; clear h1; (try simp only [World.size_alloc, size_set, World.heap_drewN, size_drew] at hz1); apply Row.use (w := w1) (g := w.heap.size); (focus (repeat (first | (with_reducible exact Hid.out ‹Hid (Row _ _ _)›) | (with_reducible exact Row.newAt rfl) | (with_reducible apply Row.newAt; (simp; done)) | (with_reducible apply Row.set_) | (with_reducible apply Row.far; focus (simp <;> omega)) | (with_reducible apply Row.alloc) | (with_reducible apply Row.drew) | (with_reducible apply Row.drewN) | (with_reducible apply Row.ext (Hid.out ‹Hid (Ext _ _)›))))); intro q1_0 f1_0 l1_0 R1_0; (try simp only [List.setIfInBounds_toArray, List.set_cons_zero, List.set_cons_succ] at q1_0 R1_0))
      go_wp2_with (go_at_call 57; refine (HW.out _).mono ?_; rintro e w' ⟨rfl, rfl⟩)
      go_ret2
      refine ⟨by simp, ?_⟩
      repeat (first | (with_reducible exact Ext.refl _) | (with_reducible refine Ext.alloc ?_ _) | (with_reducible apply Ext.setC; focus (simp <;> omega)) | (with_reducible refine Ext.drew ?_) | (with_reducible refine Ext.drewN ?_ _) | (with_reducible refine Ext.trans ?_ (Hid.out ‹Hid (Ext _ _)›)))
    · go_enter Try.func26, Try.ntmps26
      go_wp2_with fail
      (refine (HC.out _ (by repeat (first | (with_reducible exact Ext.refl _) | (with_reducible refine Ext.alloc ?_ _) | (with_reducible apply Ext.setC; focus (simp <;> omega)) | (with_reducible refine Ext.drew ?_) | (with_reducible refine Ext.drewN ?_ _) | (with_reducible refine Ext.trans ?_ (Hid.out ‹Hid (Ext _ _)›))))).mono ?_; rintro e w1 ⟨rfl, h1⟩; have H1 := Lib.hid h1; have hz1 := h1.size; clear h1; (try simp only [World.size_alloc, size_set, World.heap_drewN, size_drew] at hz1); apply Row.use (w := w1) (g := w.heap.size); (focus (repeat (first | (with_reducible exact Hid.out ‹Hid (Row _ _ _)›) | (with_reducible exact Row.newAt rfl) | (with_reducible apply Row.newAt; (simp; done)) | (with_reducible apply Row.set_) | (with_reducible apply Row.far; focus (simp <;> omega)) | (with_reducible apply Row.alloc) | (with_reducible apply Row.drew) | (with_reducible apply Row.drewN) | (with_reducible apply Row.ext (Hid.out ‹Hid (Ext _ _)›))))); intro q1_0 f1_0 l1_0 R1_0; (try simp only [List.setIfInBounds_toArray, List.set_cons_zero, List.set_cons_succ] at q1_0 R1_0))
      go_wp2_with (first | (go_at_call 57; refine (HW.out _).mono ?_; rintro e w' ⟨rfl, rfl⟩) | (go_at_call 58; refine (HH.out _ (by repeat (first | (with_reducible exact Ext.refl _) | (with_reducible refine Ext.alloc ?_ _) | (with_reducible apply Ext.setC; focus (simp <;> omega)) | (with_reducible refine Ext.drew ?_) | (with_reducible refine Ext.drewN ?_ _) | (with_reducible refine Ext.trans ?_ (Hid.out ‹Hid (Ext _ _)›))))).mono ?_; rintro e w' ⟨rfl, rfl⟩))
      go_ret2
      refine ⟨by simp, ?_⟩
      repeat (first | (with_reducible exact Ext.refl _) | (with_reducible refine Ext.alloc ?_ _) | (with_reducible apply Ext.setC; focus (simp <;> omega)) | (with_reducible refine Ext.drew ?_) | (with_reducible refine Ext.drewN ?_ _) | (with_reducible refine Ext.trans ?_ (Hid.out ‹Hid (Ext _ _)›)))
  · have hb0 : (r != 0) = true := by simpa using h0
    have hb1 : (r == 0) = false := by simpa using h0
    rw [if_pos h0]
    clear h0
    go_enter Try.func26, Try.ntmps26
    go_wp2_with fail
    (refine (HC.out _ (by repeat (first | (with_reducible exact Ext.refl _) | (with_reducible refine Ext.alloc ?_ _) | (with_reducible apply Ext.setC; focus (simp <;> omega)) | (with_reducible refine Ext.drew ?_) | (with_reducible refine Ext.drewN ?_ _) | (with_reducible refine Ext.trans ?_ (Hid.out ‹Hid (Ext _ _)›))))).mono ?_; rintro e w1 ⟨rfl, h1⟩; have H1 := Lib.hid h1; have hz1 := h1.size; clear h1; (try simp only [World.size_alloc, size_set, World.heap_drewN, size_drew] at hz1); apply Row.use (w := w1) (g := w.heap.size); (focus (repeat (first | (with_reducible exact Hid.out ‹Hid (Row _ _ _)›) | (with_reducible exact Row.newAt rfl) | (with_reducible apply Row.newAt; (simp; done)) | (with_reducible apply Row.set_) | (with_reducible apply Row.far; focus (simp <;> omega)) | (with_reducible apply Row.alloc) | (with_reducible apply Row.drew) | (with_reducible apply Row.drewN) | (with_reducible apply Row.ext (Hid.out ‹Hid (Ext _ _)›))))); intro q1_0 f1_0 l1_0 R1_0; (try simp only [List.setIfInBounds_toArray, List.set_cons_zero, List.set_cons_succ] at q1_0 R1_0))
    go_wp2_with fail
    go_ret2
    refine ⟨by simp, ?_⟩
    repeat (first | (with_reducible exact Ext.refl _) | (with_reducible refine Ext.alloc ?_ _) | (with_reducible apply Ext.setC; focus (simp <;> omega)) | (with_reducible refine Ext.drew ?_) | (with_reducible refine Ext.drewN ?_ _) | (with_reducible refine Ext.trans ?_ (Hid.out ‹Hid (Ext _ _)›)))
end Go.Proofs.Ythollackhkiofaa
