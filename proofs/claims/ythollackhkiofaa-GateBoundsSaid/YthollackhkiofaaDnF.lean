/- denied.Raw and Add. -/
import Derived.Test.YthollackhkiofaaDnE
namespace Go.Proofs.Ythollackhkiofaa
set_option linter.unusedSimpArgs false
set_option linter.unusedVariables false
set_option maxRecDepth 100000
open Go Go.RowKit Lb

set_option maxHeartbeats 4000000 in
theorem denied_Raw (d : Dn) (s : Value) (id : Int) (w : World) (hr : RdL 1 inc w s d.ids) (hd : ckDn d = 0) :
    Calls Try.prog 54 #[.agg #[.int .i64 d.version, s], .int .i64 id] w fun e w' => ∃ s', e = .returned (.tuple #[.agg #[.int .i64 (denyD d id).1.version, s'], .int .i64 (denyD d id).2]) ∧ Ext w w' ∧ OwnL 3 1 inc w.heap.size w' s' (denyD d id).1.ids := by
  have h12 := ((ckDn_ok d).1 hd).2.1
  obtain ⟨ver, l⟩ := d
  simp only at *
  obtain ⟨A, c, rfl, -, -⟩ := hr.form
  have HOwn := Lib.hid (fun (w' : World) (h : Ext w w') => denied_Own ⟨ver, l⟩ _ w' (hr.ext h) (show l.length * 8 ≤ 140737488355328 by omega))
  simp only at HOwn
  have HD := Lib.hid hd
  clear hr hd h12
  cases hid : within id 1 9999 with
  | false =>
    have HW := Lib.hid (fun w => (hid ▸ denied_within id 1 9999 w : Calls Try.prog 57 #[.int .i64 id, .int .i64 1, .int .i64 9999] w fun e w' => e = .returned (.bool false) ∧ w = w'))
    have hres : denyD ⟨ver, l⟩ id = (dn0, 3) := by unfold denyD; rw [if_pos hid]
    rw [hres]
    clear hid hres
    go_enter Try.func54, Try.ntmps54
    go_wp2_with fail
    refine (HOwn.out _ (by repeat (first | (with_reducible exact Ext.refl _) | (with_reducible refine Ext.alloc ?_ _) | (with_reducible apply Ext.setC; focus (simp <;> omega)) | (with_reducible refine Ext.drew ?_) | (with_reducible refine Ext.drewN ?_ _) | (with_reducible refine Ext.trans ?_ (Hid.out ‹Hid (Ext _ _)›))))).mono ?_
    rintro e w1 ⟨s1, rfl, h1, ho1⟩
    obtain ⟨A1, c1, rfl⟩ := ho1.form
    have hz1 := h1.size
    have H1 := Lib.hid h1
    clear h1 ho1
    (try simp only [World.size_alloc, size_set, World.heap_drewN, size_drew] at hz1)
    (apply Row.use (w := w1) (g := w.heap.size); (focus (repeat (first | (with_reducible exact Hid.out ‹Hid (Row _ _ _)›) | (with_reducible exact Row.newAt rfl) | (with_reducible apply Row.newAt; (simp; done)) | (with_reducible apply Row.set_) | (with_reducible apply Row.far; focus (simp <;> omega)) | (with_reducible apply Row.alloc) | (with_reducible apply Row.drew) | (with_reducible apply Row.drewN) | (with_reducible apply Row.ext (Hid.out ‹Hid (Ext _ _)›))))); intro q1_0 f1_0 l1_0 R1_0; (try simp only [List.setIfInBounds_toArray, List.set_cons_zero, List.set_cons_succ] at q1_0 R1_0); apply Row.use (w := w1) (g := w.heap.size + 1); (focus (repeat (first | (with_reducible exact Hid.out ‹Hid (Row _ _ _)›) | (with_reducible exact Row.newAt rfl) | (with_reducible apply Row.newAt; (simp; done)) | (with_reducible apply Row.set_) | (with_reducible apply Row.far; focus (simp <;> omega)) | (with_reducible apply Row.alloc) | (with_reducible apply Row.drew) | (with_reducible apply Row.drewN) | (with_reducible apply Row.ext (Hid.out ‹Hid (Ext _ _)›))))); intro q1_1 f1_1 l1_1 R1_1; (try simp only [List.setIfInBounds_toArray, List.set_cons_zero, List.set_cons_succ] at q1_1 R1_1))
    go_wp2_with (go_at_call 57; refine (HW.out _).mono ?_; rintro e w' ⟨rfl, rfl⟩)
    refine bodyPost_ret (v := .tuple #[.agg #[.int .i64 0, .slice none 0 0], .int .i64 3]) (by simp [results, Try.results54, go_sem, *]) rfl ⟨_, rfl, ?_, OwnL.nil⟩
    repeat (first | (with_reducible exact Ext.refl _) | (with_reducible refine Ext.alloc ?_ _) | (with_reducible apply Ext.setC; focus (simp <;> omega)) | (with_reducible refine Ext.drew ?_) | (with_reducible refine Ext.drewN ?_ _) | (with_reducible refine Ext.trans ?_ (Hid.out ‹Hid (Ext _ _)›)))
  | true =>
    have HW := Lib.hid (fun w => (hid ▸ denied_within id 1 9999 w : Calls Try.prog 57 #[.int .i64 id, .int .i64 1, .int .i64 9999] w fun e w' => e = .returned (.bool true) ∧ w = w'))
    have HI := Lib.hid hid
    generalize hres : denyD ⟨ver, l⟩ id = res
    have HRES := Lib.hid hres
    clear hid hres
    go_enter Try.func54, Try.ntmps54
    go_wp2_with fail
    refine (HOwn.out _ (by repeat (first | (with_reducible exact Ext.refl _) | (with_reducible refine Ext.alloc ?_ _) | (with_reducible apply Ext.setC; focus (simp <;> omega)) | (with_reducible refine Ext.drew ?_) | (with_reducible refine Ext.drewN ?_ _) | (with_reducible refine Ext.trans ?_ (Hid.out ‹Hid (Ext _ _)›))))).mono ?_
    rintro e w1 ⟨s1, rfl, h1, ho1⟩
    obtain ⟨A1, c1, rfl⟩ := ho1.form
    have hz1 := h1.size
    have H1 := Lib.hid h1
    have HO1 := Lib.hid ho1
    clear h1 ho1
    (try simp only [World.size_alloc, size_set, World.heap_drewN, size_drew] at hz1)
    (apply Row.use (w := w1) (g := w.heap.size); (focus (repeat (first | (with_reducible exact Hid.out ‹Hid (Row _ _ _)›) | (with_reducible exact Row.newAt rfl) | (with_reducible apply Row.newAt; (simp; done)) | (with_reducible apply Row.set_) | (with_reducible apply Row.far; focus (simp <;> omega)) | (with_reducible apply Row.alloc) | (with_reducible apply Row.drew) | (with_reducible apply Row.drewN) | (with_reducible apply Row.ext (Hid.out ‹Hid (Ext _ _)›))))); intro q1_0 f1_0 l1_0 R1_0; (try simp only [List.setIfInBounds_toArray, List.set_cons_zero, List.set_cons_succ] at q1_0 R1_0); apply Row.use (w := w1) (g := w.heap.size + 1); (focus (repeat (first | (with_reducible exact Hid.out ‹Hid (Row _ _ _)›) | (with_reducible exact Row.newAt rfl) | (with_reducible apply Row.newAt; (simp; done)) | (with_reducible apply Row.set_) | (with_reducible apply Row.far; focus (simp <;> omega)) | (with_reducible apply Row.alloc) | (with_reducible apply Row.drew) | (with_reducible apply Row.drewN) | (with_reducible apply Row.ext (Hid.out ‹Hid (Ext _ _)›))))); intro q1_1 f1_1 l1_1 R1_1; (try simp only [List.setIfInBounds_toArray, List.set_cons_zero, List.set_cons_succ] at q1_1 R1_1))
    go_wp2_with (go_at_call 57; refine (HW.out _).mono ?_; rintro e w' ⟨rfl, rfl⟩)
    have ho1 := HO1.out
    (try simp only [World.size_alloc, size_set, World.heap_drewN, size_drew] at ho1)
    have hne : (Value.slice A1 l.length c1).ownBlock ≠ some w1.heap.size := fun h => by have := (ho1.lt _ h).2; omega
    refine (keeper_add ⟨ver, l⟩ _ w1.heap.size (w.heap.size + 1 + 1) _ id (Row.newAt rfl) (ho1.alloc _) hne hz1 HD.out HI.out).mono ?_
    rw [HRES.out]
    rintro e w3 ⟨rfl, hB, hP⟩
    have hr0 : Row w3 w.heap.size _ := (Row.alloc R1_0.out).below hB (by omega)
    have hr1 : Row w3 (w.heap.size + 1) _ := (Row.alloc R1_1.out).below hB (by omega)
    have hB2 : Ext w w3 := by
      have : Ext w w1 := by repeat (first | (with_reducible exact Ext.refl _) | (with_reducible refine Ext.alloc ?_ _) | (with_reducible apply Ext.setC; focus (simp <;> omega)) | (with_reducible refine Ext.drew ?_) | (with_reducible refine Ext.drewN ?_ _) | (with_reducible refine Ext.trans ?_ (Hid.out ‹Hid (Ext _ _)›)))
      exact Below.trans (this.alloc _) (Below.mono hB (by omega))
    have HE3 := Lib.hid hB2
    have hq0 := hr0.2.1
    have hq1 := hr1.2.1
    have hf1 := hr1.2.2
    have hlt3 := hr1.1
    clear hB hB2 hr0
    by_cases h0 : res.2 = 0
    · obtain ⟨s3, hrow3, ho3, hn3⟩ := hP h0
      have hv := (denyD_ok (d := ⟨ver, l⟩) (id := id) (by rw [HRES.out]; exact h0)).2.2.2.2
      rw [HRES.out] at hv
      subst hv
      obtain ⟨A3, c3, rfl⟩ := ho3.form
      have HO3 := Lib.hid ho3
      have hqk := hrow3.2.1
      have hltk := hrow3.1
      clear hP hrow3 ho3 h0 hn3
      go_wp2_with fail
      refine bodyPost_ret (v := .tuple #[.agg #[.int .i64 (ver + 1), .slice A3 (insI id l).length c3], .int .i64 0]) (by simp [results, Try.results54, go_sem, *]) rfl ⟨_, rfl, ?_, ?_⟩
      · repeat (first | (with_reducible exact Ext.refl _) | (with_reducible refine Ext.alloc ?_ _) | (with_reducible apply Ext.setC; focus (simp <;> omega)) | (with_reducible refine Ext.drew ?_) | (with_reducible refine Ext.drewN ?_ _) | (with_reducible refine Ext.trans ?_ (Hid.out ‹Hid (Ext _ _)›)))
      · (refine OwnL.lower (base := w.heap.size + 1 + 1) ?_ (by omega); repeat (first | (with_reducible assumption) | (with_reducible exact Hid.out ‹Hid (OwnL _ _ _ _ _ _ _)›) | (with_reducible apply OwnL.setC; focus (simp <;> omega)) | (with_reducible refine OwnL.put ?_ (by assumption) _) | (with_reducible apply OwnL.alloc) | (with_reducible apply OwnL.drew) | (with_reducible apply OwnL.drewN) | (with_reducible refine OwnL.ext ?_ (Hid.out ‹Hid (Ext _ _)›))))
    · have hv := denyD_err (d := ⟨ver, l⟩) (id := id) (by rw [HRES.out]; exact h0)
      rw [HRES.out] at hv
      obtain ⟨rd, re⟩ := res
      simp only at hv h0 ⊢
      subst hv
      have hb0 : (re != 0) = true := by simpa using h0
      clear hP
      go_wp2_with fail
      refine bodyPost_ret (v := .tuple #[.agg #[.int .i64 0, .slice none 0 0], .int .i64 re]) (by simp [results, Try.results54, go_sem, *]) rfl ⟨_, rfl, ?_, OwnL.nil⟩
      repeat (first | (with_reducible exact Ext.refl _) | (with_reducible refine Ext.alloc ?_ _) | (with_reducible apply Ext.setC; focus (simp <;> omega)) | (with_reducible refine Ext.drew ?_) | (with_reducible refine Ext.drewN ?_ _) | (with_reducible refine Ext.trans ?_ (Hid.out ‹Hid (Ext _ _)›)))

set_option maxHeartbeats 4000000 in
theorem denied_Add (d : Dn) (s : Value) (id : Int) (w : World) (hr : RdL 1 inc w s d.ids) :
    Calls Try.prog 24 #[.agg #[.int .i64 d.version, s], .int .i64 id] w fun e w' => ∃ s', e = .returned (.tuple #[.agg #[.int .i64 (denyAll d id).1.version, s'], .int .i64 (denyAll d id).2]) ∧ Ext w w' ∧ OwnL 3 1 inc w.heap.size w' s' (denyAll d id).1.ids := by
  obtain ⟨ver, l⟩ := d
  simp only at *
  obtain ⟨A, c, rfl, -, -⟩ := hr.form
  have HC := Lib.hid (fun (w' : World) (h : Ext w w') => denied_Check ⟨ver, l⟩ _ w' (hr.ext h))
  simp only at HC
  by_cases hd : ckDn ⟨ver, l⟩ = 0
  · have HRaw := Lib.hid (fun (w' : World) (h : Ext w w') => denied_Raw ⟨ver, l⟩ _ id w' (hr.ext h) hd)
    simp only at HRaw
    have hres : denyAll ⟨ver, l⟩ id = denyD ⟨ver, l⟩ id := by unfold denyAll; rw [if_neg (by rw [hd]; decide)]
    rw [hres]
    rw [hd] at HC
    generalize denyD ⟨ver, l⟩ id = res at HRaw ⊢
    clear hr hd hres
    go_enter Try.func24, Try.ntmps24
    go_wp2_with fail
    (refine (HC.out _ (by repeat (first | (with_reducible exact Ext.refl _) | (with_reducible refine Ext.alloc ?_ _) | (with_reducible apply Ext.setC; focus (simp <;> omega)) | (with_reducible refine Ext.drew ?_) | (with_reducible refine Ext.drewN ?_ _) | (with_reducible refine Ext.trans ?_ (Hid.out ‹Hid (Ext _ _)›))))).mono ?_; rintro e w1 ⟨rfl, h1⟩; have H1 := Lib.hid h1; have hz1 := h1.size; clear h1; (try simp only [World.size_alloc, size_set, World.heap_drewN, size_drew] at hz1); apply Row.use (w := w1) (g := w.heap.size); (focus (repeat (first | (with_reducible exact Hid.out ‹Hid (Row _ _ _)›) | (with_reducible exact Row.newAt rfl) | (with_reducible apply Row.newAt; (simp; done)) | (with_reducible apply Row.set_) | (with_reducible apply Row.far; focus (simp <;> omega)) | (with_reducible apply Row.alloc) | (with_reducible apply Row.drew) | (with_reducible apply Row.drewN) | (with_reducible apply Row.ext (Hid.out ‹Hid (Ext _ _)›))))); intro q1_0 f1_0 l1_0 R1_0; (try simp only [List.setIfInBounds_toArray, List.set_cons_zero, List.set_cons_succ] at q1_0 R1_0); apply Row.use (w := w1) (g := w.heap.size + 1); (focus (repeat (first | (with_reducible exact Hid.out ‹Hid (Row _ _ _)›) | (with_reducible exact Row.newAt rfl) | (with_reducible apply Row.newAt; (simp; done)) | (with_reducible apply Row.set_) | (with_reducible apply Row.far; focus (simp <;> omega)) | (with_reducible apply Row.alloc) | (with_reducible apply Row.drew) | (with_reducible apply Row.drewN) | (with_reducible apply Row.ext (Hid.out ‹Hid (Ext _ _)›))))); intro q1_1 f1_1 l1_1 R1_1; (try simp only [List.setIfInBounds_toArray, List.set_cons_zero, List.set_cons_succ] at q1_1 R1_1))
    go_wp2_with fail
    refine (HRaw.out _ (by repeat (first | (with_reducible exact Ext.refl _) | (with_reducible refine Ext.alloc ?_ _) | (with_reducible apply Ext.setC; focus (simp <;> omega)) | (with_reducible refine Ext.drew ?_) | (with_reducible refine Ext.drewN ?_ _) | (with_reducible refine Ext.trans ?_ (Hid.out ‹Hid (Ext _ _)›))))).mono ?_
    rintro e w2 ⟨s2, rfl, h2, ho2⟩
    obtain ⟨A2, c2, rfl⟩ := ho2.form
    have hz2 := h2.size
    have H2 := Lib.hid h2
    have HO2 := Lib.hid ho2
    clear h2 ho2
    (apply Row.use (w := w2) (g := w.heap.size + 1); (focus (repeat (first | (with_reducible exact Hid.out ‹Hid (Row _ _ _)›) | (with_reducible exact Row.newAt rfl) | (with_reducible apply Row.newAt; (simp; done)) | (with_reducible apply Row.set_) | (with_reducible apply Row.far; focus (simp <;> omega)) | (with_reducible apply Row.alloc) | (with_reducible apply Row.drew) | (with_reducible apply Row.drewN) | (with_reducible apply Row.ext (Hid.out ‹Hid (Ext _ _)›))))); intro q2_0 f2_0 l2_0 R2_0; (try simp only [List.setIfInBounds_toArray, List.set_cons_zero, List.set_cons_succ] at q2_0 R2_0))
    go_wp2_with fail
    refine bodyPost_ret (v := .tuple #[.agg #[.int .i64 res.1.version, .slice A2 res.1.ids.length c2], .int .i64 res.2]) (by simp [results, Try.results24, go_sem, *]) rfl ⟨_, rfl, ?_, ?_⟩
    · repeat (first | (with_reducible exact Ext.refl _) | (with_reducible refine Ext.alloc ?_ _) | (with_reducible apply Ext.setC; focus (simp <;> omega)) | (with_reducible refine Ext.drew ?_) | (with_reducible refine Ext.drewN ?_ _) | (with_reducible refine Ext.trans ?_ (Hid.out ‹Hid (Ext _ _)›)))
    · (refine OwnL.lower (base := w1.heap.size) ?_ (by omega); repeat (first | (with_reducible assumption) | (with_reducible exact Hid.out ‹Hid (OwnL _ _ _ _ _ _ _)›) | (with_reducible apply OwnL.setC; focus (simp <;> omega)) | (with_reducible refine OwnL.put ?_ (by assumption) _) | (with_reducible apply OwnL.alloc) | (with_reducible apply OwnL.drew) | (with_reducible apply OwnL.drewN) | (with_reducible refine OwnL.ext ?_ (Hid.out ‹Hid (Ext _ _)›))))
  · have hb0 : (ckDn ⟨ver, l⟩ != 0) = true := by simpa using hd
    have hres : denyAll ⟨ver, l⟩ id = (dn0, ckDn ⟨ver, l⟩) := by unfold denyAll; rw [if_pos hd]
    rw [hres]
    generalize ckDn ⟨ver, l⟩ = r at *
    clear hr hd hres
    go_enter Try.func24, Try.ntmps24
    go_wp2_with fail
    (refine (HC.out _ (by repeat (first | (with_reducible exact Ext.refl _) | (with_reducible refine Ext.alloc ?_ _) | (with_reducible apply Ext.setC; focus (simp <;> omega)) | (with_reducible refine Ext.drew ?_) | (with_reducible refine Ext.drewN ?_ _) | (with_reducible refine Ext.trans ?_ (Hid.out ‹Hid (Ext _ _)›))))).mono ?_; rintro e w1 ⟨rfl, h1⟩; have H1 := Lib.hid h1; have hz1 := h1.size; clear h1; (try simp only [World.size_alloc, size_set, World.heap_drewN, size_drew] at hz1); apply Row.use (w := w1) (g := w.heap.size); (focus (repeat (first | (with_reducible exact Hid.out ‹Hid (Row _ _ _)›) | (with_reducible exact Row.newAt rfl) | (with_reducible apply Row.newAt; (simp; done)) | (with_reducible apply Row.set_) | (with_reducible apply Row.far; focus (simp <;> omega)) | (with_reducible apply Row.alloc) | (with_reducible apply Row.drew) | (with_reducible apply Row.drewN) | (with_reducible apply Row.ext (Hid.out ‹Hid (Ext _ _)›))))); intro q1_0 f1_0 l1_0 R1_0; (try simp only [List.setIfInBounds_toArray, List.set_cons_zero, List.set_cons_succ] at q1_0 R1_0); apply Row.use (w := w1) (g := w.heap.size + 1); (focus (repeat (first | (with_reducible exact Hid.out ‹Hid (Row _ _ _)›) | (with_reducible exact Row.newAt rfl) | (with_reducible apply Row.newAt; (simp; done)) | (with_reducible apply Row.set_) | (with_reducible apply Row.far; focus (simp <;> omega)) | (with_reducible apply Row.alloc) | (with_reducible apply Row.drew) | (with_reducible apply Row.drewN) | (with_reducible apply Row.ext (Hid.out ‹Hid (Ext _ _)›))))); intro q1_1 f1_1 l1_1 R1_1; (try simp only [List.setIfInBounds_toArray, List.set_cons_zero, List.set_cons_succ] at q1_1 R1_1))
    go_wp2_with fail
    refine bodyPost_ret (v := .tuple #[.agg #[.int .i64 0, .slice none 0 0], .int .i64 r]) (by simp [results, Try.results24, go_sem, *]) rfl ⟨_, rfl, ?_, OwnL.nil⟩
    repeat (first | (with_reducible exact Ext.refl _) | (with_reducible refine Ext.alloc ?_ _) | (with_reducible apply Ext.setC; focus (simp <;> omega)) | (with_reducible refine Ext.drew ?_) | (with_reducible refine Ext.drewN ?_ _) | (with_reducible refine Ext.trans ?_ (Hid.out ‹Hid (Ext _ _)›)))
end Go.Proofs.Ythollackhkiofaa
