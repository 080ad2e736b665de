/- The laws' leadBegun. -/
import Derived.Test.YthollackhkiofaaViewI
import Derived.Test.YthollackhkiofaaSta
namespace Go.Proofs.Ythollackhkiofaa
set_option linter.unusedSimpArgs false
set_option linter.unusedVariables false
set_option maxRecDepth 100000
open Go Go.RowKit Lb

def wonViews : List Vw := [⟨1, 1, true⟩, ⟨1, 1, true⟩, ⟨1, 1, true⟩]
def downViews : List Vw := [⟨1, 1, true⟩, ⟨1, 1, false⟩, ⟨1, 1, true⟩]
theorem vb_win (s : Value) (w : World) (hr : RdL 3 vwc w s newViews) :
    Calls Try.prog 15 #[s, .int .i64 1] w fun e w' => ∃ s', e = .returned (.tuple #[s', .bool true, .int .i64 0]) ∧ Ext w w' ∧ OwnL 39 3 vwc w.heap.size w' s' wonViews := by
  have h := lead_Win newViews s 1 w hr
  rw [show winAll newViews 1 = (wonViews, true, 0) from by decide +kernel] at h
  exact h
theorem vb_now (s : Value) (w : World) (hr : RdL 3 vwc w s wonViews) :
    Calls Try.prog 16 #[s] w fun e w' => e = .returned (.tuple #[.int .i64 1, .bool true, .int .i64 0]) ∧ Ext w w' := by
  have h := lead_Now wonViews s w hr
  rw [show nowAll wonViews = (1, true, 0) from by decide +kernel] at h
  exact h
theorem vb_set (s : Value) (w : World) (hr : RdL 3 vwc w s wonViews) :
    Calls Try.prog 13 #[s, .int .i64 1, .bool false] w fun e w' => ∃ s', e = .returned (.tuple #[s', .int .i64 0]) ∧ Ext w w' ∧ OwnL 39 3 vwc w.heap.size w' s' downViews := by
  have h := lead_Set wonViews s 1 false w hr
  rw [show setAll wonViews 1 false = (downViews, 0) from by decide +kernel] at h
  exact h
theorem vb_now2 (s : Value) (w : World) (hr : RdL 3 vwc w s downViews) :
    Calls Try.prog 16 #[s] w fun e w' => e = .returned (.tuple #[.int .i64 0, .bool false, .int .i64 0]) ∧ Ext w w' := by
  have h := lead_Now downViews s w hr
  rw [show nowAll downViews = (0, false, 0) from by decide +kernel] at h
  exact h
theorem vb_check (s : Value) (w : World) (hr : RdL 3 vwc w s wonViews) :
    Calls Try.prog 22 #[s] w fun e w' => e = .returned (.int .i64 0) ∧ Ext w w' := by
  have h := lead_Check wonViews s w hr
  rw [show ckViews wonViews = 0 from by decide +kernel] at h
  exact h

theorem views_of (a b c : Value) (d : Int) (e gs vs : Value) (w : World) : (Instr.field 85 (.agg #[a, b, c, .int .i64 d, e, gs, vs]) 3).run Try.prog w = .ok vs w := by
  simp [go_sem, Instr.field, asAgg]

set_option maxHeartbeats 4000000 in
theorem law_leadBegun (w : World) :
    Calls Try.prog 14 #[] w fun e w' => e = .returned (.bool true) ∧ Ext w w' := by
  go_enter Try.func14, Try.ntmps14
  go_wp2_with fail
  refine (station_New _).mono ?_
  rintro e w0 ⟨gs, vs, rfl, h0, hog, hov⟩
  obtain ⟨Ag, cg, rfl⟩ := hog.form
  obtain ⟨Av, cv, rfl⟩ := hov.form
  have hvo := views_of (.slice none 0 0) (.slice none 0 0) (.slice none 0 0) 0 (.slice none 0 0) (.slice Ag newGates.length cg) (.slice Av newViews.length cv)
  have H0 := Lib.hid h0
  have HV := Lib.hid (hov.rd vwc_size)
  clear h0 hog hov
  go_wp2_with fail
  (refine (vb_win _ _ (HV.out.ext (by repeat (first | (with_reducible exact Ext.refl _) | (with_reducible refine Ext.alloc ?_ _) | (with_reducible apply Ext.setC; focus (simp <;> omega)) | (with_reducible refine Ext.drew ?_) | (with_reducible refine Ext.drewN ?_ _) | (with_reducible refine Ext.trans ?_ (Hid.out ‹Hid (Ext _ _)›)))))).mono ?_; rintro e w1 ⟨s1, rfl, h1, ho1⟩; obtain ⟨A1, c1, rfl⟩ := ho1.form; have H1 := Lib.hid h1; have HO1 := Lib.hid (OwnL.rd ho1 vwc_size); clear h1 ho1)
  go_wp2_with fail
  (refine (vb_now _ _ (HO1.out.ext (by repeat (first | (with_reducible exact Ext.refl _) | (with_reducible refine Ext.alloc ?_ _) | (with_reducible apply Ext.setC; focus (simp <;> omega)) | (with_reducible refine Ext.drew ?_) | (with_reducible refine Ext.drewN ?_ _) | (with_reducible refine Ext.trans ?_ (Hid.out ‹Hid (Ext _ _)›)))))).mono ?_; rintro e w2 ⟨rfl, h2⟩; have H2 := Lib.hid h2; have hz2 := h2.size; clear h2; (try simp only [World.size_alloc, size_set, World.heap_drewN, size_drew] at hz2))
  go_wp2_with fail
  (refine (vb_set _ _ (HO1.out.ext (by repeat (first | (with_reducible exact Ext.refl _) | (with_reducible refine Ext.alloc ?_ _) | (with_reducible apply Ext.setC; focus (simp <;> omega)) | (with_reducible refine Ext.drew ?_) | (with_reducible refine Ext.drewN ?_ _) | (with_reducible refine Ext.trans ?_ (Hid.out ‹Hid (Ext _ _)›)))))).mono ?_; rintro e w3 ⟨s3, rfl, h3, ho3⟩; obtain ⟨A3, c3, rfl⟩ := ho3.form; have H3 := Lib.hid h3; have HO3 := Lib.hid (OwnL.rd ho3 vwc_size); clear h3 ho3)
  go_wp2_with fail
  (refine (vb_now2 _ _ (HO3.out.ext (by repeat (first | (with_reducible exact Ext.refl _) | (with_reducible refine Ext.alloc ?_ _) | (with_reducible apply Ext.setC; focus (simp <;> omega)) | (with_reducible refine Ext.drew ?_) | (with_reducible refine Ext.drewN ?_ _) | (with_reducible refine Ext.trans ?_ (Hid.out ‹Hid (Ext _ _)›)))))).mono ?_; rintro e w4 ⟨rfl, h4⟩; have H4 := Lib.hid h4; have hz4 := h4.size; clear h4; (try simp only [World.size_alloc, size_set, World.heap_drewN, size_drew] at hz4))
  go_wp2_with fail
  (refine (vb_check _ _ (HO1.out.ext (by repeat (first | (with_reducible exact Ext.refl _) | (with_reducible refine Ext.alloc ?_ _) | (with_reducible apply Ext.setC; focus (simp <;> omega)) | (with_reducible refine Ext.drew ?_) | (with_reducible refine Ext.drewN ?_ _) | (with_reducible refine Ext.trans ?_ (Hid.out ‹Hid (Ext _ _)›)))))).mono ?_; rintro e w5 ⟨rfl, h5⟩; have H5 := Lib.hid h5; have hz5 := h5.size; clear h5; (try simp only [World.size_alloc, size_set, World.heap_drewN, size_drew] at hz5))
  go_wp2_with fail
  go_ret
  refine ⟨ret_bool rfl, ?_⟩
  repeat (first | (with_reducible exact Ext.refl _) | (with_reducible refine Ext.alloc ?_ _) | (with_reducible apply Ext.setC; focus (simp <;> omega)) | (with_reducible refine Ext.drew ?_) | (with_reducible refine Ext.drewN ?_ _) | (with_reducible refine Ext.trans ?_ (Hid.out ‹Hid (Ext _ _)›)))
end Go.Proofs.Ythollackhkiofaa
