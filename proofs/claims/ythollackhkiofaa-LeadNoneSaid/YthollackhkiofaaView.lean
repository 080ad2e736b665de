/- Views of who leads: the closures over one view. -/
import Derived.Test.YthollackhkiofaaIx
import Derived.Test.YthollackhkiofaaView0
import Derived.Test.YthollackhkiofaaVwP
namespace Go.Proofs.Ythollackhkiofaa
set_option linter.unusedSimpArgs false
set_option linter.unusedVariables false
open Go Go.RowKit Lb

theorem lead_within (n a b : Int) (w : World) :
    Calls Try.prog 51 #[.int .i64 n, .int .i64 a, .int .i64 b] w fun e w' => e = .returned (.bool (within n a b)) ∧ w = w' := by
  go_enter Try.func51, Try.ntmps51
  go_wp2
  all_goals
    go_ret
    exact ⟨ret_bool (by simp [within, *] <;> omega), rfl⟩

theorem lead_Check1 (x v : Vw) (g : Nat) (w : World) (hr : Row w g (vwc v)) :
    Calls Try.prog 53 #[.agg (vwc x), .pointer (some ⟨g, 0, none⟩)] w fun e w' => e = .returned (.bool (clash v x)) ∧ Ext w w' := by
  obtain ⟨x0, x1, x2⟩ := x
  obtain ⟨v0, v1, v2⟩ := v
  unfold vwc at hr ⊢
  apply Row.use hr; intro q f l R
  clear hr
  go_enter Try.func53, Try.ntmps53
  go_wp2
  all_goals
    go_ret
    refine ⟨ret_bool ?_, ?_⟩
    · simp_all [clash]
    · repeat (first | (with_reducible exact Ext.refl _) | (with_reducible refine Ext.alloc ?_ _) | (with_reducible apply Ext.setC; focus (simp <;> omega)) | (with_reducible refine Ext.drew ?_) | (with_reducible refine Ext.drewN ?_ _) | (with_reducible refine Ext.trans ?_ (Hid.out ‹Hid (Ext _ _)›)))
theorem lead_Who1 (x : Vw) (top : Int) (g : Nat) (w : World) (hr : Row w g #[.int .i64 top]) :
    Calls Try.prog 75 #[.agg (vwc x), .pointer (some ⟨g, 0, none⟩)] w fun e w' => e = .returned (.bool (atTop top x)) ∧ Ext w w' := by
  obtain ⟨x0, x1, x2⟩ := x
  unfold vwc
  apply Row.use hr; intro q f l R
  clear hr
  go_enter Try.func75, Try.ntmps75
  go_wp2
  all_goals
    go_ret
    refine ⟨ret_bool ?_, ?_⟩
    · simp_all [atTop]
    · repeat (first | (with_reducible exact Ext.refl _) | (with_reducible refine Ext.alloc ?_ _) | (with_reducible apply Ext.setC; focus (simp <;> omega)) | (with_reducible refine Ext.drew ?_) | (with_reducible refine Ext.drewN ?_ _) | (with_reducible refine Ext.trans ?_ (Hid.out ‹Hid (Ext _ _)›)))
theorem lead_Who2 (x : Vw) (top : Int) (g : Nat) (w : World) (hr : Row w g #[.int .i64 top]) :
    Calls Try.prog 76 #[.agg (vwc x), .pointer (some ⟨g, 0, none⟩)] w fun e w' => e = .returned (.bool (upTop top x)) ∧ Ext w w' := by
  obtain ⟨x0, x1, x2⟩ := x
  unfold vwc
  apply Row.use hr; intro q f l R
  clear hr
  go_enter Try.func76, Try.ntmps76
  go_wp2
  all_goals
    go_ret
    refine ⟨ret_bool ?_, ?_⟩
    · simp_all [upTop]
    · repeat (first | (with_reducible exact Ext.refl _) | (with_reducible refine Ext.alloc ?_ _) | (with_reducible apply Ext.setC; focus (simp <;> omega)) | (with_reducible refine Ext.drew ?_) | (with_reducible refine Ext.drewN ?_ _) | (with_reducible refine Ext.trans ?_ (Hid.out ‹Hid (Ext _ _)›)))
theorem lead_Raw1 (x : Vw) (w : World) :
    Calls Try.prog 72 #[.agg (vwc x)] w fun e w' => e = .returned (.bool x.up) ∧ Ext w w' := by
  obtain ⟨x0, x1, x2⟩ := x
  unfold vwc
  go_enter Try.func72, Try.ntmps72
  go_wp2
  all_goals
    go_ret
    refine ⟨rfl, ?_⟩
    repeat (first | (with_reducible exact Ext.refl _) | (with_reducible refine Ext.alloc ?_ _) | (with_reducible apply Ext.setC; focus (simp <;> omega)) | (with_reducible refine Ext.drew ?_) | (with_reducible refine Ext.drewN ?_ _) | (with_reducible refine Ext.trans ?_ (Hid.out ‹Hid (Ext _ _)›)))
end Go.Proofs.Ythollackhkiofaa
