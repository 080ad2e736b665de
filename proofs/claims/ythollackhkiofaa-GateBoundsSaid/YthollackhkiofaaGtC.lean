/- gate.Own, early. -/
import Derived.Test.YthollackhkiofaaGtB
import Derived.Test.YthollackhkiofaaCnTp
import Derived.Test.YthollackhkiofaaIxTap
import Derived.Test.YthollackhkiofaaOwnC
namespace Go.Proofs.Ythollackhkiofaa
set_option linter.unusedSimpArgs false
set_option linter.unusedVariables false
set_option maxRecDepth 100000
open Go Go.RowKit Lb

set_option maxHeartbeats 8000000 in
theorem gate_Own (g : Gt) (sa si : Value) (w : World) (hr : RdL 5 tpc w sa g.alone) (hs : RdL 1 inc w si g.denied.ids) (ha : g.alone.length ≤ 100) (hd : g.denied.ids.length ≤ 100) :
    Calls Try.prog 81 #[.agg (gta g sa si)] w fun e w' => ∃ sa' si', e = .returned (.agg (gta g sa' si')) ∧ Ext w w' ∧ OwnL 64 5 tpc w.heap.size w' sa' g.alone ∧ OwnL 3 1 inc w.heap.size w' si' g.denied.ids ∧ (∀ q, sa'.ownBlock = some q → si'.ownBlock ≠ some q) := by
  have HC := Lib.hid (fun (w' : World) (h : Ext w w') => Clone_tp g.alone sa w' (hr.ext h) (by omega))
  have HD := Lib.hid (fun (w' : World) (h : Ext w w') => denied_Own g.denied si w' (hs.ext h) (by omega))
  obtain ⟨A, c, rfl, -, -⟩ := hr.form
  obtain ⟨A2, c2, rfl, -, -⟩ := hs.form
  unfold gta
  clear hr hs
  go_enter Try.func81, Try.ntmps81
  go_wp2_with fail
  go_region_with (first
    | (go_at_call 87; refine (HC.out _ (by repeat (first | (with_reducible exact Ext.refl _) | (with_reducible refine Ext.alloc ?_ _) | (with_reducible apply Ext.setC; focus (simp <;> omega)) | (with_reducible refine Ext.drew ?_) | (with_reducible refine Ext.drewN ?_ _) | (with_reducible refine Ext.trans ?_ (Hid.out ‹Hid (Ext _ _)›))))).mono ?_; rintro e wa ⟨va, rfl, ha, hoa⟩; obtain ⟨Aa, ca, rfl⟩ := hoa.form; have hza := ha.size; have HA := Lib.hid ha; (try simp only [World.size_alloc, size_set, World.heap_drewN, size_drew] at hza); (try simp only [World.size_alloc, size_set, World.heap_drewN, size_drew] at hoa); have HOA := Lib.hid hoa; clear ha hoa; (apply Row.use (w := wa) (g := w.heap.size); (focus (repeat (first | (with_reducible exact Hid.out ‹Hid (Row _ _ _)›) | (with_reducible exact Row.newAt rfl) | (with_reducible apply Row.newAt; (simp; done)) | (with_reducible apply Row.set_) | (with_reducible apply Row.far; focus (simp <;> omega)) | (with_reducible apply Row.alloc) | (with_reducible apply Row.drew) | (with_reducible apply Row.drewN) | (with_reducible apply Row.ext (Hid.out ‹Hid (Ext _ _)›))))); intro qa_0 fa_0 la_0 Ra_0; (try simp only [List.setIfInBounds_toArray, List.set_cons_zero, List.set_cons_succ] at qa_0 Ra_0); apply Row.use (w := wa) (g := w.heap.size + 1); (focus (repeat (first | (with_reducible exact Hid.out ‹Hid (Row _ _ _)›) | (with_reducible exact Row.newAt rfl) | (with_reducible apply Row.newAt; (simp; done)) | (with_reducible apply Row.set_) | (with_reducible apply Row.far; focus (simp <;> omega)) | (with_reducible apply Row.alloc) | (with_reducible apply Row.drew) | (with_reducible apply Row.drewN) | (with_reducible apply Row.ext (Hid.out ‹Hid (Ext _ _)›))))); intro qa_1 fa_1 la_1 Ra_1; (try simp only [List.setIfInBounds_toArray, List.set_cons_zero, List.set_cons_succ] at qa_1 Ra_1)))
    | (go_at_call 77; refine (HD.out _ (by repeat (first | (with_reducible exact Ext.refl _) | (with_reducible refine Ext.alloc ?_ _) | (with_reducible apply Ext.setC; focus (simp <;> omega)) | (with_reducible refine Ext.drew ?_) | (with_reducible refine Ext.drewN ?_ _) | (with_reducible refine Ext.trans ?_ (Hid.out ‹Hid (Ext _ _)›))))).mono ?_; rintro e wb ⟨vb, rfl, hb, hob⟩; obtain ⟨Ab, cb, rfl⟩ := hob.form; have hzb := hb.size; have HB := Lib.hid hb; (try simp only [World.size_alloc, size_set, World.heap_drewN, size_drew] at hzb); (try simp only [World.size_alloc, size_set, World.heap_drewN, size_drew] at hob); have HOB := Lib.hid hob; clear hb hob; (apply Row.use (w := wb) (g := w.heap.size); (focus (repeat (first | (with_reducible exact Hid.out ‹Hid (Row _ _ _)›) | (with_reducible exact Row.newAt rfl) | (with_reducible apply Row.newAt; (simp; done)) | (with_reducible apply Row.set_) | (with_reducible apply Row.far; focus (simp <;> omega)) | (with_reducible apply Row.alloc) | (with_reducible apply Row.drew) | (with_reducible apply Row.drewN) | (with_reducible apply Row.ext (Hid.out ‹Hid (Ext _ _)›))))); intro qb_0 fb_0 lb_0 Rb_0; (try simp only [List.setIfInBounds_toArray, List.set_cons_zero, List.set_cons_succ] at qb_0 Rb_0); apply Row.use (w := wb) (g := w.heap.size + 1); (focus (repeat (first | (with_reducible exact Hid.out ‹Hid (Row _ _ _)›) | (with_reducible exact Row.newAt rfl) | (with_reducible apply Row.newAt; (simp; done)) | (with_reducible apply Row.set_) | (with_reducible apply Row.far; focus (simp <;> omega)) | (with_reducible apply Row.alloc) | (with_reducible apply Row.drew) | (with_reducible apply Row.drewN) | (with_reducible apply Row.ext (Hid.out ‹Hid (Ext _ _)›))))); intro qb_1 fb_1 lb_1 Rb_1; (try simp only [List.setIfInBounds_toArray, List.set_cons_zero, List.set_cons_succ] at qb_1 Rb_1))))
  all_goals
    go_wp2_with fail
    refine bodyPost_ret (v := .agg #[.int .i64 g.id, .int .i64 g.zone, .int .i64 g.seq, .slice Aa g.alone.length ca, .int .i64 g.denied.version, .slice Ab g.denied.ids.length cb, .int .i64 g.left, .int .i64 g.untl]) (by simp [results, Try.results81, go_sem, *]) rfl ⟨_, _, rfl, ?_, ?_, ?_, ?_⟩
    · repeat (first | (with_reducible exact Ext.refl _) | (with_reducible refine Ext.alloc ?_ _) | (with_reducible apply Ext.setC; focus (simp <;> omega)) | (with_reducible refine Ext.drew ?_) | (with_reducible refine Ext.drewN ?_ _) | (with_reducible refine Ext.trans ?_ (Hid.out ‹Hid (Ext _ _)›)))
    · first | ((refine OwnL.lower (base := w.heap.size + 1 + 1) ?_ (by omega); repeat (first | (with_reducible assumption) | (with_reducible exact Hid.out ‹Hid (OwnL _ _ _ _ _ _ _)›) | (with_reducible apply OwnL.setC; focus (simp <;> omega)) | (with_reducible refine OwnL.put ?_ (by assumption) _) | (with_reducible apply OwnL.alloc) | (with_reducible apply OwnL.drew) | (with_reducible apply OwnL.drewN) | (with_reducible refine OwnL.ext ?_ (Hid.out ‹Hid (Ext _ _)›)))); done) | ((refine OwnL.lower (base := wb.heap.size) ?_ (by omega); repeat (first | (with_reducible assumption) | (with_reducible exact Hid.out ‹Hid (OwnL _ _ _ _ _ _ _)›) | (with_reducible apply OwnL.setC; focus (simp <;> omega)) | (with_reducible refine OwnL.put ?_ (by assumption) _) | (with_reducible apply OwnL.alloc) | (with_reducible apply OwnL.drew) | (with_reducible apply OwnL.drewN) | (with_reducible refine OwnL.ext ?_ (Hid.out ‹Hid (Ext _ _)›)))); done)
    · first | ((refine OwnL.lower (base := w.heap.size + 1 + 1) ?_ (by omega); repeat (first | (with_reducible assumption) | (with_reducible exact Hid.out ‹Hid (OwnL _ _ _ _ _ _ _)›) | (with_reducible apply OwnL.setC; focus (simp <;> omega)) | (with_reducible refine OwnL.put ?_ (by assumption) _) | (with_reducible apply OwnL.alloc) | (with_reducible apply OwnL.drew) | (with_reducible apply OwnL.drewN) | (with_reducible refine OwnL.ext ?_ (Hid.out ‹Hid (Ext _ _)›)))); done) | ((refine OwnL.lower (base := wa.heap.size) ?_ (by omega); repeat (first | (with_reducible assumption) | (with_reducible exact Hid.out ‹Hid (OwnL _ _ _ _ _ _ _)›) | (with_reducible apply OwnL.setC; focus (simp <;> omega)) | (with_reducible refine OwnL.put ?_ (by assumption) _) | (with_reducible apply OwnL.alloc) | (with_reducible apply OwnL.drew) | (with_reducible apply OwnL.drewN) | (with_reducible refine OwnL.ext ?_ (Hid.out ‹Hid (Ext _ _)›)))); done)
    · intro q h1 h2
      have ha := HOA.out.lt q h1
      have hb := HOB.out.lt q h2
      omega

theorem early_nil (time : Int) : Lb.early [] time = false := rfl
theorem early_last {l : List Tp} (h : l.length - 1 < l.length) (time : Int) : Lb.early l time = decide (time < l[l.length - 1].time) := by
  unfold Lb.early
  rw [List.getLast?_eq_getElem?, List.getElem?_eq_getElem h]
set_option maxHeartbeats 4000000 in
theorem keeper_early (g : Gt) (sa si : Value) (time : Int) (b0 : Nat) (w : World) (hr : RdL 5 tpc w sa g.alone) (hg : Row w b0 (gta g sa si)) :
    Calls Try.prog 88 #[.pointer (some ⟨b0, 0, none⟩), .int .i64 time] w fun e w' => e = .returned (.bool (Lb.early g.alone time)) ∧ Ext w w' := by
  obtain ⟨A, c, rfl, hmc, hmm⟩ := hr.form
  have hm : g.alone.length ≤ 9223372036854775807 := by unfold maxLen at hmm; omega
  have hq := hg.2.1
  have hlt := hg.1
  unfold gta at hq
  have HR := Lib.hid hr
  clear hg hr hmc hmm
  by_cases hl0 : g.alone = []
  · rw [hl0]
    have hz : g.alone.length = 0 := by rw [hl0]; rfl
    rw [early_nil]
    have hn0 : decide (0 < g.alone.length) = false := by rw [hz]; rfl
    clear hl0
    go_enter Try.func88, Try.ntmps88
    go_wp2_with fail
    try (go_quiet (fail); go_wp2_with fail)
    go_ret
    refine ⟨ret_bool (by simp), ?_⟩
    repeat (first | (with_reducible exact Ext.refl _) | (with_reducible refine Ext.alloc ?_ _) | (with_reducible apply Ext.setC; focus (simp <;> omega)) | (with_reducible refine Ext.drew ?_) | (with_reducible refine Ext.drewN ?_ _) | (with_reducible refine Ext.trans ?_ (Hid.out ‹Hid (Ext _ _)›)))
  · have hlp : 0 < g.alone.length := List.length_pos_iff.2 hl0
    have hn0 : decide (0 < g.alone.length) = true := by simpa using hlp
    have hll : g.alone.length - 1 < g.alone.length := by omega
    obtain ⟨b, o, rfl, hb, -, -, -, c3, -⟩ := HR.out.tp_at rfl hll
    have hw1 : IntKind.i64.wrap ((g.alone.length : Int) - 1) = ((g.alone.length - 1 : Nat) : Int) := by rw [IntWalk.i64_in _ (by omega)]; omega
    have hk1 : ((g.alone.length - 1 : Nat) : Int) < (g.alone.length : Int) := by omega
    rw [early_last hll]
    clear hl0
    generalize g.alone[g.alone.length - 1].time = y at *
    have hd : decide (time < y) = true ∨ decide (time < y) = false := by cases decide (time < y) <;> simp
    rcases hd with hd | hd
    all_goals
      rw [hd]
      go_enter Try.func88, Try.ntmps88
      go_wp2_with fail
      try (go_quiet (fail); go_wp2_with fail)
      go_ret
      refine ⟨ret_bool (by simp_all), ?_⟩
      repeat (first | (with_reducible exact Ext.refl _) | (with_reducible refine Ext.alloc ?_ _) | (with_reducible apply Ext.setC; focus (simp <;> omega)) | (with_reducible refine Ext.drew ?_) | (with_reducible refine Ext.drewN ?_ _) | (with_reducible refine Ext.trans ?_ (Hid.out ‹Hid (Ext _ _)›)))
end Go.Proofs.Ythollackhkiofaa
