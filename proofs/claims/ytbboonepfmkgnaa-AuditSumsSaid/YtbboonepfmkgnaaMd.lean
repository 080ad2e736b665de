/- Md: parts of the proofs, laid together. -/
import Derived.Test.YtbboonepfmkgnaaMb
import Derived.Test.YtbboonepfmkgnaaMc
/- The law AuditTells. -/
namespace Go.Proofs.Ytbboonepfmkgnaa
set_option linter.unusedSimpArgs false
set_option linter.unusedVariables false
set_option maxRecDepth 100000
open Go Go.RowKit Lb

theorem au_1 : gateAu bookL 1 = (0, 1, 0) := by decide +kernel
theorem au_2 : leftAu bookL 4 = (2, 0) := by decide +kernel
theorem au_3 : betwAu bookL 0 59 = (1, 0) := by decide +kernel
theorem auc_1 (s0 s1 s2 : Value) (w : World) (hr0 : RdL 6 tkc w s0 bookTk) (hr1 : RdL 5 tpc w s1 bookTp) (hr2 : RdL 1 inc w s2 [1, 2]) :
    Calls Try.prog 27 #[.agg #[s0, s1, s2], .int .i64 1] w fun e w' => e = .returned (.tuple #[.int .i64 0, .int .i64 1, .int .i64 0]) ∧ Ext w w' := by
  have h := audit_Gate bookTk bookTp [1, 2] s0 s1 s2 1 w hr0 hr1 hr2
  rw [show gateAu ⟨bookTk, bookTp, [1, 2]⟩ 1 = (0, 1, 0) from au_1] at h
  exact h
theorem auc_2 (s0 s1 s2 : Value) (w : World) (hr0 : RdL 6 tkc w s0 bookTk) (hr1 : RdL 5 tpc w s1 bookTp) (hr2 : RdL 1 inc w s2 [1, 2]) :
    Calls Try.prog 28 #[.agg #[s0, s1, s2], .int .i64 4] w fun e w' => e = .returned (.tuple #[.int .i64 2, .int .i64 0]) ∧ Ext w w' := by
  have h := audit_Left bookTk bookTp [1, 2] s0 s1 s2 4 w hr0 hr1 hr2
  rw [show leftAu ⟨bookTk, bookTp, [1, 2]⟩ 4 = (2, 0) from au_2] at h
  exact h
theorem auc_3 (s0 s1 s2 : Value) (w : World) (hr0 : RdL 6 tkc w s0 bookTk) (hr1 : RdL 5 tpc w s1 bookTp) (hr2 : RdL 1 inc w s2 [1, 2]) :
    Calls Try.prog 29 #[.agg #[s0, s1, s2], .int .i64 0, .int .i64 59] w fun e w' => e = .returned (.tuple #[.int .i64 1, .int .i64 0]) ∧ Ext w w' := by
  have h := audit_Between bookTk bookTp [1, 2] s0 s1 s2 0 59 w hr0 hr1 hr2
  rw [show betwAu ⟨bookTk, bookTp, [1, 2]⟩ 0 59 = (1, 0) from au_3] at h
  exact h

set_option maxHeartbeats 4000000 in
theorem law_auditBegun (w : World) :
    Calls Try.prog 32 #[] w fun e w' => e = .returned (.bool true) ∧ Ext w w' := by
  go_enter Try.func32, Try.ntmps32
  go_wp2_with fail
  refine (law_book _).mono ?_
  rintro e w1 ⟨s0, s1, s2, rfl, h1, ha, hb, hc⟩
  have HA1 := Lib.hid ha
  have HB1 := Lib.hid hb
  have HC1 := Lib.hid hc
  obtain ⟨A0, c0, rfl, -, -⟩ := ha.form
  obtain ⟨A1, c1, rfl, -, -⟩ := hb.form
  obtain ⟨A2, c2, rfl, -, -⟩ := hc.form
  have H1 := Lib.hid h1
  clear h1 ha hb hc
  go_wp2_with fail
  (refine (auc_1 _ _ _ _ HA1.out HB1.out HC1.out).mono ?_; rintro e w2 ⟨rfl, h2⟩; have H2 := Lib.hid h2; have hz2 := h2.size; clear h2; (try simp only [World.size_alloc, size_set, World.heap_drewN, size_drew] at hz2))
  go_wp2_with fail
  refine (law_book _).mono ?_
  rintro e w3 ⟨s3, s4, s5, rfl, h3, ha, hb, hc⟩
  have HA3 := Lib.hid ha
  have HB3 := Lib.hid hb
  have HC3 := Lib.hid hc
  obtain ⟨A3, c3, rfl, -, -⟩ := ha.form
  obtain ⟨A4, c4, rfl, -, -⟩ := hb.form
  obtain ⟨A5, c5, rfl, -, -⟩ := hc.form
  have H3 := Lib.hid h3
  clear h3 ha hb hc
  go_wp2_with fail
  (refine (auc_2 _ _ _ _ HA3.out HB3.out HC3.out).mono ?_; rintro e w4 ⟨rfl, h4⟩; have H4 := Lib.hid h4; have hz4 := h4.size; clear h4; (try simp only [World.size_alloc, size_set, World.heap_drewN, size_drew] at hz4))
  go_wp2_with fail
  refine (law_book _).mono ?_
  rintro e w5 ⟨s6, s7, s8, rfl, h5, ha, hb, hc⟩
  have HA5 := Lib.hid ha
  have HB5 := Lib.hid hb
  have HC5 := Lib.hid hc
  obtain ⟨A6, c6, rfl, -, -⟩ := ha.form
  obtain ⟨A7, c7, rfl, -, -⟩ := hb.form
  obtain ⟨A8, c8, rfl, -, -⟩ := hc.form
  have H5 := Lib.hid h5
  clear h5 ha hb hc
  go_wp2_with fail
  (refine (auc_3 _ _ _ _ HA5.out HB5.out HC5.out).mono ?_; rintro e w6 ⟨rfl, h6⟩; have H6 := Lib.hid h6; have hz6 := h6.size; clear h6; (try simp only [World.size_alloc, size_set, World.heap_drewN, size_drew] at hz6))
  go_wp2_with fail
  go_ret
  exact ⟨rfl, (show Ext w _ by repeat (first | (with_reducible exact Ext.refl _) | (with_reducible refine Ext.alloc ?_ _) | (with_reducible apply Ext.setC; focus (simp <;> omega)) | (with_reducible refine Ext.drew ?_) | (with_reducible refine Ext.drewN ?_ _) | (with_reducible refine Ext.trans ?_ (Hid.out ‹Hid (Ext _ _)›))))⟩

/-- how many of the first k taps are such -/
def manyTo (f : Tp → Bool) (taps : List Tp) (k : Nat) : Nat := (taps.take k).countP f
theorem manyTo_zero (f : Tp → Bool) (taps : List Tp) : manyTo f taps 0 = 0 := by simp [manyTo]
theorem manyTo_succ (f : Tp → Bool) (taps : List Tp) (k : Nat) (h : k < taps.length) : manyTo f taps (k + 1) = if f taps[k] then manyTo f taps k + 1 else manyTo f taps k := by
  unfold manyTo
  rw [List.take_succ_eq_append_getElem h, List.countP_append, List.countP_singleton]
  split <;> simp_all
theorem manyTo_le (f : Tp → Bool) (taps : List Tp) (k : Nat) : manyTo f taps k ≤ k := by
  unfold manyTo
  refine Nat.le_trans List.countP_le_length ?_
  simp
  omega
theorem cnt_both (f : Tp → Bool) (taps : List Tp) (vs : List Int) (hlen : taps.length = vs.length) (hv : ∀ v ∈ vs, v = 1 ∨ v = 2) : ∀ k, k ≤ taps.length → cntTo f taps vs 1 k + cntTo f taps vs 2 k = manyTo f taps k
  | 0, _ => by simp [cntTo_zero, manyTo_zero]
  | k + 1, hk => by
    have ih := cnt_both f taps vs hlen hv k (by omega)
    rw [cntTo_succ f taps vs 1 k (by omega) (by omega), cntTo_succ f taps vs 2 k (by omega) (by omega), manyTo_succ f taps k (by omega)]
    have := hv vs[k] (List.getElem_mem (by omega))
    cases f taps[k]
    · simp [ih]
    · rcases this with h | h
      · simp [h]; omega
      · simp [h]; omega
end Go.Proofs.Ytbboonepfmkgnaa
