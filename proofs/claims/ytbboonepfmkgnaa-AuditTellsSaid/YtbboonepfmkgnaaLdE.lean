/- Ledgers: rides of all taps; a number that is there, by the document; counts of taps. -/
import Derived.Test.YtbboonepfmkgnaaLdD
namespace Go.Proofs.Ytbboonepfmkgnaa
set_option linter.unusedSimpArgs false
set_option linter.unusedVariables false
set_option maxRecDepth 100000
open Go Go.RowKit Lb

/-- how many of the first k taps are such, with verdict v -/
def cntTo (f : Tp → Bool) (taps : List Tp) (vs : List Int) (v : Int) (k : Nat) : Nat := (((taps.take k).zip (vs.take k)).filter (fun x => f x.1 && x.2 == v)).length
theorem cntTo_zero (f : Tp → Bool) (taps : List Tp) (vs : List Int) (v : Int) : cntTo f taps vs v 0 = 0 := by simp [cntTo]
theorem cntTo_succ (f : Tp → Bool) (taps : List Tp) (vs : List Int) (v : Int) (k : Nat) (h1 : k < taps.length) (h2 : k < vs.length) :
    cntTo f taps vs v (k + 1) = if f taps[k] && vs[k] == v then cntTo f taps vs v k + 1 else cntTo f taps vs v k := by
  unfold cntTo
  rw [List.take_succ_eq_append_getElem h1, List.take_succ_eq_append_getElem h2, List.zip_append (by simp; omega)]
  simp only [List.zip_cons_cons, List.zip_nil_right, List.filter_append, List.length_append, List.filter_cons, List.filter_nil]
  split <;> simp
theorem cntTo_le (f : Tp → Bool) (taps : List Tp) (vs : List Int) (v : Int) (k : Nat) : cntTo f taps vs v k ≤ k := by
  unfold cntTo
  refine Nat.le_trans (List.length_filter_le _ _) ?_
  rw [List.length_zip]
  simp
  omega

set_option maxHeartbeats 4000000 in
theorem ledger_Many (taps : List Tp) (vs : List Int) (s0 s1 s2 : Value) (id : Int) (w : World) (hlen : taps.length = vs.length) (h0 : ∃ A n c, s0 = .slice A n c) (hr : RdL 5 tpc w s1 taps) (hs : RdL 1 inc w s2 vs) :
    Calls Try.prog 47 #[.agg #[s0, s1, s2], .int .i64 id] w fun e w' => e = .returned (.int .i64 ((ridesOf taps vs id).length : Nat)) ∧ Ext w w' := by
  have HR := Lib.hid (fun (w' : World) (h : Ext w w') => ledger_rides taps vs s0 s1 s2 id taps.length w' (Nat.le_refl _) hlen h0 (hr.ext h) (hs.ext h))
  rw [ridesTo_all taps vs id taps.length (Nat.le_refl _) (by omega)] at HR
  obtain ⟨A0, n0, c0, rfl⟩ := h0
  obtain ⟨A, c, rfl, -, -⟩ := hr.form
  obtain ⟨A2, c2, rfl, -, -⟩ := hs.form
  generalize ridesOf taps vs id = R at *
  clear hr hs hlen
  go_enter Try.func47, Try.ntmps47
  go_wp2_with fail
  refine (HR.out _ (by repeat (first | (with_reducible exact Ext.refl _) | (with_reducible refine Ext.alloc ?_ _) | (with_reducible apply Ext.setC; focus (simp <;> omega)) | (with_reducible refine Ext.drew ?_) | (with_reducible refine Ext.drewN ?_ _) | (with_reducible refine Ext.trans ?_ (Hid.out ‹Hid (Ext _ _)›))))).mono ?_
  rintro e w1 ⟨s1, rfl, h1, -⟩
  have H1 := Lib.hid h1
  clear h1
  go_wp2_with fail
  go_ret
  exact ⟨rfl, (show Ext w _ by repeat (first | (with_reducible exact Ext.refl _) | (with_reducible refine Ext.alloc ?_ _) | (with_reducible apply Ext.setC; focus (simp <;> omega)) | (with_reducible refine Ext.drew ?_) | (with_reducible refine Ext.drewN ?_ _) | (with_reducible refine Ext.trans ?_ (Hid.out ‹Hid (Ext _ _)›))))⟩

theorem any_take_succ (f : Tp → Bool) (l : List Tp) (k : Nat) (h : k < l.length) : (l.take (k + 1)).any f = ((l.take k).any f || f l[k]) := by
  rw [List.take_succ_eq_append_getElem h, List.any_append, List.any_cons, List.any_nil, Bool.or_false]
theorem any_take_true (f : Tp → Bool) (l : List Tp) (k m : Nat) (h : k < l.length) (hm : k < m) (hf : f l[k] = true) : (l.take m).any f = true := by
  rw [List.any_eq_true]
  refine ⟨l[k], ?_, hf⟩
  rw [List.mem_take_iff_getElem]
  exact ⟨k, by omega, rfl⟩

set_option maxHeartbeats 8000000 in
theorem ref_isTwice (l : List Tp) (m : Nat) (p : Tp) (v : Value) (w : World) (hm : m ≤ l.length) (hr : RdL 5 tpc w v l) :
    Calls Try.prog 49 #[v, .int .i64 m, .agg (tpc p)] w fun e w' => e = .returned (.bool ((l.take m).any (sameNo p))) ∧ Ext w w' := by
  obtain ⟨A, c, rfl, hmc, hmm⟩ := hr.form
  have hml : l.length ≤ 9223372036854775807 := by unfold maxLen at hmm; omega
  have HRd := Lib.hid hr
  generalize hR : (l.take m).any (sameNo p) = r
  have HR := Lib.hid hR
  clear hr hmm hmc hR
  unfold tpc
  go_enter Try.func49, Try.ntmps49
  go_wp2_with fail
  go_loopg [7] m (fun gg s7 wr => ∃ k : Nat, k ≤ m ∧ m - k ≤ gg ∧ s7 = .int .i64 k ∧ Aside (Ext w wr ∧ Row wr w.heap.size #[.int .i64 p.ticket, .int .i64 p.gate, .int .i64 p.seq, .int .i64 p.time, .int .i64 p.zone]) ∧ Aside ((l.take k).any (sameNo p) = false))
  case atStart => exact ⟨0, by omega, by omega, rfl, ⟨(show Ext w _ by repeat (first | (with_reducible exact Ext.refl _) | (with_reducible refine Ext.alloc ?_ _) | (with_reducible apply Ext.setC; focus (simp <;> omega)) | (with_reducible refine Ext.drew ?_) | (with_reducible refine Ext.drewN ?_ _) | (with_reducible refine Ext.trans ?_ (Hid.out ‹Hid (Ext _ _)›)))), Row.newAt rfl⟩, (show (l.take 0).any (sameNo p) = false by simp)⟩
  case round =>
    obtain ⟨k, hk, hg, rfl, HV, HA⟩ := hrel
    have HE := Lib.hid HV.out.1
    have HR0 := Lib.hid HV.out.2
    have HA2 := Lib.hid HA.out
    clear HV HA
    (apply Row.use (w := wr) (g := w.heap.size); (focus (repeat (first | (with_reducible exact Hid.out ‹Hid (Row _ _ _)›) | (with_reducible exact Row.newAt rfl) | (with_reducible apply Row.newAt; (simp; done)) | (with_reducible apply Row.set_) | (with_reducible apply Row.far; focus (simp <;> omega)) | (with_reducible apply Row.alloc) | (with_reducible apply Row.drew) | (with_reducible apply Row.drewN) | (with_reducible apply Row.ext (Hid.out ‹Hid (Ext _ _)›))))); intro qr_0 fr_0 lr_0 Rr_0; (try simp only [List.setIfInBounds_toArray, List.set_cons_zero, List.set_cons_succ] at qr_0 Rr_0))
    by_cases hlt : k < m
    · have hlt' : (k : Int) < (m : Int) := by omega
      have hkl : k < l.length := by omega
      have hkl' : (k : Int) < (l.length : Int) := by omega
      obtain ⟨b, o, rfl, hb, -, d1, d2, -, -⟩ := (HRd.out.ext HE.out).tap_at rfl hkl
      have hsu := any_take_succ (sameNo p) l k hkl
      rw [HA2.out, Bool.false_or] at hsu
      have hyes := any_take_true (sameNo p) l k m hkl hlt
      rw [HR.out] at hyes
      have hsn : sameNo p l[k] = (l[k].gate == p.gate && l[k].seq == p.seq) := rfl
      rw [hsn] at hsu hyes
      generalize l[k].gate = x1 at *
      generalize l[k].seq = x2 at *
      clear hsn
      by_cases h1 : x1 = p.gate
      · have h1b : (x1 == p.gate) = true := by simpa using h1
        by_cases h2 : x2 = p.seq
        · have h2b : (x2 == p.seq) = true := by simpa using h2
          have hr1 : r = true := hyes (by rw [h1b, h2b]; rfl)
          subst hr1
          clear hyes hsu h1 h2
          go_wp2_with fail
          (try (go_quiet (fail); go_wp2_with fail))
          go_ret
          exact ⟨rfl, (show Ext w _ by repeat (first | (with_reducible exact Ext.refl _) | (with_reducible refine Ext.alloc ?_ _) | (with_reducible apply Ext.setC; focus (simp <;> omega)) | (with_reducible refine Ext.drew ?_) | (with_reducible refine Ext.drewN ?_ _) | (with_reducible refine Ext.trans ?_ (Hid.out ‹Hid (Ext _ _)›))))⟩
        · have h2b : (x2 == p.seq) = false := by simpa using h2
          rw [h1b, h2b] at hsu
          have HSU := Lib.hid hsu
          clear hyes hsu h1 h2
          go_wp2_with fail
          (try (go_quiet (fail); go_wp2_with fail))
          go_roundg (m - (k + 1))
          case measure => omega
          case rel => exact ⟨k + 1, by omega, by omega, by go_num, ⟨(show Ext w _ by repeat (first | (with_reducible exact Ext.refl _) | (with_reducible refine Ext.alloc ?_ _) | (with_reducible apply Ext.setC; focus (simp <;> omega)) | (with_reducible refine Ext.drew ?_) | (with_reducible refine Ext.drewN ?_ _) | (with_reducible refine Ext.trans ?_ (Hid.out ‹Hid (Ext _ _)›)))), by repeat (first | (with_reducible exact Hid.out ‹Hid (Row _ _ _)›) | (with_reducible exact Row.newAt rfl) | (with_reducible apply Row.newAt; (simp; done)) | (with_reducible apply Row.set_) | (with_reducible apply Row.far; focus (simp <;> omega)) | (with_reducible apply Row.alloc) | (with_reducible apply Row.drew) | (with_reducible apply Row.drewN) | (with_reducible apply Row.ext (Hid.out ‹Hid (Ext _ _)›)))⟩, HSU.out⟩
      · have h1b : (x1 == p.gate) = false := by simpa using h1
        rw [h1b] at hsu
        have HSU := Lib.hid hsu
        clear hyes hsu h1
        go_wp2_with fail
        (try (go_quiet (fail); go_wp2_with fail))
        go_roundg (m - (k + 1))
        case measure => omega
        case rel => exact ⟨k + 1, by omega, by omega, by go_num, ⟨(show Ext w _ by repeat (first | (with_reducible exact Ext.refl _) | (with_reducible refine Ext.alloc ?_ _) | (with_reducible apply Ext.setC; focus (simp <;> omega)) | (with_reducible refine Ext.drew ?_) | (with_reducible refine Ext.drewN ?_ _) | (with_reducible refine Ext.trans ?_ (Hid.out ‹Hid (Ext _ _)›)))), by repeat (first | (with_reducible exact Hid.out ‹Hid (Row _ _ _)›) | (with_reducible exact Row.newAt rfl) | (with_reducible apply Row.newAt; (simp; done)) | (with_reducible apply Row.set_) | (with_reducible apply Row.far; focus (simp <;> omega)) | (with_reducible apply Row.alloc) | (with_reducible apply Row.drew) | (with_reducible apply Row.drewN) | (with_reducible apply Row.ext (Hid.out ‹Hid (Ext _ _)›)))⟩, HSU.out⟩
    · have hge : ¬ (k : Int) < (m : Int) := by omega
      have hkm : k = m := by omega
      have hr0 : r = false := by rw [← HR.out, ← hkm]; exact HA2.out
      subst hr0
      go_wp2_with fail
      go_ret
      exact ⟨rfl, HE.out⟩
end Go.Proofs.Ytbboonepfmkgnaa
