/- The reference's AtGate; the audit's two predicates and counts. -/
import Derived.Test.YtbboonepfmkgnaaLdE
namespace Go.Proofs.Ytbboonepfmkgnaa
set_option linter.unusedSimpArgs false
set_option linter.unusedVariables false
set_option maxRecDepth 100000
open Go Go.RowKit Lb

/-- a gate's taps -/
def atGate (g : Int) (p : Tp) : Bool := p.gate == g
/-- taps between two times -/
def betw (a b : Int) (p : Tp) : Bool := decide (a ≤ p.time) && decide (p.time ≤ b)

set_option maxHeartbeats 8000000 in
theorem ref_AtGate (taps : List Tp) (vs : List Int) (s0 s1 s2 : Value) (g : Int) (w : World) (hlen : taps.length = vs.length) (h0 : ∃ A n c, s0 = .slice A n c) (hr : RdL 5 tpc w s1 taps) (hs : RdL 1 inc w s2 vs) :
    Calls Try.prog 31 #[.agg #[s0, s1, s2], .int .i64 g] w fun e w' => e = .returned (.tuple #[.int .i64 (cntTo (atGate g) taps vs 1 taps.length : Nat), .int .i64 (cntTo (atGate g) taps vs 2 taps.length : Nat)]) ∧ Ext w w' := by
  obtain ⟨A0, n0, c0, rfl⟩ := h0
  obtain ⟨A, c, rfl, hmc, hmm⟩ := hr.form
  obtain ⟨A2, c2, rfl, hmc2, hmm2⟩ := hs.form
  have hm : taps.length ≤ 9223372036854775807 := by unfold maxLen at hmm; omega
  have HRd := Lib.hid hr
  have HSd := Lib.hid hs
  have HLEN := Lib.hid hlen
  clear hlen
  clear hr hs hmm hmm2 hmc2 hmc
  go_enter Try.func31, Try.ntmps31
  go_wp2_with fail
  go_loopg [6, 7, 8] taps.length (fun gg s6 s7 s8 wr => ∃ (k : Nat), k ≤ taps.length ∧ taps.length - k ≤ gg ∧ s6 = .int .i64 (cntTo (atGate g) taps vs 1 k : Nat) ∧ s7 = .int .i64 (cntTo (atGate g) taps vs 2 k : Nat) ∧ s8 = .int .i64 k ∧ Aside (Ext w wr ∧ Row wr w.heap.size #[.slice A0 n0 c0, .slice A taps.length c, .slice A2 vs.length c2]))
  case atStart =>
    refine ⟨0, by omega, by omega, ?_, ?_, rfl, (Ext.refl _).alloc _, Row.newAt rfl⟩
    · rw [cntTo_zero]; rfl
    · rw [cntTo_zero]; rfl
  case round =>
    obtain ⟨k, hk, hg, rfl, rfl, rfl, HV⟩ := hrel
    have HE := Lib.hid HV.out.1
    have HR0 := Lib.hid HV.out.2
    clear HV
    (apply Row.use (w := wr) (g := w.heap.size); (focus (repeat (first | (with_reducible exact Hid.out ‹Hid (Row _ _ _)›) | (with_reducible exact Row.newAt rfl) | (with_reducible apply Row.newAt; (simp; done)) | (with_reducible apply Row.set_) | (with_reducible apply Row.far; focus (simp <;> omega)) | (with_reducible apply Row.alloc) | (with_reducible apply Row.drew) | (with_reducible apply Row.drewN) | (with_reducible apply Row.ext (Hid.out ‹Hid (Ext _ _)›))))); intro qr_0 fr_0 lr_0 Rr_0; (try simp only [List.setIfInBounds_toArray, List.set_cons_zero, List.set_cons_succ] at qr_0 Rr_0))
    by_cases hlt : k < taps.length
    · have hlt' : (k : Int) < (taps.length : Int) := by omega
      have hkv : k < vs.length := by have := HLEN.out; omega
      have hkv' : (k : Int) < (vs.length : Int) := by omega
      obtain ⟨b, o, rfl, hb, -, d1, -, -, -⟩ := (HRd.out.ext HE.out).tap_at rfl hlt
      obtain ⟨b2, o2, rfl, hb2, f0⟩ := (HSd.out.ext HE.out).num_at rfl hkv
      have hs1 := cntTo_succ (atGate g) taps vs 1 k hlt hkv
      have hs2 := cntTo_succ (atGate g) taps vs 2 k hlt hkv
      have hl1 := cntTo_le (atGate g) taps vs 1 k
      have hl2 := cntTo_le (atGate g) taps vs 2 k
      generalize cntTo (atGate g) taps vs 1 k = n1 at *
      generalize cntTo (atGate g) taps vs 2 k = n2 at *
      generalize hR1 : cntTo (atGate g) taps vs 1 (k + 1) = m1 at *
      generalize hR2 : cntTo (atGate g) taps vs 2 (k + 1) = m2 at *
      have HR1 := Lib.hid hR1
      have HR2 := Lib.hid hR2
      clear hR1 hR2
      have hw1 : IntKind.i64.wrap ((n1 : Int) + 1) = ((n1 + 1 : Nat) : Int) := by rw [IntWalk.i64_in _ (by omega)]; omega
      have hw2 : IntKind.i64.wrap ((n2 : Int) + 1) = ((n2 + 1 : Nat) : Int) := by rw [IntWalk.i64_in _ (by omega)]; omega
      rw [show atGate g taps[k] = (taps[k].gate == g) from rfl] at hs1 hs2
      generalize taps[k].gate = x1 at *
      generalize vs[k] = y at *
      by_cases hx : x1 = g
      · have hxb : (x1 == g) = true := by simpa using hx
        by_cases hy : y = 1
        · have hyb : (y == 1) = true := by simpa using hy
          have hyc : (y == 2) = false := by subst hy; rfl
          rw [hxb, hyb] at hs1
          rw [hxb, hyc] at hs2
          have HS1 := Lib.hid (show m1 = n1 + 1 from hs1)
          have HS2 := Lib.hid (show m2 = n2 from hs2)
          clear hs1 hs2 hx hy
          go_wp2_with fail
          (try (go_quiet (fail); go_wp2_with fail))
          go_roundg (taps.length - (k + 1))
          case measure => omega
          case rel => exact ⟨k + 1, by omega, by omega, by rw [HR1.out, HS1.out]; go_num, by rw [HR2.out, HS2.out], by go_num, ⟨(show Ext w _ by repeat (first | (with_reducible exact Ext.refl _) | (with_reducible refine Ext.alloc ?_ _) | (with_reducible apply Ext.setC; focus (simp <;> omega)) | (with_reducible refine Ext.drew ?_) | (with_reducible refine Ext.drewN ?_ _) | (with_reducible refine Ext.trans ?_ (Hid.out ‹Hid (Ext _ _)›)))), by repeat (first | (with_reducible exact Hid.out ‹Hid (Row _ _ _)›) | (with_reducible exact Row.newAt rfl) | (with_reducible apply Row.newAt; (simp; done)) | (with_reducible apply Row.set_) | (with_reducible apply Row.far; focus (simp <;> omega)) | (with_reducible apply Row.alloc) | (with_reducible apply Row.drew) | (with_reducible apply Row.drewN) | (with_reducible apply Row.ext (Hid.out ‹Hid (Ext _ _)›)))⟩⟩
        · have hyb : (y == 1) = false := by simpa using hy
          by_cases hy2 : y = 2
          · have hyc : (y == 2) = true := by simpa using hy2
            rw [hxb, hyb] at hs1
            rw [hxb, hyc] at hs2
            have HS1 := Lib.hid (show m1 = n1 from hs1)
            have HS2 := Lib.hid (show m2 = n2 + 1 from hs2)
            clear hs1 hs2 hx hy hy2
            go_wp2_with fail
            (try (go_quiet (fail); go_wp2_with fail))
            go_roundg (taps.length - (k + 1))
            case measure => omega
            case rel => exact ⟨k + 1, by omega, by omega, by rw [HR1.out, HS1.out], by rw [HR2.out, HS2.out]; go_num, by go_num, ⟨(show Ext w _ by repeat (first | (with_reducible exact Ext.refl _) | (with_reducible refine Ext.alloc ?_ _) | (with_reducible apply Ext.setC; focus (simp <;> omega)) | (with_reducible refine Ext.drew ?_) | (with_reducible refine Ext.drewN ?_ _) | (with_reducible refine Ext.trans ?_ (Hid.out ‹Hid (Ext _ _)›)))), by repeat (first | (with_reducible exact Hid.out ‹Hid (Row _ _ _)›) | (with_reducible exact Row.newAt rfl) | (with_reducible apply Row.newAt; (simp; done)) | (with_reducible apply Row.set_) | (with_reducible apply Row.far; focus (simp <;> omega)) | (with_reducible apply Row.alloc) | (with_reducible apply Row.drew) | (with_reducible apply Row.drewN) | (with_reducible apply Row.ext (Hid.out ‹Hid (Ext _ _)›)))⟩⟩
          · have hyc : (y == 2) = false := by simpa using hy2
            rw [hxb, hyb] at hs1
            rw [hxb, hyc] at hs2
            have HS1 := Lib.hid (show m1 = n1 from hs1)
            have HS2 := Lib.hid (show m2 = n2 from hs2)
            clear hs1 hs2 hx hy hy2
            go_wp2_with fail
            (try (go_quiet (fail); go_wp2_with fail))
            go_roundg (taps.length - (k + 1))
            case measure => omega
            case rel => exact ⟨k + 1, by omega, by omega, by rw [HR1.out, HS1.out], by rw [HR2.out, HS2.out], by go_num, ⟨(show Ext w _ by repeat (first | (with_reducible exact Ext.refl _) | (with_reducible refine Ext.alloc ?_ _) | (with_reducible apply Ext.setC; focus (simp <;> omega)) | (with_reducible refine Ext.drew ?_) | (with_reducible refine Ext.drewN ?_ _) | (with_reducible refine Ext.trans ?_ (Hid.out ‹Hid (Ext _ _)›)))), by repeat (first | (with_reducible exact Hid.out ‹Hid (Row _ _ _)›) | (with_reducible exact Row.newAt rfl) | (with_reducible apply Row.newAt; (simp; done)) | (with_reducible apply Row.set_) | (with_reducible apply Row.far; focus (simp <;> omega)) | (with_reducible apply Row.alloc) | (with_reducible apply Row.drew) | (with_reducible apply Row.drewN) | (with_reducible apply Row.ext (Hid.out ‹Hid (Ext _ _)›)))⟩⟩
      · have hxb : (x1 == g) = false := by simpa using hx
        rw [hxb] at hs1 hs2
        have HS1 := Lib.hid (show m1 = n1 from hs1)
        have HS2 := Lib.hid (show m2 = n2 from hs2)
        clear hs1 hs2 hx
        go_wp2_with fail
        (try (go_quiet (fail); go_wp2_with fail))
        go_roundg (taps.length - (k + 1))
        case measure => omega
        case rel => exact ⟨k + 1, by omega, by omega, by rw [HR1.out, HS1.out], by rw [HR2.out, HS2.out], by go_num, ⟨(show Ext w _ by repeat (first | (with_reducible exact Ext.refl _) | (with_reducible refine Ext.alloc ?_ _) | (with_reducible apply Ext.setC; focus (simp <;> omega)) | (with_reducible refine Ext.drew ?_) | (with_reducible refine Ext.drewN ?_ _) | (with_reducible refine Ext.trans ?_ (Hid.out ‹Hid (Ext _ _)›)))), by repeat (first | (with_reducible exact Hid.out ‹Hid (Row _ _ _)›) | (with_reducible exact Row.newAt rfl) | (with_reducible apply Row.newAt; (simp; done)) | (with_reducible apply Row.set_) | (with_reducible apply Row.far; focus (simp <;> omega)) | (with_reducible apply Row.alloc) | (with_reducible apply Row.drew) | (with_reducible apply Row.drewN) | (with_reducible apply Row.ext (Hid.out ‹Hid (Ext _ _)›)))⟩⟩
    · have hge : ¬ (k : Int) < (taps.length : Int) := by omega
      have hkm : k = taps.length := by omega
      subst hkm
      go_wp2_with fail
      go_ret2
      exact ⟨rfl, (show Ext w _ by repeat (first | (with_reducible exact Ext.refl _) | (with_reducible refine Ext.alloc ?_ _) | (with_reducible apply Ext.setC; focus (simp <;> omega)) | (with_reducible refine Ext.drew ?_) | (with_reducible refine Ext.drewN ?_ _) | (with_reducible refine Ext.trans ?_ (Hid.out ‹Hid (Ext _ _)›))))⟩

set_option maxHeartbeats 4000000 in
theorem gate_one (x : Tp) (g : Int) (b : Nat) (w : World) (hr : Row w b #[.int .i64 g]) :
    Calls Try.prog 59 #[.agg (tpc x), .pointer (some ⟨b, 0, none⟩)] w fun e w' => e = .returned (.bool (atGate g x)) ∧ Ext w w' := by
  obtain ⟨x0, x1, x2, x3, x4⟩ := x
  unfold tpc atGate
  apply Row.use hr; intro q f l R
  clear hr
  go_enter Try.func59, Try.ntmps59
  go_wp2
  all_goals
    go_ret
    refine ⟨ret_bool ?_, ?_⟩
    · simp_all
    · repeat (first | (with_reducible exact Ext.refl _) | (with_reducible refine Ext.alloc ?_ _) | (with_reducible apply Ext.setC; focus (simp <;> omega)) | (with_reducible refine Ext.drew ?_) | (with_reducible refine Ext.drewN ?_ _) | (with_reducible refine Ext.trans ?_ (Hid.out ‹Hid (Ext _ _)›)))

set_option maxHeartbeats 4000000 in
theorem betw_one (x : Tp) (g h : Int) (b c : Nat) (w : World) (hr : Row w b #[.int .i64 g]) (hs : Row w c #[.int .i64 h]) :
    Calls Try.prog 61 #[.agg (tpc x), .pointer (some ⟨b, 0, none⟩), .pointer (some ⟨c, 0, none⟩)] w fun e w' => e = .returned (.bool (betw g h x)) ∧ Ext w w' := by
  obtain ⟨x0, x1, x2, x3, x4⟩ := x
  unfold tpc betw
  apply Row.use hr; intro q f l R
  apply Row.use hs; intro q2 f2 l2 R2
  clear hr hs
  go_enter Try.func61, Try.ntmps61
  by_cases h1 : g ≤ x3
  · have h1d : decide (g ≤ x3) = true := by simpa using h1
    by_cases h2 : x3 ≤ h
    · have h2d : decide (x3 ≤ h) = true := by simpa using h2
      go_wp2_with fail
      (try (go_quiet (fail); go_wp2_with fail))
      go_ret
      exact ⟨ret_bool (by simp only [h1d, h2d, Bool.and_self]), (show Ext w _ by repeat (first | (with_reducible exact Ext.refl _) | (with_reducible refine Ext.alloc ?_ _) | (with_reducible apply Ext.setC; focus (simp <;> omega)) | (with_reducible refine Ext.drew ?_) | (with_reducible refine Ext.drewN ?_ _) | (with_reducible refine Ext.trans ?_ (Hid.out ‹Hid (Ext _ _)›))))⟩
    · have h2d : decide (x3 ≤ h) = false := by simpa using h2
      go_wp2_with fail
      (try (go_quiet (fail); go_wp2_with fail))
      go_ret
      exact ⟨ret_bool (by simp only [h1d, h2d, Bool.and_false]), (show Ext w _ by repeat (first | (with_reducible exact Ext.refl _) | (with_reducible refine Ext.alloc ?_ _) | (with_reducible apply Ext.setC; focus (simp <;> omega)) | (with_reducible refine Ext.drew ?_) | (with_reducible refine Ext.drewN ?_ _) | (with_reducible refine Ext.trans ?_ (Hid.out ‹Hid (Ext _ _)›))))⟩
  · have h1d : decide (g ≤ x3) = false := by simpa using h1
    go_wp2_with fail
    (try (go_quiet (fail); go_wp2_with fail))
    go_ret
    exact ⟨ret_bool (by simp only [h1d, Bool.false_and]), (show Ext w _ by repeat (first | (with_reducible exact Ext.refl _) | (with_reducible refine Ext.alloc ?_ _) | (with_reducible apply Ext.setC; focus (simp <;> omega)) | (with_reducible refine Ext.drew ?_) | (with_reducible refine Ext.drewN ?_ _) | (with_reducible refine Ext.trans ?_ (Hid.out ‹Hid (Ext _ _)›))))⟩

theorem row_one {w : World} {g n1 n2 : Nat} (h : Row w g #[.int .i64 0, .int .i64 n1, .int .i64 n2]) : Row (w.setCell ⟨g, 1, none⟩ (.int .i64 ((n1 : Int) + 1))) g #[.int .i64 0, .int .i64 ((n1 + 1 : Nat) : Int), .int .i64 n2] := by
  have hr := Row.set_ (i := 1) (u := .int .i64 ((n1 : Int) + 1)) h
  simpa using hr
theorem row_two {w : World} {g n1 n2 : Nat} (h : Row w g #[.int .i64 0, .int .i64 n1, .int .i64 n2]) : Row (w.setCell ⟨g, 2, none⟩ (.int .i64 ((n2 : Int) + 1))) g #[.int .i64 0, .int .i64 n1, .int .i64 ((n2 + 1 : Nat) : Int)] := by
  have hr := Row.set_ (i := 2) (u := .int .i64 ((n2 : Int) + 1)) h
  simpa using hr

set_option maxHeartbeats 16000000 in
theorem audit_counts (p : Tp → Bool) (fg : Nat) (lb : Array Value) (eg : ∀ args w, (callFunc fg args).run Try.prog w = .ok (.enter fg args) w) (taps : List Tp) (vs : List Int) (s0 s1 s2 : Value) (w : World) (hlen : taps.length = vs.length) (hv : ∀ v ∈ vs, v = 1 ∨ v = 2) (h0 : ∃ A n c, s0 = .slice A n c) (hr : RdL 5 tpc w s1 taps) (hs : RdL 1 inc w s2 vs)
    (hp : ∀ W x, Ext w W → Calls Try.prog fg (#[.agg (tpc x)] ++ lb) W fun e w' => e = .returned (.bool (p x)) ∧ Ext W w') :
    Calls Try.prog 58 #[.agg #[s0, s1, s2], .func (.func fg) #[] lb] w fun e w' => e = .returned (.tuple #[.int .i64 (cntTo p taps vs 1 taps.length : Nat), .int .i64 (cntTo p taps vs 2 taps.length : Nat)]) ∧ Ext w w' := by
  obtain ⟨A0, n0, c0, rfl⟩ := h0
  obtain ⟨A, c, rfl, hmc, hmm⟩ := hr.form
  obtain ⟨A2, c2, rfl, hmc2, hmm2⟩ := hs.form
  have hm : taps.length ≤ 9223372036854775807 := by unfold maxLen at hmm; omega
  have HRd := Lib.hid hr
  have HSd := Lib.hid hs
  have HLEN := Lib.hid hlen
  have HP := Lib.hid hp
  have HVV := Lib.hid hv
  clear hlen hp hv
  clear hr hs hmm hmm2 hmc2 hmc
  go_enter Try.func58, Try.ntmps58
  go_wp2_with fail
  go_loopg [7, 8, 12] taps.length (fun gg _ _ s12 wr => ∃ (k : Nat), k ≤ taps.length ∧ taps.length - k ≤ gg ∧ s12 = .int .i64 k ∧ Aside (Ext w wr ∧ Row wr w.heap.size #[.slice A0 n0 c0, .slice A taps.length c, .slice A2 vs.length c2] ∧ Row wr (w.heap.size + 1) #[.int .i64 0, .int .i64 (cntTo p taps vs 1 k : Nat), .int .i64 (cntTo p taps vs 2 k : Nat)]))
  case atStart =>
    refine ⟨0, by omega, by omega, rfl, (show Ext w _ by repeat (first | (with_reducible exact Ext.refl _) | (with_reducible refine Ext.alloc ?_ _) | (with_reducible apply Ext.setC; focus (simp <;> omega)) | (with_reducible refine Ext.drew ?_) | (with_reducible refine Ext.drewN ?_ _) | (with_reducible refine Ext.trans ?_ (Hid.out ‹Hid (Ext _ _)›)))), by repeat (first | (with_reducible exact Hid.out ‹Hid (Row _ _ _)›) | (with_reducible exact Row.newAt rfl) | (with_reducible apply Row.newAt; (simp; done)) | (with_reducible apply Row.set_) | (with_reducible apply Row.far; focus (simp <;> omega)) | (with_reducible apply Row.alloc) | (with_reducible apply Row.drew) | (with_reducible apply Row.drewN) | (with_reducible apply Row.ext (Hid.out ‹Hid (Ext _ _)›))), ?_⟩
    rw [cntTo_zero, cntTo_zero]
    show Row _ (w.heap.size + 1) #[.int .i64 0, .int .i64 0, .int .i64 0]
    repeat (first | (with_reducible exact Hid.out ‹Hid (Row _ _ _)›) | (with_reducible exact Row.newAt rfl) | (with_reducible apply Row.newAt; (simp; done)) | (with_reducible apply Row.set_) | (with_reducible apply Row.far; focus (simp <;> omega)) | (with_reducible apply Row.alloc) | (with_reducible apply Row.drew) | (with_reducible apply Row.drewN) | (with_reducible apply Row.ext (Hid.out ‹Hid (Ext _ _)›)))
  case round =>
    obtain ⟨k, hk, hg, rfl, HV⟩ := hrel
    have HE := Lib.hid HV.out.1
    have HR0 := Lib.hid HV.out.2.1
    have HR1 := Lib.hid HV.out.2.2
    clear HV
    (apply Row.use (w := wr) (g := w.heap.size); (focus (repeat (first | (with_reducible exact Hid.out ‹Hid (Row _ _ _)›) | (with_reducible exact Row.newAt rfl) | (with_reducible apply Row.newAt; (simp; done)) | (with_reducible apply Row.set_) | (with_reducible apply Row.far; focus (simp <;> omega)) | (with_reducible apply Row.alloc) | (with_reducible apply Row.drew) | (with_reducible apply Row.drewN) | (with_reducible apply Row.ext (Hid.out ‹Hid (Ext _ _)›))))); intro qr_0 fr_0 lr_0 Rr_0; (try simp only [List.setIfInBounds_toArray, List.set_cons_zero, List.set_cons_succ] at qr_0 Rr_0); apply Row.use (w := wr) (g := w.heap.size + 1); (focus (repeat (first | (with_reducible exact Hid.out ‹Hid (Row _ _ _)›) | (with_reducible exact Row.newAt rfl) | (with_reducible apply Row.newAt; (simp; done)) | (with_reducible apply Row.set_) | (with_reducible apply Row.far; focus (simp <;> omega)) | (with_reducible apply Row.alloc) | (with_reducible apply Row.drew) | (with_reducible apply Row.drewN) | (with_reducible apply Row.ext (Hid.out ‹Hid (Ext _ _)›))))); intro qr_1 fr_1 lr_1 Rr_1; (try simp only [List.setIfInBounds_toArray, List.set_cons_zero, List.set_cons_succ] at qr_1 Rr_1))
    by_cases hlt : k < taps.length
    · have hlt' : (k : Int) < (taps.length : Int) := by omega
      have hkv : k < vs.length := by have := HLEN.out; omega
      have hkv' : (k : Int) < (vs.length : Int) := by omega
      obtain ⟨b, o, rfl, hb, d0, d1, d2, d3, d4⟩ := (HRd.out.ext HE.out).tap_at rfl hlt
      obtain ⟨b2, o2, rfl, hb2, f0⟩ := (HSd.out.ext HE.out).num_at rfl hkv
      have hs1 := cntTo_succ p taps vs 1 k hlt hkv
      have hs2 := cntTo_succ p taps vs 2 k hlt hkv
      have hl1 := cntTo_le p taps vs 1 k
      have hl2 := cntTo_le p taps vs 2 k
      have hy := HVV.out _ (List.getElem_mem hkv)
      generalize cntTo p taps vs 1 k = n1 at *
      generalize cntTo p taps vs 2 k = n2 at *
      generalize hR1 : cntTo p taps vs 1 (k + 1) = m1 at *
      generalize hR2 : cntTo p taps vs 2 (k + 1) = m2 at *
      have HM1 := Lib.hid hR1
      have HM2 := Lib.hid hR2
      clear hR1 hR2
      have hw1 : IntKind.i64.wrap ((n1 : Int) + 1) = ((n1 + 1 : Nat) : Int) := by rw [IntWalk.i64_in _ (by omega)]; omega
      have hw2 : IntKind.i64.wrap ((n2 : Int) + 1) = ((n2 + 1 : Nat) : Int) := by rw [IntWalk.i64_in _ (by omega)]; omega
      have HVC := Lib.hid (fun (W : World) (h : Ext wr W) => (h.cells _ _ hb2).trans f0)
      clear f0
      have HP2 := Lib.hid (fun (W : World) (h : Ext w W) => HP.out W taps[k] h)
      generalize taps[k] = x at *
      generalize vs[k] = y at *
      have hq : p x = true ∨ p x = false := by cases p x <;> simp
      generalize p x = z at *
      obtain ⟨x0, x1, x2, x3, x4⟩ := x
      simp only at d0 d1 d2 d3 d4
      unfold tpc at HP2
      cases z
      · have HS1 := Lib.hid (show m1 = n1 from hs1)
        have HS2 := Lib.hid (show m2 = n2 from hs2)
        clear hs1 hs2 hq hy
        go_wp2_with (go_at_fn fg; refine (HP2.out _ (by repeat (first | (with_reducible exact Ext.refl _) | (with_reducible refine Ext.alloc ?_ _) | (with_reducible apply Ext.setC; focus (simp <;> omega)) | (with_reducible refine Ext.drew ?_) | (with_reducible refine Ext.drewN ?_ _) | (with_reducible refine Ext.trans ?_ (Hid.out ‹Hid (Ext _ _)›))))).mono ?_; rintro e w1 ⟨rfl, h1⟩)
        have H1 := Lib.hid h1
        go_roundg (taps.length - (k + 1))
        case measure => omega
        case rel => exact ⟨k + 1, by omega, by omega, by go_num, ⟨(show Ext w _ by repeat (first | (with_reducible exact Ext.refl _) | (with_reducible refine Ext.alloc ?_ _) | (with_reducible apply Ext.setC; focus (simp <;> omega)) | (with_reducible refine Ext.drew ?_) | (with_reducible refine Ext.drewN ?_ _) | (with_reducible refine Ext.trans ?_ (Hid.out ‹Hid (Ext _ _)›)))), by repeat (first | (with_reducible exact Hid.out ‹Hid (Row _ _ _)›) | (with_reducible exact Row.newAt rfl) | (with_reducible apply Row.newAt; (simp; done)) | (with_reducible apply Row.set_) | (with_reducible apply Row.far; focus (simp <;> omega)) | (with_reducible apply Row.alloc) | (with_reducible apply Row.drew) | (with_reducible apply Row.drewN) | (with_reducible apply Row.ext (Hid.out ‹Hid (Ext _ _)›))), by rw [HM1.out, HM2.out, HS1.out, HS2.out]; repeat (first | (with_reducible exact Hid.out ‹Hid (Row _ _ _)›) | (with_reducible exact Row.newAt rfl) | (with_reducible apply Row.newAt; (simp; done)) | (with_reducible apply Row.set_) | (with_reducible apply Row.far; focus (simp <;> omega)) | (with_reducible apply Row.alloc) | (with_reducible apply Row.drew) | (with_reducible apply Row.drewN) | (with_reducible apply Row.ext (Hid.out ‹Hid (Ext _ _)›)))⟩⟩
      · rcases hy with hy | hy
        · subst hy
          have HS1 := Lib.hid (show m1 = n1 + 1 from hs1)
          have HS2 := Lib.hid (show m2 = n2 from hs2)
          clear hs1 hs2 hq
          go_wp2_with (go_at_fn fg; refine (HP2.out _ (by repeat (first | (with_reducible exact Ext.refl _) | (with_reducible refine Ext.alloc ?_ _) | (with_reducible apply Ext.setC; focus (simp <;> omega)) | (with_reducible refine Ext.drew ?_) | (with_reducible refine Ext.drewN ?_ _) | (with_reducible refine Ext.trans ?_ (Hid.out ‹Hid (Ext _ _)›))))).mono ?_; rintro e w1 ⟨rfl, h1⟩; have H1 := Lib.hid h1; have hz1 := h1.size; clear h1; (try simp only [World.size_alloc, size_set, World.heap_drewN, size_drew] at hz1); (apply Row.use (w := w1) (g := w.heap.size); (focus (repeat (first | (with_reducible exact Hid.out ‹Hid (Row _ _ _)›) | (with_reducible exact Row.newAt rfl) | (with_reducible apply Row.newAt; (simp; done)) | (with_reducible apply Row.set_) | (with_reducible apply Row.far; focus (simp <;> omega)) | (with_reducible apply Row.alloc) | (with_reducible apply Row.drew) | (with_reducible apply Row.drewN) | (with_reducible apply Row.ext (Hid.out ‹Hid (Ext _ _)›))))); intro q1_0 f1_0 l1_0 R1_0; (try simp only [List.setIfInBounds_toArray, List.set_cons_zero, List.set_cons_succ] at q1_0 R1_0); apply Row.use (w := w1) (g := w.heap.size + 1); (focus (repeat (first | (with_reducible exact Hid.out ‹Hid (Row _ _ _)›) | (with_reducible exact Row.newAt rfl) | (with_reducible apply Row.newAt; (simp; done)) | (with_reducible apply Row.set_) | (with_reducible apply Row.far; focus (simp <;> omega)) | (with_reducible apply Row.alloc) | (with_reducible apply Row.drew) | (with_reducible apply Row.drewN) | (with_reducible apply Row.ext (Hid.out ‹Hid (Ext _ _)›))))); intro q1_1 f1_1 l1_1 R1_1; (try simp only [List.setIfInBounds_toArray, List.set_cons_zero, List.set_cons_succ] at q1_1 R1_1)); have f1 := HVC.out w1 (by repeat (first | (with_reducible exact Ext.refl _) | (with_reducible refine Ext.alloc ?_ _) | (with_reducible apply Ext.setC; focus (simp <;> omega)) | (with_reducible refine Ext.drew ?_) | (with_reducible refine Ext.drewN ?_ _) | (with_reducible refine Ext.trans ?_ (Hid.out ‹Hid (Ext _ _)›)))))
          go_roundg (taps.length - (k + 1))
          case measure => omega
          case rel => exact ⟨k + 1, by omega, by omega, by go_num, ⟨(show Ext w _ by repeat (first | (with_reducible exact Ext.refl _) | (with_reducible refine Ext.alloc ?_ _) | (with_reducible apply Ext.setC; focus (simp <;> omega)) | (with_reducible refine Ext.drew ?_) | (with_reducible refine Ext.drewN ?_ _) | (with_reducible refine Ext.trans ?_ (Hid.out ‹Hid (Ext _ _)›)))), by repeat (first | (with_reducible exact Hid.out ‹Hid (Row _ _ _)›) | (with_reducible exact Row.newAt rfl) | (with_reducible apply Row.newAt; (simp; done)) | (with_reducible apply Row.set_) | (with_reducible apply Row.far; focus (simp <;> omega)) | (with_reducible apply Row.alloc) | (with_reducible apply Row.drew) | (with_reducible apply Row.drewN) | (with_reducible apply Row.ext (Hid.out ‹Hid (Ext _ _)›))), by rw [HM1.out, HM2.out, HS1.out, HS2.out]; exact row_one R1_1.out⟩⟩
        · subst hy
          have HS1 := Lib.hid (show m1 = n1 from hs1)
          have HS2 := Lib.hid (show m2 = n2 + 1 from hs2)
          clear hs1 hs2 hq
          go_wp2_with (go_at_fn fg; refine (HP2.out _ (by repeat (first | (with_reducible exact Ext.refl _) | (with_reducible refine Ext.alloc ?_ _) | (with_reducible apply Ext.setC; focus (simp <;> omega)) | (with_reducible refine Ext.drew ?_) | (with_reducible refine Ext.drewN ?_ _) | (with_reducible refine Ext.trans ?_ (Hid.out ‹Hid (Ext _ _)›))))).mono ?_; rintro e w1 ⟨rfl, h1⟩; have H1 := Lib.hid h1; have hz1 := h1.size; clear h1; (try simp only [World.size_alloc, size_set, World.heap_drewN, size_drew] at hz1); (apply Row.use (w := w1) (g := w.heap.size); (focus (repeat (first | (with_reducible exact Hid.out ‹Hid (Row _ _ _)›) | (with_reducible exact Row.newAt rfl) | (with_reducible apply Row.newAt; (simp; done)) | (with_reducible apply Row.set_) | (with_reducible apply Row.far; focus (simp <;> omega)) | (with_reducible apply Row.alloc) | (with_reducible apply Row.drew) | (with_reducible apply Row.drewN) | (with_reducible apply Row.ext (Hid.out ‹Hid (Ext _ _)›))))); intro q1_0 f1_0 l1_0 R1_0; (try simp only [List.setIfInBounds_toArray, List.set_cons_zero, List.set_cons_succ] at q1_0 R1_0); apply Row.use (w := w1) (g := w.heap.size + 1); (focus (repeat (first | (with_reducible exact Hid.out ‹Hid (Row _ _ _)›) | (with_reducible exact Row.newAt rfl) | (with_reducible apply Row.newAt; (simp; done)) | (with_reducible apply Row.set_) | (with_reducible apply Row.far; focus (simp <;> omega)) | (with_reducible apply Row.alloc) | (with_reducible apply Row.drew) | (with_reducible apply Row.drewN) | (with_reducible apply Row.ext (Hid.out ‹Hid (Ext _ _)›))))); intro q1_1 f1_1 l1_1 R1_1; (try simp only [List.setIfInBounds_toArray, List.set_cons_zero, List.set_cons_succ] at q1_1 R1_1)); have f1 := HVC.out w1 (by repeat (first | (with_reducible exact Ext.refl _) | (with_reducible refine Ext.alloc ?_ _) | (with_reducible apply Ext.setC; focus (simp <;> omega)) | (with_reducible refine Ext.drew ?_) | (with_reducible refine Ext.drewN ?_ _) | (with_reducible refine Ext.trans ?_ (Hid.out ‹Hid (Ext _ _)›)))))
          go_roundg (taps.length - (k + 1))
          case measure => omega
          case rel => exact ⟨k + 1, by omega, by omega, by go_num, ⟨(show Ext w _ by repeat (first | (with_reducible exact Ext.refl _) | (with_reducible refine Ext.alloc ?_ _) | (with_reducible apply Ext.setC; focus (simp <;> omega)) | (with_reducible refine Ext.drew ?_) | (with_reducible refine Ext.drewN ?_ _) | (with_reducible refine Ext.trans ?_ (Hid.out ‹Hid (Ext _ _)›)))), by repeat (first | (with_reducible exact Hid.out ‹Hid (Row _ _ _)›) | (with_reducible exact Row.newAt rfl) | (with_reducible apply Row.newAt; (simp; done)) | (with_reducible apply Row.set_) | (with_reducible apply Row.far; focus (simp <;> omega)) | (with_reducible apply Row.alloc) | (with_reducible apply Row.drew) | (with_reducible apply Row.drewN) | (with_reducible apply Row.ext (Hid.out ‹Hid (Ext _ _)›))), by rw [HM1.out, HM2.out, HS1.out, HS2.out]; exact row_two R1_1.out⟩⟩
    · have hge : ¬ (k : Int) < (taps.length : Int) := by omega
      have hkm : k = taps.length := by omega
      subst hkm
      go_wp2_with fail
      (try (go_quiet (fail); go_wp2_with fail))
      go_ret2
      exact ⟨rfl, (show Ext w _ by repeat (first | (with_reducible exact Ext.refl _) | (with_reducible refine Ext.alloc ?_ _) | (with_reducible apply Ext.setC; focus (simp <;> omega)) | (with_reducible refine Ext.drew ?_) | (with_reducible refine Ext.drewN ?_ _) | (with_reducible refine Ext.trans ?_ (Hid.out ‹Hid (Ext _ _)›))))⟩
end Go.Proofs.Ytbboonepfmkgnaa
