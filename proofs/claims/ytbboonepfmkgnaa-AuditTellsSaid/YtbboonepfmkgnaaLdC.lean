/- Ledgers: what comes of a tap at a place. -/
import Derived.Test.YtbboonepfmkgnaaLdB
import Derived.Test.YtbboonepfmkgnaaRuleF
import Derived.Test.YtbboonepfmkgnaaReg
namespace Go.Proofs.Ytbboonepfmkgnaa
set_option linter.unusedSimpArgs false
set_option linter.unusedVariables false
set_option maxRecDepth 100000
open Go Go.RowKit Lb

theorem ixBy_ticket (tks : List Tk) (id : Int) : (ixBy (fun t => t.id == id) tks = -1 ∧ ticketOf tks id = none) ∨ ∃ (k : Nat) (hk : k < tks.length), ixBy (fun t => t.id == id) tks = k ∧ ticketOf tks id = some tks[k] := by
  unfold ixBy ticketOf
  cases hf : tks.findIdx? (fun t => t.id == id) with
  | none =>
    left
    rw [List.findIdx?_eq_none_iff] at hf
    refine ⟨rfl, ?_⟩
    rw [List.find?_eq_none]
    intro x hx
    simpa using hf x hx
  | some k =>
    right
    rw [List.findIdx?_eq_some_iff_getElem] at hf
    obtain ⟨h3, h4, h5⟩ := hf
    refine ⟨k, h3, rfl, ?_⟩
    rw [List.find?_eq_some_iff_getElem]
    exact ⟨h4, k, h3, rfl, fun j hj => by simpa using h5 j hj⟩
theorem late_take (taps : List Tp) (p : Tp) (i : Nat) (h0 : 0 < i) (hi : i ≤ taps.length) : lateBy (taps.take i) p = decide (p.time < (taps[i - 1]'(by omega)).time) := by
  unfold lateBy
  have : (taps.take i).getLast? = some (taps[i - 1]'(by omega)) := by
    rw [List.getLast?_eq_getElem?, List.length_take, Nat.min_eq_left hi, List.getElem?_take_of_lt (by omega), List.getElem?_eq_getElem (by omega)]
  rw [this]
theorem late_zero (taps : List Tp) (p : Tp) : lateBy (taps.take 0) p = false := by simp [lateBy]

theorem tap_one (x p : Tp) (g : Nat) (w : World) (hr : Row w g (tpc p)) :
    Calls Try.prog 82 #[.agg (tpc x), .pointer (some ⟨g, 0, none⟩)] w fun e w' => e = .returned (.bool (sameNo p x)) ∧ Ext w w' := by
  obtain ⟨x0, x1, x2, x3, x4⟩ := x
  obtain ⟨p0, p1, p2, p3, p4⟩ := p
  unfold tpc at hr
  unfold tpc sameNo
  apply Row.use hr; intro q f l R
  clear hr
  simp only
  by_cases h : x1 = p1
  · have hb : (x1 == p1) = true := by simpa using h
    rw [hb, Bool.true_and]
    clear h
    go_enter Try.func82, Try.ntmps82
    go_wp2
    all_goals
      go_ret
      exact ⟨ret_bool (by simp_all), (show Ext w _ by repeat (first | (with_reducible exact Ext.refl _) | (with_reducible refine Ext.alloc ?_ _) | (with_reducible apply Ext.setC; focus (simp <;> omega)) | (with_reducible refine Ext.drew ?_) | (with_reducible refine Ext.drewN ?_ _) | (with_reducible refine Ext.trans ?_ (Hid.out ‹Hid (Ext _ _)›))))⟩
  · have hb : (x1 == p1) = false := by simpa using h
    rw [hb, Bool.false_and]
    clear h
    go_enter Try.func82, Try.ntmps82
    go_wp2
    all_goals
      go_ret
      exact ⟨ret_bool (by simp_all), (show Ext w _ by repeat (first | (with_reducible exact Ext.refl _) | (with_reducible refine Ext.alloc ?_ _) | (with_reducible apply Ext.setC; focus (simp <;> omega)) | (with_reducible refine Ext.drew ?_) | (with_reducible refine Ext.drewN ?_ _) | (with_reducible refine Ext.trans ?_ (Hid.out ‹Hid (Ext _ _)›))))⟩

set_option maxHeartbeats 16000000 in
theorem ledger_tap (tks : List Tk) (taps : List Tp) (vs : List Int) (s0 s1 s2 : Value) (i : Nat) (p : Tp) (w : World) (hit : i ≤ taps.length) (hlen : taps.length = vs.length) (htk : ∀ t ∈ tks, 0 ≤ t.zones ∧ t.zones < 16) (htm : ∀ x ∈ taps.take i, 0 ≤ x.time ∧ x.time ≤ 9999) (hr0 : RdL 6 tkc w s0 tks) (hr1 : RdL 5 tpc w s1 taps) (hr2 : RdL 1 inc w s2 vs) :
    Calls Try.prog 56 #[.agg #[s0, s1, s2], .int .i64 i, .agg (tpc p)] w fun e w' => e = .returned (.tuple #[.int .i64 (tapAt tks taps vs i p).1, .int .i64 (tapAt tks taps vs i p).2]) ∧ Ext w w' := by
  have HCK := Lib.hid (fun (w' : World) => rule_Check p w')
  have HF := Lib.hid (fun (w' : World) (h : Ext w w') => ledger_Find tks p.ticket s0 w' (hr0.ext h))
  obtain ⟨A0, c0, rfl, -, -⟩ := hr0.form
  obtain ⟨A, c, rfl, hmc, hmm⟩ := hr1.form
  obtain ⟨A2, c2, rfl, hmc2, hmm2⟩ := hr2.form
  have hm : taps.length ≤ 9223372036854775807 := by unfold maxLen at hmm; omega
  have hic : (i : Int) ≤ (c : Int) := by omega
  have hi0 : (0 : Int) ≤ (i : Int) := by omega
  have HC := Lib.hid (fun (w' : World) (b : Nat) (h : Ext w w') (hb : Row w' b (tpc p)) => ContainsFunc_tpx (sameNo p) 82 #[.pointer (some ⟨b, 0, none⟩)] (fun args w => by simp [go_sem]) (taps.take i) (.slice A i c) w' ((hr1.ext h).take i hit) (fun W x hE => tap_one x p b W (hb.ext hE)))
  have HRD := Lib.hid (fun (w' : World) (h : Ext w w') => ledger_rides taps vs (.slice A0 tks.length c0) (.slice A taps.length c) (.slice A2 vs.length c2) p.ticket i w' hit hlen ⟨_, _, _, rfl⟩ (hr1.ext h) (hr2.ext h))
  have HRW := Lib.hid (fun (t : Tk) (ht : t ∈ tks) (v : Value) (n : Int) (w' : World) (hz : ckTap p = 0) (h : RdL 5 tpc w' v (lastRide (ridesTo taps vs p.ticket i))) => rule_Raw t (lastRide (ridesTo taps vs p.ticket i)) n p v w' h (htk t ht).1 (htk t ht).2 (by unfold ckTap at hz; cases hh : isZone p.zone <;> simp [hh] at hz ⊢; split at hz <;> simp at hz) (by unfold ckTap at hz; cases hh : within p.time 0 9999 <;> simp [hh] at hz; simp [within] at hh; exact hh.1) (by unfold ckTap at hz; cases hh : within p.time 0 9999 <;> simp [hh] at hz; simp [within] at hh; exact hh.2) (fun x hx => htm x (ridesTo_mem (lastRide_mem hx))))
  have hres : tapAt tks taps vs i p = if ckTap p ≠ 0 then (0, ckTap p)
    else match ticketOf tks p.ticket with
      | none => (0, 5)
      | some t => if (taps.take i).any (sameNo p) then (0, 6)
        else if decide (i < vs.length ∧ vs[i]! ≠ 1 ∧ vs[i]! ≠ 2) = true then (0, 7)
        else if lateBy (taps.take i) p then (0, 4)
        else judge t (lastTime (ridesTo taps vs p.ticket i)) (ridesTo taps vs p.ticket i).length p := by
    simp only [decide_eq_true_eq]
    rfl
  have hix := ixBy_ticket tks p.ticket
  have HTR := Lib.hid hr0
  have HRd := Lib.hid hr1
  have HSd := Lib.hid hr2
  have HLEN := Lib.hid hlen
  generalize hvb : decide (i < vs.length ∧ vs[i]! ≠ 1 ∧ vs[i]! ≠ 2) = vb at *
  have HVB := Lib.hid hvb
  generalize hlate : lateBy (taps.take i) p = lt at *
  have HLT := Lib.hid hlate
  generalize (taps.take i).any (sameNo p) = z at *
  generalize tapAt tks taps vs i p = res at *
  have hll := lastTime_last (ridesTo taps vs p.ticket i)
  simp only [hll] at HRW
  generalize ridesTo taps vs p.ticket i = R at *
  generalize ckTap p = q at *
  generalize ixBy (fun t => t.id == p.ticket) tks = ix at *
  clear hr0 hr1 hr2 hlen hmm hmm2 hmc2 htk htm hvb hlate hll
  unfold tpc at HCK HRW HC
  unfold tkc at HRW
  unfold tpc
  by_cases hq0 : q = 0
  · subst hq0
    rw [if_neg (by simp)] at hres
    rcases hix with ⟨rfl, hto⟩ | ⟨k, hk, rfl, hto⟩
    · rw [hto] at hres
      simp only at hres
      subst hres
      clear hto HC HRD HRW
      go_enter Try.func56, Try.ntmps56
      go_wp2_with fail
      (refine (HCK.out _).mono ?_; rintro e w1 ⟨rfl, h1⟩; have H1 := Lib.hid h1; have hz1 := h1.size; clear h1; (try simp only [World.size_alloc, size_set, World.heap_drewN, size_drew] at hz1); apply Row.use (w := w1) (g := w.heap.size); (focus (repeat (first | (with_reducible exact Hid.out ‹Hid (Row _ _ _)›) | (with_reducible exact Row.newAt rfl) | (with_reducible apply Row.newAt; (simp; done)) | (with_reducible apply Row.set_) | (with_reducible apply Row.far; focus (simp <;> omega)) | (with_reducible apply Row.alloc) | (with_reducible apply Row.drew) | (with_reducible apply Row.drewN) | (with_reducible apply Row.ext (Hid.out ‹Hid (Ext _ _)›))))); intro q1_0 f1_0 l1_0 R1_0; (try simp only [List.setIfInBounds_toArray, List.set_cons_zero, List.set_cons_succ] at q1_0 R1_0); apply Row.use (w := w1) (g := w.heap.size + 1); (focus (repeat (first | (with_reducible exact Hid.out ‹Hid (Row _ _ _)›) | (with_reducible exact Row.newAt rfl) | (with_reducible apply Row.newAt; (simp; done)) | (with_reducible apply Row.set_) | (with_reducible apply Row.far; focus (simp <;> omega)) | (with_reducible apply Row.alloc) | (with_reducible apply Row.drew) | (with_reducible apply Row.drewN) | (with_reducible apply Row.ext (Hid.out ‹Hid (Ext _ _)›))))); intro q1_1 f1_1 l1_1 R1_1; (try simp only [List.setIfInBounds_toArray, List.set_cons_zero, List.set_cons_succ] at q1_1 R1_1))
      go_wp2_with fail
      (refine (HF.out _ (by repeat (first | (with_reducible exact Ext.refl _) | (with_reducible refine Ext.alloc ?_ _) | (with_reducible apply Ext.setC; focus (simp <;> omega)) | (with_reducible refine Ext.drew ?_) | (with_reducible refine Ext.drewN ?_ _) | (with_reducible refine Ext.trans ?_ (Hid.out ‹Hid (Ext _ _)›))))).mono ?_; rintro e w2 ⟨rfl, h2⟩; have H2 := Lib.hid h2; have hz2 := h2.size; clear h2; (try simp only [World.size_alloc, size_set, World.heap_drewN, size_drew] at hz2); apply Row.use (w := w2) (g := w.heap.size); (focus (repeat (first | (with_reducible exact Hid.out ‹Hid (Row _ _ _)›) | (with_reducible exact Row.newAt rfl) | (with_reducible apply Row.newAt; (simp; done)) | (with_reducible apply Row.set_) | (with_reducible apply Row.far; focus (simp <;> omega)) | (with_reducible apply Row.alloc) | (with_reducible apply Row.drew) | (with_reducible apply Row.drewN) | (with_reducible apply Row.ext (Hid.out ‹Hid (Ext _ _)›))))); intro q2_0 f2_0 l2_0 R2_0; (try simp only [List.setIfInBounds_toArray, List.set_cons_zero, List.set_cons_succ] at q2_0 R2_0); apply Row.use (w := w2) (g := w.heap.size + 1); (focus (repeat (first | (with_reducible exact Hid.out ‹Hid (Row _ _ _)›) | (with_reducible exact Row.newAt rfl) | (with_reducible apply Row.newAt; (simp; done)) | (with_reducible apply Row.set_) | (with_reducible apply Row.far; focus (simp <;> omega)) | (with_reducible apply Row.alloc) | (with_reducible apply Row.drew) | (with_reducible apply Row.drewN) | (with_reducible apply Row.ext (Hid.out ‹Hid (Ext _ _)›))))); intro q2_1 f2_1 l2_1 R2_1; (try simp only [List.setIfInBounds_toArray, List.set_cons_zero, List.set_cons_succ] at q2_1 R2_1))
      go_wp2_with fail
      go_ret2
      exact ⟨rfl, (show Ext w _ by repeat (first | (with_reducible exact Ext.refl _) | (with_reducible refine Ext.alloc ?_ _) | (with_reducible apply Ext.setC; focus (simp <;> omega)) | (with_reducible refine Ext.drew ?_) | (with_reducible refine Ext.drewN ?_ _) | (with_reducible refine Ext.trans ?_ (Hid.out ‹Hid (Ext _ _)›))))⟩
    · rw [hto] at hres
      simp only at hres
      have hkn : ¬ ((k : Int) < 0) := by omega
      have hkd : decide ((k : Int) < 0) = false := by simp
      have hk' : (k : Int) < (tks.length : Int) := by omega
      have HRWt := Lib.hid (HRW.out tks[k] (List.getElem_mem hk))
      clear hto HRW
      cases z
      · simp only [Bool.false_eq_true, if_false] at hres
        have HRES := Lib.hid hres
        clear hres
        go_enter Try.func56, Try.ntmps56
        go_wp2_with fail
        (refine (HCK.out _).mono ?_; rintro e w1 ⟨rfl, h1⟩; have H1 := Lib.hid h1; have hz1 := h1.size; clear h1; (try simp only [World.size_alloc, size_set, World.heap_drewN, size_drew] at hz1); apply Row.use (w := w1) (g := w.heap.size); (focus (repeat (first | (with_reducible exact Hid.out ‹Hid (Row _ _ _)›) | (with_reducible exact Row.newAt rfl) | (with_reducible apply Row.newAt; (simp; done)) | (with_reducible apply Row.set_) | (with_reducible apply Row.far; focus (simp <;> omega)) | (with_reducible apply Row.alloc) | (with_reducible apply Row.drew) | (with_reducible apply Row.drewN) | (with_reducible apply Row.ext (Hid.out ‹Hid (Ext _ _)›))))); intro q1_0 f1_0 l1_0 R1_0; (try simp only [List.setIfInBounds_toArray, List.set_cons_zero, List.set_cons_succ] at q1_0 R1_0); apply Row.use (w := w1) (g := w.heap.size + 1); (focus (repeat (first | (with_reducible exact Hid.out ‹Hid (Row _ _ _)›) | (with_reducible exact Row.newAt rfl) | (with_reducible apply Row.newAt; (simp; done)) | (with_reducible apply Row.set_) | (with_reducible apply Row.far; focus (simp <;> omega)) | (with_reducible apply Row.alloc) | (with_reducible apply Row.drew) | (with_reducible apply Row.drewN) | (with_reducible apply Row.ext (Hid.out ‹Hid (Ext _ _)›))))); intro q1_1 f1_1 l1_1 R1_1; (try simp only [List.setIfInBounds_toArray, List.set_cons_zero, List.set_cons_succ] at q1_1 R1_1))
        go_wp2_with fail
        (refine (HF.out _ (by repeat (first | (with_reducible exact Ext.refl _) | (with_reducible refine Ext.alloc ?_ _) | (with_reducible apply Ext.setC; focus (simp <;> omega)) | (with_reducible refine Ext.drew ?_) | (with_reducible refine Ext.drewN ?_ _) | (with_reducible refine Ext.trans ?_ (Hid.out ‹Hid (Ext _ _)›))))).mono ?_; rintro e w2 ⟨rfl, h2⟩; have H2 := Lib.hid h2; have hz2 := h2.size; clear h2; (try simp only [World.size_alloc, size_set, World.heap_drewN, size_drew] at hz2); apply Row.use (w := w2) (g := w.heap.size); (focus (repeat (first | (with_reducible exact Hid.out ‹Hid (Row _ _ _)›) | (with_reducible exact Row.newAt rfl) | (with_reducible apply Row.newAt; (simp; done)) | (with_reducible apply Row.set_) | (with_reducible apply Row.far; focus (simp <;> omega)) | (with_reducible apply Row.alloc) | (with_reducible apply Row.drew) | (with_reducible apply Row.drewN) | (with_reducible apply Row.ext (Hid.out ‹Hid (Ext _ _)›))))); intro q2_0 f2_0 l2_0 R2_0; (try simp only [List.setIfInBounds_toArray, List.set_cons_zero, List.set_cons_succ] at q2_0 R2_0); apply Row.use (w := w2) (g := w.heap.size + 1); (focus (repeat (first | (with_reducible exact Hid.out ‹Hid (Row _ _ _)›) | (with_reducible exact Row.newAt rfl) | (with_reducible apply Row.newAt; (simp; done)) | (with_reducible apply Row.set_) | (with_reducible apply Row.far; focus (simp <;> omega)) | (with_reducible apply Row.alloc) | (with_reducible apply Row.drew) | (with_reducible apply Row.drewN) | (with_reducible apply Row.ext (Hid.out ‹Hid (Ext _ _)›))))); intro q2_1 f2_1 l2_1 R2_1; (try simp only [List.setIfInBounds_toArray, List.set_cons_zero, List.set_cons_succ] at q2_1 R2_1))
        go_wp2_with fail
        (refine (HC.out _ (w.heap.size + 1) (by repeat (first | (with_reducible exact Ext.refl _) | (with_reducible refine Ext.alloc ?_ _) | (with_reducible apply Ext.setC; focus (simp <;> omega)) | (with_reducible refine Ext.drew ?_) | (with_reducible refine Ext.drewN ?_ _) | (with_reducible refine Ext.trans ?_ (Hid.out ‹Hid (Ext _ _)›)))) R2_1.out).mono ?_; rintro e w3 ⟨rfl, h3⟩; have H3 := Lib.hid h3; have hz3 := h3.size; clear h3; (try simp only [World.size_alloc, size_set, World.heap_drewN, size_drew] at hz3); apply Row.use (w := w3) (g := w.heap.size); (focus (repeat (first | (with_reducible exact Hid.out ‹Hid (Row _ _ _)›) | (with_reducible exact Row.newAt rfl) | (with_reducible apply Row.newAt; (simp; done)) | (with_reducible apply Row.set_) | (with_reducible apply Row.far; focus (simp <;> omega)) | (with_reducible apply Row.alloc) | (with_reducible apply Row.drew) | (with_reducible apply Row.drewN) | (with_reducible apply Row.ext (Hid.out ‹Hid (Ext _ _)›))))); intro q3_0 f3_0 l3_0 R3_0; (try simp only [List.setIfInBounds_toArray, List.set_cons_zero, List.set_cons_succ] at q3_0 R3_0); apply Row.use (w := w3) (g := w.heap.size + 1); (focus (repeat (first | (with_reducible exact Hid.out ‹Hid (Row _ _ _)›) | (with_reducible exact Row.newAt rfl) | (with_reducible apply Row.newAt; (simp; done)) | (with_reducible apply Row.set_) | (with_reducible apply Row.far; focus (simp <;> omega)) | (with_reducible apply Row.alloc) | (with_reducible apply Row.drew) | (with_reducible apply Row.drewN) | (with_reducible apply Row.ext (Hid.out ‹Hid (Ext _ _)›))))); intro q3_1 f3_1 l3_1 R3_1; (try simp only [List.setIfInBounds_toArray, List.set_cons_zero, List.set_cons_succ] at q3_1 R3_1))
        go_upto_region 9 with fail
        go_cut [32] (fun s32 wx => s32 = .bool vb ∧ Aside (Ext w3 wx))
        case first =>
          have hvb := HVB.out
          by_cases hi : i < vs.length
          · have hi' : (i : Int) < (vs.length : Int) := by omega
            obtain ⟨b2, o2, rfl, hb2, f0⟩ := (HSd.out.ext (show Ext w w3 by repeat (first | (with_reducible exact Ext.refl _) | (with_reducible refine Ext.alloc ?_ _) | (with_reducible apply Ext.setC; focus (simp <;> omega)) | (with_reducible refine Ext.drew ?_) | (with_reducible refine Ext.drewN ?_ _) | (with_reducible refine Ext.trans ?_ (Hid.out ‹Hid (Ext _ _)›))))).num_at rfl hi
            rw [show vs[i]! = vs[i] by simp [hi]] at hvb
            generalize vs[i] = y at *
            by_cases h1 : y = 1
            · have h1b : (y != 1) = false := by simpa using h1
              have hv : vb = false := by rw [← hvb]; simp [h1]
              subst hv
              clear h1 hvb HVB
              go_wp2_with fail
              go_meet
              case rel => exact ⟨rfl, Ext.refl _⟩
            · have h1b : (y != 1) = true := by simpa using h1
              by_cases h2 : y = 2
              · have h2b : (y != 2) = false := by simpa using h2
                have hv : vb = false := by rw [← hvb]; simp [h2]
                subst hv
                clear h1 h2 hvb HVB
                go_wp2_with fail
                go_meet
                case rel => exact ⟨rfl, Ext.refl _⟩
              · have h2b : (y != 2) = true := by simpa using h2
                have hv : vb = true := by rw [← hvb]; simp [h1, h2, hi]
                subst hv
                clear h1 h2 hvb HVB
                go_wp2_with fail
                go_meet
                case rel => exact ⟨rfl, Ext.refl _⟩
          · have hige : ¬ (i : Int) < (vs.length : Int) := by omega
            have hv : vb = false := by rw [← hvb]; simp [hi]
            subst hv
            clear hvb HVB
            go_wp2_with fail
            go_meet
            case rel => exact ⟨rfl, Ext.refl _⟩
        case rest =>
          obtain ⟨rfl, HW⟩ := hcut
          obtain ⟨w4, rfl⟩ : ∃ w4 : World, w4 = wc := ⟨_, rfl⟩
          have H4 := Lib.hid HW.out
          clear HW HVB
          (apply Row.use (w := w4) (g := w.heap.size); (focus (repeat (first | (with_reducible exact Hid.out ‹Hid (Row _ _ _)›) | (with_reducible exact Row.newAt rfl) | (with_reducible apply Row.newAt; (simp; done)) | (with_reducible apply Row.set_) | (with_reducible apply Row.far; focus (simp <;> omega)) | (with_reducible apply Row.alloc) | (with_reducible apply Row.drew) | (with_reducible apply Row.drewN) | (with_reducible apply Row.ext (Hid.out ‹Hid (Ext _ _)›))))); intro q4_0 f4_0 l4_0 R4_0; (try simp only [List.setIfInBounds_toArray, List.set_cons_zero, List.set_cons_succ] at q4_0 R4_0); apply Row.use (w := w4) (g := w.heap.size + 1); (focus (repeat (first | (with_reducible exact Hid.out ‹Hid (Row _ _ _)›) | (with_reducible exact Row.newAt rfl) | (with_reducible apply Row.newAt; (simp; done)) | (with_reducible apply Row.set_) | (with_reducible apply Row.far; focus (simp <;> omega)) | (with_reducible apply Row.alloc) | (with_reducible apply Row.drew) | (with_reducible apply Row.drewN) | (with_reducible apply Row.ext (Hid.out ‹Hid (Ext _ _)›))))); intro q4_1 f4_1 l4_1 R4_1; (try simp only [List.setIfInBounds_toArray, List.set_cons_zero, List.set_cons_succ] at q4_1 R4_1))
          cases vb
          · have hres := HRES.out
            rw [if_neg (by simp)] at hres
            have HRES2 := Lib.hid hres
            clear HRES hres
            go_upto_region 11 with fail
            go_cut [54] (fun s54 wx => s54 = .bool lt ∧ Aside (Ext w4 wx))
            case first =>
              by_cases hz : i = 0
              · have hv : lt = false := by rw [← HLT.out, hz]; exact late_zero taps p
                subst hv
                subst hz
                go_wp2_with fail
                go_quiet (fail)
                go_wp2_with fail
                go_meet
                case rel => exact ⟨rfl, (show Ext w4 _ by repeat (first | (with_reducible exact Ext.refl _) | (with_reducible refine Ext.alloc ?_ _) | (with_reducible apply Ext.setC; focus (simp <;> omega)) | (with_reducible refine Ext.drew ?_) | (with_reducible refine Ext.drewN ?_ _) | (with_reducible refine Ext.trans ?_ (Hid.out ‹Hid (Ext _ _)›))))⟩
              · have h0 : 0 < i := by omega
                have hid : decide (0 < i) = true := by simpa using h0
                have hw1 : IntKind.i64.wrap ((i : Int) - 1) = ((i - 1 : Nat) : Int) := by rw [IntWalk.i64_in _ (by omega)]; omega
                have hk1 : ((i - 1 : Nat) : Int) < (taps.length : Int) := by omega
                have hk2 : i - 1 < taps.length := by omega
                obtain ⟨b2, o2, rfl, hb2, -, -, -, f3, -⟩ := (HRd.out.ext (show Ext w w4 by repeat (first | (with_reducible exact Ext.refl _) | (with_reducible refine Ext.alloc ?_ _) | (with_reducible apply Ext.setC; focus (simp <;> omega)) | (with_reducible refine Ext.drew ?_) | (with_reducible refine Ext.drewN ?_ _) | (with_reducible refine Ext.trans ?_ (Hid.out ‹Hid (Ext _ _)›))))).tap_at rfl hk2
                have hv := late_take taps p i h0 hit
                rw [HLT.out] at hv
                generalize (taps[i - 1]).time = y at *
                by_cases hy : p.time < y
                · have hyd : decide (p.time < y) = true := by simpa using hy
                  rw [hyd] at hv
                  subst hv
                  clear hy
                  go_wp2_with fail
                  go_quiet (fail)
                  go_wp2_with fail
                  go_meet
                  case rel => exact ⟨rfl, (show Ext w4 _ by repeat (first | (with_reducible exact Ext.refl _) | (with_reducible refine Ext.alloc ?_ _) | (with_reducible apply Ext.setC; focus (simp <;> omega)) | (with_reducible refine Ext.drew ?_) | (with_reducible refine Ext.drewN ?_ _) | (with_reducible refine Ext.trans ?_ (Hid.out ‹Hid (Ext _ _)›))))⟩
                · have hyd : decide (p.time < y) = false := by simpa using hy
                  rw [hyd] at hv
                  subst hv
                  clear hy
                  go_wp2_with fail
                  go_quiet (fail)
                  go_wp2_with fail
                  go_meet
                  case rel => exact ⟨rfl, (show Ext w4 _ by repeat (first | (with_reducible exact Ext.refl _) | (with_reducible refine Ext.alloc ?_ _) | (with_reducible apply Ext.setC; focus (simp <;> omega)) | (with_reducible refine Ext.drew ?_) | (with_reducible refine Ext.drewN ?_ _) | (with_reducible refine Ext.trans ?_ (Hid.out ‹Hid (Ext _ _)›))))⟩
            case rest =>
              obtain ⟨rfl, HW⟩ := hcut
              obtain ⟨w5, rfl⟩ : ∃ w5 : World, w5 = wc := ⟨_, rfl⟩
              have H5 := Lib.hid HW.out
              clear HW HLT
              (apply Row.use (w := w5) (g := w.heap.size); (focus (repeat (first | (with_reducible exact Hid.out ‹Hid (Row _ _ _)›) | (with_reducible exact Row.newAt rfl) | (with_reducible apply Row.newAt; (simp; done)) | (with_reducible apply Row.set_) | (with_reducible apply Row.far; focus (simp <;> omega)) | (with_reducible apply Row.alloc) | (with_reducible apply Row.drew) | (with_reducible apply Row.drewN) | (with_reducible apply Row.ext (Hid.out ‹Hid (Ext _ _)›))))); intro q5_0 f5_0 l5_0 R5_0; (try simp only [List.setIfInBounds_toArray, List.set_cons_zero, List.set_cons_succ] at q5_0 R5_0); apply Row.use (w := w5) (g := w.heap.size + 1); (focus (repeat (first | (with_reducible exact Hid.out ‹Hid (Row _ _ _)›) | (with_reducible exact Row.newAt rfl) | (with_reducible apply Row.newAt; (simp; done)) | (with_reducible apply Row.set_) | (with_reducible apply Row.far; focus (simp <;> omega)) | (with_reducible apply Row.alloc) | (with_reducible apply Row.drew) | (with_reducible apply Row.drewN) | (with_reducible apply Row.ext (Hid.out ‹Hid (Ext _ _)›))))); intro q5_1 f5_1 l5_1 R5_1; (try simp only [List.setIfInBounds_toArray, List.set_cons_zero, List.set_cons_succ] at q5_1 R5_1))
              cases lt
              · have hres := HRES2.out
                rw [if_neg (by simp)] at hres
                subst hres
                clear HRES2
                go_wp2_with fail
                refine (HRD.out _ (by repeat (first | (with_reducible exact Ext.refl _) | (with_reducible refine Ext.alloc ?_ _) | (with_reducible apply Ext.setC; focus (simp <;> omega)) | (with_reducible refine Ext.drew ?_) | (with_reducible refine Ext.drewN ?_ _) | (with_reducible refine Ext.trans ?_ (Hid.out ‹Hid (Ext _ _)›))))).mono ?_
                rintro e w6 ⟨s6, rfl, h6, hr6⟩
                have H6 := Lib.hid h6
                have HR6 := Lib.hid hr6
                clear h6 hr6
                (apply Row.use (w := w6) (g := w.heap.size); (focus (repeat (first | (with_reducible exact Hid.out ‹Hid (Row _ _ _)›) | (with_reducible exact Row.newAt rfl) | (with_reducible apply Row.newAt; (simp; done)) | (with_reducible apply Row.set_) | (with_reducible apply Row.far; focus (simp <;> omega)) | (with_reducible apply Row.alloc) | (with_reducible apply Row.drew) | (with_reducible apply Row.drewN) | (with_reducible apply Row.ext (Hid.out ‹Hid (Ext _ _)›))))); intro q6_0 f6_0 l6_0 R6_0; (try simp only [List.setIfInBounds_toArray, List.set_cons_zero, List.set_cons_succ] at q6_0 R6_0); apply Row.use (w := w6) (g := w.heap.size + 1); (focus (repeat (first | (with_reducible exact Hid.out ‹Hid (Row _ _ _)›) | (with_reducible exact Row.newAt rfl) | (with_reducible apply Row.newAt; (simp; done)) | (with_reducible apply Row.set_) | (with_reducible apply Row.far; focus (simp <;> omega)) | (with_reducible apply Row.alloc) | (with_reducible apply Row.drew) | (with_reducible apply Row.drewN) | (with_reducible apply Row.ext (Hid.out ‹Hid (Ext _ _)›))))); intro q6_1 f6_1 l6_1 R6_1; (try simp only [List.setIfInBounds_toArray, List.set_cons_zero, List.set_cons_succ] at q6_1 R6_1))
                go_wp2_with fail
                obtain ⟨tb, tof, rfl, htb, g0, g1, g2, g3, g4, g5⟩ := (HTR.out.ext (show Ext w w6 by repeat (first | (with_reducible exact Ext.refl _) | (with_reducible refine Ext.alloc ?_ _) | (with_reducible apply Ext.setC; focus (simp <;> omega)) | (with_reducible refine Ext.drew ?_) | (with_reducible refine Ext.drewN ?_ _) | (with_reducible refine Ext.trans ?_ (Hid.out ‹Hid (Ext _ _)›))))).tk_at rfl hk
                generalize htq : tks[k] = t at *
                have HTQ := Lib.hid htq
                clear htq
                obtain ⟨t0, t1, t2, t3, t4, t5⟩ := t
                simp only at g0 g1 g2 g3 g4 g5 HRWt
                have HKp := Lib.hid (fun (w' : World) (h : Ext w6 w') => (show (∀ o, w'.cell? ⟨w.heap.size, o, none⟩ = (#[.slice (some ⟨tb, tof, none⟩) tks.length c0, .slice A taps.length c, .slice A2 vs.length c2] : Array Value)[o]?) ∧ (∀ o, w'.cell? ⟨w.heap.size + 1, o, none⟩ = (#[.int .i64 p.ticket, .int .i64 p.gate, .int .i64 p.seq, .int .i64 p.time, .int .i64 p.zone] : Array Value)[o]?) ∧ w'.cell? ⟨tb, tof + k * 6, none⟩ = some (.int .i64 t0) ∧ w'.cell? ⟨tb, tof + k * 6 + 1, none⟩ = some (.int .i64 t1) ∧ w'.cell? ⟨tb, tof + k * 6 + 2, none⟩ = some (.int .i64 t2) ∧ w'.cell? ⟨tb, tof + k * 6 + 3, none⟩ = some (.int .i64 t3) ∧ w'.cell? ⟨tb, tof + k * 6 + 4, none⟩ = some (.int .i64 t4) ∧ w'.cell? ⟨tb, tof + k * 6 + 5, none⟩ = some (.int .i64 t5) from ⟨(Row.ext h R6_0.out).2.1, (Row.ext h R6_1.out).2.1, (h.cells _ _ htb).trans g0, (h.cells _ _ htb).trans g1, (h.cells _ _ htb).trans g2, (h.cells _ _ htb).trans g3, (h.cells _ _ htb).trans g4, (h.cells _ _ htb).trans g5⟩))
                refine T_begin (fun w' => (∀ o, w'.cell? ⟨w.heap.size, o, none⟩ = (#[.slice (some ⟨tb, tof, none⟩) tks.length c0, .slice A taps.length c, .slice A2 vs.length c2] : Array Value)[o]?) ∧ (∀ o, w'.cell? ⟨w.heap.size + 1, o, none⟩ = (#[.int .i64 p.ticket, .int .i64 p.gate, .int .i64 p.seq, .int .i64 p.time, .int .i64 p.zone] : Array Value)[o]?) ∧ w'.cell? ⟨tb, tof + k * 6, none⟩ = some (.int .i64 t0) ∧ w'.cell? ⟨tb, tof + k * 6 + 1, none⟩ = some (.int .i64 t1) ∧ w'.cell? ⟨tb, tof + k * 6 + 2, none⟩ = some (.int .i64 t2) ∧ w'.cell? ⟨tb, tof + k * 6 + 3, none⟩ = some (.int .i64 t3) ∧ w'.cell? ⟨tb, tof + k * 6 + 4, none⟩ = some (.int .i64 t4) ∧ w'.cell? ⟨tb, tof + k * 6 + 5, none⟩ = some (.int .i64 t5)) 12 (by kernel_rfl) (HKp.out _ ((Ext.refl _).drew)) (fun hS => ?_)
                simp only [List.length_cons, List.length_nil]
                ((refine T_take (i := 0) (v := ?_) rfl (by kernel_rfl) rfl hS ?_ ?_; rotate_left; focus (intro w hSw; (try dsimp only at hSw); go_simp; try (with_reducible rfl))); (try simp only [Act.put, List.setIfInBounds_toArray, List.set_cons_zero, List.set_cons_succ]); (refine T_take (i := 1) (v := ?_) rfl (by kernel_rfl) rfl hS ?_ ?_; rotate_left; focus (intro w hSw; (try dsimp only at hSw); go_simp; try (with_reducible rfl))); (try simp only [Act.put, List.setIfInBounds_toArray, List.set_cons_zero, List.set_cons_succ]); (refine T_take (i := 2) (v := ?_) rfl (by kernel_rfl) rfl hS ?_ ?_; rotate_left; focus (intro w hSw; (try dsimp only at hSw); go_simp; try (with_reducible rfl))); (try simp only [Act.put, List.setIfInBounds_toArray, List.set_cons_zero, List.set_cons_succ]); (refine T_take (i := 3) (v := ?_) rfl (by kernel_rfl) rfl hS ?_ ?_; rotate_left; focus (intro w hSw; (try dsimp only at hSw); go_simp; try (with_reducible rfl))); (try simp only [Act.put, List.setIfInBounds_toArray, List.set_cons_zero, List.set_cons_succ]); (refine T_take (i := 4) (v := ?_) rfl (by kernel_rfl) rfl hS ?_ ?_; rotate_left; focus (intro w hSw; (try dsimp only at hSw); go_simp; try (with_reducible rfl))); (try simp only [Act.put, List.setIfInBounds_toArray, List.set_cons_zero, List.set_cons_succ]); (refine T_take (i := 5) (v := ?_) rfl (by kernel_rfl) rfl hS ?_ ?_; rotate_left; focus (intro w hSw; (try dsimp only at hSw); go_simp; try (with_reducible rfl))); (try simp only [Act.put, List.setIfInBounds_toArray, List.set_cons_zero, List.set_cons_succ]); (refine T_take (i := 6) (v := ?_) rfl (by kernel_rfl) rfl hS ?_ ?_; rotate_left; focus (intro w hSw; (try dsimp only at hSw); go_simp; try (with_reducible rfl))); (try simp only [Act.put, List.setIfInBounds_toArray, List.set_cons_zero, List.set_cons_succ]); (refine T_take (i := 7) (v := ?_) rfl (by kernel_rfl) rfl hS ?_ ?_; rotate_left; focus (intro w hSw; (try dsimp only at hSw); go_simp; try (with_reducible rfl))); (try simp only [Act.put, List.setIfInBounds_toArray, List.set_cons_zero, List.set_cons_succ]))
                clear hS
                refine T_only (i := 8) rfl (by kernel_rfl) rfl (fun K hK => ?_)
                go_simp
                refine (HRWt.out _ _ _ (by simp) (HR6.out.ext (by repeat (first | (with_reducible exact Ext.refl _) | (with_reducible refine Ext.alloc ?_ _) | (with_reducible apply Ext.setC; focus (simp <;> omega)) | (with_reducible refine Ext.drew ?_) | (with_reducible refine Ext.drewN ?_ _) | (with_reducible refine Ext.trans ?_ (Hid.out ‹Hid (Ext _ _)›)))))).mono ?_
                rintro e w7 ⟨rfl, h7⟩
                have H7 := Lib.hid h7
                clear h7
                go_wp2_with fail
                have hS := HKp.out w7 (by repeat (first | (with_reducible exact Ext.refl _) | (with_reducible refine Ext.alloc ?_ _) | (with_reducible apply Ext.setC; focus (simp <;> omega)) | (with_reducible refine Ext.drew ?_) | (with_reducible refine Ext.drewN ?_ _) | (with_reducible refine Ext.trans ?_ (Hid.out ‹Hid (Ext _ _)›))))
                refine hK.out _ _ (.inr hS) ?_
                clear hK
                (try simp only [Act.put, List.setIfInBounds_toArray, List.set_cons_zero, List.set_cons_succ])
                ((refine T_take (i := 9) (v := ?_) rfl (by kernel_rfl) rfl hS ?_ ?_; rotate_left; focus (intro w hSw; (try dsimp only at hSw); go_simp; try (with_reducible rfl))); (try simp only [Act.put, List.setIfInBounds_toArray, List.set_cons_zero, List.set_cons_succ]); (refine T_take (i := 10) (v := ?_) rfl (by kernel_rfl) rfl hS ?_ ?_; rotate_left; focus (intro w hSw; (try dsimp only at hSw); go_simp; try (with_reducible rfl))); (try simp only [Act.put, List.setIfInBounds_toArray, List.set_cons_zero, List.set_cons_succ]))
                refine T_only (i := 11) rfl (by kernel_rfl) rfl (fun K hK => ?_)
                go_simp
                refine hK.out _ _ (.inr hS) ?_
                clear hK hS
                (try simp only [Act.put, List.setIfInBounds_toArray, List.set_cons_zero, List.set_cons_succ])
                refine T_only (i := 12) rfl (by kernel_rfl) rfl (fun K hK => ?_)
                go_simp
                refine hK.out _ _ (.inl (by kernel_rfl)) ?_
                clear hK
                (try simp only [Act.put, List.setIfInBounds_toArray, List.set_cons_zero, List.set_cons_succ])
                refine T_done (by kernel_rfl) ?_ _
                go_wp2_with fail
                go_ret2
                exact ⟨by rw [HTQ.out]; rfl, (show Ext w _ by repeat (first | (with_reducible exact Ext.refl _) | (with_reducible refine Ext.alloc ?_ _) | (with_reducible apply Ext.setC; focus (simp <;> omega)) | (with_reducible refine Ext.drew ?_) | (with_reducible refine Ext.drewN ?_ _) | (with_reducible refine Ext.trans ?_ (Hid.out ‹Hid (Ext _ _)›))))⟩
              · have hres := HRES2.out
                rw [if_pos rfl] at hres
                subst hres
                clear HRES2
                go_wp2_with fail
                go_ret2
                exact ⟨rfl, (show Ext w _ by repeat (first | (with_reducible exact Ext.refl _) | (with_reducible refine Ext.alloc ?_ _) | (with_reducible apply Ext.setC; focus (simp <;> omega)) | (with_reducible refine Ext.drew ?_) | (with_reducible refine Ext.drewN ?_ _) | (with_reducible refine Ext.trans ?_ (Hid.out ‹Hid (Ext _ _)›))))⟩
          · have hres := HRES.out
            rw [if_pos rfl] at hres
            subst hres
            clear HRES
            go_wp2_with fail
            go_ret2
            exact ⟨rfl, (show Ext w _ by repeat (first | (with_reducible exact Ext.refl _) | (with_reducible refine Ext.alloc ?_ _) | (with_reducible apply Ext.setC; focus (simp <;> omega)) | (with_reducible refine Ext.drew ?_) | (with_reducible refine Ext.drewN ?_ _) | (with_reducible refine Ext.trans ?_ (Hid.out ‹Hid (Ext _ _)›))))⟩
      · simp only [if_true] at hres
        subst hres
        clear HRD HRWt
        go_enter Try.func56, Try.ntmps56
        go_wp2_with fail
        (refine (HCK.out _).mono ?_; rintro e w1 ⟨rfl, h1⟩; have H1 := Lib.hid h1; have hz1 := h1.size; clear h1; (try simp only [World.size_alloc, size_set, World.heap_drewN, size_drew] at hz1); apply Row.use (w := w1) (g := w.heap.size); (focus (repeat (first | (with_reducible exact Hid.out ‹Hid (Row _ _ _)›) | (with_reducible exact Row.newAt rfl) | (with_reducible apply Row.newAt; (simp; done)) | (with_reducible apply Row.set_) | (with_reducible apply Row.far; focus (simp <;> omega)) | (with_reducible apply Row.alloc) | (with_reducible apply Row.drew) | (with_reducible apply Row.drewN) | (with_reducible apply Row.ext (Hid.out ‹Hid (Ext _ _)›))))); intro q1_0 f1_0 l1_0 R1_0; (try simp only [List.setIfInBounds_toArray, List.set_cons_zero, List.set_cons_succ] at q1_0 R1_0); apply Row.use (w := w1) (g := w.heap.size + 1); (focus (repeat (first | (with_reducible exact Hid.out ‹Hid (Row _ _ _)›) | (with_reducible exact Row.newAt rfl) | (with_reducible apply Row.newAt; (simp; done)) | (with_reducible apply Row.set_) | (with_reducible apply Row.far; focus (simp <;> omega)) | (with_reducible apply Row.alloc) | (with_reducible apply Row.drew) | (with_reducible apply Row.drewN) | (with_reducible apply Row.ext (Hid.out ‹Hid (Ext _ _)›))))); intro q1_1 f1_1 l1_1 R1_1; (try simp only [List.setIfInBounds_toArray, List.set_cons_zero, List.set_cons_succ] at q1_1 R1_1))
        go_wp2_with fail
        (refine (HF.out _ (by repeat (first | (with_reducible exact Ext.refl _) | (with_reducible refine Ext.alloc ?_ _) | (with_reducible apply Ext.setC; focus (simp <;> omega)) | (with_reducible refine Ext.drew ?_) | (with_reducible refine Ext.drewN ?_ _) | (with_reducible refine Ext.trans ?_ (Hid.out ‹Hid (Ext _ _)›))))).mono ?_; rintro e w2 ⟨rfl, h2⟩; have H2 := Lib.hid h2; have hz2 := h2.size; clear h2; (try simp only [World.size_alloc, size_set, World.heap_drewN, size_drew] at hz2); apply Row.use (w := w2) (g := w.heap.size); (focus (repeat (first | (with_reducible exact Hid.out ‹Hid (Row _ _ _)›) | (with_reducible exact Row.newAt rfl) | (with_reducible apply Row.newAt; (simp; done)) | (with_reducible apply Row.set_) | (with_reducible apply Row.far; focus (simp <;> omega)) | (with_reducible apply Row.alloc) | (with_reducible apply Row.drew) | (with_reducible apply Row.drewN) | (with_reducible apply Row.ext (Hid.out ‹Hid (Ext _ _)›))))); intro q2_0 f2_0 l2_0 R2_0; (try simp only [List.setIfInBounds_toArray, List.set_cons_zero, List.set_cons_succ] at q2_0 R2_0); apply Row.use (w := w2) (g := w.heap.size + 1); (focus (repeat (first | (with_reducible exact Hid.out ‹Hid (Row _ _ _)›) | (with_reducible exact Row.newAt rfl) | (with_reducible apply Row.newAt; (simp; done)) | (with_reducible apply Row.set_) | (with_reducible apply Row.far; focus (simp <;> omega)) | (with_reducible apply Row.alloc) | (with_reducible apply Row.drew) | (with_reducible apply Row.drewN) | (with_reducible apply Row.ext (Hid.out ‹Hid (Ext _ _)›))))); intro q2_1 f2_1 l2_1 R2_1; (try simp only [List.setIfInBounds_toArray, List.set_cons_zero, List.set_cons_succ] at q2_1 R2_1))
        go_wp2_with fail
        (refine (HC.out _ (w.heap.size + 1) (by repeat (first | (with_reducible exact Ext.refl _) | (with_reducible refine Ext.alloc ?_ _) | (with_reducible apply Ext.setC; focus (simp <;> omega)) | (with_reducible refine Ext.drew ?_) | (with_reducible refine Ext.drewN ?_ _) | (with_reducible refine Ext.trans ?_ (Hid.out ‹Hid (Ext _ _)›)))) R2_1.out).mono ?_; rintro e w3 ⟨rfl, h3⟩; have H3 := Lib.hid h3; have hz3 := h3.size; clear h3; (try simp only [World.size_alloc, size_set, World.heap_drewN, size_drew] at hz3); apply Row.use (w := w3) (g := w.heap.size); (focus (repeat (first | (with_reducible exact Hid.out ‹Hid (Row _ _ _)›) | (with_reducible exact Row.newAt rfl) | (with_reducible apply Row.newAt; (simp; done)) | (with_reducible apply Row.set_) | (with_reducible apply Row.far; focus (simp <;> omega)) | (with_reducible apply Row.alloc) | (with_reducible apply Row.drew) | (with_reducible apply Row.drewN) | (with_reducible apply Row.ext (Hid.out ‹Hid (Ext _ _)›))))); intro q3_0 f3_0 l3_0 R3_0; (try simp only [List.setIfInBounds_toArray, List.set_cons_zero, List.set_cons_succ] at q3_0 R3_0); apply Row.use (w := w3) (g := w.heap.size + 1); (focus (repeat (first | (with_reducible exact Hid.out ‹Hid (Row _ _ _)›) | (with_reducible exact Row.newAt rfl) | (with_reducible apply Row.newAt; (simp; done)) | (with_reducible apply Row.set_) | (with_reducible apply Row.far; focus (simp <;> omega)) | (with_reducible apply Row.alloc) | (with_reducible apply Row.drew) | (with_reducible apply Row.drewN) | (with_reducible apply Row.ext (Hid.out ‹Hid (Ext _ _)›))))); intro q3_1 f3_1 l3_1 R3_1; (try simp only [List.setIfInBounds_toArray, List.set_cons_zero, List.set_cons_succ] at q3_1 R3_1))
        go_wp2_with fail
        go_ret2
        exact ⟨rfl, (show Ext w _ by repeat (first | (with_reducible exact Ext.refl _) | (with_reducible refine Ext.alloc ?_ _) | (with_reducible apply Ext.setC; focus (simp <;> omega)) | (with_reducible refine Ext.drew ?_) | (with_reducible refine Ext.drewN ?_ _) | (with_reducible refine Ext.trans ?_ (Hid.out ‹Hid (Ext _ _)›))))⟩
  · rw [if_pos hq0] at hres
    have hqb : (q != 0) = true := by simpa using hq0
    subst hres
    clear hq0 hix HC HRD HRW HF
    go_enter Try.func56, Try.ntmps56
    go_wp2_with fail
    (refine (HCK.out _).mono ?_; rintro e w1 ⟨rfl, h1⟩; have H1 := Lib.hid h1; have hz1 := h1.size; clear h1; (try simp only [World.size_alloc, size_set, World.heap_drewN, size_drew] at hz1); apply Row.use (w := w1) (g := w.heap.size); (focus (repeat (first | (with_reducible exact Hid.out ‹Hid (Row _ _ _)›) | (with_reducible exact Row.newAt rfl) | (with_reducible apply Row.newAt; (simp; done)) | (with_reducible apply Row.set_) | (with_reducible apply Row.far; focus (simp <;> omega)) | (with_reducible apply Row.alloc) | (with_reducible apply Row.drew) | (with_reducible apply Row.drewN) | (with_reducible apply Row.ext (Hid.out ‹Hid (Ext _ _)›))))); intro q1_0 f1_0 l1_0 R1_0; (try simp only [List.setIfInBounds_toArray, List.set_cons_zero, List.set_cons_succ] at q1_0 R1_0); apply Row.use (w := w1) (g := w.heap.size + 1); (focus (repeat (first | (with_reducible exact Hid.out ‹Hid (Row _ _ _)›) | (with_reducible exact Row.newAt rfl) | (with_reducible apply Row.newAt; (simp; done)) | (with_reducible apply Row.set_) | (with_reducible apply Row.far; focus (simp <;> omega)) | (with_reducible apply Row.alloc) | (with_reducible apply Row.drew) | (with_reducible apply Row.drewN) | (with_reducible apply Row.ext (Hid.out ‹Hid (Ext _ _)›))))); intro q1_1 f1_1 l1_1 R1_1; (try simp only [List.setIfInBounds_toArray, List.set_cons_zero, List.set_cons_succ] at q1_1 R1_1))
    go_wp2_with fail
    go_ret2
    exact ⟨rfl, (show Ext w _ by repeat (first | (with_reducible exact Ext.refl _) | (with_reducible refine Ext.alloc ?_ _) | (with_reducible apply Ext.setC; focus (simp <;> omega)) | (with_reducible refine Ext.drew ?_) | (with_reducible refine Ext.drewN ?_ _) | (with_reducible refine Ext.trans ?_ (Hid.out ‹Hid (Ext _ _)›))))⟩
end Go.Proofs.Ytbboonepfmkgnaa
