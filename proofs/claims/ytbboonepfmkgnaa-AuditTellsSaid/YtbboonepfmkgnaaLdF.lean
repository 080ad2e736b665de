/- CheckLedger, the document's own. -/
import Derived.Test.YtbboonepfmkgnaaLdE
import Derived.Test.YtbboonepfmkgnaaRuleG
namespace Go.Proofs.Ytbboonepfmkgnaa
set_option linter.unusedSimpArgs false
set_option linter.unusedVariables false
set_option maxRecDepth 100000
open Go Go.RowKit Lb

theorem ref_JudgeOf_last (t : Tk) (R : List Tp) (rides : Int) (p : Tp) (w : World) (h0 : 0 ≤ t.zones) (h1 : t.zones < 16) (hz : isZone p.zone = true) (hw : ∀ x ∈ R, 0 ≤ x.time ∧ x.time ≤ 9999) :
    Calls Try.prog 51 #[.agg (tkc t), .int .i64 (lastInt R), .int .i64 rides, .agg (tpc p)] w fun e w' => e = .returned (.tuple #[.int .i64 (judge t (lastTime R) rides p).1, .int .i64 (judge t (lastTime R) rides p).2]) ∧ Ext w w' := by
  unfold lastInt lastTime
  cases hl : R.getLast? with
  | none => exact ref_JudgeOf_none t rides p w h0 h1 hz
  | some x =>
    have := hw x (List.mem_of_getLast? hl)
    exact ref_JudgeOf_some t x.time rides p w h0 h1 hz this.1 this.2
theorem zone_ok {p : Tp} (hz : ckTap p = 0) : isZone p.zone = true := by
  unfold ckTap at hz; cases hh : isZone p.zone <;> simp [hh] at hz ⊢; split at hz <;> simp at hz
theorem ckTapAt_eq (tks : List Tk) (taps : List Tp) (vs : List Int) (k : Nat) (p : Tp) (y : Int) : ckTapAt tks (taps.take k) (vs.take k) p y = if ckTap p ≠ 0 then ckTap p
    else match ticketOf tks p.ticket with
      | none => 5
      | some t => if (taps.take k).any (sameNo p) = true then 6 else if within y 1 2 = false then 7 else if lateBy (taps.take k) p = true then 4 else if (judge t (lastTime (ridesTo taps vs p.ticket k)) (ridesTo taps vs p.ticket k).length p).1 ≠ y then 4 else 0 := by
  have hw : (y ≠ 1 ∧ y ≠ 2) ↔ within y 1 2 = false := by
    simp only [within, Bool.and_eq_false_iff, decide_eq_false_iff_not]
    omega
  unfold ckTapAt judgeIn
  simp only [hw]
  rfl

set_option maxHeartbeats 32000000 in
theorem ref_CheckLedger (tks : List Tk) (taps : List Tp) (vs : List Int) (s0 s1 s2 : Value) (w : World) (hr0 : RdL 6 tkc w s0 tks) (hr1 : RdL 5 tpc w s1 taps) (hr2 : RdL 1 inc w s2 vs) :
    Calls Try.prog 17 #[.agg #[s0, s1, s2]] w fun e w' => e = .returned (.int .i64 (ckLedger ⟨tks, taps, vs⟩)) ∧ Ext w w' := by
  have HCKT := Lib.hid (fun (t : Tk) (w' : World) => ref_CheckTicket t w')
  have HCT := Lib.hid (fun (p : Tp) (w' : World) => ref_CheckTap p w')
  have HTA := Lib.hid (fun (id : Int) (w' : World) (h : Ext w w') => ref_TicketAt tks id s0 w' (hr0.ext h))
  have HTW := Lib.hid (fun (m : Nat) (p : Tp) (w' : World) (h : Ext w w') (hm : m ≤ taps.length) => ref_isTwice taps m p s1 w' hm (hr1.ext h))
  have HBW := Lib.hid (fun (y : Int) (w' : World) => ref_between y 1 2 w')
  have HMO := Lib.hid (fun (id : Int) (m : Nat) (w' : World) (h : Ext w w') (hm : m ≤ taps.length) (hlen : taps.length = vs.length) (h0 : ∃ A n c, s0 = .slice A n c) => ref_ManyOf taps vs s0 s1 s2 id m w' hm hlen h0 (hr1.ext h) (hr2.ext h))
  have HTR := Lib.hid hr0
  have HRd := Lib.hid hr1
  have HSd := Lib.hid hr2
  obtain ⟨A0, c0, rfl, hmc0, hmm0⟩ := hr0.form
  obtain ⟨A, c, rfl, hmc, hmm⟩ := hr1.form
  obtain ⟨A2, c2, rfl, hmc2, hmm2⟩ := hr2.form
  have hm : taps.length ≤ 9223372036854775807 := by unfold maxLen at hmm; omega
  have hm0 : tks.length ≤ 9223372036854775807 := by unfold maxLen at hmm0; omega
  have hm2 : vs.length ≤ 9223372036854775807 := by unfold maxLen at hmm2; omega
  have hres : ckLedger ⟨tks, taps, vs⟩ = if 12 < tks.length ∨ 60 < taps.length ∨ taps.length ≠ vs.length then 2 else if ckTickets none tks ≠ 0 then ckTickets none tks else ckTaps tks [] [] taps vs := rfl
  generalize ckLedger ⟨tks, taps, vs⟩ = res at *
  clear hr0 hr1 hr2 hmm0 hmm hmm2 hmc hmc2 hmc0
  by_cases h12 : 12 < tks.length
  · have hd : decide ((12 : Int) < (tks.length : Int)) = true := decide_eq_true (by omega)
    rw [if_pos (.inl h12)] at hres
    subst hres
    clear h12 HTA HTW HMO HCT HCKT HBW
    go_enter Try.func17, Try.ntmps17
    go_wp2_with fail
    go_ret
    exact ⟨rfl, (show Ext w _ by repeat (first | (with_reducible exact Ext.refl _) | (with_reducible refine Ext.alloc ?_ _) | (with_reducible apply Ext.setC; focus (simp <;> omega)) | (with_reducible refine Ext.drew ?_) | (with_reducible refine Ext.drewN ?_ _) | (with_reducible refine Ext.trans ?_ (Hid.out ‹Hid (Ext _ _)›))))⟩
  have hd : decide ((12 : Int) < (tks.length : Int)) = false := decide_eq_false (by omega)
  by_cases h60 : 60 < taps.length
  · have hd2 : decide ((60 : Int) < (taps.length : Int)) = true := decide_eq_true (by omega)
    rw [if_pos (.inr (.inl h60))] at hres
    subst hres
    clear HTA HTW HMO HCT HCKT HBW
    go_enter Try.func17, Try.ntmps17
    go_wp2_with fail
    go_ret
    exact ⟨rfl, (show Ext w _ by repeat (first | (with_reducible exact Ext.refl _) | (with_reducible refine Ext.alloc ?_ _) | (with_reducible apply Ext.setC; focus (simp <;> omega)) | (with_reducible refine Ext.drew ?_) | (with_reducible refine Ext.drewN ?_ _) | (with_reducible refine Ext.trans ?_ (Hid.out ‹Hid (Ext _ _)›))))⟩
  have hd2 : decide ((60 : Int) < (taps.length : Int)) = false := decide_eq_false (by omega)
  by_cases hl : taps.length = vs.length
  case neg =>
    have hd3 : ((taps.length : Int) != (vs.length : Int)) = true := by
      have : (taps.length : Int) ≠ (vs.length : Int) := by omega
      simpa using this
    rw [if_pos (.inr (.inr hl))] at hres
    subst hres
    clear HTA HTW HMO HCT HCKT HBW hl
    go_enter Try.func17, Try.ntmps17
    go_wp2_with fail
    go_ret
    exact ⟨rfl, (show Ext w _ by repeat (first | (with_reducible exact Ext.refl _) | (with_reducible refine Ext.alloc ?_ _) | (with_reducible apply Ext.setC; focus (simp <;> omega)) | (with_reducible refine Ext.drew ?_) | (with_reducible refine Ext.drewN ?_ _) | (with_reducible refine Ext.trans ?_ (Hid.out ‹Hid (Ext _ _)›))))⟩
  have hd3 : ((taps.length : Int) != (vs.length : Int)) = false := by
    have : (taps.length : Int) = (vs.length : Int) := by omega
    simpa using this
  rw [if_neg (by omega)] at hres
  have HL := Lib.hid hl
  clear hl
  generalize hct : ckTickets none tks = ct at *
  have HCTS := Lib.hid hct
  have HRES := Lib.hid hres
  clear hct hres
  go_enter Try.func17, Try.ntmps17
  go_wp2_with fail
  go_loopg [3, 4] tks.length (fun gg s3 _ wr => ∃ k : Nat, k ≤ tks.length ∧ tks.length - k ≤ gg ∧ s3 = .int .i64 k ∧ Aside (Ext w wr ∧ Row wr w.heap.size #[.slice A0 tks.length c0, .slice A taps.length c, .slice A2 vs.length c2]) ∧ Aside (ckTickets (prevK tks k) (tks.drop k) = ct))
  case atStart => exact ⟨0, by omega, by omega, rfl, ⟨(show Ext w _ by repeat (first | (with_reducible exact Ext.refl _) | (with_reducible refine Ext.alloc ?_ _) | (with_reducible apply Ext.setC; focus (simp <;> omega)) | (with_reducible refine Ext.drew ?_) | (with_reducible refine Ext.drewN ?_ _) | (with_reducible refine Ext.trans ?_ (Hid.out ‹Hid (Ext _ _)›)))), Row.newAt rfl⟩, HCTS.out⟩
  case round =>
    obtain ⟨k, hk, hg, rfl, HV, HA⟩ := hrel
    have HE := Lib.hid HV.out.1
    have HR0 := Lib.hid HV.out.2
    have hA := HA.out
    clear HV HA
    (apply Row.use (w := wr) (g := w.heap.size); (focus (repeat (first | (with_reducible exact Hid.out ‹Hid (Row _ _ _)›) | (with_reducible exact Row.newAt rfl) | (with_reducible apply Row.newAt; (simp; done)) | (with_reducible apply Row.set_) | (with_reducible apply Row.far; focus (simp <;> omega)) | (with_reducible apply Row.alloc) | (with_reducible apply Row.drew) | (with_reducible apply Row.drewN) | (with_reducible apply Row.ext (Hid.out ‹Hid (Ext _ _)›))))); intro qr_0 fr_0 lr_0 Rr_0; (try simp only [List.setIfInBounds_toArray, List.set_cons_zero, List.set_cons_succ] at qr_0 Rr_0))
    by_cases hlt : k < tks.length
    · have hlt' : (k : Int) < (tks.length : Int) := by omega
      obtain ⟨b, o, rfl, hb, c0', c1, c2', c3, c4, c5⟩ := (HTR.out.ext HE.out).tk_at rfl hlt
      rw [List.drop_eq_getElem_cons hlt, ckTickets_cons] at hA
      have HRC := Lib.hid (fun w => HCKT.out tks[k] w)
      have hpv : 0 < k → ∃ y : Int, prevK tks k = some y ∧ ∀ W, Ext wr W → W.cell? ⟨b, o + (k - 1) * 6, none⟩ = some (.int .i64 y) := by
        intro h0
        have hk1 : k - 1 < tks.length := by omega
        refine ⟨tks[k - 1].id, by unfold prevK; rw [if_neg (by omega), List.getElem?_eq_getElem hk1]; rfl, fun W hW => ?_⟩
        obtain ⟨b', o', hAA, _, d0, _⟩ := ((HTR.out.ext HE.out).ext hW).tk_at rfl hk1
        injection hAA with hAA
        injection hAA with e1 e2
        subst e1 e2
        exact d0
      have HPV := Lib.hid hpv
      have hk0 : k = 0 → prevK tks k = none := fun h => by subst h; rfl
      rw [← prevK_succ tks k hlt] at hA
      have hxc : ∀ W, Ext wr W → W.cell? ⟨b, o + k * 6, none⟩ = some (.int .i64 tks[k].id) := fun W h => (h.cells _ _ hb).trans c0'
      have HXC := Lib.hid hxc
      clear hpv hxc
      generalize hp : tks[k] = p at *
      clear hp
      obtain ⟨x0, x1, x2, x3, x4, x5⟩ := p
      simp only at c0' c1 c2' c3 c4 c5 hA HXC
      unfold tkc at HRC
      generalize ckTicket ⟨x0, x1, x2, x3, x4, x5⟩ = q at HRC hA
      by_cases hq0 : q = 0
      · rw [if_neg (by simpa using hq0)] at hA
        subst hq0
        by_cases hz : k = 0
        · rw [hk0 hz, if_neg (by simp [noRise])] at hA
          subst hz
          simp only [Nat.zero_mul, Nat.add_zero] at c0' c1 c2' c3 c4 c5
          have HA2 := Lib.hid hA
          clear hA hk0 HPV HXC
          go_wp2_with fail
          (refine (HRC.out _).mono ?_; rintro e w1 ⟨rfl, h1⟩; have H1 := Lib.hid h1; have hz1 := h1.size; clear h1; (try simp only [World.size_alloc, size_set, World.heap_drewN, size_drew] at hz1); apply Row.use (w := w1) (g := w.heap.size); (focus (repeat (first | (with_reducible exact Hid.out ‹Hid (Row _ _ _)›) | (with_reducible exact Row.newAt rfl) | (with_reducible apply Row.newAt; (simp; done)) | (with_reducible apply Row.set_) | (with_reducible apply Row.far; focus (simp <;> omega)) | (with_reducible apply Row.alloc) | (with_reducible apply Row.drew) | (with_reducible apply Row.drewN) | (with_reducible apply Row.ext (Hid.out ‹Hid (Ext _ _)›))))); intro q1_0 f1_0 l1_0 R1_0; (try simp only [List.setIfInBounds_toArray, List.set_cons_zero, List.set_cons_succ] at q1_0 R1_0))
          go_wp2_with fail
          go_quiet (fail)
          go_wp2_with fail
          go_roundg (tks.length - (0 + 1))
          case measure => omega
          case rel => exact ⟨0 + 1, by omega, by omega, by go_num, ⟨(show Ext w _ by repeat (first | (with_reducible exact Ext.refl _) | (with_reducible refine Ext.alloc ?_ _) | (with_reducible apply Ext.setC; focus (simp <;> omega)) | (with_reducible refine Ext.drew ?_) | (with_reducible refine Ext.drewN ?_ _) | (with_reducible refine Ext.trans ?_ (Hid.out ‹Hid (Ext _ _)›)))), by repeat (first | (with_reducible exact Hid.out ‹Hid (Row _ _ _)›) | (with_reducible exact Row.newAt rfl) | (with_reducible apply Row.newAt; (simp; done)) | (with_reducible apply Row.set_) | (with_reducible apply Row.far; focus (simp <;> omega)) | (with_reducible apply Row.alloc) | (with_reducible apply Row.drew) | (with_reducible apply Row.drewN) | (with_reducible apply Row.ext (Hid.out ‹Hid (Ext _ _)›)))⟩, HA2.out⟩
        · obtain ⟨y, hy, hyc⟩ := HPV.out (by omega)
          have hkn : 0 < k := by omega
          have hkd : decide (0 < k) = true := by simpa using hkn
          have hw1 : IntKind.i64.wrap ((k : Int) - 1) = ((k - 1 : Nat) : Int) := by rw [IntWalk.i64_in _ (by omega)]; omega
          have hk1 : ((k - 1 : Nat) : Int) < (tks.length : Int) := by omega
          have hk2 : k - 1 < tks.length := by omega
          rw [hy] at hA
          have HYC := Lib.hid hyc
          clear hy hyc HPV hk0
          by_cases e3 : x0 ≤ y
          · have e3b : decide (x0 ≤ y) = true := by simpa using e3
            rw [if_pos (by simpa [noRise] using e3)] at hA
            subst hA
            have hres := HRES.out
            rw [if_pos (by decide)] at hres
            subst hres
            clear e3
            go_wp2_with fail
            (refine (HRC.out _).mono ?_; rintro e w1 ⟨rfl, h1⟩; have H1 := Lib.hid h1; have hz1 := h1.size; clear h1; (try simp only [World.size_alloc, size_set, World.heap_drewN, size_drew] at hz1); apply Row.use (w := w1) (g := w.heap.size); (focus (repeat (first | (with_reducible exact Hid.out ‹Hid (Row _ _ _)›) | (with_reducible exact Row.newAt rfl) | (with_reducible apply Row.newAt; (simp; done)) | (with_reducible apply Row.set_) | (with_reducible apply Row.far; focus (simp <;> omega)) | (with_reducible apply Row.alloc) | (with_reducible apply Row.drew) | (with_reducible apply Row.drewN) | (with_reducible apply Row.ext (Hid.out ‹Hid (Ext _ _)›))))); intro q1_0 f1_0 l1_0 R1_0; (try simp only [List.setIfInBounds_toArray, List.set_cons_zero, List.set_cons_succ] at q1_0 R1_0))
            have f2 := HYC.out w1 (by repeat (first | (with_reducible exact Ext.refl _) | (with_reducible refine Ext.alloc ?_ _) | (with_reducible apply Ext.setC; focus (simp <;> omega)) | (with_reducible refine Ext.drew ?_) | (with_reducible refine Ext.drewN ?_ _) | (with_reducible refine Ext.trans ?_ (Hid.out ‹Hid (Ext _ _)›))))
            have f3 := HXC.out w1 (by repeat (first | (with_reducible exact Ext.refl _) | (with_reducible refine Ext.alloc ?_ _) | (with_reducible apply Ext.setC; focus (simp <;> omega)) | (with_reducible refine Ext.drew ?_) | (with_reducible refine Ext.drewN ?_ _) | (with_reducible refine Ext.trans ?_ (Hid.out ‹Hid (Ext _ _)›))))
            go_wp2_with fail
            go_quiet (fail)
            go_wp2_with fail
            go_ret
            exact ⟨rfl, (show Ext w _ by repeat (first | (with_reducible exact Ext.refl _) | (with_reducible refine Ext.alloc ?_ _) | (with_reducible apply Ext.setC; focus (simp <;> omega)) | (with_reducible refine Ext.drew ?_) | (with_reducible refine Ext.drewN ?_ _) | (with_reducible refine Ext.trans ?_ (Hid.out ‹Hid (Ext _ _)›))))⟩
          · have e3b : decide (x0 ≤ y) = false := by simpa using e3
            rw [if_neg (by simpa [noRise] using e3)] at hA
            have HA2 := Lib.hid hA
            clear hA e3
            go_wp2_with fail
            (refine (HRC.out _).mono ?_; rintro e w1 ⟨rfl, h1⟩; have H1 := Lib.hid h1; have hz1 := h1.size; clear h1; (try simp only [World.size_alloc, size_set, World.heap_drewN, size_drew] at hz1); apply Row.use (w := w1) (g := w.heap.size); (focus (repeat (first | (with_reducible exact Hid.out ‹Hid (Row _ _ _)›) | (with_reducible exact Row.newAt rfl) | (with_reducible apply Row.newAt; (simp; done)) | (with_reducible apply Row.set_) | (with_reducible apply Row.far; focus (simp <;> omega)) | (with_reducible apply Row.alloc) | (with_reducible apply Row.drew) | (with_reducible apply Row.drewN) | (with_reducible apply Row.ext (Hid.out ‹Hid (Ext _ _)›))))); intro q1_0 f1_0 l1_0 R1_0; (try simp only [List.setIfInBounds_toArray, List.set_cons_zero, List.set_cons_succ] at q1_0 R1_0))
            have f2 := HYC.out w1 (by repeat (first | (with_reducible exact Ext.refl _) | (with_reducible refine Ext.alloc ?_ _) | (with_reducible apply Ext.setC; focus (simp <;> omega)) | (with_reducible refine Ext.drew ?_) | (with_reducible refine Ext.drewN ?_ _) | (with_reducible refine Ext.trans ?_ (Hid.out ‹Hid (Ext _ _)›))))
            have f3 := HXC.out w1 (by repeat (first | (with_reducible exact Ext.refl _) | (with_reducible refine Ext.alloc ?_ _) | (with_reducible apply Ext.setC; focus (simp <;> omega)) | (with_reducible refine Ext.drew ?_) | (with_reducible refine Ext.drewN ?_ _) | (with_reducible refine Ext.trans ?_ (Hid.out ‹Hid (Ext _ _)›))))
            go_wp2_with fail
            go_quiet (fail)
            go_wp2_with fail
            go_roundg (tks.length - (k + 1))
            case measure => omega
            case rel => exact ⟨k + 1, by omega, by omega, by go_num, ⟨(show Ext w _ by repeat (first | (with_reducible exact Ext.refl _) | (with_reducible refine Ext.alloc ?_ _) | (with_reducible apply Ext.setC; focus (simp <;> omega)) | (with_reducible refine Ext.drew ?_) | (with_reducible refine Ext.drewN ?_ _) | (with_reducible refine Ext.trans ?_ (Hid.out ‹Hid (Ext _ _)›)))), by repeat (first | (with_reducible exact Hid.out ‹Hid (Row _ _ _)›) | (with_reducible exact Row.newAt rfl) | (with_reducible apply Row.newAt; (simp; done)) | (with_reducible apply Row.set_) | (with_reducible apply Row.far; focus (simp <;> omega)) | (with_reducible apply Row.alloc) | (with_reducible apply Row.drew) | (with_reducible apply Row.drewN) | (with_reducible apply Row.ext (Hid.out ‹Hid (Ext _ _)›)))⟩, HA2.out⟩
      · have hqb : (q != 0) = true := by simpa using hq0
        rw [if_pos hq0] at hA
        subst hA
        have hres := HRES.out
        rw [if_pos hq0] at hres
        subst hres
        clear hq0 hk0 HPV HXC
        go_wp2_with fail
        (refine (HRC.out _).mono ?_; rintro e w1 ⟨rfl, h1⟩; have H1 := Lib.hid h1; have hz1 := h1.size; clear h1; (try simp only [World.size_alloc, size_set, World.heap_drewN, size_drew] at hz1); apply Row.use (w := w1) (g := w.heap.size); (focus (repeat (first | (with_reducible exact Hid.out ‹Hid (Row _ _ _)›) | (with_reducible exact Row.newAt rfl) | (with_reducible apply Row.newAt; (simp; done)) | (with_reducible apply Row.set_) | (with_reducible apply Row.far; focus (simp <;> omega)) | (with_reducible apply Row.alloc) | (with_reducible apply Row.drew) | (with_reducible apply Row.drewN) | (with_reducible apply Row.ext (Hid.out ‹Hid (Ext _ _)›))))); intro q1_0 f1_0 l1_0 R1_0; (try simp only [List.setIfInBounds_toArray, List.set_cons_zero, List.set_cons_succ] at q1_0 R1_0))
        go_wp2_with fail
        go_ret
        exact ⟨rfl, (show Ext w _ by repeat (first | (with_reducible exact Ext.refl _) | (with_reducible refine Ext.alloc ?_ _) | (with_reducible apply Ext.setC; focus (simp <;> omega)) | (with_reducible refine Ext.drew ?_) | (with_reducible refine Ext.drewN ?_ _) | (with_reducible refine Ext.trans ?_ (Hid.out ‹Hid (Ext _ _)›))))⟩
    · have hge : ¬ (k : Int) < (tks.length : Int) := by omega
      have hkl : k = tks.length := by omega
      rw [hkl, List.drop_length] at hA
      have hr0 : ct = 0 := hA.symm
      subst hr0
      have hres := HRES.out
      rw [if_neg (by simp)] at hres
      have HRES2 := Lib.hid hres
      have HTZ := Lib.hid (fun (t : Tk) (h : t ∈ tks) => zones_in (tickets_mem HCTS.out t h))
      clear hA hkl hres HRES HCTS HCKT
      obtain ⟨wo, rfl⟩ : ∃ wo : World, wo = wr := ⟨_, rfl⟩
      go_wp2_with fail
      go_loopg [5, 6, 7, 8, 9, 10, 11, 12] taps.length (fun gg s5 _ _ _ _ _ _ _ wr => ∃ k : Nat, k ≤ taps.length ∧ taps.length - k ≤ gg ∧ s5 = .int .i64 k ∧ Aside (Ext w wr ∧ Row wr w.heap.size #[.slice A0 tks.length c0, .slice A taps.length c, .slice A2 vs.length c2]) ∧ Aside (ckTaps tks (taps.take k) (vs.take k) (taps.drop k) (vs.drop k) = res ∧ ∀ x ∈ taps.take k, 0 ≤ x.time ∧ x.time ≤ 9999))
      case atStart => exact ⟨0, by omega, by omega, rfl, ⟨(show Ext w _ by repeat (first | (with_reducible exact Ext.refl _) | (with_reducible refine Ext.alloc ?_ _) | (with_reducible apply Ext.setC; focus (simp <;> omega)) | (with_reducible refine Ext.drew ?_) | (with_reducible refine Ext.drewN ?_ _) | (with_reducible refine Ext.trans ?_ (Hid.out ‹Hid (Ext _ _)›)))), by repeat (first | (with_reducible exact Hid.out ‹Hid (Row _ _ _)›) | (with_reducible exact Row.newAt rfl) | (with_reducible apply Row.newAt; (simp; done)) | (with_reducible apply Row.set_) | (with_reducible apply Row.far; focus (simp <;> omega)) | (with_reducible apply Row.alloc) | (with_reducible apply Row.drew) | (with_reducible apply Row.drewN) | (with_reducible apply Row.ext (Hid.out ‹Hid (Ext _ _)›)))⟩, by simpa using HRES2.out.symm, by simp⟩
      case round =>
        obtain ⟨k, hk, hg, rfl, HV, HA⟩ := hrel
        have HE2 := Lib.hid (And.intro trivial HV.out.1)
        have HE3 := Lib.hid HV.out.1
        have HR02 := Lib.hid HV.out.2
        obtain ⟨hA, hT⟩ := HA.out
        clear HV HA HE HR0 HE2
        clear qr_0 fr_0 lr_0 Rr_0
        (apply Row.use (w := wr) (g := w.heap.size); (focus (repeat (first | (with_reducible exact Hid.out ‹Hid (Row _ _ _)›) | (with_reducible exact Row.newAt rfl) | (with_reducible apply Row.newAt; (simp; done)) | (with_reducible apply Row.set_) | (with_reducible apply Row.far; focus (simp <;> omega)) | (with_reducible apply Row.alloc) | (with_reducible apply Row.drew) | (with_reducible apply Row.drewN) | (with_reducible apply Row.ext (Hid.out ‹Hid (Ext _ _)›))))); intro qs_0 fs_0 ls_0 Rs_0; (try simp only [List.setIfInBounds_toArray, List.set_cons_zero, List.set_cons_succ] at qs_0 Rs_0))
        by_cases hlt : k < taps.length
        · have hlt' : (k : Int) < (taps.length : Int) := by omega
          have hkv : k < vs.length := by have := HL.out; omega
          have hkv' : (k : Int) < (vs.length : Int) := by omega
          obtain ⟨b, o, rfl, hb, d0, d1, d2, d3, d4⟩ := (HRd.out.ext HE3.out).tap_at rfl hlt
          have hca := ckTapAt_eq tks taps vs k taps[k] vs[k]
          rw [ckTaps_step tks taps vs k hlt hkv] at hA
          generalize ckTapAt tks (taps.take k) (vs.take k) taps[k] vs[k] = ca at *
          have hnx : ckTap taps[k] = 0 → ∀ x ∈ taps.take (k + 1), 0 ≤ x.time ∧ x.time ≤ 9999 := by
            intro h x hx
            rw [List.take_succ_eq_append_getElem hlt] at hx
            rcases List.mem_append.1 hx with hx | hx
            · exact hT x hx
            · rw [List.mem_singleton.1 hx]
              exact time_ok h
          have HNX := Lib.hid hnx
          have HTT := Lib.hid hT
          obtain ⟨vb, vo, hA2, hvb, f0⟩ : ∃ vb vo, A2 = some ⟨vb, vo, none⟩ ∧ vb < wr.heap.size ∧ wr.cell? ⟨vb, vo + k, none⟩ = some (.int .i64 vs[k]) := (HSd.out.ext HE3.out).num_at rfl hkv
          subst hA2
          have HVC := Lib.hid (fun (W : World) (h : Ext wr W) => (h.cells _ _ hvb).trans f0)
          have HZO := Lib.hid (@zone_ok taps[k])
          have HLT := Lib.hid (late_take taps taps[k] k)
          have hlz : k = 0 → lateBy (taps.take k) taps[k] = false := by
            intro h
            have h0 := late_zero taps taps[k]
            rw [show taps.take k = taps.take 0 by rw [h]]
            exact h0
          have HLZ := Lib.hid hlz
          clear hlz
          have hix := ixBy_ticket tks taps[k].ticket
          have HTA2 := Lib.hid (fun (w' : World) (h : Ext w w') => HTA.out taps[k].ticket w' h)
          have HTW2 := Lib.hid (fun (w' : World) (h : Ext w w') => HTW.out k taps[k] w' h hk)
          have HCT2 := Lib.hid (fun (w' : World) => HCT.out taps[k] w')
          have HMO2 := Lib.hid (fun (w' : World) (h : Ext w w') => HMO.out taps[k].ticket k w' h hk HL.out ⟨_, _, _, rfl⟩)
          clear hnx hT f0
          generalize lateBy (taps.take k) taps[k] = lt at *
          generalize (taps.take k).any (sameNo taps[k]) = z at *
          have hRm : ∀ x ∈ ridesTo taps vs taps[k].ticket k, 0 ≤ x.time ∧ x.time ≤ 9999 := fun x hx => HTT.out x (ridesTo_mem hx)
          generalize ridesTo taps vs taps[k].ticket k = R at *
          have HRM := Lib.hid hRm
          clear hRm HTT
          generalize hne : ckTaps tks (taps.take (k + 1)) (vs.take (k + 1)) (taps.drop (k + 1)) (vs.drop (k + 1)) = nx at *
          have HNE := Lib.hid hne
          clear hne
          have HBW2 := Lib.hid (fun (w' : World) => HBW.out vs[k] w')
          clear HBW HTA HTW HCT HMO
          generalize taps[k] = p at *
          generalize vs[k] = y at *
          generalize within y 1 2 = wb at *
          obtain ⟨x0, x1, x2, x3, x4⟩ := p
          simp only at d0 d1 d2 d3 d4 HTA2 HMO2 hix hca HLT
          unfold tpc at HCT2 HTW2
          generalize hck : ckTap ⟨x0, x1, x2, x3, x4⟩ = q at *
          have HCKQ := Lib.hid hck
          clear hck
          generalize ixBy (fun t => t.id == x0) tks = ix at *
          go_wp2_with fail
          (refine (HCT2.out _).mono ?_; rintro e w2 ⟨rfl, h2⟩; have H2 := Lib.hid h2; have hz2 := h2.size; clear h2; (try simp only [World.size_alloc, size_set, World.heap_drewN, size_drew] at hz2); apply Row.use (w := w2) (g := w.heap.size); (focus (repeat (first | (with_reducible exact Hid.out ‹Hid (Row _ _ _)›) | (with_reducible exact Row.newAt rfl) | (with_reducible apply Row.newAt; (simp; done)) | (with_reducible apply Row.set_) | (with_reducible apply Row.far; focus (simp <;> omega)) | (with_reducible apply Row.alloc) | (with_reducible apply Row.drew) | (with_reducible apply Row.drewN) | (with_reducible apply Row.ext (Hid.out ‹Hid (Ext _ _)›))))); intro q2_0 f2_0 l2_0 R2_0; (try simp only [List.setIfInBounds_toArray, List.set_cons_zero, List.set_cons_succ] at q2_0 R2_0); apply Row.use (w := w2) (g := wr.heap.size); (focus (repeat (first | (with_reducible exact Hid.out ‹Hid (Row _ _ _)›) | (with_reducible exact Row.newAt rfl) | (with_reducible apply Row.newAt; (simp; done)) | (with_reducible apply Row.set_) | (with_reducible apply Row.far; focus (simp <;> omega)) | (with_reducible apply Row.alloc) | (with_reducible apply Row.drew) | (with_reducible apply Row.drewN) | (with_reducible apply Row.ext (Hid.out ‹Hid (Ext _ _)›))))); intro q2_1 f2_1 l2_1 R2_1; (try simp only [List.setIfInBounds_toArray, List.set_cons_zero, List.set_cons_succ] at q2_1 R2_1))
          by_cases hq : q = 0
          · subst hq
            rw [if_neg (by simp)] at hca
            go_wp2_with fail
            (refine (HTA2.out _ (by repeat (first | (with_reducible exact Ext.refl _) | (with_reducible refine Ext.alloc ?_ _) | (with_reducible apply Ext.setC; focus (simp <;> omega)) | (with_reducible refine Ext.drew ?_) | (with_reducible refine Ext.drewN ?_ _) | (with_reducible refine Ext.trans ?_ (Hid.out ‹Hid (Ext _ _)›))))).mono ?_; rintro e w3 ⟨rfl, h3⟩; have H3 := Lib.hid h3; have hz3 := h3.size; clear h3; (try simp only [World.size_alloc, size_set, World.heap_drewN, size_drew] at hz3); apply Row.use (w := w3) (g := w.heap.size); (focus (repeat (first | (with_reducible exact Hid.out ‹Hid (Row _ _ _)›) | (with_reducible exact Row.newAt rfl) | (with_reducible apply Row.newAt; (simp; done)) | (with_reducible apply Row.set_) | (with_reducible apply Row.far; focus (simp <;> omega)) | (with_reducible apply Row.alloc) | (with_reducible apply Row.drew) | (with_reducible apply Row.drewN) | (with_reducible apply Row.ext (Hid.out ‹Hid (Ext _ _)›))))); intro q3_0 f3_0 l3_0 R3_0; (try simp only [List.setIfInBounds_toArray, List.set_cons_zero, List.set_cons_succ] at q3_0 R3_0); apply Row.use (w := w3) (g := wr.heap.size); (focus (repeat (first | (with_reducible exact Hid.out ‹Hid (Row _ _ _)›) | (with_reducible exact Row.newAt rfl) | (with_reducible apply Row.newAt; (simp; done)) | (with_reducible apply Row.set_) | (with_reducible apply Row.far; focus (simp <;> omega)) | (with_reducible apply Row.alloc) | (with_reducible apply Row.drew) | (with_reducible apply Row.drewN) | (with_reducible apply Row.ext (Hid.out ‹Hid (Ext _ _)›))))); intro q3_1 f3_1 l3_1 R3_1; (try simp only [List.setIfInBounds_toArray, List.set_cons_zero, List.set_cons_succ] at q3_1 R3_1))
            rcases hix with ⟨rfl, hto⟩ | ⟨j, hj, rfl, hto⟩
            · rw [hto] at hca
              simp only at hca
              rw [hca, if_pos (by decide)] at hA
              subst hA
              clear hto hca
              go_wp2_with fail
              go_ret
              exact ⟨rfl, (show Ext w _ by repeat (first | (with_reducible exact Ext.refl _) | (with_reducible refine Ext.alloc ?_ _) | (with_reducible apply Ext.setC; focus (simp <;> omega)) | (with_reducible refine Ext.drew ?_) | (with_reducible refine Ext.drewN ?_ _) | (with_reducible refine Ext.trans ?_ (Hid.out ‹Hid (Ext _ _)›))))⟩
            · rw [hto] at hca
              simp only at hca
              have hjn : ¬ ((j : Int) < 0) := by omega
              have hjd : decide ((j : Int) < 0) = false := by simp
              have hj' : (j : Int) < (tks.length : Int) := by omega
              clear hto
              go_wp2_with fail
              (refine (HTW2.out _ (by repeat (first | (with_reducible exact Ext.refl _) | (with_reducible refine Ext.alloc ?_ _) | (with_reducible apply Ext.setC; focus (simp <;> omega)) | (with_reducible refine Ext.drew ?_) | (with_reducible refine Ext.drewN ?_ _) | (with_reducible refine Ext.trans ?_ (Hid.out ‹Hid (Ext _ _)›))))).mono ?_; rintro e w4 ⟨rfl, h4⟩; have H4 := Lib.hid h4; have hz4 := h4.size; clear h4; (try simp only [World.size_alloc, size_set, World.heap_drewN, size_drew] at hz4); apply Row.use (w := w4) (g := w.heap.size); (focus (repeat (first | (with_reducible exact Hid.out ‹Hid (Row _ _ _)›) | (with_reducible exact Row.newAt rfl) | (with_reducible apply Row.newAt; (simp; done)) | (with_reducible apply Row.set_) | (with_reducible apply Row.far; focus (simp <;> omega)) | (with_reducible apply Row.alloc) | (with_reducible apply Row.drew) | (with_reducible apply Row.drewN) | (with_reducible apply Row.ext (Hid.out ‹Hid (Ext _ _)›))))); intro q4_0 f4_0 l4_0 R4_0; (try simp only [List.setIfInBounds_toArray, List.set_cons_zero, List.set_cons_succ] at q4_0 R4_0); apply Row.use (w := w4) (g := wr.heap.size); (focus (repeat (first | (with_reducible exact Hid.out ‹Hid (Row _ _ _)›) | (with_reducible exact Row.newAt rfl) | (with_reducible apply Row.newAt; (simp; done)) | (with_reducible apply Row.set_) | (with_reducible apply Row.far; focus (simp <;> omega)) | (with_reducible apply Row.alloc) | (with_reducible apply Row.drew) | (with_reducible apply Row.drewN) | (with_reducible apply Row.ext (Hid.out ‹Hid (Ext _ _)›))))); intro q4_1 f4_1 l4_1 R4_1; (try simp only [List.setIfInBounds_toArray, List.set_cons_zero, List.set_cons_succ] at q4_1 R4_1))
              have f4 := HVC.out w4 (by repeat (first | (with_reducible exact Ext.refl _) | (with_reducible refine Ext.alloc ?_ _) | (with_reducible apply Ext.setC; focus (simp <;> omega)) | (with_reducible refine Ext.drew ?_) | (with_reducible refine Ext.drewN ?_ _) | (with_reducible refine Ext.trans ?_ (Hid.out ‹Hid (Ext _ _)›))))
              cases z
              · simp only [Bool.false_eq_true, if_false] at hca
                go_wp2_with fail
                refine (HBW2.out _).mono ?_
                rintro e w' ⟨rfl, rfl⟩
                cases wb
                · simp only [if_true] at hca
                  rw [hca, if_pos (by decide)] at hA
                  subst hA
                  clear hca
                  go_wp2_with fail
                  go_ret
                  exact ⟨rfl, (show Ext w _ by repeat (first | (with_reducible exact Ext.refl _) | (with_reducible refine Ext.alloc ?_ _) | (with_reducible apply Ext.setC; focus (simp <;> omega)) | (with_reducible refine Ext.drew ?_) | (with_reducible refine Ext.drewN ?_ _) | (with_reducible refine Ext.trans ?_ (Hid.out ‹Hid (Ext _ _)›))))⟩
                · simp only [Bool.true_eq_false, if_false] at hca
                  have HCA := Lib.hid hca
                  have HAA := Lib.hid hA
                  clear hca hA
                  go_upto_region 25 with fail
                  go_cut [115] (fun s115 wx => s115 = .bool lt ∧ Aside (Ext w4 wx))
                  case first =>
                    by_cases hz : k = 0
                    · have hv : lt = false := HLZ.out hz
                      subst hv
                      subst hz
                      go_wp2_with fail
                      go_quiet (fail)
                      go_wp2_with fail
                      go_meet
                      case rel => exact ⟨rfl, (show Ext w4 _ by repeat (first | (with_reducible exact Ext.refl _) | (with_reducible refine Ext.alloc ?_ _) | (with_reducible apply Ext.setC; focus (simp <;> omega)) | (with_reducible refine Ext.drew ?_) | (with_reducible refine Ext.drewN ?_ _) | (with_reducible refine Ext.trans ?_ (Hid.out ‹Hid (Ext _ _)›))))⟩
                    · have h0 : 0 < k := by omega
                      have hid : decide (0 < k) = true := by simpa using h0
                      have hw1 : IntKind.i64.wrap ((k : Int) - 1) = ((k - 1 : Nat) : Int) := by rw [IntWalk.i64_in _ (by omega)]; omega
                      have hk1 : ((k - 1 : Nat) : Int) < (taps.length : Int) := by omega
                      have hk2 : k - 1 < taps.length := by omega
                      obtain ⟨b9, o9, hAA9, hb9, -, -, -, f3, -⟩ := (HRd.out.ext (show Ext w w4 by repeat (first | (with_reducible exact Ext.refl _) | (with_reducible refine Ext.alloc ?_ _) | (with_reducible apply Ext.setC; focus (simp <;> omega)) | (with_reducible refine Ext.drew ?_) | (with_reducible refine Ext.drewN ?_ _) | (with_reducible refine Ext.trans ?_ (Hid.out ‹Hid (Ext _ _)›))))).tap_at rfl hk2
                      injection hAA9 with hAA9
                      injection hAA9 with e1 e2
                      subst e1 e2
                      have hv := HLT.out h0 hk
                      generalize (taps[k - 1]).time = y9 at *
                      by_cases hy : x3 < y9
                      · have hyd : decide (x3 < y9) = true := by simpa using hy
                        rw [hyd] at hv
                        subst hv
                        clear hy
                        go_wp2_with fail
                        go_quiet (fail)
                        go_wp2_with fail
                        go_meet
                        case rel => exact ⟨rfl, (show Ext w4 _ by repeat (first | (with_reducible exact Ext.refl _) | (with_reducible refine Ext.alloc ?_ _) | (with_reducible apply Ext.setC; focus (simp <;> omega)) | (with_reducible refine Ext.drew ?_) | (with_reducible refine Ext.drewN ?_ _) | (with_reducible refine Ext.trans ?_ (Hid.out ‹Hid (Ext _ _)›))))⟩
                      · have hyd : decide (x3 < y9) = false := by simpa using hy
                        rw [hyd] at hv
                        subst hv
                        clear hy
                        go_wp2_with fail
                        go_quiet (fail)
                        go_wp2_with fail
                        go_meet
                        case rel => exact ⟨rfl, (show Ext w4 _ by repeat (first | (with_reducible exact Ext.refl _) | (with_reducible refine Ext.alloc ?_ _) | (with_reducible apply Ext.setC; focus (simp <;> omega)) | (with_reducible refine Ext.drew ?_) | (with_reducible refine Ext.drewN ?_ _) | (with_reducible refine Ext.trans ?_ (Hid.out ‹Hid (Ext _ _)›))))⟩
                  case rest =>
                    obtain ⟨rfl, HW⟩ := hcut
                    obtain ⟨w5, rfl⟩ : ∃ w5 : World, w5 = wc := ⟨_, rfl⟩
                    have H5 := Lib.hid HW.out
                    clear HW HLT HLZ
                    (apply Row.use (w := w5) (g := w.heap.size); (focus (repeat (first | (with_reducible exact Hid.out ‹Hid (Row _ _ _)›) | (with_reducible exact Row.newAt rfl) | (with_reducible apply Row.newAt; (simp; done)) | (with_reducible apply Row.set_) | (with_reducible apply Row.far; focus (simp <;> omega)) | (with_reducible apply Row.alloc) | (with_reducible apply Row.drew) | (with_reducible apply Row.drewN) | (with_reducible apply Row.ext (Hid.out ‹Hid (Ext _ _)›))))); intro q5_0 f5_0 l5_0 R5_0; (try simp only [List.setIfInBounds_toArray, List.set_cons_zero, List.set_cons_succ] at q5_0 R5_0); apply Row.use (w := w5) (g := wr.heap.size); (focus (repeat (first | (with_reducible exact Hid.out ‹Hid (Row _ _ _)›) | (with_reducible exact Row.newAt rfl) | (with_reducible apply Row.newAt; (simp; done)) | (with_reducible apply Row.set_) | (with_reducible apply Row.far; focus (simp <;> omega)) | (with_reducible apply Row.alloc) | (with_reducible apply Row.drew) | (with_reducible apply Row.drewN) | (with_reducible apply Row.ext (Hid.out ‹Hid (Ext _ _)›))))); intro q5_1 f5_1 l5_1 R5_1; (try simp only [List.setIfInBounds_toArray, List.set_cons_zero, List.set_cons_succ] at q5_1 R5_1))
                    have hca := HCA.out
                    have hA := HAA.out
                    cases lt
                    · simp only [Bool.false_eq_true, if_false] at hca
                      have HCA2 := Lib.hid hca
                      clear hca hA HCA
                      go_wp2_with fail
                      (refine (HMO2.out _ (by repeat (first | (with_reducible exact Ext.refl _) | (with_reducible refine Ext.alloc ?_ _) | (with_reducible apply Ext.setC; focus (simp <;> omega)) | (with_reducible refine Ext.drew ?_) | (with_reducible refine Ext.drewN ?_ _) | (with_reducible refine Ext.trans ?_ (Hid.out ‹Hid (Ext _ _)›))))).mono ?_; rintro e w6 ⟨rfl, h6⟩; have H6 := Lib.hid h6; have hz6 := h6.size; clear h6; (try simp only [World.size_alloc, size_set, World.heap_drewN, size_drew] at hz6); apply Row.use (w := w6) (g := w.heap.size); (focus (repeat (first | (with_reducible exact Hid.out ‹Hid (Row _ _ _)›) | (with_reducible exact Row.newAt rfl) | (with_reducible apply Row.newAt; (simp; done)) | (with_reducible apply Row.set_) | (with_reducible apply Row.far; focus (simp <;> omega)) | (with_reducible apply Row.alloc) | (with_reducible apply Row.drew) | (with_reducible apply Row.drewN) | (with_reducible apply Row.ext (Hid.out ‹Hid (Ext _ _)›))))); intro q6_0 f6_0 l6_0 R6_0; (try simp only [List.setIfInBounds_toArray, List.set_cons_zero, List.set_cons_succ] at q6_0 R6_0); apply Row.use (w := w6) (g := wr.heap.size); (focus (repeat (first | (with_reducible exact Hid.out ‹Hid (Row _ _ _)›) | (with_reducible exact Row.newAt rfl) | (with_reducible apply Row.newAt; (simp; done)) | (with_reducible apply Row.set_) | (with_reducible apply Row.far; focus (simp <;> omega)) | (with_reducible apply Row.alloc) | (with_reducible apply Row.drew) | (with_reducible apply Row.drewN) | (with_reducible apply Row.ext (Hid.out ‹Hid (Ext _ _)›))))); intro q6_1 f6_1 l6_1 R6_1; (try simp only [List.setIfInBounds_toArray, List.set_cons_zero, List.set_cons_succ] at q6_1 R6_1))
                      go_wp2_with fail
                      have HJ := Lib.hid (fun (w' : World) => ref_JudgeOf_last tks[j] R (R.length : Nat) ⟨x0, x1, x2, x3, x4⟩ w' (HTZ.out _ (List.getElem_mem hj)).1 (HTZ.out _ (List.getElem_mem hj)).2 (HZO.out trivial) HRM.out)
                      obtain ⟨tb, tof, rfl, htb, g0, g1, g2, g3, g4, g5⟩ := (HTR.out.ext (show Ext w w6 by repeat (first | (with_reducible exact Ext.refl _) | (with_reducible refine Ext.alloc ?_ _) | (with_reducible apply Ext.setC; focus (simp <;> omega)) | (with_reducible refine Ext.drew ?_) | (with_reducible refine Ext.drewN ?_ _) | (with_reducible refine Ext.trans ?_ (Hid.out ‹Hid (Ext _ _)›))))).tk_at rfl hj
                      generalize htq : tks[j] = t at *
                      clear htq
                      obtain ⟨t0, t1, t2, t3, t4, t5⟩ := t
                      simp only at g0 g1 g2 g3 g4 g5
                      unfold tkc tpc at HJ
                      simp only at HJ
                      generalize judge ⟨t0, t1, t2, t3, t4, t5⟩ (lastTime R) (R.length : Nat) ⟨x0, x1, x2, x3, x4⟩ = J at *
                      have HKp := Lib.hid (fun (w' : World) (h : Ext w6 w') => (show (∀ oo, w'.cell? ⟨w.heap.size, oo, none⟩ = (#[.slice (some ⟨tb, tof, none⟩) tks.length c0, .slice (some ⟨b, o, none⟩) taps.length c, .slice (some ⟨vb, vo, none⟩) vs.length c2] : Array Value)[oo]?) ∧ (∀ oo, w'.cell? ⟨wr.heap.size, oo, none⟩ = (#[.int .i64 x0, .int .i64 x1, .int .i64 x2, .int .i64 x3, .int .i64 x4] : Array Value)[oo]?) ∧ w'.cell? ⟨tb, tof + j * 6, none⟩ = some (.int .i64 t0) ∧ w'.cell? ⟨tb, tof + j * 6 + 1, none⟩ = some (.int .i64 t1) ∧ w'.cell? ⟨tb, tof + j * 6 + 2, none⟩ = some (.int .i64 t2) ∧ w'.cell? ⟨tb, tof + j * 6 + 3, none⟩ = some (.int .i64 t3) ∧ w'.cell? ⟨tb, tof + j * 6 + 4, none⟩ = some (.int .i64 t4) ∧ w'.cell? ⟨tb, tof + j * 6 + 5, none⟩ = some (.int .i64 t5) from ⟨(Row.ext h R6_0.out).2.1, (Row.ext h R6_1.out).2.1, (h.cells _ _ htb).trans g0, (h.cells _ _ htb).trans g1, (h.cells _ _ htb).trans g2, (h.cells _ _ htb).trans g3, (h.cells _ _ htb).trans g4, (h.cells _ _ htb).trans g5⟩))
                      refine T_begin (fun w' => (∀ oo, w'.cell? ⟨w.heap.size, oo, none⟩ = (#[.slice (some ⟨tb, tof, none⟩) tks.length c0, .slice (some ⟨b, o, none⟩) taps.length c, .slice (some ⟨vb, vo, none⟩) vs.length c2] : Array Value)[oo]?) ∧ (∀ oo, w'.cell? ⟨wr.heap.size, oo, none⟩ = (#[.int .i64 x0, .int .i64 x1, .int .i64 x2, .int .i64 x3, .int .i64 x4] : Array Value)[oo]?) ∧ w'.cell? ⟨tb, tof + j * 6, none⟩ = some (.int .i64 t0) ∧ w'.cell? ⟨tb, tof + j * 6 + 1, none⟩ = some (.int .i64 t1) ∧ w'.cell? ⟨tb, tof + j * 6 + 2, none⟩ = some (.int .i64 t2) ∧ w'.cell? ⟨tb, tof + j * 6 + 3, none⟩ = some (.int .i64 t3) ∧ w'.cell? ⟨tb, tof + j * 6 + 4, none⟩ = some (.int .i64 t4) ∧ w'.cell? ⟨tb, tof + j * 6 + 5, none⟩ = some (.int .i64 t5)) 13 (by kernel_rfl) (HKp.out _ ((Ext.refl _).drew)) (fun hS => ?_)
                      simp only [List.length_cons, List.length_nil]
                      ((refine T_take (i := 0) (v := ?_) rfl (by kernel_rfl) rfl hS ?_ ?_; rotate_left; focus (intro w hSw; (try dsimp only at hSw); go_simp; try (with_reducible rfl))); (try simp only [Act.put, List.setIfInBounds_toArray, List.set_cons_zero, List.set_cons_succ]); (refine T_take (i := 1) (v := ?_) rfl (by kernel_rfl) rfl hS ?_ ?_; rotate_left; focus (intro w hSw; (try dsimp only at hSw); go_simp; try (with_reducible rfl))); (try simp only [Act.put, List.setIfInBounds_toArray, List.set_cons_zero, List.set_cons_succ]); (refine T_take (i := 2) (v := ?_) rfl (by kernel_rfl) rfl hS ?_ ?_; rotate_left; focus (intro w hSw; (try dsimp only at hSw); go_simp; try (with_reducible rfl))); (try simp only [Act.put, List.setIfInBounds_toArray, List.set_cons_zero, List.set_cons_succ]); (refine T_take (i := 3) (v := ?_) rfl (by kernel_rfl) rfl hS ?_ ?_; rotate_left; focus (intro w hSw; (try dsimp only at hSw); go_simp; try (with_reducible rfl))); (try simp only [Act.put, List.setIfInBounds_toArray, List.set_cons_zero, List.set_cons_succ]); (refine T_take (i := 4) (v := ?_) rfl (by kernel_rfl) rfl hS ?_ ?_; rotate_left; focus (intro w hSw; (try dsimp only at hSw); go_simp; try (with_reducible rfl))); (try simp only [Act.put, List.setIfInBounds_toArray, List.set_cons_zero, List.set_cons_succ]); (refine T_take (i := 5) (v := ?_) rfl (by kernel_rfl) rfl hS ?_ ?_; rotate_left; focus (intro w hSw; (try dsimp only at hSw); go_simp; try (with_reducible rfl))); (try simp only [Act.put, List.setIfInBounds_toArray, List.set_cons_zero, List.set_cons_succ]); (refine T_take (i := 6) (v := ?_) rfl (by kernel_rfl) rfl hS ?_ ?_; rotate_left; focus (intro w hSw; (try dsimp only at hSw); go_simp; try (with_reducible rfl))); (try simp only [Act.put, List.setIfInBounds_toArray, List.set_cons_zero, List.set_cons_succ]); (refine T_take (i := 7) (v := ?_) rfl (by kernel_rfl) rfl hS ?_ ?_; rotate_left; focus (intro w hSw; (try dsimp only at hSw); go_simp; try (with_reducible rfl))); (try simp only [Act.put, List.setIfInBounds_toArray, List.set_cons_zero, List.set_cons_succ]))
                      clear hS
                      refine T_only (i := 8) rfl (by kernel_rfl) rfl (fun K hK => ?_)
                      go_simp
                      refine (HJ.out _).mono ?_
                      rintro e w7 ⟨rfl, h7⟩
                      have H7 := Lib.hid h7
                      have hz7 := h7.size
                      clear h7
                      go_wp2_with fail
                      have hS := HKp.out w7 (by repeat (first | (with_reducible exact Ext.refl _) | (with_reducible refine Ext.alloc ?_ _) | (with_reducible apply Ext.setC; focus (simp <;> omega)) | (with_reducible refine Ext.drew ?_) | (with_reducible refine Ext.drewN ?_ _) | (with_reducible refine Ext.trans ?_ (Hid.out ‹Hid (Ext _ _)›))))
                      refine hK.out _ _ (.inr hS) ?_
                      clear hK
                      (try simp only [Act.put, List.setIfInBounds_toArray, List.set_cons_zero, List.set_cons_succ])
                      ((refine T_take (i := 9) (v := ?_) rfl (by kernel_rfl) rfl hS ?_ ?_; rotate_left; focus (intro w hSw; (try dsimp only at hSw); go_simp; try (with_reducible rfl))); (try simp only [Act.put, List.setIfInBounds_toArray, List.set_cons_zero, List.set_cons_succ]); (refine T_take (i := 10) (v := ?_) rfl (by kernel_rfl) rfl hS ?_ ?_; rotate_left; focus (intro w hSw; (try dsimp only at hSw); go_simp; try (with_reducible rfl))); (try simp only [Act.put, List.setIfInBounds_toArray, List.set_cons_zero, List.set_cons_succ]); (refine T_take (i := 11) (v := ?_) rfl (by kernel_rfl) rfl hS ?_ ?_; rotate_left; focus (intro w hSw; (try dsimp only at hSw); go_simp; try (with_reducible rfl))); (try simp only [Act.put, List.setIfInBounds_toArray, List.set_cons_zero, List.set_cons_succ]))
                      refine T_only (i := 12) rfl (by kernel_rfl) rfl (fun K hK => ?_)
                      go_simp
                      refine hK.out _ _ (.inr hS) ?_
                      clear hK hS
                      (try simp only [Act.put, List.setIfInBounds_toArray, List.set_cons_zero, List.set_cons_succ])
                      refine T_only (i := 13) rfl (by kernel_rfl) rfl (fun K hK => ?_)
                      go_simp
                      refine hK.out _ _ (.inl (by kernel_rfl)) ?_
                      clear hK
                      (try simp only [Act.put, List.setIfInBounds_toArray, List.set_cons_zero, List.set_cons_succ])
                      refine T_done (by kernel_rfl) ?_ _
                      (apply Row.use (w := w7) (g := w.heap.size); (focus (repeat (first | (with_reducible exact Hid.out ‹Hid (Row _ _ _)›) | (with_reducible exact Row.newAt rfl) | (with_reducible apply Row.newAt; (simp; done)) | (with_reducible apply Row.set_) | (with_reducible apply Row.far; focus (simp <;> omega)) | (with_reducible apply Row.alloc) | (with_reducible apply Row.drew) | (with_reducible apply Row.drewN) | (with_reducible apply Row.ext (Hid.out ‹Hid (Ext _ _)›))))); intro q7_0 f7_0 l7_0 R7_0; (try simp only [List.setIfInBounds_toArray, List.set_cons_zero, List.set_cons_succ] at q7_0 R7_0))
                      have f7 := HVC.out w7 (by repeat (first | (with_reducible exact Ext.refl _) | (with_reducible refine Ext.alloc ?_ _) | (with_reducible apply Ext.setC; focus (simp <;> omega)) | (with_reducible refine Ext.drew ?_) | (with_reducible refine Ext.drewN ?_ _) | (with_reducible refine Ext.trans ?_ (Hid.out ‹Hid (Ext _ _)›))))
                      have hca := HCA2.out
                      have hA := HAA.out
                      by_cases hJ : J.1 = y
                      · have hJb : (J.1 != y) = false := by simpa using hJ
                        rw [if_neg (by simpa using hJ)] at hca
                        rw [hca, if_neg (by simp)] at hA
                        have HA3 := Lib.hid hA
                        clear hca hA hJ
                        go_wp2_with fail
                        go_roundg (taps.length - (k + 1))
                        case measure => omega
                        case rel => exact ⟨k + 1, by omega, by omega, by go_num, ⟨(show Ext w _ by repeat (first | (with_reducible exact Ext.refl _) | (with_reducible refine Ext.alloc ?_ _) | (with_reducible apply Ext.setC; focus (simp <;> omega)) | (with_reducible refine Ext.drew ?_) | (with_reducible refine Ext.drewN ?_ _) | (with_reducible refine Ext.trans ?_ (Hid.out ‹Hid (Ext _ _)›)))), R7_0.out⟩, HNE.out.trans HA3.out, HNX.out trivial⟩
                      · have hJb : (J.1 != y) = true := by simpa using hJ
                        rw [if_pos hJ] at hca
                        rw [hca, if_pos (by decide)] at hA
                        subst hA
                        clear hca hJ
                        go_wp2_with fail
                        go_ret
                        exact ⟨rfl, (show Ext w _ by repeat (first | (with_reducible exact Ext.refl _) | (with_reducible refine Ext.alloc ?_ _) | (with_reducible apply Ext.setC; focus (simp <;> omega)) | (with_reducible refine Ext.drew ?_) | (with_reducible refine Ext.drewN ?_ _) | (with_reducible refine Ext.trans ?_ (Hid.out ‹Hid (Ext _ _)›))))⟩
                    · simp only [if_true] at hca
                      rw [hca, if_pos (by decide)] at hA
                      subst hA
                      clear hca
                      go_wp2_with fail
                      go_ret
                      exact ⟨rfl, (show Ext w _ by repeat (first | (with_reducible exact Ext.refl _) | (with_reducible refine Ext.alloc ?_ _) | (with_reducible apply Ext.setC; focus (simp <;> omega)) | (with_reducible refine Ext.drew ?_) | (with_reducible refine Ext.drewN ?_ _) | (with_reducible refine Ext.trans ?_ (Hid.out ‹Hid (Ext _ _)›))))⟩
              · simp only [if_true] at hca
                rw [hca, if_pos (by decide)] at hA
                subst hA
                clear hca
                go_wp2_with fail
                go_ret
                exact ⟨rfl, (show Ext w _ by repeat (first | (with_reducible exact Ext.refl _) | (with_reducible refine Ext.alloc ?_ _) | (with_reducible apply Ext.setC; focus (simp <;> omega)) | (with_reducible refine Ext.drew ?_) | (with_reducible refine Ext.drewN ?_ _) | (with_reducible refine Ext.trans ?_ (Hid.out ‹Hid (Ext _ _)›))))⟩
          · have hqb : (q != 0) = true := by simpa using hq
            rw [if_pos hq] at hca
            rw [hca, if_pos hq] at hA
            subst hA
            clear hca hq
            go_wp2_with fail
            go_ret
            exact ⟨rfl, (show Ext w _ by repeat (first | (with_reducible exact Ext.refl _) | (with_reducible refine Ext.alloc ?_ _) | (with_reducible apply Ext.setC; focus (simp <;> omega)) | (with_reducible refine Ext.drew ?_) | (with_reducible refine Ext.drewN ?_ _) | (with_reducible refine Ext.trans ?_ (Hid.out ‹Hid (Ext _ _)›))))⟩
        · have hge : ¬ (k : Int) < (taps.length : Int) := by omega
          have hkl : k = taps.length := by omega
          rw [hkl, List.drop_length] at hA
          have hr0 : res = 0 := by rw [← hA]; cases (vs.drop taps.length) <;> rfl
          subst hr0
          clear hA hkl
          go_wp2_with fail
          go_ret
          exact ⟨rfl, HE3.out⟩
end Go.Proofs.Ytbboonepfmkgnaa
