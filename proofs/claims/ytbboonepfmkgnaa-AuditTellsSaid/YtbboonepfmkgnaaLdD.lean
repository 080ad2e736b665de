/- ledger.Check. -/
import Derived.Test.YtbboonepfmkgnaaLdC
namespace Go.Proofs.Ytbboonepfmkgnaa
set_option linter.unusedSimpArgs false
set_option linter.unusedVariables false
set_option maxRecDepth 100000
open Go Go.RowKit Lb

theorem time_ok {p : Tp} (h : ckTap p = 0) : 0 ≤ p.time ∧ p.time ≤ 9999 := by
  unfold ckTap at h
  cases hh : within p.time 0 9999 with
  | true => simpa [within] using hh
  | false => simp [hh] at h
theorem zones_in {t : Tk} (h : ckTicket t = 0) : 0 ≤ t.zones ∧ t.zones < 16 := by
  unfold ckTicket at h
  cases hw : within t.zones 1 15 with
  | true => simp [within] at hw; omega
  | false => simp [hw] at h
theorem tickets_mem : ∀ {l : List Tk} {prev : Option Int}, ckTickets prev l = 0 → ∀ t ∈ l, ckTicket t = 0
  | [], _, _ => by simp
  | x :: l, prev, h => by
    rw [ckTickets_cons] at h
    by_cases h1 : ckTicket x = 0
    · rw [if_neg (by simpa using h1)] at h
      by_cases h2 : noRise prev x.id = true
      · rw [if_pos h2] at h; simp at h
      · rw [if_neg h2] at h
        intro t ht
        rcases List.mem_cons.1 ht with rfl | ht
        · exact h1
        · exact tickets_mem h t ht
    · rw [if_pos h1] at h; exact absurd h h1
theorem tapAt_zero {tks : List Tk} {taps : List Tp} {vs : List Int} {i : Nat} {p : Tp} (h : (tapAt tks taps vs i p).1 = 0) : (tapAt tks taps vs i p).2 ≠ 0 := by
  unfold tapAt at h ⊢
  by_cases h1 : ckTap p = 0
  · simp only [h1, ne_eq, not_true_eq_false, if_false] at h ⊢
    cases ht : ticketOf tks p.ticket with
    | none => simp
    | some t =>
      simp only [ht] at h ⊢
      split
      · simp
      · rename_i h2
        rw [if_neg h2] at h
        split
        · simp
        · rename_i h3
          rw [if_neg h3] at h
          split
          · simp
          · rename_i h4
            rw [if_neg h4] at h
            have := judge_cases t (lastTime (ridesTo taps vs p.ticket i)) (ridesTo taps vs p.ticket i).length p
            omega
  · simp [h1]
theorem ckTapAt_tap {tks : List Tk} {pre : List Tp} {pv : List Int} {p : Tp} {v : Int} (h : ckTapAt tks pre pv p v = 0) : ckTap p = 0 := by
  unfold ckTapAt at h
  by_cases h1 : ckTap p = 0
  · exact h1
  · rw [if_pos h1] at h; exact absurd h h1
theorem ckTaps_step (tks : List Tk) (taps : List Tp) (vs : List Int) (k : Nat) (h1 : k < taps.length) (h2 : k < vs.length) :
    ckTaps tks (taps.take k) (vs.take k) (taps.drop k) (vs.drop k) = if ckTapAt tks (taps.take k) (vs.take k) taps[k] vs[k] ≠ 0 then ckTapAt tks (taps.take k) (vs.take k) taps[k] vs[k] else ckTaps tks (taps.take (k + 1)) (vs.take (k + 1)) (taps.drop (k + 1)) (vs.drop (k + 1)) := by
  rw [List.drop_eq_getElem_cons h1, List.drop_eq_getElem_cons h2, List.take_succ_eq_append_getElem h1, List.take_succ_eq_append_getElem h2]
  rfl

set_option maxHeartbeats 16000000 in
theorem ledger_Check (tks : List Tk) (taps : List Tp) (vs : List Int) (s0 s1 s2 : Value) (w : World) (hr0 : RdL 6 tkc w s0 tks) (hr1 : RdL 5 tpc w s1 taps) (hr2 : RdL 1 inc w s2 vs) :
    Calls Try.prog 23 #[.agg #[s0, s1, s2]] w fun e w' => e = .returned (.int .i64 (ckLedger ⟨tks, taps, vs⟩)) ∧ Ext w w' := by
  have HTK := Lib.hid (fun (w' : World) (h : Ext w w') => ledger_tickets tks s0 w' (hr0.ext h))
  have HTP := Lib.hid (fun (i : Nat) (p : Tp) (w' : World) (h : Ext w w') (hit : i ≤ taps.length) (hlen : taps.length = vs.length) (htk : ∀ t ∈ tks, 0 ≤ t.zones ∧ t.zones < 16) (htm : ∀ x ∈ taps.take i, 0 ≤ x.time ∧ x.time ≤ 9999) => ledger_tap tks taps vs s0 s1 s2 i p w' hit hlen htk htm (hr0.ext h) (hr1.ext h) (hr2.ext h))
  have HRd := Lib.hid hr1
  have HSd := Lib.hid hr2
  obtain ⟨A0, c0, rfl, hmc0, hmm0⟩ := hr0.form
  obtain ⟨A, c, rfl, hmc, hmm⟩ := hr1.form
  obtain ⟨A2, c2, rfl, hmc2, hmm2⟩ := hr2.form
  have hm : taps.length ≤ 9223372036854775807 := by unfold maxLen at hmm; omega
  have hm0 : tks.length ≤ 9223372036854775807 := by unfold maxLen at hmm0; omega
  have hm2 : vs.length ≤ 9223372036854775807 := by unfold maxLen at hmm2; omega
  have hres : ckLedger ⟨tks, taps, vs⟩ = if 12 < tks.length ∨ 60 < taps.length ∨ taps.length ≠ vs.length then 2 else if ckTickets none tks ≠ 0 then ckTickets none tks else ckTaps tks [] [] taps vs := rfl
  generalize ckLedger ⟨tks, taps, vs⟩ = res at *
  clear hr0 hr1 hr2 hmm0 hmm hmm2 hmc hmc2 hmc0
  by_cases h12 : 12 < tks.length
  · have hd : decide ((12 : Int) < (tks.length : Int)) = true := decide_eq_true (by omega)
    rw [if_pos (.inl h12)] at hres
    subst hres
    clear h12 HTK HTP
    go_enter Try.func23, Try.ntmps23
    go_wp2_with fail
    go_ret
    exact ⟨rfl, (show Ext w _ by repeat (first | (with_reducible exact Ext.refl _) | (with_reducible refine Ext.alloc ?_ _) | (with_reducible apply Ext.setC; focus (simp <;> omega)) | (with_reducible refine Ext.drew ?_) | (with_reducible refine Ext.drewN ?_ _) | (with_reducible refine Ext.trans ?_ (Hid.out ‹Hid (Ext _ _)›))))⟩
  have hd : decide ((12 : Int) < (tks.length : Int)) = false := decide_eq_false (by omega)
  by_cases h60 : 60 < taps.length
  · have hd2 : decide ((60 : Int) < (taps.length : Int)) = true := decide_eq_true (by omega)
    rw [if_pos (.inr (.inl h60))] at hres
    subst hres
    clear HTK HTP
    go_enter Try.func23, Try.ntmps23
    go_wp2_with fail
    go_ret
    exact ⟨rfl, (show Ext w _ by repeat (first | (with_reducible exact Ext.refl _) | (with_reducible refine Ext.alloc ?_ _) | (with_reducible apply Ext.setC; focus (simp <;> omega)) | (with_reducible refine Ext.drew ?_) | (with_reducible refine Ext.drewN ?_ _) | (with_reducible refine Ext.trans ?_ (Hid.out ‹Hid (Ext _ _)›))))⟩
  have hd2 : decide ((60 : Int) < (taps.length : Int)) = false := decide_eq_false (by omega)
  by_cases hl : taps.length = vs.length
  case neg =>
    have hd3 : ((taps.length : Int) != (vs.length : Int)) = true := by
      have : (taps.length : Int) ≠ (vs.length : Int) := by omega
      simpa using this
    rw [if_pos (.inr (.inr hl))] at hres
    subst hres
    clear HTK HTP hl
    go_enter Try.func23, Try.ntmps23
    go_wp2_with fail
    go_ret
    exact ⟨rfl, (show Ext w _ by repeat (first | (with_reducible exact Ext.refl _) | (with_reducible refine Ext.alloc ?_ _) | (with_reducible apply Ext.setC; focus (simp <;> omega)) | (with_reducible refine Ext.drew ?_) | (with_reducible refine Ext.drewN ?_ _) | (with_reducible refine Ext.trans ?_ (Hid.out ‹Hid (Ext _ _)›))))⟩
  have hd3 : ((taps.length : Int) != (vs.length : Int)) = false := by
    have : (taps.length : Int) = (vs.length : Int) := by omega
    simpa using this
  rw [if_neg (by omega)] at hres
  have HL := Lib.hid hl
  clear hl
  by_cases ht : ckTickets none tks = 0
  case neg =>
    have hqb : (ckTickets none tks != 0) = true := by simpa using ht
    rw [if_pos ht] at hres
    subst hres
    generalize ckTickets none tks = q at *
    clear HTP ht
    go_enter Try.func23, Try.ntmps23
    go_wp2_with fail
    (refine (HTK.out _ (by repeat (first | (with_reducible exact Ext.refl _) | (with_reducible refine Ext.alloc ?_ _) | (with_reducible apply Ext.setC; focus (simp <;> omega)) | (with_reducible refine Ext.drew ?_) | (with_reducible refine Ext.drewN ?_ _) | (with_reducible refine Ext.trans ?_ (Hid.out ‹Hid (Ext _ _)›))))).mono ?_; rintro e w1 ⟨rfl, h1⟩; have H1 := Lib.hid h1; have hz1 := h1.size; clear h1; (try simp only [World.size_alloc, size_set, World.heap_drewN, size_drew] at hz1); apply Row.use (w := w1) (g := w.heap.size); (focus (repeat (first | (with_reducible exact Hid.out ‹Hid (Row _ _ _)›) | (with_reducible exact Row.newAt rfl) | (with_reducible apply Row.newAt; (simp; done)) | (with_reducible apply Row.set_) | (with_reducible apply Row.far; focus (simp <;> omega)) | (with_reducible apply Row.alloc) | (with_reducible apply Row.drew) | (with_reducible apply Row.drewN) | (with_reducible apply Row.ext (Hid.out ‹Hid (Ext _ _)›))))); intro q1_0 f1_0 l1_0 R1_0; (try simp only [List.setIfInBounds_toArray, List.set_cons_zero, List.set_cons_succ] at q1_0 R1_0))
    go_wp2_with fail
    go_ret
    exact ⟨rfl, (show Ext w _ by repeat (first | (with_reducible exact Ext.refl _) | (with_reducible refine Ext.alloc ?_ _) | (with_reducible apply Ext.setC; focus (simp <;> omega)) | (with_reducible refine Ext.drew ?_) | (with_reducible refine Ext.drewN ?_ _) | (with_reducible refine Ext.trans ?_ (Hid.out ‹Hid (Ext _ _)›))))⟩
  rw [if_neg (by simpa using ht)] at hres
  have htz : ∀ t ∈ tks, 0 ≤ t.zones ∧ t.zones < 16 := fun t h => zones_in (tickets_mem ht t h)
  have HTZ := Lib.hid htz
  have HRES := Lib.hid hres
  rw [ht] at HTK
  clear htz hres ht
  go_enter Try.func23, Try.ntmps23
  go_wp2_with fail
  (refine (HTK.out _ (by repeat (first | (with_reducible exact Ext.refl _) | (with_reducible refine Ext.alloc ?_ _) | (with_reducible apply Ext.setC; focus (simp <;> omega)) | (with_reducible refine Ext.drew ?_) | (with_reducible refine Ext.drewN ?_ _) | (with_reducible refine Ext.trans ?_ (Hid.out ‹Hid (Ext _ _)›))))).mono ?_; rintro e w1 ⟨rfl, h1⟩; have H1 := Lib.hid h1; have hz1 := h1.size; clear h1; (try simp only [World.size_alloc, size_set, World.heap_drewN, size_drew] at hz1); apply Row.use (w := w1) (g := w.heap.size); (focus (repeat (first | (with_reducible exact Hid.out ‹Hid (Row _ _ _)›) | (with_reducible exact Row.newAt rfl) | (with_reducible apply Row.newAt; (simp; done)) | (with_reducible apply Row.set_) | (with_reducible apply Row.far; focus (simp <;> omega)) | (with_reducible apply Row.alloc) | (with_reducible apply Row.drew) | (with_reducible apply Row.drewN) | (with_reducible apply Row.ext (Hid.out ‹Hid (Ext _ _)›))))); intro q1_0 f1_0 l1_0 R1_0; (try simp only [List.setIfInBounds_toArray, List.set_cons_zero, List.set_cons_succ] at q1_0 R1_0))
  go_wp2_with fail
  go_loopg [4, 5, 6, 7, 36] taps.length (fun gg _ _ _ _ s36 wr => ∃ k : Nat, k ≤ taps.length ∧ taps.length - k ≤ gg ∧ s36 = .int .i64 k ∧ Aside (Ext w wr ∧ Row wr w.heap.size #[.slice A0 tks.length c0, .slice A taps.length c, .slice A2 vs.length c2]) ∧ Aside (ckTaps tks (taps.take k) (vs.take k) (taps.drop k) (vs.drop k) = res ∧ ∀ x ∈ taps.take k, 0 ≤ x.time ∧ x.time ≤ 9999))
  case atStart => exact ⟨0, by omega, by omega, rfl, ⟨(show Ext w _ by repeat (first | (with_reducible exact Ext.refl _) | (with_reducible refine Ext.alloc ?_ _) | (with_reducible apply Ext.setC; focus (simp <;> omega)) | (with_reducible refine Ext.drew ?_) | (with_reducible refine Ext.drewN ?_ _) | (with_reducible refine Ext.trans ?_ (Hid.out ‹Hid (Ext _ _)›)))), by repeat (first | (with_reducible exact Hid.out ‹Hid (Row _ _ _)›) | (with_reducible exact Row.newAt rfl) | (with_reducible apply Row.newAt; (simp; done)) | (with_reducible apply Row.set_) | (with_reducible apply Row.far; focus (simp <;> omega)) | (with_reducible apply Row.alloc) | (with_reducible apply Row.drew) | (with_reducible apply Row.drewN) | (with_reducible apply Row.ext (Hid.out ‹Hid (Ext _ _)›)))⟩, by simpa using HRES.out.symm, by simp⟩
  case round =>
    obtain ⟨k, hk, hg, rfl, HV, HA⟩ := hrel
    have HE := Lib.hid HV.out.1
    have HR0 := Lib.hid HV.out.2
    obtain ⟨hA, hT⟩ := HA.out
    clear HV HA
    (apply Row.use (w := wr) (g := w.heap.size); (focus (repeat (first | (with_reducible exact Hid.out ‹Hid (Row _ _ _)›) | (with_reducible exact Row.newAt rfl) | (with_reducible apply Row.newAt; (simp; done)) | (with_reducible apply Row.set_) | (with_reducible apply Row.far; focus (simp <;> omega)) | (with_reducible apply Row.alloc) | (with_reducible apply Row.drew) | (with_reducible apply Row.drewN) | (with_reducible apply Row.ext (Hid.out ‹Hid (Ext _ _)›))))); intro qr_0 fr_0 lr_0 Rr_0; (try simp only [List.setIfInBounds_toArray, List.set_cons_zero, List.set_cons_succ] at qr_0 Rr_0))
    by_cases hlt : k < taps.length
    · have hlt' : (k : Int) < (taps.length : Int) := by omega
      have hkv : k < vs.length := by have := HL.out; omega
      have hkv' : (k : Int) < (vs.length : Int) := by omega
      obtain ⟨b, o, rfl, hb, d0, d1, d2, d3, d4⟩ := (HRd.out.ext HE.out).tap_at rfl hlt
      have hc := ckTapAt_of (tks := tks) hkv HL.out
      rw [ckTaps_step tks taps vs k hlt hkv] at hA
      have hz := @tapAt_zero tks taps vs k taps[k]
      have hnx : ckTapAt tks (taps.take k) (vs.take k) taps[k] vs[k] = 0 → ∀ x ∈ taps.take (k + 1), 0 ≤ x.time ∧ x.time ≤ 9999 := by
        intro h x hx
        rw [List.take_succ_eq_append_getElem hlt] at hx
        rcases List.mem_append.1 hx with hx | hx
        · exact hT x hx
        · rw [List.mem_singleton.1 hx]
          exact time_ok (ckTapAt_tap h)
      have HCALL := Lib.hid (fun (w' : World) (h : Ext w w') => HTP.out k taps[k] w' h hk HL.out HTZ.out hT)
      obtain ⟨vb, vo, hA2, hvb, f0⟩ : ∃ vb vo, A2 = some ⟨vb, vo, none⟩ ∧ vb < wr.heap.size ∧ wr.cell? ⟨vb, vo + k, none⟩ = some (.int .i64 vs[k]) := (HSd.out.ext HE.out).num_at rfl hkv
      subst hA2
      have hvc : ∀ W, Ext wr W → W.cell? ⟨vb, vo + k, none⟩ = some (.int .i64 vs[k]) := fun W h => (h.cells _ _ hvb).trans f0
      have HVC := Lib.hid hvc
      clear hvc f0 hT
      generalize ckTapAt tks (taps.take k) (vs.take k) taps[k] vs[k] = ca at *
      generalize tapAt tks taps vs k taps[k] = va at *
      generalize taps[k] = p at *
      generalize vs[k] = y at *
      obtain ⟨v, e⟩ := va
      unfold tpc at HCALL
      simp only at hc hz HCALL
      by_cases hv0 : v = 0
      · have hvb0 : (v == 0) = true := by simpa using hv0
        have he := hz hv0
        rw [if_pos hv0] at hc
        rw [if_pos (by rw [hc]; exact he), hc] at hA
        subst hA
        clear hc hz he hv0 hnx
        go_wp2_with fail
        (refine (HCALL.out _ (by repeat (first | (with_reducible exact Ext.refl _) | (with_reducible refine Ext.alloc ?_ _) | (with_reducible apply Ext.setC; focus (simp <;> omega)) | (with_reducible refine Ext.drew ?_) | (with_reducible refine Ext.drewN ?_ _) | (with_reducible refine Ext.trans ?_ (Hid.out ‹Hid (Ext _ _)›))))).mono ?_; rintro e w2 ⟨rfl, h2⟩; have H2 := Lib.hid h2; have hz2 := h2.size; clear h2; (try simp only [World.size_alloc, size_set, World.heap_drewN, size_drew] at hz2); apply Row.use (w := w2) (g := w.heap.size); (focus (repeat (first | (with_reducible exact Hid.out ‹Hid (Row _ _ _)›) | (with_reducible exact Row.newAt rfl) | (with_reducible apply Row.newAt; (simp; done)) | (with_reducible apply Row.set_) | (with_reducible apply Row.far; focus (simp <;> omega)) | (with_reducible apply Row.alloc) | (with_reducible apply Row.drew) | (with_reducible apply Row.drewN) | (with_reducible apply Row.ext (Hid.out ‹Hid (Ext _ _)›))))); intro q2_0 f2_0 l2_0 R2_0; (try simp only [List.setIfInBounds_toArray, List.set_cons_zero, List.set_cons_succ] at q2_0 R2_0))
        go_wp2_with fail
        go_ret
        exact ⟨rfl, (show Ext w _ by repeat (first | (with_reducible exact Ext.refl _) | (with_reducible refine Ext.alloc ?_ _) | (with_reducible apply Ext.setC; focus (simp <;> omega)) | (with_reducible refine Ext.drew ?_) | (with_reducible refine Ext.drewN ?_ _) | (with_reducible refine Ext.trans ?_ (Hid.out ‹Hid (Ext _ _)›))))⟩
      · have hvb0 : (v == 0) = false := by simpa using hv0
        rw [if_neg hv0] at hc
        by_cases hvy : v = y
        · have hvy1 : (v != y) = false := by simpa using hvy
          rw [if_neg (by simpa using hvy)] at hc
          rw [if_neg (by simpa using hc)] at hA
          have HA2 := Lib.hid hA
          have HNX := Lib.hid (hnx hc)
          clear hc hz hv0 hvy hnx hA
          go_wp2_with fail
          (refine (HCALL.out _ (by repeat (first | (with_reducible exact Ext.refl _) | (with_reducible refine Ext.alloc ?_ _) | (with_reducible apply Ext.setC; focus (simp <;> omega)) | (with_reducible refine Ext.drew ?_) | (with_reducible refine Ext.drewN ?_ _) | (with_reducible refine Ext.trans ?_ (Hid.out ‹Hid (Ext _ _)›))))).mono ?_; rintro e w2 ⟨rfl, h2⟩; have H2 := Lib.hid h2; have hz2 := h2.size; clear h2; (try simp only [World.size_alloc, size_set, World.heap_drewN, size_drew] at hz2); apply Row.use (w := w2) (g := w.heap.size); (focus (repeat (first | (with_reducible exact Hid.out ‹Hid (Row _ _ _)›) | (with_reducible exact Row.newAt rfl) | (with_reducible apply Row.newAt; (simp; done)) | (with_reducible apply Row.set_) | (with_reducible apply Row.far; focus (simp <;> omega)) | (with_reducible apply Row.alloc) | (with_reducible apply Row.drew) | (with_reducible apply Row.drewN) | (with_reducible apply Row.ext (Hid.out ‹Hid (Ext _ _)›))))); intro q2_0 f2_0 l2_0 R2_0; (try simp only [List.setIfInBounds_toArray, List.set_cons_zero, List.set_cons_succ] at q2_0 R2_0))
          have f1 := HVC.out w2 (by repeat (first | (with_reducible exact Ext.refl _) | (with_reducible refine Ext.alloc ?_ _) | (with_reducible apply Ext.setC; focus (simp <;> omega)) | (with_reducible refine Ext.drew ?_) | (with_reducible refine Ext.drewN ?_ _) | (with_reducible refine Ext.trans ?_ (Hid.out ‹Hid (Ext _ _)›))))
          go_wp2_with fail
          go_roundg (taps.length - (k + 1))
          case measure => omega
          case rel => exact ⟨k + 1, by omega, by omega, by go_num, ⟨(show Ext w _ by repeat (first | (with_reducible exact Ext.refl _) | (with_reducible refine Ext.alloc ?_ _) | (with_reducible apply Ext.setC; focus (simp <;> omega)) | (with_reducible refine Ext.drew ?_) | (with_reducible refine Ext.drewN ?_ _) | (with_reducible refine Ext.trans ?_ (Hid.out ‹Hid (Ext _ _)›)))), R2_0.out⟩, HA2.out, HNX.out⟩
        · have hvy1 : (v != y) = true := by simpa using hvy
          rw [if_pos hvy] at hc
          rw [if_pos (by rw [hc]; decide), hc] at hA
          subst hA
          clear hc hz hv0 hvy hnx
          go_wp2_with fail
          (refine (HCALL.out _ (by repeat (first | (with_reducible exact Ext.refl _) | (with_reducible refine Ext.alloc ?_ _) | (with_reducible apply Ext.setC; focus (simp <;> omega)) | (with_reducible refine Ext.drew ?_) | (with_reducible refine Ext.drewN ?_ _) | (with_reducible refine Ext.trans ?_ (Hid.out ‹Hid (Ext _ _)›))))).mono ?_; rintro e w2 ⟨rfl, h2⟩; have H2 := Lib.hid h2; have hz2 := h2.size; clear h2; (try simp only [World.size_alloc, size_set, World.heap_drewN, size_drew] at hz2); apply Row.use (w := w2) (g := w.heap.size); (focus (repeat (first | (with_reducible exact Hid.out ‹Hid (Row _ _ _)›) | (with_reducible exact Row.newAt rfl) | (with_reducible apply Row.newAt; (simp; done)) | (with_reducible apply Row.set_) | (with_reducible apply Row.far; focus (simp <;> omega)) | (with_reducible apply Row.alloc) | (with_reducible apply Row.drew) | (with_reducible apply Row.drewN) | (with_reducible apply Row.ext (Hid.out ‹Hid (Ext _ _)›))))); intro q2_0 f2_0 l2_0 R2_0; (try simp only [List.setIfInBounds_toArray, List.set_cons_zero, List.set_cons_succ] at q2_0 R2_0))
          have f1 := HVC.out w2 (by repeat (first | (with_reducible exact Ext.refl _) | (with_reducible refine Ext.alloc ?_ _) | (with_reducible apply Ext.setC; focus (simp <;> omega)) | (with_reducible refine Ext.drew ?_) | (with_reducible refine Ext.drewN ?_ _) | (with_reducible refine Ext.trans ?_ (Hid.out ‹Hid (Ext _ _)›))))
          go_wp2_with fail
          go_ret
          exact ⟨rfl, (show Ext w _ by repeat (first | (with_reducible exact Ext.refl _) | (with_reducible refine Ext.alloc ?_ _) | (with_reducible apply Ext.setC; focus (simp <;> omega)) | (with_reducible refine Ext.drew ?_) | (with_reducible refine Ext.drewN ?_ _) | (with_reducible refine Ext.trans ?_ (Hid.out ‹Hid (Ext _ _)›))))⟩
    · have hge : ¬ (k : Int) < (taps.length : Int) := by omega
      have hkl : k = taps.length := by omega
      rw [hkl, List.drop_length] at hA
      have hr0 : res = 0 := by rw [← hA]; cases (vs.drop taps.length) <;> rfl
      subst hr0
      clear hA hkl
      go_wp2_with fail
      go_ret
      exact ⟨rfl, HE.out⟩
end Go.Proofs.Ytbboonepfmkgnaa
