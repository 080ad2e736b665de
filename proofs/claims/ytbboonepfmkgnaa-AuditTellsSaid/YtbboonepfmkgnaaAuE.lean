/- The law AuditTells. -/
import Derived.Test.YtbboonepfmkgnaaAuD
import Derived.Test.YtbboonepfmkgnaaLdF
namespace Go.Proofs.Ytbboonepfmkgnaa
set_option linter.unusedSimpArgs false
set_option linter.unusedVariables false
set_option maxRecDepth 100000
open Go Go.RowKit Lb

theorem betw_eq (a b : Int) (p : Tp) : betw a b p = (decide (a ≤ p.time) && decide (p.time ≤ b)) := rfl

set_option maxHeartbeats 64000000 in
theorem law_AuditTells (l : Ld) (s0 s1 s2 : Value) (g id a b : Int) (w : World) (hr0 : RdL 6 tkc w s0 l.tickets) (hr1 : RdL 5 tpc w s1 l.taps) (hr2 : RdL 1 inc w s2 l.verdicts) :
    Calls Try.prog 7 #[.agg #[s0, s1, s2], .int .i64 g, .int .i64 id, .int .i64 a, .int .i64 b] w fun e w' => e = .returned (.bool true) ∧ Ext w w' := by
  obtain ⟨tks, taps, vs⟩ := l
  simp only at hr0 hr1 hr2
  have HG := Lib.hid (fun (w' : World) (h : Ext w w') => audit_Gate tks taps vs s0 s1 s2 g w' (hr0.ext h) (hr1.ext h) (hr2.ext h))
  have HL := Lib.hid (fun (w' : World) (h : Ext w w') => audit_Left tks taps vs s0 s1 s2 id w' (hr0.ext h) (hr1.ext h) (hr2.ext h))
  have HB := Lib.hid (fun (w' : World) (h : Ext w w') => audit_Between tks taps vs s0 s1 s2 a b w' (hr0.ext h) (hr1.ext h) (hr2.ext h))
  have HCK := Lib.hid (fun (w' : World) (h : Ext w w') => ref_CheckLedger tks taps vs s0 s1 s2 w' (hr0.ext h) (hr1.ext h) (hr2.ext h))
  have HTA := Lib.hid (fun (w' : World) (h : Ext w w') => ref_TicketAt tks id s0 w' (hr0.ext h))
  have HLO := Lib.hid (fun (k : Nat) (hk : k < tks.length) (w' : World) (h : Ext w w') (hck : ckLedger ⟨tks, taps, vs⟩ = 0) => ref_LeftOf tks taps vs s0 s1 s2 k hk w' hck (hr0.ext h) (hr1.ext h) (hr2.ext h))
  have HAG := Lib.hid (fun (w' : World) (h : Ext w w') (hck : ckLedger ⟨tks, taps, vs⟩ = 0) => ref_AtGate taps vs s0 s1 s2 g w' (right_len hck) (by obtain ⟨A, c, h, -⟩ := hr0.form; exact ⟨_, _, _, h⟩) (hr1.ext h) (hr2.ext h))
  have HBG := Lib.hid (fun (w' : World) => law_auditBegun w')
  have HRd := Lib.hid hr1
  have hix := ixBy_ticket tks id
  have hg : gateAu ⟨tks, taps, vs⟩ g = if ckLedger ⟨tks, taps, vs⟩ ≠ 0 then (0, 0, ckLedger ⟨tks, taps, vs⟩) else if g < 0 ∨ 3 ≤ g then (0, 0, 3) else (((cntTo (atGate g) taps vs 1 taps.length : Nat) : Int), ((cntTo (atGate g) taps vs 2 taps.length : Nat) : Int), 0) := rfl
  have hl : leftAu ⟨tks, taps, vs⟩ id = if ckLedger ⟨tks, taps, vs⟩ ≠ 0 then (0, ckLedger ⟨tks, taps, vs⟩) else match ticketOf tks id with
    | none => (0, 5)
    | some t => (restOf ⟨tks, taps, vs⟩ t, 0) := rfl
  have hb : betwAu ⟨tks, taps, vs⟩ a b = if ckLedger ⟨tks, taps, vs⟩ ≠ 0 then (0, ckLedger ⟨tks, taps, vs⟩) else if a < 0 ∨ 9999 < a ∨ b < 0 ∨ 9999 < b then (0, 3) else if b < a then (0, 4) else ((manyTo (betw a b) taps taps.length : Int), 0) := by
    unfold betwAu
    by_cases h : ckLedger ⟨tks, taps, vs⟩ = 0
    · have h2 := cnt_both (betw a b) taps vs (right_len h) (right_vs h) taps.length (Nat.le_refl _)
      unfold cntAll
      simp only
      rw [← h2]
      simp
    · rw [if_pos h, if_pos h]
  generalize gateAu ⟨tks, taps, vs⟩ g = X at *
  generalize leftAu ⟨tks, taps, vs⟩ id = Y at *
  generalize betwAu ⟨tks, taps, vs⟩ a b = Z at *
  generalize cntTo (atGate g) taps vs 1 taps.length = n1 at *
  generalize cntTo (atGate g) taps vs 2 taps.length = n2 at *
  obtain ⟨x1, x2, x3⟩ := X
  obtain ⟨y1, y2⟩ := Y
  obtain ⟨z1, z2⟩ := Z
  simp only at HG HL HB
  have hm : taps.length ≤ 9223372036854775807 := by
    obtain ⟨A, c, -, h1, h2⟩ := hr1.form
    unfold maxLen at h2
    omega
  obtain ⟨A0, c0, rfl, -, -⟩ := hr0.form
  obtain ⟨A, c, rfl, -, -⟩ := hr1.form
  obtain ⟨A2, c2, rfl, -, -⟩ := hr2.form
  clear hr0 hr1 hr2
  have HGX := Lib.hid hg
  have HLX := Lib.hid hl
  have HBX := Lib.hid hb
  clear hg hl hb
  generalize hq : ckLedger ⟨tks, taps, vs⟩ = q at *
  have HQ := Lib.hid hq
  clear hq
  generalize ixBy (fun t => t.id == id) tks = ix at *
  go_enter Try.func7, Try.ntmps7
  go_wp2_with fail
  (refine (HG.out _ (by repeat (first | (with_reducible exact Ext.refl _) | (with_reducible refine Ext.alloc ?_ _) | (with_reducible apply Ext.setC; focus (simp <;> omega)) | (with_reducible refine Ext.drew ?_) | (with_reducible refine Ext.drewN ?_ _) | (with_reducible refine Ext.trans ?_ (Hid.out ‹Hid (Ext _ _)›))))).mono ?_; rintro e w1 ⟨rfl, h1⟩; have H1 := Lib.hid h1; have hz1 := h1.size; clear h1; (try simp only [World.size_alloc, size_set, World.heap_drewN, size_drew] at hz1); apply Row.use (w := w1) (g := w.heap.size); (focus (repeat (first | (with_reducible exact Hid.out ‹Hid (Row _ _ _)›) | (with_reducible exact Row.newAt rfl) | (with_reducible apply Row.newAt; (simp; done)) | (with_reducible apply Row.set_) | (with_reducible apply Row.far; focus (simp <;> omega)) | (with_reducible apply Row.alloc) | (with_reducible apply Row.drew) | (with_reducible apply Row.drewN) | (with_reducible apply Row.ext (Hid.out ‹Hid (Ext _ _)›))))); intro q1_0 f1_0 l1_0 R1_0; (try simp only [List.setIfInBounds_toArray, List.set_cons_zero, List.set_cons_succ] at q1_0 R1_0))
  go_wp2_with fail
  (refine (HL.out _ (by repeat (first | (with_reducible exact Ext.refl _) | (with_reducible refine Ext.alloc ?_ _) | (with_reducible apply Ext.setC; focus (simp <;> omega)) | (with_reducible refine Ext.drew ?_) | (with_reducible refine Ext.drewN ?_ _) | (with_reducible refine Ext.trans ?_ (Hid.out ‹Hid (Ext _ _)›))))).mono ?_; rintro e w2 ⟨rfl, h2⟩; have H2 := Lib.hid h2; have hz2 := h2.size; clear h2; (try simp only [World.size_alloc, size_set, World.heap_drewN, size_drew] at hz2); apply Row.use (w := w2) (g := w.heap.size); (focus (repeat (first | (with_reducible exact Hid.out ‹Hid (Row _ _ _)›) | (with_reducible exact Row.newAt rfl) | (with_reducible apply Row.newAt; (simp; done)) | (with_reducible apply Row.set_) | (with_reducible apply Row.far; focus (simp <;> omega)) | (with_reducible apply Row.alloc) | (with_reducible apply Row.drew) | (with_reducible apply Row.drewN) | (with_reducible apply Row.ext (Hid.out ‹Hid (Ext _ _)›))))); intro q2_0 f2_0 l2_0 R2_0; (try simp only [List.setIfInBounds_toArray, List.set_cons_zero, List.set_cons_succ] at q2_0 R2_0))
  go_wp2_with fail
  (refine (HB.out _ (by repeat (first | (with_reducible exact Ext.refl _) | (with_reducible refine Ext.alloc ?_ _) | (with_reducible apply Ext.setC; focus (simp <;> omega)) | (with_reducible refine Ext.drew ?_) | (with_reducible refine Ext.drewN ?_ _) | (with_reducible refine Ext.trans ?_ (Hid.out ‹Hid (Ext _ _)›))))).mono ?_; rintro e w3 ⟨rfl, h3⟩; have H3 := Lib.hid h3; have hz3 := h3.size; clear h3; (try simp only [World.size_alloc, size_set, World.heap_drewN, size_drew] at hz3); apply Row.use (w := w3) (g := w.heap.size); (focus (repeat (first | (with_reducible exact Hid.out ‹Hid (Row _ _ _)›) | (with_reducible exact Row.newAt rfl) | (with_reducible apply Row.newAt; (simp; done)) | (with_reducible apply Row.set_) | (with_reducible apply Row.far; focus (simp <;> omega)) | (with_reducible apply Row.alloc) | (with_reducible apply Row.drew) | (with_reducible apply Row.drewN) | (with_reducible apply Row.ext (Hid.out ‹Hid (Ext _ _)›))))); intro q3_0 f3_0 l3_0 R3_0; (try simp only [List.setIfInBounds_toArray, List.set_cons_zero, List.set_cons_succ] at q3_0 R3_0))
  go_wp2_with fail
  (refine (HCK.out _ (by repeat (first | (with_reducible exact Ext.refl _) | (with_reducible refine Ext.alloc ?_ _) | (with_reducible apply Ext.setC; focus (simp <;> omega)) | (with_reducible refine Ext.drew ?_) | (with_reducible refine Ext.drewN ?_ _) | (with_reducible refine Ext.trans ?_ (Hid.out ‹Hid (Ext _ _)›))))).mono ?_; rintro e w4 ⟨rfl, h4⟩; have H4 := Lib.hid h4; have hz4 := h4.size; clear h4; (try simp only [World.size_alloc, size_set, World.heap_drewN, size_drew] at hz4); apply Row.use (w := w4) (g := w.heap.size); (focus (repeat (first | (with_reducible exact Hid.out ‹Hid (Row _ _ _)›) | (with_reducible exact Row.newAt rfl) | (with_reducible apply Row.newAt; (simp; done)) | (with_reducible apply Row.set_) | (with_reducible apply Row.far; focus (simp <;> omega)) | (with_reducible apply Row.alloc) | (with_reducible apply Row.drew) | (with_reducible apply Row.drewN) | (with_reducible apply Row.ext (Hid.out ‹Hid (Ext _ _)›))))); intro q4_0 f4_0 l4_0 R4_0; (try simp only [List.setIfInBounds_toArray, List.set_cons_zero, List.set_cons_succ] at q4_0 R4_0))
  by_cases hq : q = 0
  · subst hq
    have hgx := HGX.out
    have hlx := HLX.out
    have hbx := HBX.out
    rw [if_neg (by simp)] at hgx hlx hbx
    have HGX2 := Lib.hid hgx
    have HBX2 := Lib.hid hbx
    clear hgx hbx HGX HLX HBX
    have main : (ix = -1 ∧ y1 = 0 ∧ y2 = 5) ∨ ∃ (k : Nat) (hk : k < tks.length), ix = k ∧ y1 = restOf ⟨tks, taps, vs⟩ tks[k] ∧ y2 = 0 := by
      rcases hix with ⟨h1, h2⟩ | ⟨k, hk, h1, h2⟩
      · left
        rw [h2] at hlx
        simpa [h1] using hlx
      · right
        rw [h2] at hlx
        exact ⟨k, hk, h1, by simpa using hlx⟩
    clear hix hlx
    go_wp2_with fail
    (refine (HTA.out _ (by repeat (first | (with_reducible exact Ext.refl _) | (with_reducible refine Ext.alloc ?_ _) | (with_reducible apply Ext.setC; focus (simp <;> omega)) | (with_reducible refine Ext.drew ?_) | (with_reducible refine Ext.drewN ?_ _) | (with_reducible refine Ext.trans ?_ (Hid.out ‹Hid (Ext _ _)›))))).mono ?_; rintro e w5 ⟨rfl, h5⟩; have H5 := Lib.hid h5; have hz5 := h5.size; clear h5; (try simp only [World.size_alloc, size_set, World.heap_drewN, size_drew] at hz5); apply Row.use (w := w5) (g := w.heap.size); (focus (repeat (first | (with_reducible exact Hid.out ‹Hid (Row _ _ _)›) | (with_reducible exact Row.newAt rfl) | (with_reducible apply Row.newAt; (simp; done)) | (with_reducible apply Row.set_) | (with_reducible apply Row.far; focus (simp <;> omega)) | (with_reducible apply Row.alloc) | (with_reducible apply Row.drew) | (with_reducible apply Row.drewN) | (with_reducible apply Row.ext (Hid.out ‹Hid (Ext _ _)›))))); intro q5_0 f5_0 l5_0 R5_0; (try simp only [List.setIfInBounds_toArray, List.set_cons_zero, List.set_cons_succ] at q5_0 R5_0))
    go_upto_if 60 with fail
    go_cut [20, 24] (fun s20 s24 wx => s20 = .int .i64 y2 ∧ s24 = .int .i64 y1 ∧ Aside (Ext w5 wx))
    case first =>
      rcases main with ⟨rfl, rfl, rfl⟩ | ⟨k, hk, rfl, hy, rfl⟩
      · go_wp2_with fail
        go_meet
        case rel => exact ⟨rfl, rfl, (show Ext w5 _ by repeat (first | (with_reducible exact Ext.refl _) | (with_reducible refine Ext.alloc ?_ _) | (with_reducible apply Ext.setC; focus (simp <;> omega)) | (with_reducible refine Ext.drew ?_) | (with_reducible refine Ext.drewN ?_ _) | (with_reducible refine Ext.trans ?_ (Hid.out ‹Hid (Ext _ _)›))))⟩
      · have hkn : ¬ ((k : Int) < 0) := by omega
        have hkd : decide ((k : Int) < 0) = false := by simp
        have HL2 := Lib.hid (fun (w' : World) (h : Ext w w') => HLO.out k hk w' h trivial)
        rw [← hy] at HL2
        clear hy HLO
        go_wp2_with fail
        (refine (HL2.out _ (by repeat (first | (with_reducible exact Ext.refl _) | (with_reducible refine Ext.alloc ?_ _) | (with_reducible apply Ext.setC; focus (simp <;> omega)) | (with_reducible refine Ext.drew ?_) | (with_reducible refine Ext.drewN ?_ _) | (with_reducible refine Ext.trans ?_ (Hid.out ‹Hid (Ext _ _)›))))).mono ?_; rintro e w6 ⟨rfl, h6⟩; have H6 := Lib.hid h6; have hz6 := h6.size; clear h6; (try simp only [World.size_alloc, size_set, World.heap_drewN, size_drew] at hz6); apply Row.use (w := w6) (g := w.heap.size); (focus (repeat (first | (with_reducible exact Hid.out ‹Hid (Row _ _ _)›) | (with_reducible exact Row.newAt rfl) | (with_reducible apply Row.newAt; (simp; done)) | (with_reducible apply Row.set_) | (with_reducible apply Row.far; focus (simp <;> omega)) | (with_reducible apply Row.alloc) | (with_reducible apply Row.drew) | (with_reducible apply Row.drewN) | (with_reducible apply Row.ext (Hid.out ‹Hid (Ext _ _)›))))); intro q6_0 f6_0 l6_0 R6_0; (try simp only [List.setIfInBounds_toArray, List.set_cons_zero, List.set_cons_succ] at q6_0 R6_0))
        go_wp2_with fail
        go_meet
        case rel => exact ⟨rfl, rfl, (show Ext w5 _ by repeat (first | (with_reducible exact Ext.refl _) | (with_reducible refine Ext.alloc ?_ _) | (with_reducible apply Ext.setC; focus (simp <;> omega)) | (with_reducible refine Ext.drew ?_) | (with_reducible refine Ext.drewN ?_ _) | (with_reducible refine Ext.trans ?_ (Hid.out ‹Hid (Ext _ _)›))))⟩
    case rest =>
      obtain ⟨rfl, rfl, HW⟩ := hcut
      obtain ⟨w6, rfl⟩ : ∃ w6 : World, w6 = wc := ⟨_, rfl⟩
      have H6 := Lib.hid HW.out
      clear HW main HLO HL HTA HB HG HCK
      (apply Row.use (w := w6) (g := w.heap.size); (focus (repeat (first | (with_reducible exact Hid.out ‹Hid (Row _ _ _)›) | (with_reducible exact Row.newAt rfl) | (with_reducible apply Row.newAt; (simp; done)) | (with_reducible apply Row.set_) | (with_reducible apply Row.far; focus (simp <;> omega)) | (with_reducible apply Row.alloc) | (with_reducible apply Row.drew) | (with_reducible apply Row.drewN) | (with_reducible apply Row.ext (Hid.out ‹Hid (Ext _ _)›))))); intro q6_0 f6_0 l6_0 R6_0; (try simp only [List.setIfInBounds_toArray, List.set_cons_zero, List.set_cons_succ] at q6_0 R6_0))
      go_upto_region 12 with fail
      go_cut [69] (fun s69 wx => s69 = .bool (decide (g < 0 ∨ 3 ≤ g)) ∧ Aside (Ext w6 wx))
      case first =>
        by_cases h1 : g < 0
        · have hd : decide (g < 0) = true := by simpa using h1
          go_wp2_with fail
          go_meet
          case rel => exact ⟨by simp [h1], (show Ext w6 _ by repeat (first | (with_reducible exact Ext.refl _) | (with_reducible refine Ext.alloc ?_ _) | (with_reducible apply Ext.setC; focus (simp <;> omega)) | (with_reducible refine Ext.drew ?_) | (with_reducible refine Ext.drewN ?_ _) | (with_reducible refine Ext.trans ?_ (Hid.out ‹Hid (Ext _ _)›))))⟩
        · have hd : decide (g < 0) = false := by simpa using h1
          by_cases h2 : 3 ≤ g
          · have hd2 : decide (3 ≤ g) = true := by simpa using h2
            go_wp2_with fail
            go_meet
            case rel => exact ⟨by simp [h2], (show Ext w6 _ by repeat (first | (with_reducible exact Ext.refl _) | (with_reducible refine Ext.alloc ?_ _) | (with_reducible apply Ext.setC; focus (simp <;> omega)) | (with_reducible refine Ext.drew ?_) | (with_reducible refine Ext.drewN ?_ _) | (with_reducible refine Ext.trans ?_ (Hid.out ‹Hid (Ext _ _)›))))⟩
          · have hd2 : decide (3 ≤ g) = false := by simpa using h2
            go_wp2_with fail
            go_meet
            case rel => exact ⟨by simp [h1, h2], (show Ext w6 _ by repeat (first | (with_reducible exact Ext.refl _) | (with_reducible refine Ext.alloc ?_ _) | (with_reducible apply Ext.setC; focus (simp <;> omega)) | (with_reducible refine Ext.drew ?_) | (with_reducible refine Ext.drewN ?_ _) | (with_reducible refine Ext.trans ?_ (Hid.out ‹Hid (Ext _ _)›))))⟩
      case rest =>
        obtain ⟨rfl, HW⟩ := hcut
        obtain ⟨w7, rfl⟩ : ∃ w7 : World, w7 = wc := ⟨_, rfl⟩
        have H7 := Lib.hid HW.out
        clear HW
        (apply Row.use (w := w7) (g := w.heap.size); (focus (repeat (first | (with_reducible exact Hid.out ‹Hid (Row _ _ _)›) | (with_reducible exact Row.newAt rfl) | (with_reducible apply Row.newAt; (simp; done)) | (with_reducible apply Row.set_) | (with_reducible apply Row.far; focus (simp <;> omega)) | (with_reducible apply Row.alloc) | (with_reducible apply Row.drew) | (with_reducible apply Row.drewN) | (with_reducible apply Row.ext (Hid.out ‹Hid (Ext _ _)›))))); intro q7_0 f7_0 l7_0 R7_0; (try simp only [List.setIfInBounds_toArray, List.set_cons_zero, List.set_cons_succ] at q7_0 R7_0))
        generalize hr : decide (g < 0 ∨ 3 ≤ g) = r
        have hgx : (x1, x2, x3) = if r = true then (0, 0, 3) else (↑n1, ↑n2, 0) := by
          rw [HGX2.out, ← hr]
          simp
        clear hr HGX2
        go_upto_if 69 with fail
        go_cut [19, 22, 23] (fun s19 s22 s23 wx => s19 = .int .i64 x3 ∧ s22 = .int .i64 x1 ∧ s23 = .int .i64 x2 ∧ Aside (Ext w7 wx))
        case first =>
          cases r
          · simp only [Bool.false_eq_true, if_false, Prod.mk.injEq] at hgx
            obtain ⟨rfl, rfl, rfl⟩ := hgx
            go_wp2_with fail
            (refine (HAG.out _ (by repeat (first | (with_reducible exact Ext.refl _) | (with_reducible refine Ext.alloc ?_ _) | (with_reducible apply Ext.setC; focus (simp <;> omega)) | (with_reducible refine Ext.drew ?_) | (with_reducible refine Ext.drewN ?_ _) | (with_reducible refine Ext.trans ?_ (Hid.out ‹Hid (Ext _ _)›)))) trivial).mono ?_; rintro e w8 ⟨rfl, h8⟩; have H8 := Lib.hid h8; have hz8 := h8.size; clear h8; (try simp only [World.size_alloc, size_set, World.heap_drewN, size_drew] at hz8); apply Row.use (w := w8) (g := w.heap.size); (focus (repeat (first | (with_reducible exact Hid.out ‹Hid (Row _ _ _)›) | (with_reducible exact Row.newAt rfl) | (with_reducible apply Row.newAt; (simp; done)) | (with_reducible apply Row.set_) | (with_reducible apply Row.far; focus (simp <;> omega)) | (with_reducible apply Row.alloc) | (with_reducible apply Row.drew) | (with_reducible apply Row.drewN) | (with_reducible apply Row.ext (Hid.out ‹Hid (Ext _ _)›))))); intro q8_0 f8_0 l8_0 R8_0; (try simp only [List.setIfInBounds_toArray, List.set_cons_zero, List.set_cons_succ] at q8_0 R8_0))
            go_wp2_with fail
            go_meet
            case rel => exact ⟨rfl, rfl, rfl, (show Ext w7 _ by repeat (first | (with_reducible exact Ext.refl _) | (with_reducible refine Ext.alloc ?_ _) | (with_reducible apply Ext.setC; focus (simp <;> omega)) | (with_reducible refine Ext.drew ?_) | (with_reducible refine Ext.drewN ?_ _) | (with_reducible refine Ext.trans ?_ (Hid.out ‹Hid (Ext _ _)›))))⟩
          · simp only [if_true, Prod.mk.injEq] at hgx
            obtain ⟨rfl, rfl, rfl⟩ := hgx
            go_wp2_with fail
            go_meet
            case rel => exact ⟨rfl, rfl, rfl, (show Ext w7 _ by repeat (first | (with_reducible exact Ext.refl _) | (with_reducible refine Ext.alloc ?_ _) | (with_reducible apply Ext.setC; focus (simp <;> omega)) | (with_reducible refine Ext.drew ?_) | (with_reducible refine Ext.drewN ?_ _) | (with_reducible refine Ext.trans ?_ (Hid.out ‹Hid (Ext _ _)›))))⟩
        case rest =>
          obtain ⟨rfl, rfl, rfl, HW⟩ := hcut
          obtain ⟨w8, rfl⟩ : ∃ w8 : World, w8 = wc := ⟨_, rfl⟩
          have H8 := Lib.hid HW.out
          clear HW HAG hgx
          (apply Row.use (w := w8) (g := w.heap.size); (focus (repeat (first | (with_reducible exact Hid.out ‹Hid (Row _ _ _)›) | (with_reducible exact Row.newAt rfl) | (with_reducible apply Row.newAt; (simp; done)) | (with_reducible apply Row.set_) | (with_reducible apply Row.far; focus (simp <;> omega)) | (with_reducible apply Row.alloc) | (with_reducible apply Row.drew) | (with_reducible apply Row.drewN) | (with_reducible apply Row.ext (Hid.out ‹Hid (Ext _ _)›))))); intro q8_0 f8_0 l8_0 R8_0; (try simp only [List.setIfInBounds_toArray, List.set_cons_zero, List.set_cons_succ] at q8_0 R8_0))
          go_upto_region 15 with fail
          go_cut [76] (fun s76 wx => s76 = .bool (decide (a < 0 ∨ 9999 < a ∨ b < 0 ∨ 9999 < b)) ∧ Aside (Ext w8 wx))
          case first =>
            by_cases h1 : a < 0
            · have hd1 : decide (a < 0) = true := by simpa using h1
              go_wp2_with fail
              go_meet
              case rel => exact ⟨by simp [h1], (show Ext w8 _ by repeat (first | (with_reducible exact Ext.refl _) | (with_reducible refine Ext.alloc ?_ _) | (with_reducible apply Ext.setC; focus (simp <;> omega)) | (with_reducible refine Ext.drew ?_) | (with_reducible refine Ext.drewN ?_ _) | (with_reducible refine Ext.trans ?_ (Hid.out ‹Hid (Ext _ _)›))))⟩
            have hd1 : decide (a < 0) = false := by simpa using h1
            by_cases h2 : 9999 < a
            · have hd2 : decide (9999 < a) = true := by simpa using h2
              go_wp2_with fail
              go_meet
              case rel => exact ⟨by simp [h2], (show Ext w8 _ by repeat (first | (with_reducible exact Ext.refl _) | (with_reducible refine Ext.alloc ?_ _) | (with_reducible apply Ext.setC; focus (simp <;> omega)) | (with_reducible refine Ext.drew ?_) | (with_reducible refine Ext.drewN ?_ _) | (with_reducible refine Ext.trans ?_ (Hid.out ‹Hid (Ext _ _)›))))⟩
            have hd2 : decide (9999 < a) = false := by simpa using h2
            by_cases h3 : b < 0
            · have hd3 : decide (b < 0) = true := by simpa using h3
              go_wp2_with fail
              go_meet
              case rel => exact ⟨by simp [h3], (show Ext w8 _ by repeat (first | (with_reducible exact Ext.refl _) | (with_reducible refine Ext.alloc ?_ _) | (with_reducible apply Ext.setC; focus (simp <;> omega)) | (with_reducible refine Ext.drew ?_) | (with_reducible refine Ext.drewN ?_ _) | (with_reducible refine Ext.trans ?_ (Hid.out ‹Hid (Ext _ _)›))))⟩
            have hd3 : decide (b < 0) = false := by simpa using h3
            by_cases h4 : 9999 < b
            · have hd4 : decide (9999 < b) = true := by simpa using h4
              go_wp2_with fail
              go_meet
              case rel => exact ⟨by simp [h4], (show Ext w8 _ by repeat (first | (with_reducible exact Ext.refl _) | (with_reducible refine Ext.alloc ?_ _) | (with_reducible apply Ext.setC; focus (simp <;> omega)) | (with_reducible refine Ext.drew ?_) | (with_reducible refine Ext.drewN ?_ _) | (with_reducible refine Ext.trans ?_ (Hid.out ‹Hid (Ext _ _)›))))⟩
            have hd4 : decide (9999 < b) = false := by simpa using h4
            go_wp2_with fail
            go_meet
            case rel => exact ⟨by simp [h1, h2, h3, h4], (show Ext w8 _ by repeat (first | (with_reducible exact Ext.refl _) | (with_reducible refine Ext.alloc ?_ _) | (with_reducible apply Ext.setC; focus (simp <;> omega)) | (with_reducible refine Ext.drew ?_) | (with_reducible refine Ext.drewN ?_ _) | (with_reducible refine Ext.trans ?_ (Hid.out ‹Hid (Ext _ _)›))))⟩
          case rest =>
            obtain ⟨rfl, HW⟩ := hcut
            obtain ⟨w9, rfl⟩ : ∃ w9 : World, w9 = wc := ⟨_, rfl⟩
            have H9 := Lib.hid HW.out
            clear HW
            (apply Row.use (w := w9) (g := w.heap.size); (focus (repeat (first | (with_reducible exact Hid.out ‹Hid (Row _ _ _)›) | (with_reducible exact Row.newAt rfl) | (with_reducible apply Row.newAt; (simp; done)) | (with_reducible apply Row.set_) | (with_reducible apply Row.far; focus (simp <;> omega)) | (with_reducible apply Row.alloc) | (with_reducible apply Row.drew) | (with_reducible apply Row.drewN) | (with_reducible apply Row.ext (Hid.out ‹Hid (Ext _ _)›))))); intro q9_0 f9_0 l9_0 R9_0; (try simp only [List.setIfInBounds_toArray, List.set_cons_zero, List.set_cons_succ] at q9_0 R9_0))
            generalize hr : decide (a < 0 ∨ 9999 < a ∨ b < 0 ∨ 9999 < b) = r
            generalize hz : decide (b < a) = z
            have hbx : (z1, z2) = if r = true then (0, 3) else if z = true then (0, 4) else (↑(manyTo (betw a b) taps taps.length), 0) := by
              rw [HBX2.out, ← hr, ← hz]
              simp
            have hzz : (b < a) = (z = true) := by rw [← hz]; simp
            have h3 : (r = true ∧ z2 = 3 ∧ z1 = 0) ∨ (r = false ∧ z = true ∧ z2 = 4 ∧ z1 = 0) ∨ (r = false ∧ z = false ∧ z2 = 0 ∧ z1 = (manyTo (betw a b) taps taps.length : Int)) := by
              cases r
              · cases z
                · simp only [Bool.false_eq_true, if_false, Prod.mk.injEq] at hbx
                  right; right; exact ⟨rfl, rfl, hbx.2, hbx.1⟩
                · simp only [Bool.false_eq_true, if_false, if_true, Prod.mk.injEq] at hbx
                  right; left; exact ⟨rfl, rfl, hbx.2, hbx.1⟩
              · simp only [if_true, Prod.mk.injEq] at hbx
                left; exact ⟨rfl, hbx.2, hbx.1⟩
            clear hr HBX2 hbx
            rcases h3 with ⟨rfl, rfl, rfl⟩ | ⟨rfl, rfl, rfl, rfl⟩ | ⟨rfl, rfl, rfl, rfl⟩
            · clear hz hzz
              go_wp2_with fail
              go_loopg [25, 27] 1 (fun gg s25 s27 wr => s25 = .int .i64 0 ∧ s27 = .int .i64 0 ∧ Aside (Ext w wr ∧ Row wr w.heap.size #[.slice A0 tks.length c0, .slice A taps.length c, .slice A2 vs.length c2]))
              case atStart => exact ⟨rfl, rfl, (show Ext w _ by repeat (first | (with_reducible exact Ext.refl _) | (with_reducible refine Ext.alloc ?_ _) | (with_reducible apply Ext.setC; focus (simp <;> omega)) | (with_reducible refine Ext.drew ?_) | (with_reducible refine Ext.drewN ?_ _) | (with_reducible refine Ext.trans ?_ (Hid.out ‹Hid (Ext _ _)›)))), by repeat (first | (with_reducible exact Hid.out ‹Hid (Row _ _ _)›) | (with_reducible exact Row.newAt rfl) | (with_reducible apply Row.newAt; (simp; done)) | (with_reducible apply Row.set_) | (with_reducible apply Row.far; focus (simp <;> omega)) | (with_reducible apply Row.alloc) | (with_reducible apply Row.drew) | (with_reducible apply Row.drewN) | (with_reducible apply Row.ext (Hid.out ‹Hid (Ext _ _)›)))⟩
              case round =>
                obtain ⟨rfl, rfl, HV⟩ := hrel
                have HE := Lib.hid HV.out.1
                have HR0 := Lib.hid HV.out.2
                clear HV
                (apply Row.use (w := wr) (g := w.heap.size); (focus (repeat (first | (with_reducible exact Hid.out ‹Hid (Row _ _ _)›) | (with_reducible exact Row.newAt rfl) | (with_reducible apply Row.newAt; (simp; done)) | (with_reducible apply Row.set_) | (with_reducible apply Row.far; focus (simp <;> omega)) | (with_reducible apply Row.alloc) | (with_reducible apply Row.drew) | (with_reducible apply Row.drewN) | (with_reducible apply Row.ext (Hid.out ‹Hid (Ext _ _)›))))); intro qr_0 fr_0 lr_0 Rr_0; (try simp only [List.setIfInBounds_toArray, List.set_cons_zero, List.set_cons_succ] at qr_0 Rr_0))
                by_cases h0 : (0 : Int) < (taps.length : Int)
                · have h0d : decide ((0 : Int) < (taps.length : Int)) = true := decide_eq_true h0
                  go_wp2_with fail
                  (refine (HBG.out _).mono ?_; rintro e w11 ⟨rfl, h11⟩; have H11 := Lib.hid h11; have hz11 := h11.size; clear h11; (try simp only [World.size_alloc, size_set, World.heap_drewN, size_drew] at hz11))
                  go_wp2_with fail
                  go_ret
                  exact ⟨rfl, (show Ext w _ by repeat (first | (with_reducible exact Ext.refl _) | (with_reducible refine Ext.alloc ?_ _) | (with_reducible apply Ext.setC; focus (simp <;> omega)) | (with_reducible refine Ext.drew ?_) | (with_reducible refine Ext.drewN ?_ _) | (with_reducible refine Ext.trans ?_ (Hid.out ‹Hid (Ext _ _)›))))⟩
                · have h0d : decide ((0 : Int) < (taps.length : Int)) = false := decide_eq_false h0
                  go_wp2_with fail
                  (refine (HBG.out _).mono ?_; rintro e w11 ⟨rfl, h11⟩; have H11 := Lib.hid h11; have hz11 := h11.size; clear h11; (try simp only [World.size_alloc, size_set, World.heap_drewN, size_drew] at hz11))
                  go_wp2_with fail
                  go_ret
                  exact ⟨rfl, (show Ext w _ by repeat (first | (with_reducible exact Ext.refl _) | (with_reducible refine Ext.alloc ?_ _) | (with_reducible apply Ext.setC; focus (simp <;> omega)) | (with_reducible refine Ext.drew ?_) | (with_reducible refine Ext.drewN ?_ _) | (with_reducible refine Ext.trans ?_ (Hid.out ‹Hid (Ext _ _)›))))⟩
            · clear hzz
              go_wp2_with fail
              go_loopg [25, 27] 1 (fun gg s25 s27 wr => s25 = .int .i64 0 ∧ s27 = .int .i64 0 ∧ Aside (Ext w wr ∧ Row wr w.heap.size #[.slice A0 tks.length c0, .slice A taps.length c, .slice A2 vs.length c2]))
              case atStart => exact ⟨rfl, rfl, (show Ext w _ by repeat (first | (with_reducible exact Ext.refl _) | (with_reducible refine Ext.alloc ?_ _) | (with_reducible apply Ext.setC; focus (simp <;> omega)) | (with_reducible refine Ext.drew ?_) | (with_reducible refine Ext.drewN ?_ _) | (with_reducible refine Ext.trans ?_ (Hid.out ‹Hid (Ext _ _)›)))), by repeat (first | (with_reducible exact Hid.out ‹Hid (Row _ _ _)›) | (with_reducible exact Row.newAt rfl) | (with_reducible apply Row.newAt; (simp; done)) | (with_reducible apply Row.set_) | (with_reducible apply Row.far; focus (simp <;> omega)) | (with_reducible apply Row.alloc) | (with_reducible apply Row.drew) | (with_reducible apply Row.drewN) | (with_reducible apply Row.ext (Hid.out ‹Hid (Ext _ _)›)))⟩
              case round =>
                obtain ⟨rfl, rfl, HV⟩ := hrel
                have HE := Lib.hid HV.out.1
                have HR0 := Lib.hid HV.out.2
                clear HV
                (apply Row.use (w := wr) (g := w.heap.size); (focus (repeat (first | (with_reducible exact Hid.out ‹Hid (Row _ _ _)›) | (with_reducible exact Row.newAt rfl) | (with_reducible apply Row.newAt; (simp; done)) | (with_reducible apply Row.set_) | (with_reducible apply Row.far; focus (simp <;> omega)) | (with_reducible apply Row.alloc) | (with_reducible apply Row.drew) | (with_reducible apply Row.drewN) | (with_reducible apply Row.ext (Hid.out ‹Hid (Ext _ _)›))))); intro qr_0 fr_0 lr_0 Rr_0; (try simp only [List.setIfInBounds_toArray, List.set_cons_zero, List.set_cons_succ] at qr_0 Rr_0))
                by_cases h0 : (0 : Int) < (taps.length : Int)
                · have h0d : decide ((0 : Int) < (taps.length : Int)) = true := decide_eq_true h0
                  go_wp2_with fail
                  (refine (HBG.out _).mono ?_; rintro e w11 ⟨rfl, h11⟩; have H11 := Lib.hid h11; have hz11 := h11.size; clear h11; (try simp only [World.size_alloc, size_set, World.heap_drewN, size_drew] at hz11))
                  go_wp2_with fail
                  go_ret
                  exact ⟨rfl, (show Ext w _ by repeat (first | (with_reducible exact Ext.refl _) | (with_reducible refine Ext.alloc ?_ _) | (with_reducible apply Ext.setC; focus (simp <;> omega)) | (with_reducible refine Ext.drew ?_) | (with_reducible refine Ext.drewN ?_ _) | (with_reducible refine Ext.trans ?_ (Hid.out ‹Hid (Ext _ _)›))))⟩
                · have h0d : decide ((0 : Int) < (taps.length : Int)) = false := decide_eq_false h0
                  go_wp2_with fail
                  (refine (HBG.out _).mono ?_; rintro e w11 ⟨rfl, h11⟩; have H11 := Lib.hid h11; have hz11 := h11.size; clear h11; (try simp only [World.size_alloc, size_set, World.heap_drewN, size_drew] at hz11))
                  go_wp2_with fail
                  go_ret
                  exact ⟨rfl, (show Ext w _ by repeat (first | (with_reducible exact Ext.refl _) | (with_reducible refine Ext.alloc ?_ _) | (with_reducible apply Ext.setC; focus (simp <;> omega)) | (with_reducible refine Ext.drew ?_) | (with_reducible refine Ext.drewN ?_ _) | (with_reducible refine Ext.trans ?_ (Hid.out ‹Hid (Ext _ _)›))))⟩
            · clear hzz
              go_wp2_with fail
              go_loopg [25, 27] taps.length (fun gg s25 s27 wr => ∃ k : Nat, k ≤ taps.length ∧ taps.length - k ≤ gg ∧ s25 = .int .i64 (manyTo (betw a b) taps k : Nat) ∧ s27 = .int .i64 k ∧ Aside (Ext w wr ∧ Row wr w.heap.size #[.slice A0 tks.length c0, .slice A taps.length c, .slice A2 vs.length c2]))
              case atStart => exact ⟨0, by omega, by omega, by rw [manyTo_zero]; rfl, rfl, (show Ext w _ by repeat (first | (with_reducible exact Ext.refl _) | (with_reducible refine Ext.alloc ?_ _) | (with_reducible apply Ext.setC; focus (simp <;> omega)) | (with_reducible refine Ext.drew ?_) | (with_reducible refine Ext.drewN ?_ _) | (with_reducible refine Ext.trans ?_ (Hid.out ‹Hid (Ext _ _)›)))), by repeat (first | (with_reducible exact Hid.out ‹Hid (Row _ _ _)›) | (with_reducible exact Row.newAt rfl) | (with_reducible apply Row.newAt; (simp; done)) | (with_reducible apply Row.set_) | (with_reducible apply Row.far; focus (simp <;> omega)) | (with_reducible apply Row.alloc) | (with_reducible apply Row.drew) | (with_reducible apply Row.drewN) | (with_reducible apply Row.ext (Hid.out ‹Hid (Ext _ _)›)))⟩
              case round =>
                obtain ⟨k, hk, hg, rfl, rfl, HV⟩ := hrel
                have HE := Lib.hid HV.out.1
                have HR0 := Lib.hid HV.out.2
                clear HV
                (apply Row.use (w := wr) (g := w.heap.size); (focus (repeat (first | (with_reducible exact Hid.out ‹Hid (Row _ _ _)›) | (with_reducible exact Row.newAt rfl) | (with_reducible apply Row.newAt; (simp; done)) | (with_reducible apply Row.set_) | (with_reducible apply Row.far; focus (simp <;> omega)) | (with_reducible apply Row.alloc) | (with_reducible apply Row.drew) | (with_reducible apply Row.drewN) | (with_reducible apply Row.ext (Hid.out ‹Hid (Ext _ _)›))))); intro qr_0 fr_0 lr_0 Rr_0; (try simp only [List.setIfInBounds_toArray, List.set_cons_zero, List.set_cons_succ] at qr_0 Rr_0))
                by_cases hlt : k < taps.length
                · have hlt' : (k : Int) < (taps.length : Int) := by omega
                  obtain ⟨bb, o, rfl, hbb, -, -, -, d3, -⟩ := (HRd.out.ext HE.out).tap_at rfl hlt
                  have hs := manyTo_succ (betw a b) taps k hlt
                  have hle := manyTo_le (betw a b) taps k
                  rw [betw_eq] at hs
                  generalize manyTo (betw a b) taps k = n at *
                  generalize hn2 : manyTo (betw a b) taps (k + 1) = n2 at *
                  have HN2 := Lib.hid hn2
                  have hw1 : IntKind.i64.wrap ((n : Int) + 1) = ((n + 1 : Nat) : Int) := by rw [IntWalk.i64_in _ (by omega)]; omega
                  clear hn2
                  generalize taps[k].time = x3 at *
                  by_cases h1 : a ≤ x3
                  · have h1d : decide (a ≤ x3) = true := by simpa using h1
                    by_cases h2 : x3 ≤ b
                    · have h2d : decide (x3 ≤ b) = true := by simpa using h2
                      rw [h1d, h2d] at hs
                      have HS := Lib.hid (show n2 = n + 1 from hs)
                      clear hs h1 h2
                      go_wp2_with fail
                      (try (go_quiet (fail); go_wp2_with fail))
                      go_roundg (taps.length - (k + 1))
                      case measure => omega
                      case rel => exact ⟨k + 1, by omega, by omega, by rw [HN2.out, HS.out]; go_num, by go_num, ⟨(show Ext w _ by repeat (first | (with_reducible exact Ext.refl _) | (with_reducible refine Ext.alloc ?_ _) | (with_reducible apply Ext.setC; focus (simp <;> omega)) | (with_reducible refine Ext.drew ?_) | (with_reducible refine Ext.drewN ?_ _) | (with_reducible refine Ext.trans ?_ (Hid.out ‹Hid (Ext _ _)›)))), by repeat (first | (with_reducible exact Hid.out ‹Hid (Row _ _ _)›) | (with_reducible exact Row.newAt rfl) | (with_reducible apply Row.newAt; (simp; done)) | (with_reducible apply Row.set_) | (with_reducible apply Row.far; focus (simp <;> omega)) | (with_reducible apply Row.alloc) | (with_reducible apply Row.drew) | (with_reducible apply Row.drewN) | (with_reducible apply Row.ext (Hid.out ‹Hid (Ext _ _)›)))⟩⟩
                    · have h2d : decide (x3 ≤ b) = false := by simpa using h2
                      rw [h1d, h2d] at hs
                      have HS := Lib.hid (show n2 = n from hs)
                      clear hs h1 h2
                      go_wp2_with fail
                      (try (go_quiet (fail); go_wp2_with fail))
                      go_roundg (taps.length - (k + 1))
                      case measure => omega
                      case rel => exact ⟨k + 1, by omega, by omega, by rw [HN2.out, HS.out], by go_num, ⟨(show Ext w _ by repeat (first | (with_reducible exact Ext.refl _) | (with_reducible refine Ext.alloc ?_ _) | (with_reducible apply Ext.setC; focus (simp <;> omega)) | (with_reducible refine Ext.drew ?_) | (with_reducible refine Ext.drewN ?_ _) | (with_reducible refine Ext.trans ?_ (Hid.out ‹Hid (Ext _ _)›)))), by repeat (first | (with_reducible exact Hid.out ‹Hid (Row _ _ _)›) | (with_reducible exact Row.newAt rfl) | (with_reducible apply Row.newAt; (simp; done)) | (with_reducible apply Row.set_) | (with_reducible apply Row.far; focus (simp <;> omega)) | (with_reducible apply Row.alloc) | (with_reducible apply Row.drew) | (with_reducible apply Row.drewN) | (with_reducible apply Row.ext (Hid.out ‹Hid (Ext _ _)›)))⟩⟩
                  · have h1d : decide (a ≤ x3) = false := by simpa using h1
                    rw [h1d] at hs
                    have HS := Lib.hid (show n2 = n from hs)
                    clear hs h1
                    go_wp2_with fail
                    (try (go_quiet (fail); go_wp2_with fail))
                    go_roundg (taps.length - (k + 1))
                    case measure => omega
                    case rel => exact ⟨k + 1, by omega, by omega, by rw [HN2.out, HS.out], by go_num, ⟨(show Ext w _ by repeat (first | (with_reducible exact Ext.refl _) | (with_reducible refine Ext.alloc ?_ _) | (with_reducible apply Ext.setC; focus (simp <;> omega)) | (with_reducible refine Ext.drew ?_) | (with_reducible refine Ext.drewN ?_ _) | (with_reducible refine Ext.trans ?_ (Hid.out ‹Hid (Ext _ _)›)))), by repeat (first | (with_reducible exact Hid.out ‹Hid (Row _ _ _)›) | (with_reducible exact Row.newAt rfl) | (with_reducible apply Row.newAt; (simp; done)) | (with_reducible apply Row.set_) | (with_reducible apply Row.far; focus (simp <;> omega)) | (with_reducible apply Row.alloc) | (with_reducible apply Row.drew) | (with_reducible apply Row.drewN) | (with_reducible apply Row.ext (Hid.out ‹Hid (Ext _ _)›)))⟩⟩
                · have hge : ¬ (k : Int) < (taps.length : Int) := by omega
                  have hkm : k = taps.length := by omega
                  subst hkm
                  go_wp2_with fail
                  (refine (HBG.out _).mono ?_; rintro e w11 ⟨rfl, h11⟩; have H11 := Lib.hid h11; have hz11 := h11.size; clear h11; (try simp only [World.size_alloc, size_set, World.heap_drewN, size_drew] at hz11))
                  go_wp2_with fail
                  go_ret
                  exact ⟨rfl, (show Ext w _ by repeat (first | (with_reducible exact Ext.refl _) | (with_reducible refine Ext.alloc ?_ _) | (with_reducible apply Ext.setC; focus (simp <;> omega)) | (with_reducible refine Ext.drew ?_) | (with_reducible refine Ext.drewN ?_ _) | (with_reducible refine Ext.trans ?_ (Hid.out ‹Hid (Ext _ _)›))))⟩
  · have hqb : (q == 0) = false := by simpa using hq
    have hgx := HGX.out
    have hlx := HLX.out
    have hbx := HBX.out
    rw [if_pos hq] at hgx hlx hbx
    simp only [Prod.mk.injEq] at hgx hlx hbx
    obtain ⟨rfl, rfl, rfl⟩ := hgx
    obtain ⟨rfl, rfl⟩ := hlx
    obtain ⟨rfl, rfl⟩ := hbx
    clear HGX HLX HBX hix HLO HAG
    go_wp2_with fail
    (refine (HBG.out _).mono ?_; rintro e w11 ⟨rfl, h11⟩; have H11 := Lib.hid h11; have hz11 := h11.size; clear h11; (try simp only [World.size_alloc, size_set, World.heap_drewN, size_drew] at hz11))
    go_wp2_with fail
    go_ret
    exact ⟨rfl, (show Ext w _ by repeat (first | (with_reducible exact Ext.refl _) | (with_reducible refine Ext.alloc ?_ _) | (with_reducible apply Ext.setC; focus (simp <;> omega)) | (with_reducible refine Ext.drew ?_) | (with_reducible refine Ext.drewN ?_ _) | (with_reducible refine Ext.trans ?_ (Hid.out ‹Hid (Ext _ _)›))))⟩
end Go.Proofs.Ytbboonepfmkgnaa
