/- leeboardlaw.CodeTells answers true, where the texts are not too long. -/
import Derived.Test.YtglifpoiildpfaaCodeM
import Derived.Test.YtglifpoiildpfaaCodeP
namespace Go.Proofs.Ytglifpoiildpfaa
set_option linter.unusedSimpArgs false
set_option linter.unusedVariables false
open Go Go.RowKit Lb

set_option maxRecDepth 100000 in
set_option maxHeartbeats 8000000 in
theorem law_CodeTells (t : Tk) (s l : List UInt8) (hs : s.length ≤ 1048576) (hl : l.length ≤ 1048576) (w : World) :
    Calls Try.prog 9 #[.agg (tkc t), .string (bs s), .string (bs l)] w fun e w' => e = .returned (.bool true) ∧ Ext w w' := by
  have h1 := fun w => code_Print t w
  have h2 := fun w => code_Parse s hs w
  have h3 := fun w => code_Mark l (by omega) w
  have h4 := fun w => ref_CheckTicket t w
  have h5 := fun h w => ref_CodeOf t h w
  have h6 := fun w => ref_ParseOf s hs w
  have h7 := fun w => ref_AreSigns l (by unfold maxLen; omega) w
  have h8 := fun h w => ref_MarkOf l h w
  have hpk := fun h => print_ok (t := t) h
  have hpn := fun h => print_no (t := t) h
  have hsz := bs_size l
  have hem : (⟨#[]⟩ : ByteArray) = bs [] := rfl
  have hl64 : (l.length : Int) ≤ 1048576 := by omega
  have hne : (bs l).toList.isEmpty = decide (l = []) := by
    cases l with
    | nil => exact bs_nil
    | cons c l => rw [bs_cons]; simp
  have hstd := stood_tk
  have hb0 : (bs []).toList = [] := by have := bs_nil; simpa using this
  generalize hx : (parseTk s).getD tk0 = x at h2 h6
  have hpe : parseE s = if (parseTk s).isSome then 0 else 1 := rfl
  rw [hpe] at h2
  generalize (parseTk s).isSome = pb at h2 h6
  generalize hpv : (if pb = true then 0 else 1 : Int) = pe at h2
  have HPV := Lib.hid hpv
  clear hx hpe hpv
  obtain ⟨x0, x1, x2, x3, x4, x5⟩ := x
  have heq := eql_tk' x0 x1 x2 x3 x4 x5 x0 x1 x2 x3 x4 x5
  rw [decide_eq_true rfl] at heq
  obtain ⟨a, b, c, d, e, f⟩ := t
  generalize printTk ⟨a, b, c, d, e, f⟩ = P1 at *
  generalize codeOf ⟨a, b, c, d, e, f⟩ = C1 at *
  generalize ckTicket ⟨a, b, c, d, e, f⟩ = q at *
  simp only [tkc] at h1 h2 h4 h5 h6 ⊢
  have hma : markAll l = if 20 < l.length then ([], 2) else if l = [] ∨ areSigns l = false then ([], 1) else ([markSign l], 0) := rfl
  generalize markAll l = ma at h3 hma
  obtain ⟨ma1, ma2⟩ := ma
  simp only at h3
  have HMA := Lib.hid hma
  have HA1 := Lib.hid h1
  have HA2 := Lib.hid h2
  have HA3 := Lib.hid h3
  have HA4 := Lib.hid h4
  have HA5 := Lib.hid h5
  have HA6 := Lib.hid h6
  have HA7 := Lib.hid h7
  have HA8 := Lib.hid h8
  have HPK := Lib.hid hpk
  have HPN := Lib.hid hpn
  have HEM := Lib.hid hem
  have HEQ := Lib.hid heq
  clear h1 h2 h3 h4 h5 h6 h7 h8 hpk hpn hma hem heq hs hl
  go_enter Try.func9, Try.ntmps9
  go_wp2_with fail
  (refine (HA1.out _).mono ?_; rintro e w1 ⟨rfl, h1⟩; have H1 := Lib.hid h1; have hz1 := h1.size; clear h1; (try simp only [World.size_alloc, size_set, World.heap_drewN, size_drew] at hz1); apply Row.use (w := w1) (g := w.heap.size); (focus (repeat (first | (with_reducible exact Hid.out ‹Hid (Row _ _ _)›) | (with_reducible exact Row.newAt rfl) | (with_reducible apply Row.newAt; (simp; done)) | (with_reducible apply Row.set_) | (with_reducible apply Row.far; focus (simp <;> omega)) | (with_reducible apply Row.alloc) | (with_reducible apply Row.drew) | (with_reducible apply Row.drewN) | (with_reducible apply Row.ext (Hid.out ‹Hid (Ext _ _)›))))); intro q1_0 f1_0 l1_0 R1_0; (try simp only [List.setIfInBounds_toArray, List.set_cons_zero, List.set_cons_succ] at q1_0 R1_0))
  go_wp2_with fail
  (refine (HA2.out _).mono ?_; rintro e w2 ⟨rfl, h2⟩; have H2 := Lib.hid h2; have hz2 := h2.size; clear h2; (try simp only [World.size_alloc, size_set, World.heap_drewN, size_drew] at hz2); apply Row.use (w := w2) (g := w.heap.size); (focus (repeat (first | (with_reducible exact Hid.out ‹Hid (Row _ _ _)›) | (with_reducible exact Row.newAt rfl) | (with_reducible apply Row.newAt; (simp; done)) | (with_reducible apply Row.set_) | (with_reducible apply Row.far; focus (simp <;> omega)) | (with_reducible apply Row.alloc) | (with_reducible apply Row.drew) | (with_reducible apply Row.drewN) | (with_reducible apply Row.ext (Hid.out ‹Hid (Ext _ _)›))))); intro q2_0 f2_0 l2_0 R2_0; (try simp only [List.setIfInBounds_toArray, List.set_cons_zero, List.set_cons_succ] at q2_0 R2_0))
  go_wp2_with fail
  (refine (HA3.out _).mono ?_; rintro e w3 ⟨rfl, h3⟩; have H3 := Lib.hid h3; have hz3 := h3.size; clear h3; (try simp only [World.size_alloc, size_set, World.heap_drewN, size_drew] at hz3); apply Row.use (w := w3) (g := w.heap.size); (focus (repeat (first | (with_reducible exact Hid.out ‹Hid (Row _ _ _)›) | (with_reducible exact Row.newAt rfl) | (with_reducible apply Row.newAt; (simp; done)) | (with_reducible apply Row.set_) | (with_reducible apply Row.far; focus (simp <;> omega)) | (with_reducible apply Row.alloc) | (with_reducible apply Row.drew) | (with_reducible apply Row.drewN) | (with_reducible apply Row.ext (Hid.out ‹Hid (Ext _ _)›))))); intro q3_0 f3_0 l3_0 R3_0; (try simp only [List.setIfInBounds_toArray, List.set_cons_zero, List.set_cons_succ] at q3_0 R3_0); apply Row.use (w := w3) (g := w2.heap.size); (focus (repeat (first | (with_reducible exact Hid.out ‹Hid (Row _ _ _)›) | (with_reducible exact Row.newAt rfl) | (with_reducible apply Row.newAt; (simp; done)) | (with_reducible apply Row.set_) | (with_reducible apply Row.far; focus (simp <;> omega)) | (with_reducible apply Row.alloc) | (with_reducible apply Row.drew) | (with_reducible apply Row.drewN) | (with_reducible apply Row.ext (Hid.out ‹Hid (Ext _ _)›))))); intro q3_1 f3_1 l3_1 R3_1; (try simp only [List.setIfInBounds_toArray, List.set_cons_zero, List.set_cons_succ] at q3_1 R3_1))
  go_wp2_with fail
  (refine (HA4.out _).mono ?_; rintro e w4 ⟨rfl, h4⟩; have H4 := Lib.hid h4; have hz4 := h4.size; clear h4; (try simp only [World.size_alloc, size_set, World.heap_drewN, size_drew] at hz4); apply Row.use (w := w4) (g := w.heap.size); (focus (repeat (first | (with_reducible exact Hid.out ‹Hid (Row _ _ _)›) | (with_reducible exact Row.newAt rfl) | (with_reducible apply Row.newAt; (simp; done)) | (with_reducible apply Row.set_) | (with_reducible apply Row.far; focus (simp <;> omega)) | (with_reducible apply Row.alloc) | (with_reducible apply Row.drew) | (with_reducible apply Row.drewN) | (with_reducible apply Row.ext (Hid.out ‹Hid (Ext _ _)›))))); intro q4_0 f4_0 l4_0 R4_0; (try simp only [List.setIfInBounds_toArray, List.set_cons_zero, List.set_cons_succ] at q4_0 R4_0); apply Row.use (w := w4) (g := w2.heap.size); (focus (repeat (first | (with_reducible exact Hid.out ‹Hid (Row _ _ _)›) | (with_reducible exact Row.newAt rfl) | (with_reducible apply Row.newAt; (simp; done)) | (with_reducible apply Row.set_) | (with_reducible apply Row.far; focus (simp <;> omega)) | (with_reducible apply Row.alloc) | (with_reducible apply Row.drew) | (with_reducible apply Row.drewN) | (with_reducible apply Row.ext (Hid.out ‹Hid (Ext _ _)›))))); intro q4_1 f4_1 l4_1 R4_1; (try simp only [List.setIfInBounds_toArray, List.set_cons_zero, List.set_cons_succ] at q4_1 R4_1))
  go_upto_if 38 with fail
  go_cut [14] (fun s14 wx => s14 = .string (bs P1) ∧ Aside (Ext w wx ∧ Row wx w.heap.size #[.int .i64 a, .int .i64 b, .int .i64 c, .int .i64 d, .int .i64 e, .int .i64 f] ∧ Row wx w2.heap.size #[.int .i64 x0, .int .i64 x1, .int .i64 x2, .int .i64 x3, .int .i64 x4, .int .i64 x5]) ∧ w2.heap.size < wx.heap.size)
  case first =>
    by_cases hq : q = 0
    · have hx5 := fun w => HA5.out hq w
      have hpx := HPK.out hq
      have HX5 := Lib.hid hx5
      have HPX := Lib.hid hpx
      subst hq
      clear hx5 hpx
      go_wp2_with fail
      (refine (HX5.out _).mono ?_; rintro e w5 ⟨rfl, h5⟩; have H5 := Lib.hid h5; have hz5 := h5.size; clear h5; (try simp only [World.size_alloc, size_set, World.heap_drewN, size_drew] at hz5); apply Row.use (w := w5) (g := w.heap.size); (focus (repeat (first | (with_reducible exact Hid.out ‹Hid (Row _ _ _)›) | (with_reducible exact Row.newAt rfl) | (with_reducible apply Row.newAt; (simp; done)) | (with_reducible apply Row.set_) | (with_reducible apply Row.far; focus (simp <;> omega)) | (with_reducible apply Row.alloc) | (with_reducible apply Row.drew) | (with_reducible apply Row.drewN) | (with_reducible apply Row.ext (Hid.out ‹Hid (Ext _ _)›))))); intro q5_0 f5_0 l5_0 R5_0; (try simp only [List.setIfInBounds_toArray, List.set_cons_zero, List.set_cons_succ] at q5_0 R5_0); apply Row.use (w := w5) (g := w2.heap.size); (focus (repeat (first | (with_reducible exact Hid.out ‹Hid (Row _ _ _)›) | (with_reducible exact Row.newAt rfl) | (with_reducible apply Row.newAt; (simp; done)) | (with_reducible apply Row.set_) | (with_reducible apply Row.far; focus (simp <;> omega)) | (with_reducible apply Row.alloc) | (with_reducible apply Row.drew) | (with_reducible apply Row.drewN) | (with_reducible apply Row.ext (Hid.out ‹Hid (Ext _ _)›))))); intro q5_1 f5_1 l5_1 R5_1; (try simp only [List.setIfInBounds_toArray, List.set_cons_zero, List.set_cons_succ] at q5_1 R5_1))
      go_wp2_with fail
      go_meet
      case rel => exact ⟨by rw [HPX.out], ⟨by repeat (first | (with_reducible exact Ext.refl _) | (with_reducible refine Ext.alloc ?_ _) | (with_reducible apply Ext.setC; focus (simp <;> omega)) | (with_reducible refine Ext.drew ?_) | (with_reducible refine Ext.drewN ?_ _) | (with_reducible refine Ext.trans ?_ (Hid.out ‹Hid (Ext _ _)›))), R5_0.out, R5_1.out⟩, l5_1⟩
    · have hqb : (q == 0) = false := by simpa using hq
      go_wp2_with fail
      go_meet
      case rel => exact ⟨by rw [HPN.out hq]; rfl, ⟨by repeat (first | (with_reducible exact Ext.refl _) | (with_reducible refine Ext.alloc ?_ _) | (with_reducible apply Ext.setC; focus (simp <;> omega)) | (with_reducible refine Ext.drew ?_) | (with_reducible refine Ext.drewN ?_ _) | (with_reducible refine Ext.trans ?_ (Hid.out ‹Hid (Ext _ _)›))), R4_0.out, R4_1.out⟩, l4_1⟩
  case rest =>
    obtain ⟨rfl, HW, hlx⟩ := hcut
    obtain ⟨hE, hR0, hR1⟩ := HW.out
    apply Row.use hR0; intro q0 f0 l0 RR0
    apply Row.use hR1; intro q1 f1 l1 RR1
    have HE0 := Lib.hid hE
    clear hE hR0 hR1 HW
    obtain ⟨wx, rfl⟩ : ∃ wx : World, wx = wc := ⟨_, rfl⟩
    go_wp2_with fail
    (refine (HA6.out _).mono ?_; rintro e w6 ⟨rfl, h6⟩; have H6 := Lib.hid h6; have hz6 := h6.size; clear h6; (try simp only [World.size_alloc, size_set, World.heap_drewN, size_drew] at hz6); apply Row.use (w := w6) (g := w.heap.size); (focus (repeat (first | (with_reducible exact Hid.out ‹Hid (Row _ _ _)›) | (with_reducible exact Row.newAt rfl) | (with_reducible apply Row.newAt; (simp; done)) | (with_reducible apply Row.set_) | (with_reducible apply Row.far; focus (simp <;> omega)) | (with_reducible apply Row.alloc) | (with_reducible apply Row.drew) | (with_reducible apply Row.drewN) | (with_reducible apply Row.ext (Hid.out ‹Hid (Ext _ _)›))))); intro q6_0 f6_0 l6_0 R6_0; (try simp only [List.setIfInBounds_toArray, List.set_cons_zero, List.set_cons_succ] at q6_0 R6_0); apply Row.use (w := w6) (g := w2.heap.size); (focus (repeat (first | (with_reducible exact Hid.out ‹Hid (Row _ _ _)›) | (with_reducible exact Row.newAt rfl) | (with_reducible apply Row.newAt; (simp; done)) | (with_reducible apply Row.set_) | (with_reducible apply Row.far; focus (simp <;> omega)) | (with_reducible apply Row.alloc) | (with_reducible apply Row.drew) | (with_reducible apply Row.drewN) | (with_reducible apply Row.ext (Hid.out ‹Hid (Ext _ _)›))))); intro q6_1 f6_1 l6_1 R6_1; (try simp only [List.setIfInBounds_toArray, List.set_cons_zero, List.set_cons_succ] at q6_1 R6_1))
    go_upto_if 47 with fail
    go_cut [17] (fun s17 wy => s17 = .int .i64 pe ∧ Aside (Ext w wy ∧ Row wy w2.heap.size #[.int .i64 x0, .int .i64 x1, .int .i64 x2, .int .i64 x3, .int .i64 x4, .int .i64 x5] ∧ Row wy w6.heap.size #[.int .i64 x0, .int .i64 x1, .int .i64 x2, .int .i64 x3, .int .i64 x4, .int .i64 x5]))
    case first =>
      cases pb
      all_goals
        go_wp2_with fail
        go_meet
        case rel => exact ⟨by rw [← HPV.out]; rfl, by repeat (first | (with_reducible exact Ext.refl _) | (with_reducible refine Ext.alloc ?_ _) | (with_reducible apply Ext.setC; focus (simp <;> omega)) | (with_reducible refine Ext.drew ?_) | (with_reducible refine Ext.drewN ?_ _) | (with_reducible refine Ext.trans ?_ (Hid.out ‹Hid (Ext _ _)›))), R6_1.out.alloc, Row.newAt rfl⟩
    case rest =>
      obtain ⟨rfl, HW⟩ := hcut
      obtain ⟨hE, hR0, hR1⟩ := HW.out
      clear q0 f0 q1 f1
      apply Row.use hR0; intro q0 f0 l0 RR0
      apply Row.use hR1; intro q1 f1 l1 RR1
      have HE1 := Lib.hid hE
      clear hE hR0 hR1 HW
      have hpe2 : (pe == pe) = true := by simp
      have hq2 : (q == q) = true := by simp
      by_cases h20 : 20 < l.length
      · have hl20 : (20 : Int) < (l.length : Int) := by omega
        have hm := HMA.out
        rw [if_pos h20] at hm
        injection hm with hm1 hm2
        subst hm1 hm2
        clear h20
        go_wp2_with fail
        (refine (law_codeBegun _).mono ?_; rintro e w9 ⟨rfl, h9⟩; have H9 := Lib.hid h9; have hz9 := h9.size; clear h9; (try simp only [World.size_alloc, size_set, World.heap_drewN, size_drew] at hz9); apply Row.use (w := w9) (g := w2.heap.size); (focus (repeat (first | (with_reducible exact Hid.out ‹Hid (Row _ _ _)›) | (with_reducible exact Row.newAt rfl) | (with_reducible apply Row.newAt; (simp; done)) | (with_reducible apply Row.set_) | (with_reducible apply Row.far; focus (simp <;> omega)) | (with_reducible apply Row.alloc) | (with_reducible apply Row.drew) | (with_reducible apply Row.drewN) | (with_reducible apply Row.ext (Hid.out ‹Hid (Ext _ _)›))))); intro q9_0 f9_0 l9_0 R9_0; (try simp only [List.setIfInBounds_toArray, List.set_cons_zero, List.set_cons_succ] at q9_0 R9_0); apply Row.use (w := w9) (g := w6.heap.size); (focus (repeat (first | (with_reducible exact Hid.out ‹Hid (Row _ _ _)›) | (with_reducible exact Row.newAt rfl) | (with_reducible apply Row.newAt; (simp; done)) | (with_reducible apply Row.set_) | (with_reducible apply Row.far; focus (simp <;> omega)) | (with_reducible apply Row.alloc) | (with_reducible apply Row.drew) | (with_reducible apply Row.drewN) | (with_reducible apply Row.ext (Hid.out ‹Hid (Ext _ _)›))))); intro q9_1 f9_1 l9_1 R9_1; (try simp only [List.setIfInBounds_toArray, List.set_cons_zero, List.set_cons_succ] at q9_1 R9_1))
        go_wp2_with fail
        go_ret
        refine ⟨by simp, ?_⟩
        repeat (first | (with_reducible exact Ext.refl _) | (with_reducible refine Ext.alloc ?_ _) | (with_reducible apply Ext.setC; focus (simp <;> omega)) | (with_reducible refine Ext.drew ?_) | (with_reducible refine Ext.drewN ?_ _) | (with_reducible refine Ext.trans ?_ (Hid.out ‹Hid (Ext _ _)›)))
      · have hl20 : ¬ (20 : Int) < (l.length : Int) := by omega
        have hm := HMA.out
        rw [if_neg h20] at hm
        have h8 := fun w => HA8.out (by omega) w
        by_cases hn : l = []
        · rw [if_pos (.inl hn)] at hm
          injection hm with hm1 hm2
          subst hm1 hm2
          rw [decide_eq_true hn] at hne
          clear hn h20 h8
          go_wp2_with fail
          (refine (law_codeBegun _).mono ?_; rintro e w9 ⟨rfl, h9⟩; have H9 := Lib.hid h9; have hz9 := h9.size; clear h9; (try simp only [World.size_alloc, size_set, World.heap_drewN, size_drew] at hz9); apply Row.use (w := w9) (g := w2.heap.size); (focus (repeat (first | (with_reducible exact Hid.out ‹Hid (Row _ _ _)›) | (with_reducible exact Row.newAt rfl) | (with_reducible apply Row.newAt; (simp; done)) | (with_reducible apply Row.set_) | (with_reducible apply Row.far; focus (simp <;> omega)) | (with_reducible apply Row.alloc) | (with_reducible apply Row.drew) | (with_reducible apply Row.drewN) | (with_reducible apply Row.ext (Hid.out ‹Hid (Ext _ _)›))))); intro q9_0 f9_0 l9_0 R9_0; (try simp only [List.setIfInBounds_toArray, List.set_cons_zero, List.set_cons_succ] at q9_0 R9_0); apply Row.use (w := w9) (g := w6.heap.size); (focus (repeat (first | (with_reducible exact Hid.out ‹Hid (Row _ _ _)›) | (with_reducible exact Row.newAt rfl) | (with_reducible apply Row.newAt; (simp; done)) | (with_reducible apply Row.set_) | (with_reducible apply Row.far; focus (simp <;> omega)) | (with_reducible apply Row.alloc) | (with_reducible apply Row.drew) | (with_reducible apply Row.drewN) | (with_reducible apply Row.ext (Hid.out ‹Hid (Ext _ _)›))))); intro q9_1 f9_1 l9_1 R9_1; (try simp only [List.setIfInBounds_toArray, List.set_cons_zero, List.set_cons_succ] at q9_1 R9_1))
          go_wp2_with fail
          go_ret
          refine ⟨by simp, ?_⟩
          repeat (first | (with_reducible exact Ext.refl _) | (with_reducible refine Ext.alloc ?_ _) | (with_reducible apply Ext.setC; focus (simp <;> omega)) | (with_reducible refine Ext.drew ?_) | (with_reducible refine Ext.drewN ?_ _) | (with_reducible refine Ext.trans ?_ (Hid.out ‹Hid (Ext _ _)›)))
        · rw [decide_eq_false hn] at hne
          cases hsg : areSigns l with
          | false =>
            have h7 := fun w => HA7.out w
            rw [hsg] at h7
            rw [if_pos (.inr hsg)] at hm
            injection hm with hm1 hm2
            subst hm1 hm2
            have HX7 := Lib.hid h7
            clear hn h20 h8 h7 hsg
            go_wp2_with fail
            refine (HX7.out _).mono ?_
            rintro e w7 ⟨rfl, rfl⟩
            go_wp2_with fail
            (refine (law_codeBegun _).mono ?_; rintro e w9 ⟨rfl, h9⟩; have H9 := Lib.hid h9; have hz9 := h9.size; clear h9; (try simp only [World.size_alloc, size_set, World.heap_drewN, size_drew] at hz9); apply Row.use (w := w9) (g := w2.heap.size); (focus (repeat (first | (with_reducible exact Hid.out ‹Hid (Row _ _ _)›) | (with_reducible exact Row.newAt rfl) | (with_reducible apply Row.newAt; (simp; done)) | (with_reducible apply Row.set_) | (with_reducible apply Row.far; focus (simp <;> omega)) | (with_reducible apply Row.alloc) | (with_reducible apply Row.drew) | (with_reducible apply Row.drewN) | (with_reducible apply Row.ext (Hid.out ‹Hid (Ext _ _)›))))); intro q9_0 f9_0 l9_0 R9_0; (try simp only [List.setIfInBounds_toArray, List.set_cons_zero, List.set_cons_succ] at q9_0 R9_0); apply Row.use (w := w9) (g := w6.heap.size); (focus (repeat (first | (with_reducible exact Hid.out ‹Hid (Row _ _ _)›) | (with_reducible exact Row.newAt rfl) | (with_reducible apply Row.newAt; (simp; done)) | (with_reducible apply Row.set_) | (with_reducible apply Row.far; focus (simp <;> omega)) | (with_reducible apply Row.alloc) | (with_reducible apply Row.drew) | (with_reducible apply Row.drewN) | (with_reducible apply Row.ext (Hid.out ‹Hid (Ext _ _)›))))); intro q9_1 f9_1 l9_1 R9_1; (try simp only [List.setIfInBounds_toArray, List.set_cons_zero, List.set_cons_succ] at q9_1 R9_1))
            go_wp2_with fail
            go_ret
            refine ⟨by simp, ?_⟩
            repeat (first | (with_reducible exact Ext.refl _) | (with_reducible refine Ext.alloc ?_ _) | (with_reducible apply Ext.setC; focus (simp <;> omega)) | (with_reducible refine Ext.drew ?_) | (with_reducible refine Ext.drewN ?_ _) | (with_reducible refine Ext.trans ?_ (Hid.out ‹Hid (Ext _ _)›)))
          | true =>
            have h7 := fun w => HA7.out w
            rw [hsg] at h7
            rw [if_neg (by rw [hsg]; simp [hn])] at hm
            injection hm with hm1 hm2
            subst hm1 hm2
            have HX7 := Lib.hid h7
            have HX8 := Lib.hid h8
            clear hn h20 h8 h7 hsg
            generalize markSign l = mk at *
            go_wp2_with fail
            refine (HX7.out _).mono ?_
            rintro e w7 ⟨rfl, rfl⟩
            go_wp2_with fail
            refine (HX8.out _).mono ?_
            rintro e w8 ⟨rfl, rfl⟩
            go_wp2_with fail
            (refine (law_codeBegun _).mono ?_; rintro e w9 ⟨rfl, h9⟩; have H9 := Lib.hid h9; have hz9 := h9.size; clear h9; (try simp only [World.size_alloc, size_set, World.heap_drewN, size_drew] at hz9); apply Row.use (w := w9) (g := w2.heap.size); (focus (repeat (first | (with_reducible exact Hid.out ‹Hid (Row _ _ _)›) | (with_reducible exact Row.newAt rfl) | (with_reducible apply Row.newAt; (simp; done)) | (with_reducible apply Row.set_) | (with_reducible apply Row.far; focus (simp <;> omega)) | (with_reducible apply Row.alloc) | (with_reducible apply Row.drew) | (with_reducible apply Row.drewN) | (with_reducible apply Row.ext (Hid.out ‹Hid (Ext _ _)›))))); intro q9_0 f9_0 l9_0 R9_0; (try simp only [List.setIfInBounds_toArray, List.set_cons_zero, List.set_cons_succ] at q9_0 R9_0); apply Row.use (w := w9) (g := w6.heap.size); (focus (repeat (first | (with_reducible exact Hid.out ‹Hid (Row _ _ _)›) | (with_reducible exact Row.newAt rfl) | (with_reducible apply Row.newAt; (simp; done)) | (with_reducible apply Row.set_) | (with_reducible apply Row.far; focus (simp <;> omega)) | (with_reducible apply Row.alloc) | (with_reducible apply Row.drew) | (with_reducible apply Row.drewN) | (with_reducible apply Row.ext (Hid.out ‹Hid (Ext _ _)›))))); intro q9_1 f9_1 l9_1 R9_1; (try simp only [List.setIfInBounds_toArray, List.set_cons_zero, List.set_cons_succ] at q9_1 R9_1))
            go_wp2_with fail
            go_ret
            refine ⟨by simp, ?_⟩
            repeat (first | (with_reducible exact Ext.refl _) | (with_reducible refine Ext.alloc ?_ _) | (with_reducible apply Ext.setC; focus (simp <;> omega)) | (with_reducible refine Ext.drew ?_) | (with_reducible refine Ext.drewN ?_ _) | (with_reducible refine Ext.trans ?_ (Hid.out ‹Hid (Ext _ _)›)))
end Go.Proofs.Ytglifpoiildpfaa
