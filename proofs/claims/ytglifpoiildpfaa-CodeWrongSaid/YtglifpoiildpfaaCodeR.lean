/- leeboardlaw.CodeWrong answers true. -/
import Derived.Test.YtglifpoiildpfaaCodeQ
import Derived.Test.YtglifpoiildpfaaCodeP
import Derived.Test.YtglifpoiildpfaaEqB
namespace Go.Proofs.Ytglifpoiildpfaa
set_option linter.unusedSimpArgs false
set_option linter.unusedVariables false
open Go Go.RowKit Lb

theorem BRow.convAt {w : World} {g : Nat} (hg : g = w.heap.size) (l : List UInt8) (c : Nat) :
    BRow (w.alloc (.cells (bytesRow (bs l) c) 5 ((bytesRow (bs l) c).size, (bytesRow (bs l) c).size + 1))) g (l.map fun c => (c.toNat : Int)) := by
  subst hg; exact BRow.conv l c

set_option maxRecDepth 100000 in
set_option maxHeartbeats 4000000 in
theorem law_CodeWrong (t : Tk) (n : Int) (s : Int) (hs0 : 0 ≤ s ∧ s ≤ 255) (w : World) :
    Calls Try.prog 10 #[.agg (tkc t), .int .i64 n, .int .u8 s] w fun e w' => e = .returned (.bool true) ∧ Ext w w' := by
  obtain ⟨c, rfl⟩ : ∃ c : UInt8, s = c.toNat := ⟨UInt8.ofNat s.toNat, by simp; omega⟩
  clear hs0
  have hpr := fun w => code_Print t w
  have hem := bs_nil
  by_cases e1 : ckTicket t = 0
  · rw [print_ok e1, e1] at hpr
    have h14 := codeOf_length t
    have hsg := codeOf_signs t
    have hft := code_fits t
    have hpc := parse_code e1
    have hps := fun w => code_Parse (codeOf t) (by rw [h14]; omega) w
    have hpe : parseE (codeOf t) = 0 := by unfold parseE; rw [hpc]; rfl
    rw [hpe, hpc] at hps
    simp only [Option.getD_some] at hps
    generalize codeOf t = C at *
    clear e1 hpc hpe
    obtain ⟨a, b, c', d, x, f⟩ := t
    have hneq := neq_tk' a b c' d x f a b c' d x f
    rw [decide_eq_true rfl] at hneq
    simp only [tkc] at hpr hps ⊢
    have HPR := Lib.hid hpr
    have HPS := Lib.hid hps
    have HSG := Lib.hid hsg
    have HFT := Lib.hid hft
    have H14 := Lib.hid h14
    have hsz : (bs C).size = 14 := by rw [bs_size]; exact h14
    clear hpr hps hsg hft h14
    by_cases hin : n < 0 ∨ 14 ≤ n
    · rcases hin with hn0 | hn14
      all_goals
        go_enter Try.func10, Try.ntmps10
        go_wp2_with fail
        (refine (HPR.out _).mono ?_; rintro e w1 ⟨rfl, h1⟩; have H1 := Lib.hid h1; have hz1 := h1.size; clear h1; (try simp only [World.size_alloc, size_set, World.heap_drewN, size_drew] at hz1); apply Row.use (w := w1) (g := w.heap.size); (focus (repeat (first | (with_reducible exact Hid.out ‹Hid (Row _ _ _)›) | (with_reducible exact Row.newAt rfl) | (with_reducible apply Row.newAt; (simp; done)) | (with_reducible apply Row.set_) | (with_reducible apply Row.far; focus (simp <;> omega)) | (with_reducible apply Row.alloc) | (with_reducible apply Row.drew) | (with_reducible apply Row.drewN) | (with_reducible apply Row.ext (Hid.out ‹Hid (Ext _ _)›))))); intro q1_0 f1_0 l1_0 R1_0; (try simp only [List.setIfInBounds_toArray, List.set_cons_zero, List.set_cons_succ] at q1_0 R1_0))
        go_wp2_with fail
        (refine (law_codeBegun _).mono ?_; rintro e w2 ⟨rfl, h2⟩; have H2 := Lib.hid h2; have hz2 := h2.size; clear h2; (try simp only [World.size_alloc, size_set, World.heap_drewN, size_drew] at hz2); apply Row.use (w := w2) (g := w.heap.size); (focus (repeat (first | (with_reducible exact Hid.out ‹Hid (Row _ _ _)›) | (with_reducible exact Row.newAt rfl) | (with_reducible apply Row.newAt; (simp; done)) | (with_reducible apply Row.set_) | (with_reducible apply Row.far; focus (simp <;> omega)) | (with_reducible apply Row.alloc) | (with_reducible apply Row.drew) | (with_reducible apply Row.drewN) | (with_reducible apply Row.ext (Hid.out ‹Hid (Ext _ _)›))))); intro q2_0 f2_0 l2_0 R2_0; (try simp only [List.setIfInBounds_toArray, List.set_cons_zero, List.set_cons_succ] at q2_0 R2_0))
        go_wp2_with fail
        (refine (HPS.out _).mono ?_; rintro e w3 ⟨rfl, h3⟩; have H3 := Lib.hid h3; have hz3 := h3.size; clear h3; (try simp only [World.size_alloc, size_set, World.heap_drewN, size_drew] at hz3); apply Row.use (w := w3) (g := w.heap.size); (focus (repeat (first | (with_reducible exact Hid.out ‹Hid (Row _ _ _)›) | (with_reducible exact Row.newAt rfl) | (with_reducible apply Row.newAt; (simp; done)) | (with_reducible apply Row.set_) | (with_reducible apply Row.far; focus (simp <;> omega)) | (with_reducible apply Row.alloc) | (with_reducible apply Row.drew) | (with_reducible apply Row.drewN) | (with_reducible apply Row.ext (Hid.out ‹Hid (Ext _ _)›))))); intro q3_0 f3_0 l3_0 R3_0; (try simp only [List.setIfInBounds_toArray, List.set_cons_zero, List.set_cons_succ] at q3_0 R3_0))
        go_wp2_with fail
        go_ret
        refine ⟨by simp, ?_⟩
        repeat (first | (with_reducible exact Ext.refl _) | (with_reducible refine Ext.alloc ?_ _) | (with_reducible apply Ext.setC; focus (simp <;> omega)) | (with_reducible refine Ext.drew ?_) | (with_reducible refine Ext.drewN ?_ _) | (with_reducible refine Ext.trans ?_ (Hid.out ‹Hid (Ext _ _)›)))
    · obtain ⟨k, rfl⟩ := Int.eq_ofNat_of_zero_le (show 0 ≤ n by omega)
      have hk14 : k < 14 := by omega
      have hk14' : (k : Int) < 14 := by omega
      have hcv := fun (w : World) (s : ByteArray) => run_bytes_of_string (P := Try.prog) w 9 50 5 s Try.underlying9 Try.underlying50 Try.underlying5
      clear hin
      go_enter Try.func10, Try.ntmps10
      go_wp2_with fail
      (refine (HPR.out _).mono ?_; rintro e w1 ⟨rfl, h1⟩; have H1 := Lib.hid h1; have hz1 := h1.size; clear h1; (try simp only [World.size_alloc, size_set, World.heap_drewN, size_drew] at hz1); apply Row.use (w := w1) (g := w.heap.size); (focus (repeat (first | (with_reducible exact Hid.out ‹Hid (Row _ _ _)›) | (with_reducible exact Row.newAt rfl) | (with_reducible apply Row.newAt; (simp; done)) | (with_reducible apply Row.set_) | (with_reducible apply Row.far; focus (simp <;> omega)) | (with_reducible apply Row.alloc) | (with_reducible apply Row.drew) | (with_reducible apply Row.drewN) | (with_reducible apply Row.ext (Hid.out ‹Hid (Ext _ _)›))))); intro q1_0 f1_0 l1_0 R1_0; (try simp only [List.setIfInBounds_toArray, List.set_cons_zero, List.set_cons_succ] at q1_0 R1_0))
      go_wp2_with fail
      (refine (law_codeBegun _).mono ?_; rintro e w2 ⟨rfl, h2⟩; have H2 := Lib.hid h2; have hz2 := h2.size; clear h2; (try simp only [World.size_alloc, size_set, World.heap_drewN, size_drew] at hz2); apply Row.use (w := w2) (g := w.heap.size); (focus (repeat (first | (with_reducible exact Hid.out ‹Hid (Row _ _ _)›) | (with_reducible exact Row.newAt rfl) | (with_reducible apply Row.newAt; (simp; done)) | (with_reducible apply Row.set_) | (with_reducible apply Row.far; focus (simp <;> omega)) | (with_reducible apply Row.alloc) | (with_reducible apply Row.drew) | (with_reducible apply Row.drewN) | (with_reducible apply Row.ext (Hid.out ‹Hid (Ext _ _)›))))); intro q2_0 f2_0 l2_0 R2_0; (try simp only [List.setIfInBounds_toArray, List.set_cons_zero, List.set_cons_succ] at q2_0 R2_0))
      go_wp2_with fail
      (refine (HPS.out _).mono ?_; rintro e w3 ⟨rfl, h3⟩; have H3 := Lib.hid h3; have hz3 := h3.size; clear h3; (try simp only [World.size_alloc, size_set, World.heap_drewN, size_drew] at hz3); apply Row.use (w := w3) (g := w.heap.size); (focus (repeat (first | (with_reducible exact Hid.out ‹Hid (Row _ _ _)›) | (with_reducible exact Row.newAt rfl) | (with_reducible apply Row.newAt; (simp; done)) | (with_reducible apply Row.set_) | (with_reducible apply Row.far; focus (simp <;> omega)) | (with_reducible apply Row.alloc) | (with_reducible apply Row.drew) | (with_reducible apply Row.drewN) | (with_reducible apply Row.ext (Hid.out ‹Hid (Ext _ _)›))))); intro q3_0 f3_0 l3_0 R3_0; (try simp only [List.setIfInBounds_toArray, List.set_cons_zero, List.set_cons_succ] at q3_0 R3_0))
      go_upto_region 11 with fail
      go_cut [10] (fun s10 wx => ∃ g cap, s10 = .slice (some ⟨g, 0, none⟩) 14 cap ∧ w.heap.size ≤ g ∧ Aside (Ext w wx ∧ BRow wx g (C.map fun c => (c.toNat : Int))))
      case first =>
        go_wp2_with fail
        go_meet
        case rel =>
          refine ⟨_, _, rfl, ?_, by repeat (first | (with_reducible exact Ext.refl _) | (with_reducible refine Ext.alloc ?_ _) | (with_reducible apply Ext.setC; focus (simp <;> omega)) | (with_reducible refine Ext.drew ?_) | (with_reducible refine Ext.drewN ?_ _) | (with_reducible refine Ext.trans ?_ (Hid.out ‹Hid (Ext _ _)›))), (BRow.convAt (by simp) C _).drew⟩
          omega
      case rest =>
        obtain ⟨g, cap, rfl, hgw, HW⟩ := hcut
        obtain ⟨hE, hR⟩ := HW.out
        have hkC : k < C.length := by rw [H14.out]; exact hk14
        have hkm : k < (C.map fun c => (c.toNat : Int)).length := by simpa using hkC
        have hcell := hR.2.1 k hkm
        have hfz := hR.2.2 k hkm
        have hgs := hR.1
        have hset := hR.set_ k hkm (c.toNat : Int)
        rw [nums_set] at hset
        have hrun := fun cap => hset.conv_run (n := 14) (c := cap) (by simp [H14.out])
        rw [strOfNums_back] at hrun
        have hxk : (C.map fun c => (c.toNat : Int))[k] = (C[k].toNat : Int) := by simp
        rw [hxk] at hcell
        have how := fun hc => one_wrong H14.out HSG.out HFT.out k hk14 c hc
        have hpw := fun w => code_Parse (C.set k c) (by rw [List.length_set, H14.out]; omega) w
        have HOW := Lib.hid how
        have HPW := Lib.hid hpw
        have HE := Lib.hid hE
        have hbq := beq_u8 C[k] c
        have hbn : ((C[k].toNat : Int) != (c.toNat : Int)) = !(C[k] == c) := by rw [← hbq]; rfl
        generalize hX : C[k] = xk at hcell hbn
        have HX := Lib.hid hX
        clear hset hR hE HW hkm hxk how hpw hbq hX
        generalize hz : (!(xk == c)) = z at hbn
        have HZ := Lib.hid hz
        clear hz
        go_upto_if 58 with fail
        go_cut [] (fun wx => Aside (Ext w wx))
        case first =>
          cases z with
          | false =>
            go_wp2_with fail
            go_meet
            case rel => exact HE.out
          | true =>
            have hpw := fun w => HPW.out w
            unfold parseE at hpw
            have hlc : xk ≠ c := by
              intro e
              have := HZ.out
              rw [e] at this
              simp at this
            rw [HOW.out (by rw [HX.out]; exact hlc)] at hpw
            simp only [Option.getD_none, tkc, tk0] at hpw
            have HPW2 := Lib.hid hpw
            clear hpw hlc
            go_wp2_with fail
            refine (HPW2.out _).mono ?_
            rintro e w5 ⟨rfl, h5⟩
            have H5 := Lib.hid h5
            clear h5
            go_wp2_with fail
            go_meet
            case rel =>
              exact ((HE.out.setCell (by simpa using hgw) _).trans H5.out).alloc _
        case rest =>
          clear hcell hfz hgs hrun hbn HX HZ hkC hgw
          have HE2 : Hid (Ext w wc) := hcut
          clear hcut HE HOW HPW
          by_cases hk12 : 14 ≤ k + 2
          · have hk12' : (14 : Int) ≤ (k : Int) + 2 := by omega
            have hk12d : decide ((14 : Int) ≤ (k : Int) + 2) = true := by simpa using hk12'
            go_wp2_with fail
            go_quiet (fail)
            go_wp2_with fail
            go_ret
            exact ⟨rfl, HE2.out.drewN _⟩
          · have hk12' : ¬ (14 : Int) ≤ (k : Int) + 2 := by omega
            have hk12d : decide ((14 : Int) ≤ (k : Int) + 2) = false := decide_eq_false hk12'
            have hw1 : IntKind.i64.wrap ((k : Int) + 1) = (k : Int) + 1 := IntWalk.i64_in _ (by omega)
            have hw2 : IntKind.i64.wrap ((k : Int) + 2) = (k : Int) + 2 := IntWalk.i64_in _ (by omega)
            have hp1 : (0 : Int) ≤ (k : Int) + 1 := by omega
            have ht1 : ((k : Int) + 1).toNat = k + 1 := by omega
            have hl1 : (k : Int) + 1 < 14 := by omega
            have hkC : k < C.length := by rw [H14.out]; omega
            have hkC1 : k + 1 < C.length := by rw [H14.out]; omega
            have hg0 : ∀ h, (bs C)[k]'h = C[k]'hkC := fun h => rfl
            have hg1 : ∀ h, (bs C)[k + 1]'h = C[k + 1]'hkC1 := fun h => rfl
            have htw := two_wrong H14.out HSG.out HFT.out k (show k + 2 < 14 by omega)
            have hpw := fun w => code_Parse ((C.set k C[k + 1]).set (k + 1) C[k]) (by rw [List.length_set, List.length_set, H14.out]; omega) w
            have hbq := beq_u8 C[k] C[k + 1]
            by_cases hcc : C[k] = C[k + 1]
            · rw [beq_iff_eq.2 hcc] at hbq
              clear htw hpw hcc
              generalize C[k] = x0 at *
              generalize C[k + 1] = x1 at *
              clear hkC hkC1
              go_wp2_with fail
              go_quiet (fail)
              go_wp2_with fail
              go_ret
              exact ⟨rfl, HE2.out.drewN _⟩
            · rw [beq_eq_false_iff_ne.2 hcc] at hbq
              have htw := htw hcc
              unfold parseE at hpw
              rw [htw] at hpw
              simp only [Option.getD_none, tkc, tk0] at hpw
              clear htw hcc
              have HPW := Lib.hid hpw
              clear hpw
              generalize hx0 : C[k] = x0 at *
              generalize hx1 : C[k + 1] = x1 at *
              have HX0 := Lib.hid hx0
              have HX1 := Lib.hid hx1
              clear hx0 hx1
              go_wp2_with fail
              go_quiet (fail)
              have HE3 := Lib.hid (HE2.out.drewN nq)
              go_upto_region 19 with fail
              go_cut [10] (fun s10 wx => ∃ g cap, s10 = .slice (some ⟨g, 0, none⟩) 14 cap ∧ w.heap.size ≤ g ∧ Aside (Ext w wx ∧ BRow wx g (C.map fun c => (c.toNat : Int))))
              case first =>
                go_wp2_with fail
                go_meet
                case rel =>
                  have := HE3.out.size
                  refine ⟨_, _, rfl, ?_, ?_, ?_⟩
                  · exact this
                  · exact (HE2.out.drewN _).alloc _
                  · exact BRow.convAt rfl C _
              case rest =>
                obtain ⟨g2, cap2, rfl, hgw2, HW⟩ := hcut
                obtain ⟨hE, hR⟩ := HW.out
                have HE4 := Lib.hid hE
                have hkm : k < (C.map fun c => (c.toNat : Int)).length := by simpa using hkC
                have hkm1 : k + 1 < (C.map fun c => (c.toNat : Int)).length := by simpa using hkC1
                have hc0 := hR.2.1 k hkm
                have hc1 := hR.2.1 (k + 1) hkm1
                have hf0 := hR.2.2 k hkm
                have hf1 := hR.2.2 (k + 1) hkm1
                have hgs := hR.1
                have hset := (hR.set_ k hkm (x1.toNat : Int)).set_ (k + 1) (by simpa using hkC1) (x0.toNat : Int)
                rw [nums_set, nums_set] at hset
                have hset2 := (hR.set_ (k + 1) hkm1 (x0.toNat : Int)).set_ k (by simpa using hkC) (x1.toNat : Int)
                rw [nums_set, nums_set, List.set_comm _ _ (by omega)] at hset2
                generalize (C.map fun c => (c.toNat : Int))[k] = y0 at hc0
                generalize (C.map fun c => (c.toNat : Int))[k + 1] = y1 at hc1
                have HS := Lib.hid hset
                have HS2 := Lib.hid hset2
                clear hset hset2 hR hE HW hkm hkm1
                go_upto_region 20 with fail
                go_cut [] (fun wx => Aside (Ext w wx ∧ BRow wx g2 (((C.set k x1).set (k + 1) x0).map fun c => (c.toNat : Int))))
                case first =>
                  go_region
                  all_goals
                    go_wp2_with fail
                    go_meet
                    case rel =>
                      exact ⟨((HE4.out.setCell (by simpa using hgw2) _).setCell (by simpa using hgw2) _).drew, HS.out.drew⟩
                case rest =>
                  obtain ⟨hE, hR⟩ := hcut.out
                  have HE5 := Lib.hid hE
                  have hrun := fun cap => hR.conv_run (n := 14) (c := cap) (by simp [H14.out])
                  rw [strOfNums_back] at hrun
                  clear hE hR hcut HS HS2 hc0 hc1 hf0 hf1
                  go_wp2_with fail
                  refine (HPW.out _).mono ?_
                  rintro e w6 ⟨rfl, h6⟩
                  have H6 := Lib.hid h6
                  clear h6
                  go_wp2_with fail
                  go_ret
                  refine ⟨by simp, ?_⟩
                  exact (HE5.out.trans H6.out).alloc _
  · rw [print_no e1] at hpr
    have hb : (ckTicket t != 0) = true := by simpa using e1
    generalize ckTicket t = q at *
    clear e1
    obtain ⟨a, b, c', d, x, f⟩ := t
    simp only [tkc] at hpr ⊢
    have HPR := Lib.hid hpr
    clear hpr
    go_enter Try.func10, Try.ntmps10
    go_wp2_with fail
    (refine (HPR.out _).mono ?_; rintro e w1 ⟨rfl, h1⟩; have H1 := Lib.hid h1; have hz1 := h1.size; clear h1; (try simp only [World.size_alloc, size_set, World.heap_drewN, size_drew] at hz1); apply Row.use (w := w1) (g := w.heap.size); (focus (repeat (first | (with_reducible exact Hid.out ‹Hid (Row _ _ _)›) | (with_reducible exact Row.newAt rfl) | (with_reducible apply Row.newAt; (simp; done)) | (with_reducible apply Row.set_) | (with_reducible apply Row.far; focus (simp <;> omega)) | (with_reducible apply Row.alloc) | (with_reducible apply Row.drew) | (with_reducible apply Row.drewN) | (with_reducible apply Row.ext (Hid.out ‹Hid (Ext _ _)›))))); intro q1_0 f1_0 l1_0 R1_0; (try simp only [List.setIfInBounds_toArray, List.set_cons_zero, List.set_cons_succ] at q1_0 R1_0))
    go_wp2_with fail
    (refine (law_codeBegun _).mono ?_; rintro e w2 ⟨rfl, h2⟩; have H2 := Lib.hid h2; have hz2 := h2.size; clear h2; (try simp only [World.size_alloc, size_set, World.heap_drewN, size_drew] at hz2); apply Row.use (w := w2) (g := w.heap.size); (focus (repeat (first | (with_reducible exact Hid.out ‹Hid (Row _ _ _)›) | (with_reducible exact Row.newAt rfl) | (with_reducible apply Row.newAt; (simp; done)) | (with_reducible apply Row.set_) | (with_reducible apply Row.far; focus (simp <;> omega)) | (with_reducible apply Row.alloc) | (with_reducible apply Row.drew) | (with_reducible apply Row.drewN) | (with_reducible apply Row.ext (Hid.out ‹Hid (Ext _ _)›))))); intro q2_0 f2_0 l2_0 R2_0; (try simp only [List.setIfInBounds_toArray, List.set_cons_zero, List.set_cons_succ] at q2_0 R2_0))
    go_wp2_with fail
    go_ret
    refine ⟨by simp, ?_⟩
    repeat (first | (with_reducible exact Ext.refl _) | (with_reducible refine Ext.alloc ?_ _) | (with_reducible apply Ext.setC; focus (simp <;> omega)) | (with_reducible refine Ext.drew ?_) | (with_reducible refine Ext.drewN ?_ _) | (with_reducible refine Ext.trans ?_ (Hid.out ‹Hid (Ext _ _)›)))
end Go.Proofs.Ytglifpoiildpfaa
