/- leeboardlaw.CodeMark answers true. -/
import Derived.Test.YtglifpoiildpfaaCodeO
namespace Go.Proofs.Ytglifpoiildpfaa
set_option linter.unusedSimpArgs false
set_option linter.unusedVariables false
open Go Go.RowKit Lb

theorem bs_one (c : UInt8) (h : 0 < (bs [c]).size) : (bs [c])[0] = c := rfl
theorem nums_set (l : List UInt8) (n : Nat) (c : UInt8) : (l.map fun c => (c.toNat : Int)).set n (c.toNat : Int) = (l.set n c).map fun c => (c.toNat : Int) := by rw [List.map_set]

set_option maxRecDepth 100000 in
set_option maxHeartbeats 4000000 in
theorem law_CodeMark (l : List UInt8) (hm : l.length ≤ 9223372036854775807) (n : Int) (s : Int) (hs0 : 0 ≤ s ∧ s ≤ 255) (w : World) :
    Calls Try.prog 11 #[.string (bs l), .int .i64 n, .int .u8 s] w fun e w' => e = .returned (.bool true) ∧ Ext w w' := by
  obtain ⟨c, rfl⟩ : ∃ c : UInt8, s = c.toNat := ⟨UInt8.ofNat s.toNat, by simp; omega⟩
  clear hs0
  have hsz := bs_size l
  have hmk := fun w => code_Mark l hm w
  have hem := bs_nil
  by_cases h20 : 20 < l.length
  · rw [show markAll l = ([], 2) from if_pos h20] at hmk
    clear h20
    have HM := Lib.hid hmk
    clear hmk
    go_enter Try.func11, Try.ntmps11
    go_wp2_with fail
    (refine (HM.out _).mono ?_; rintro e w1 ⟨rfl, h1⟩; have H1 := Lib.hid h1; have hz1 := h1.size; clear h1; (try simp only [World.size_alloc, size_set, World.heap_drewN, size_drew] at hz1))
    go_wp2_with fail
    (refine (law_codeBegun _).mono ?_; rintro e w2 ⟨rfl, h2⟩; have H2 := Lib.hid h2; have hz2 := h2.size; clear h2; (try simp only [World.size_alloc, size_set, World.heap_drewN, size_drew] at hz2))
    go_wp2_with fail
    go_ret
    refine ⟨by simp, ?_⟩
    repeat (first | (with_reducible exact Ext.refl _) | (with_reducible refine Ext.alloc ?_ _) | (with_reducible apply Ext.setC; focus (simp <;> omega)) | (with_reducible refine Ext.drew ?_) | (with_reducible refine Ext.drewN ?_ _) | (with_reducible refine Ext.trans ?_ (Hid.out ‹Hid (Ext _ _)›)))
  · by_cases h1 : l = [] ∨ areSigns l = false
    · rw [show markAll l = ([], 1) from by unfold markAll; rw [if_neg h20, if_pos h1]] at hmk
      clear h20 h1
      have HM := Lib.hid hmk
      clear hmk
      go_enter Try.func11, Try.ntmps11
      go_wp2_with fail
      (refine (HM.out _).mono ?_; rintro e w1 ⟨rfl, h1⟩; have H1 := Lib.hid h1; have hz1 := h1.size; clear h1; (try simp only [World.size_alloc, size_set, World.heap_drewN, size_drew] at hz1))
      go_wp2_with fail
      (refine (law_codeBegun _).mono ?_; rintro e w2 ⟨rfl, h2⟩; have H2 := Lib.hid h2; have hz2 := h2.size; clear h2; (try simp only [World.size_alloc, size_set, World.heap_drewN, size_drew] at hz2))
      go_wp2_with fail
      go_ret
      refine ⟨by simp, ?_⟩
      repeat (first | (with_reducible exact Ext.refl _) | (with_reducible refine Ext.alloc ?_ _) | (with_reducible apply Ext.setC; focus (simp <;> omega)) | (with_reducible refine Ext.drew ?_) | (with_reducible refine Ext.drewN ?_ _) | (with_reducible refine Ext.trans ?_ (Hid.out ‹Hid (Ext _ _)›)))
    · rw [show markAll l = ([markSign l], 0) from by unfold markAll; rw [if_neg h20, if_neg h1]] at hmk
      have hsg : areSigns l = true := by cases h : areSigns l with
        | true => rfl
        | false => exact absurd (.inr h) h1
      have hvm := fun w => ref_ValueOf (markSign l) w
      have hvc := fun w => ref_ValueOf c w
      have hmv := markVal_lt l
      rw [markSign_value] at hvm
      have hs1 := bs_size [markSign l]
      rw [List.length_singleton] at hs1
      have hg0 : ∀ h, (bs [markSign l])[0]'h = markSign l := fun h => rfl
      have hmo := fun n hn hc0 hc => mark_other (l := l) (by omega) hsg n hn c hc0 hc
      have hmk2 := fun (n : Nat) w => code_Mark (l.set n c) (by rw [List.length_set]; exact hm) w
      have hml : ∀ n : Nat, areSigns (l.set n c) = true → markAll (l.set n c) = ([markSign (l.set n c)], 0) := by
        intro n hh
        unfold markAll
        rw [if_neg (by rw [List.length_set]; omega), if_neg]
        rintro (h | h)
        · exact h1 (.inl (by simpa using h))
        · rw [hh] at h; cases h
      have HMO := Lib.hid hmo
      have HMK2 := Lib.hid hmk2
      have HML := Lib.hid hml
      generalize markVal l = mv at hvm hmv
      have HVM := Lib.hid hvm
      have HVC := Lib.hid hvc
      generalize hM : markSign l = mk at *
      have HM0 := Lib.hid hM
      have HM := Lib.hid hmk
      clear hmk hvm hvc hM hmo hmk2 hml h1 hsg h20
      by_cases hn0 : n < 0
      · go_enter Try.func11, Try.ntmps11
        go_wp2_with fail
        (refine (HM.out _).mono ?_; rintro e w1 ⟨rfl, h1⟩; have H1 := Lib.hid h1; have hz1 := h1.size; clear h1; (try simp only [World.size_alloc, size_set, World.heap_drewN, size_drew] at hz1))
        go_wp2_with fail
        (refine (law_codeBegun _).mono ?_; rintro e w2 ⟨rfl, h2⟩; have H2 := Lib.hid h2; have hz2 := h2.size; clear h2; (try simp only [World.size_alloc, size_set, World.heap_drewN, size_drew] at hz2))
        go_wp2_with fail
        refine (HVM.out _).mono ?_
        rintro e w3 ⟨rfl, rfl⟩
        go_wp2_with fail
        go_ret
        refine ⟨by simp, ?_⟩
        repeat (first | (with_reducible exact Ext.refl _) | (with_reducible refine Ext.alloc ?_ _) | (with_reducible apply Ext.setC; focus (simp <;> omega)) | (with_reducible refine Ext.drew ?_) | (with_reducible refine Ext.drewN ?_ _) | (with_reducible refine Ext.trans ?_ (Hid.out ‹Hid (Ext _ _)›)))
      · obtain ⟨k, rfl⟩ := Int.eq_ofNat_of_zero_le (show 0 ≤ n by omega)
        by_cases hk : k < l.length
        · have hk' : (k : Int) < (l.length : Int) := by omega
          have hkb : k < (bs l).size := by omega
          have hget : (bs l)[k]'hkb = l[k] := rfl
          have hbq := beq_u8 l[k] c
          have hmo := fun hc0 hc => HMO.out k hk hc0 hc
          by_cases hlc : l[k] = c
          · rw [beq_iff_eq.2 hlc] at hbq
            clear hmo hlc
            generalize l[k] = x at hget hbq
            go_enter Try.func11, Try.ntmps11
            go_wp2_with fail
            (refine (HM.out _).mono ?_; rintro e w1 ⟨rfl, h1⟩; have H1 := Lib.hid h1; have hz1 := h1.size; clear h1; (try simp only [World.size_alloc, size_set, World.heap_drewN, size_drew] at hz1))
            go_wp2_with fail
            (refine (law_codeBegun _).mono ?_; rintro e w2 ⟨rfl, h2⟩; have H2 := Lib.hid h2; have hz2 := h2.size; clear h2; (try simp only [World.size_alloc, size_set, World.heap_drewN, size_drew] at hz2))
            go_wp2_with fail
            refine (HVM.out _).mono ?_
            rintro e w3 ⟨rfl, rfl⟩
            go_wp2_with fail
            go_ret
            refine ⟨by simp, ?_⟩
            repeat (first | (with_reducible exact Ext.refl _) | (with_reducible refine Ext.alloc ?_ _) | (with_reducible apply Ext.setC; focus (simp <;> omega)) | (with_reducible refine Ext.drew ?_) | (with_reducible refine Ext.drewN ?_ _) | (with_reducible refine Ext.trans ?_ (Hid.out ‹Hid (Ext _ _)›)))
          · rw [beq_eq_false_iff_ne.2 hlc] at hbq
            have hmo := fun hc0 => hmo hc0 hlc
            have HMO2 := Lib.hid hmo
            clear hmo hlc
            generalize hx : l[k] = x at hget hbq
            clear hx
            by_cases hv : valueOf c < 0
            · go_enter Try.func11, Try.ntmps11
              go_wp2_with fail
              (refine (HM.out _).mono ?_; rintro e w1 ⟨rfl, h1⟩; have H1 := Lib.hid h1; have hz1 := h1.size; clear h1; (try simp only [World.size_alloc, size_set, World.heap_drewN, size_drew] at hz1))
              go_wp2_with fail
              (refine (law_codeBegun _).mono ?_; rintro e w2 ⟨rfl, h2⟩; have H2 := Lib.hid h2; have hz2 := h2.size; clear h2; (try simp only [World.size_alloc, size_set, World.heap_drewN, size_drew] at hz2))
              go_wp2_with fail
              refine (HVM.out _).mono ?_
              rintro e w3 ⟨rfl, rfl⟩
              go_wp2_with fail
              refine (HVC.out _).mono ?_
              rintro e w3 ⟨rfl, rfl⟩
              go_wp2_with fail
              go_ret
              refine ⟨by simp, ?_⟩
              repeat (first | (with_reducible exact Ext.refl _) | (with_reducible refine Ext.alloc ?_ _) | (with_reducible apply Ext.setC; focus (simp <;> omega)) | (with_reducible refine Ext.drew ?_) | (with_reducible refine Ext.drewN ?_ _) | (with_reducible refine Ext.trans ?_ (Hid.out ‹Hid (Ext _ _)›)))
            · obtain ⟨hs2, hne⟩ := HMO2.out (by omega)
              have hmk2 := fun w => HMK2.out k w
              rw [HML.out k hs2] at hmk2
              have hbe : ((bs [markSign (l.set k c)]).toList == (bs [mk]).toList) = false := by
                rw [bs_beq, decide_eq_false]
                simpa using hne
              generalize markSign (l.set k c) = mk2 at hmk2 hbe
              have hcv := fun (w : World) (s : ByteArray) => run_bytes_of_string (P := Try.prog) w 9 50 5 s Try.underlying9 Try.underlying50 Try.underlying5
              have HK2 := Lib.hid hmk2
              clear hmk2 hs2 hne
              go_enter Try.func11, Try.ntmps11
              go_wp2_with fail
              (refine (HM.out _).mono ?_; rintro e w1 ⟨rfl, h1⟩; have H1 := Lib.hid h1; have hz1 := h1.size; clear h1; (try simp only [World.size_alloc, size_set, World.heap_drewN, size_drew] at hz1))
              go_wp2_with fail
              (refine (law_codeBegun _).mono ?_; rintro e w2 ⟨rfl, h2⟩; have H2 := Lib.hid h2; have hz2 := h2.size; clear h2; (try simp only [World.size_alloc, size_set, World.heap_drewN, size_drew] at hz2))
              go_wp2_with fail
              refine (HVM.out _).mono ?_
              rintro e w3 ⟨rfl, rfl⟩
              go_wp2_with fail
              refine (HVC.out _).mono ?_
              rintro e w3 ⟨rfl, rfl⟩
              go_upto_region 10 with fail
              go_cut [9] (fun s9 wx => ∃ g cap, s9 = .slice (some ⟨g, 0, none⟩) l.length cap ∧ w.heap.size ≤ g ∧ Aside (Ext w wx ∧ BRow wx g (l.map fun c => (c.toNat : Int))))
              case first =>
                go_wp2_with fail
                go_meet
                case rel =>
                  refine ⟨_, _, rfl, ?_, by repeat (first | (with_reducible exact Ext.refl _) | (with_reducible refine Ext.alloc ?_ _) | (with_reducible apply Ext.setC; focus (simp <;> omega)) | (with_reducible refine Ext.drew ?_) | (with_reducible refine Ext.drewN ?_ _) | (with_reducible refine Ext.trans ?_ (Hid.out ‹Hid (Ext _ _)›))), (BRow.conv l _).drew⟩
                  omega
              case rest =>
                obtain ⟨g, cap, rfl, hgw, HW⟩ := hcut
                obtain ⟨hE, hR⟩ := HW.out
                have hkm : k < (l.map fun c => (c.toNat : Int)).length := by simpa using hk
                have hcell := hR.2.1 k hkm
                have hfz := hR.2.2 k hkm
                have hgs := hR.1
                have hset := hR.set_ k hkm (c.toNat : Int)
                rw [nums_set] at hset
                have hrun := fun cap => hset.conv_run (n := l.length) (c := cap) (by simp)
                rw [strOfNums_back] at hrun
                generalize (l.map fun c => (c.toNat : Int))[k] = yk at hcell
                have HE := Lib.hid hE
                clear hset hR hE HW hkm
                go_wp2_with fail
                refine (HK2.out _).mono ?_
                rintro e w5 ⟨rfl, h5⟩
                have H5 := Lib.hid h5
                clear h5
                go_wp2_with fail
                go_ret
                refine ⟨by simp, ?_⟩
                exact (HE.out.setCell (by simpa using hgw) _).trans H5.out
        · have hk' : (l.length : Int) ≤ (k : Int) := by omega
          go_enter Try.func11, Try.ntmps11
          go_wp2_with fail
          (refine (HM.out _).mono ?_; rintro e w1 ⟨rfl, h1⟩; have H1 := Lib.hid h1; have hz1 := h1.size; clear h1; (try simp only [World.size_alloc, size_set, World.heap_drewN, size_drew] at hz1))
          go_wp2_with fail
          (refine (law_codeBegun _).mono ?_; rintro e w2 ⟨rfl, h2⟩; have H2 := Lib.hid h2; have hz2 := h2.size; clear h2; (try simp only [World.size_alloc, size_set, World.heap_drewN, size_drew] at hz2))
          go_wp2_with fail
          refine (HVM.out _).mono ?_
          rintro e w3 ⟨rfl, rfl⟩
          go_wp2_with fail
          go_ret
          refine ⟨by simp, ?_⟩
          repeat (first | (with_reducible exact Ext.refl _) | (with_reducible refine Ext.alloc ?_ _) | (with_reducible apply Ext.setC; focus (simp <;> omega)) | (with_reducible refine Ext.drew ?_) | (with_reducible refine Ext.drewN ?_ _) | (with_reducible refine Ext.trans ?_ (Hid.out ‹Hid (Ext _ _)›)))
end Go.Proofs.Ytglifpoiildpfaa
