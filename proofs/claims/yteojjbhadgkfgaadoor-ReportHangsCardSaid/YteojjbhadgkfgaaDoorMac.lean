/- Mac: parts of the proofs, laid together. -/
import Derived.Test.YteojjbhadgkfgaaDoorMab
import Derived.Test.YteojjbhadgkfgaaDoorMb
import Derived.Test.YteojjbhadgkfgaaDoorMw
import Derived.Test.YteojjbhadgkfgaaDoorMk
import Derived.Test.YteojjbhadgkfgaaDoorMc
import Derived.Test.YteojjbhadgkfgaaDoorMs
/- The reference's LineOf. -/
namespace Go.Proofs.YteojjbhadgkfgaaDoor
set_option linter.unusedSimpArgs false
set_option linter.unusedVariables false
set_option maxRecDepth 100000
open Go Go.RowKit Lb

end Go.Proofs.YteojjbhadgkfgaaDoor

/- The reference's TextOf. -/
namespace Go.Proofs.YteojjbhadgkfgaaDoor
set_option linter.unusedSimpArgs false
set_option linter.unusedVariables false
set_option maxRecDepth 100000
open Go Go.RowKit Lb

end Go.Proofs.YteojjbhadgkfgaaDoor

/- What must be in any case of reports. -/
namespace Go.Proofs.YteojjbhadgkfgaaDoor
set_option linter.unusedSimpArgs false
set_option linter.unusedVariables false
set_option maxRecDepth 100000
open Go Go.RowKit Lb

theorem dI0 : decI 0 = [48] := dec_one (n := 0) (by decide)
theorem dI1 : decI 1 = [49] := dec_one (n := 1) (by decide)
theorem dI20 : decI 20 = [50, 48] := dec_two (n := 20) (by decide) (by decide)
theorem dI60 : decI 60 = [54, 48] := dec_two (n := 60) (by decide) (by decide)
def begL : List UInt8 := [32, 49, 47, 48, 32, 114, 48, 64, 50, 48, 32, 99, 49, 64, 54, 48]
def begT : List UInt8 := [32, 48, 47, 49, 10]
theorem rep_line : lineAll bookL 1 = (codeOf (single 1) ++ begL, 0) := by
 have h1 : ckLedger bookL = 0 := by decide +kernel
 have h2 : ticketOf bookL.tickets 1 = some (single 1) := by decide +kernel
 have h3 : (((ridesOf bookL.taps bookL.verdicts (single 1).id).length : Nat) : Int) = 1 := by decide +kernel
 have h4 : restOf bookL (single 1) = 0 := by decide +kernel
 have h5 : tapsR bookL.taps bookL.verdicts (single 1).id bookL.taps.length = tapR ⟨1, 0, 1, 20, 1⟩ 1 ++ tapR ⟨1, 1, 1, 60, 1⟩ 2 := rfl
 unfold lineAll
 rw [h1, h2]
 simp only [ne_eq, not_true_eq_false, if_false]
 unfold lineR headR
 rw [h3, h4, h5]
 unfold tapR
 simp only [dI0, dI1, dI20, dI60, begL]
 simp
theorem rep_text : textAll hallS = ([108, 101, 97, 100, 101, 114, 32, 48, 10] ++ (codeOf (single 1) ++ begT), 0) := by
 have h1 : ckSt hallS = 0 := by decide +kernel
 have h2 : whoV hallS.views = (0, true) := by decide +kernel
 have h3 : (((ridesOf hallS.ledger.taps hallS.ledger.verdicts (single 1).id).length : Nat) : Int) = 0 := by decide +kernel
 have h4 : restOf hallS.ledger (single 1) = 1 := by decide +kernel
 rw [textAll_ok h1]
 have h5 : textR hallS = (leadR (whoV hallS.views) ++ lineR hallS.ledger (single 1)) ++ ([] ++ [10]) := rfl
 have h6 : tapsR hallS.ledger.taps hallS.ledger.verdicts (single 1).id hallS.ledger.taps.length = [] := rfl
 rw [h5, h2]
 unfold leadR lineR headR
 rw [h3, h4, h6]
 simp only [dI0, dI1, if_true, begT]
 simp
theorem beg_line (s0 s1 s2 : Value) (w : World) (HT : TabE w) (hr0 : RdL 6 tkc w s0 bookTk) (hr1 : RdL 5 tpc w s1 bookTp) (hr2 : RdL 1 inc w s2 [1, 2]) :
  Calls Tryd.prog 5 #[.agg #[s0, s1, s2], .int .i64 1] w fun e w' => e = .returned (.tuple #[.string (bs (codeOf (single 1) ++ begL)), .int .i64 0]) ∧ Ext w w' := by
 have h := report_Line bookTk bookTp [1, 2] s0 s1 s2 1 w HT hr0 hr1 hr2
 rw [show lineAll ⟨bookTk, bookTp, [1, 2]⟩ 1 = _ from rep_line] at h
 exact h
theorem beg_text (x : Sv) (w : World) (HT : TabE w) (hr : RdS w x hallS) :
  Calls Tryd.prog 6 #[.agg (sta hallS x)] w fun e w' => e = .returned (.tuple #[.string (bs ([108, 101, 97, 100, 101, 114, 32, 48, 10] ++ (codeOf (single 1) ++ begT))), .int .i64 0]) ∧ Ext w w' := by
 have h := report_Text hallS x w HT hr
 rw [rep_text] at h
 exact h
theorem beg_code (w : World) : Calls Tryd.prog 31 #[.agg #[.int .i64 1, .int .i64 1, .int .i64 10, .int .i64 500, .int .i64 15, .int .i64 0]] w fun e w' => e = .returned (.string (bs (codeOf (single 1)))) ∧ Ext w w' :=
 ref_CodeOf (single 1) (by decide) w
theorem bs_self (a : ByteArray) : (a.toList == a.toList) = true := beq_self_eq_true _
set_option maxHeartbeats 16000000 in
theorem law_reportBegun (w : World) (HT : TabE w) :
  Calls Tryd.prog 12 #[] w fun e w' => e = .returned (.bool true) ∧ Ext w w' := by
 have KL := Lib.hid (fun (s0 s1 s2 : Value) (w' : World) (h : Ext w w') => beg_line s0 s1 s2 w' (HT.ext h))
 have KT := Lib.hid (fun (x : Sv) (w' : World) (h : Ext w w') => beg_text x w' (HT.ext h))
 have KC := Lib.hid (fun (w' : World) => beg_code w')
 have KS := Lib.hid (fun (w' : World) => law_single 1 w')
 unfold tkc single at KS
 simp only at KS
 have hc := codeOf_length (single 1)
 generalize codeOf (single 1) = C at *
 have hs := bs_size C
 rw [hc] at hs
 have e1 : ((bs (C ++ begL)).toList == (bs C ++ ⟨#[32, 49, 47, 48, 32, 114, 48, 64, 50, 48, 32, 99, 49, 64, 54, 48]⟩ : ByteArray).toList) = true := by rw [← bs_app]; exact bs_self _
 have e2 : ((bs ([108, 101, 97, 100, 101, 114, 32, 48, 10] ++ (C ++ begT))).toList == (⟨#[108, 101, 97, 100, 101, 114, 32, 48, 10]⟩ ++ bs C ++ ⟨#[32, 48, 47, 49, 10]⟩ : ByteArray).toList) = true := by
  rw [← bs_app, ← bs_app, ← ByteArray.append_assoc]; exact bs_self _
 generalize bs (C ++ begL) = B1 at *
 generalize bs ([108, 101, 97, 100, 101, 114, 32, 48, 10] ++ (C ++ begT)) = B2 at *
 clear hc
 go_enter Tryd.func12, Tryd.ntmps12
 go_wp2_with fail
 refine (law_book _).mono ?_
 rintro e w1 ⟨s0, s1, s2, rfl, h1, ha, hb, hc⟩
 have HA1 := Lib.hid ha
 have HB1 := Lib.hid hb
 have HC1 := Lib.hid hc
 obtain ⟨A0, c0, rfl, -, -⟩ := ha.form
 obtain ⟨A1, c1, rfl, -, -⟩ := hb.form
 obtain ⟨A2, c2, rfl, -, -⟩ := hc.form
 have H1 := Lib.hid h1
 clear h1 ha hb hc
 go_wp2_with fail
 (refine (KL.out _ _ _ _ (by exact extA) HA1.out HB1.out HC1.out).mono ?_; rintro e w2 ⟨rfl, h2⟩; have H2 := Lib.hid h2; have hz2 := h2.size; clear h2; (try simp only [World.size_alloc, size_set, World.heap_drewN, size_drew] at hz2))
 go_wp2_with fail
 refine (law_hall _).mono ?_
 rintro e w3 ⟨⟨t0, t1, t2, ti, tg, tv⟩, rfl, h3, ho⟩
 have HO := Lib.hid ho.rd
 have H3 := Lib.hid h3
 clear h3 ho
 go_wp2_with fail
 (refine (KT.out _ _ (by exact extA) HO.out).mono ?_; rintro e w4 ⟨rfl, h4⟩; have H4 := Lib.hid h4; have hz4 := h4.size; clear h4; (try simp only [World.size_alloc, size_set, World.heap_drewN, size_drew] at hz4))
 go_wp2_with fail
 (refine (KS.out _).mono ?_; rintro e w5 ⟨rfl, h5⟩; have H5 := Lib.hid h5; have hz5 := h5.size; clear h5; (try simp only [World.size_alloc, size_set, World.heap_drewN, size_drew] at hz5))
 go_wp2_with fail
 (refine (KC.out _).mono ?_; rintro e w6 ⟨rfl, h6⟩; have H6 := Lib.hid h6; have hz6 := h6.size; clear h6; (try simp only [World.size_alloc, size_set, World.heap_drewN, size_drew] at hz6))
 go_wp2_with fail
 (refine (KS.out _).mono ?_; rintro e w7 ⟨rfl, h7⟩; have H7 := Lib.hid h7; have hz7 := h7.size; clear h7; (try simp only [World.size_alloc, size_set, World.heap_drewN, size_drew] at hz7))
 go_wp2_with fail
 (refine (KC.out _).mono ?_; rintro e w8 ⟨rfl, h8⟩; have H8 := Lib.hid h8; have hz8 := h8.size; clear h8; (try simp only [World.size_alloc, size_set, World.heap_drewN, size_drew] at hz8))
 go_wp2_with fail
 go_ret
 exact ⟨rfl, (show Ext w _ by exact extA)⟩
end Go.Proofs.YteojjbhadgkfgaaDoor
