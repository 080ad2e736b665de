/- gateBegun. -/
import Derived.Test.YthollackhkiofaaGtG
import Derived.Test.YthollackhkiofaaGtI
import Derived.Test.YthollackhkiofaaRegC
namespace Go.Proofs.Ythollackhkiofaa
set_option linter.unusedSimpArgs false
set_option linter.unusedVariables false
set_option maxRecDepth 100000
open Go Go.RowKit Lb

def single (id : Int) : Tk := ⟨id, 1, 10, 500, 15, 0⟩

theorem law_single (id : Int) (w : World) :
    Calls Try.prog 67 #[.int .i64 id] w fun e w' => e = .returned (.agg (tkc (single id))) ∧ Ext w w' := by
  go_enter Try.func67, Try.ntmps67
  go_wp2_with fail
  refine bodyPost_ret (v := .agg (tkc (single id))) (by simp [results, Try.results67, go_sem, tkc, single]) rfl ⟨rfl, ?_⟩
  repeat (first | (with_reducible exact Ext.refl _) | (with_reducible refine Ext.alloc ?_ _) | (with_reducible apply Ext.setC; focus (simp <;> omega)) | (with_reducible refine Ext.drew ?_) | (with_reducible refine Ext.drewN ?_ _) | (with_reducible refine Ext.trans ?_ (Hid.out ‹Hid (Ext _ _)›)))

def gb1 : Gt := ⟨1, 2, 5, [⟨1, 1, 5, 50, 2⟩], ⟨1, [7]⟩, 1, 90⟩
theorem gb_a : tapAll post0 (single 1) 50 = (gb1, ⟨1, 1, 5, 50, 2⟩, 0) := by decide
theorem gb_b : tapAll gb1 (single 1) 60 = (gt0, tp0, 10) := by decide
theorem gb_c : tapAll post0 (single 7) 50 = (gt0, tp0, 11) := by decide
theorem gb_d : tapAll post0 (single 1) 91 = (gt0, tp0, 8) := by decide
theorem gb_e : syncAll gb1 ⟨5, []⟩ 60 = (⟨1, 2, 5, [], ⟨5, []⟩, 9, 160⟩, [⟨1, 1, 5, 50, 2⟩], 0) := by decide
theorem gb_f : ckGate gb1 = 0 := by decide

theorem tap_a (si : Value) (w : World) (hs : RdL 1 inc w si [7]) :
    Calls Try.prog 35 #[.agg #[.int .i64 1, .int .i64 2, .int .i64 4, .slice none 0 0, .int .i64 1, si, .int .i64 2, .int .i64 90], .agg #[.int .i64 1, .int .i64 1, .int .i64 10, .int .i64 500, .int .i64 15, .int .i64 0], .int .i64 50] w fun e w' => ∃ sa' si', e = .returned (.tuple #[.agg #[.int .i64 1, .int .i64 2, .int .i64 5, sa', .int .i64 1, si', .int .i64 1, .int .i64 90], .agg #[.int .i64 1, .int .i64 1, .int .i64 5, .int .i64 50, .int .i64 2], .int .i64 0]) ∧ Ext w w' ∧
      OwnL 64 5 tpc w.heap.size w' sa' [⟨1, 1, 5, 50, 2⟩] ∧ OwnL 3 1 inc w.heap.size w' si' [7] := by
  have h := gate_Tap post0 (.slice none 0 0) si (single 1) 50 w RdL.nil hs
  rw [gb_a] at h
  exact h
theorem tap_b (sa si : Value) (w : World) (hr : RdL 5 tpc w sa [⟨1, 1, 5, 50, 2⟩]) (hs : RdL 1 inc w si [7]) :
    Calls Try.prog 35 #[.agg #[.int .i64 1, .int .i64 2, .int .i64 5, sa, .int .i64 1, si, .int .i64 1, .int .i64 90], .agg #[.int .i64 1, .int .i64 1, .int .i64 10, .int .i64 500, .int .i64 15, .int .i64 0], .int .i64 60] w fun e w' => ∃ A c B d, e = .returned (.tuple #[.agg #[.int .i64 0, .int .i64 0, .int .i64 0, .slice A 0 c, .int .i64 0, .slice B 0 d, .int .i64 0, .int .i64 0], .agg #[.int .i64 0, .int .i64 0, .int .i64 0, .int .i64 0, .int .i64 0], .int .i64 10]) ∧ Ext w w' := by
  have h := gate_Tap gb1 sa si (single 1) 60 w hr hs
  rw [gb_b] at h
  refine h.mono ?_
  rintro e w' ⟨sa', si', h1, h2, h3, h4⟩
  obtain ⟨A, c, rfl⟩ := h3.form
  obtain ⟨B, d, rfl⟩ := h4.form
  exact ⟨A, c, B, d, h1, h2⟩
theorem tap_c (si : Value) (w : World) (hs : RdL 1 inc w si [7]) :
    Calls Try.prog 35 #[.agg #[.int .i64 1, .int .i64 2, .int .i64 4, .slice none 0 0, .int .i64 1, si, .int .i64 2, .int .i64 90], .agg #[.int .i64 7, .int .i64 1, .int .i64 10, .int .i64 500, .int .i64 15, .int .i64 0], .int .i64 50] w fun e w' => ∃ A c B d, e = .returned (.tuple #[.agg #[.int .i64 0, .int .i64 0, .int .i64 0, .slice A 0 c, .int .i64 0, .slice B 0 d, .int .i64 0, .int .i64 0], .agg #[.int .i64 0, .int .i64 0, .int .i64 0, .int .i64 0, .int .i64 0], .int .i64 11]) ∧ Ext w w' := by
  have h := gate_Tap post0 (.slice none 0 0) si (single 7) 50 w RdL.nil hs
  rw [gb_c] at h
  refine h.mono ?_
  rintro e w' ⟨sa', si', h1, h2, h3, h4⟩
  obtain ⟨A, c, rfl⟩ := h3.form
  obtain ⟨B, d, rfl⟩ := h4.form
  exact ⟨A, c, B, d, h1, h2⟩
theorem tap_d (si : Value) (w : World) (hs : RdL 1 inc w si [7]) :
    Calls Try.prog 35 #[.agg #[.int .i64 1, .int .i64 2, .int .i64 4, .slice none 0 0, .int .i64 1, si, .int .i64 2, .int .i64 90], .agg #[.int .i64 1, .int .i64 1, .int .i64 10, .int .i64 500, .int .i64 15, .int .i64 0], .int .i64 91] w fun e w' => ∃ A c B d, e = .returned (.tuple #[.agg #[.int .i64 0, .int .i64 0, .int .i64 0, .slice A 0 c, .int .i64 0, .slice B 0 d, .int .i64 0, .int .i64 0], .agg #[.int .i64 0, .int .i64 0, .int .i64 0, .int .i64 0, .int .i64 0], .int .i64 8]) ∧ Ext w w' := by
  have h := gate_Tap post0 (.slice none 0 0) si (single 1) 91 w RdL.nil hs
  rw [gb_d] at h
  refine h.mono ?_
  rintro e w' ⟨sa', si', h1, h2, h3, h4⟩
  obtain ⟨A, c, rfl⟩ := h3.form
  obtain ⟨B, d, rfl⟩ := h4.form
  exact ⟨A, c, B, d, h1, h2⟩
theorem sync_e (sa si : Value) (w : World) (hr : RdL 5 tpc w sa [⟨1, 1, 5, 50, 2⟩]) (hs : RdL 1 inc w si [7]) :
    Calls Try.prog 36 #[.agg #[.int .i64 1, .int .i64 2, .int .i64 5, sa, .int .i64 1, si, .int .i64 1, .int .i64 90], .agg #[.int .i64 5, .slice none 0 0], .int .i64 60] w fun e w' => ∃ A c B d, e = .returned (.tuple #[.agg #[.int .i64 1, .int .i64 2, .int .i64 5, .slice none 0 0, .int .i64 5, .slice B 0 d, .int .i64 9, .int .i64 160], .slice A 1 c, .int .i64 0]) ∧ Ext w w' := by
  have h := gate_Sync gb1 sa si ⟨5, []⟩ (.slice none 0 0) 60 w hr hs RdL.nil
  rw [gb_e] at h
  refine h.mono ?_
  rintro e w' ⟨sl, si', h1, h2, h3, h4⟩
  obtain ⟨A, c, rfl⟩ := h3.form
  obtain ⟨B, d, rfl⟩ := h4.form
  exact ⟨A, c, B, d, h1, h2⟩
theorem check_f (sa si : Value) (w : World) (hr : RdL 5 tpc w sa [⟨1, 1, 5, 50, 2⟩]) (hs : RdL 1 inc w si [7]) :
    Calls Try.prog 42 #[.agg #[.int .i64 1, .int .i64 2, .int .i64 5, sa, .int .i64 1, si, .int .i64 1, .int .i64 90]] w fun e w' => e = .returned (.int .i64 0) ∧ Ext w w' := by
  have h := gate_Check gb1 sa si w hr hs
  rw [gb_f] at h
  exact h

set_option maxHeartbeats 16000000 in
theorem law_gateBegun (w : World) :
    Calls Try.prog 41 #[] w fun e w' => e = .returned (.bool true) ∧ Ext w w' := by
  have HP := Lib.hid (fun (w' : World) => law_post w')
  have HS := Lib.hid (fun (id : Int) (w' : World) => law_single id w')
  unfold gta post0 at HP
  unfold tkc single at HS
  simp only at HP HS
  go_enter Try.func41, Try.ntmps41
  go_wp2_with fail
  refine (HP.out _).mono ?_
  rintro e w1 ⟨s1, rfl, h1, hr1⟩
  have H1 := Lib.hid h1
  have HR1 := Lib.hid hr1
  clear h1 hr1
  go_wp2_with fail
  (refine (HS.out 1 _).mono ?_; rintro e w2 ⟨rfl, h2⟩; have H2 := Lib.hid h2; have hz2 := h2.size; clear h2; (try simp only [World.size_alloc, size_set, World.heap_drewN, size_drew] at hz2))
  go_wp2_with fail
  refine (tap_a s1 _ (HR1.out.ext H2.out)).mono ?_
  rintro e w3 ⟨sa3, si3, rfl, h3, ho3, hi3⟩
  have hr3 := ho3.rd tpc_size
  have hi3' := hi3.rd inc_size
  obtain ⟨A3, c3, rfl⟩ := ho3.form
  obtain ⟨B3, d3, rfl⟩ := hi3.form
  have H3 := Lib.hid h3
  have HO3 := Lib.hid hr3
  have HI3 := Lib.hid hi3'
  clear h3 ho3 hi3 hr3 hi3'
  go_wp2_with fail
  have hb1 : Row ((w3.alloc (.cells #[.int .i64 1, .int .i64 2, .int .i64 5, .slice A3 1 c3, .int .i64 1, .slice B3 1 d3, .int .i64 1, .int .i64 90] 60)).alloc (.cells #[.int .i64 1, .int .i64 1, .int .i64 5, .int .i64 50, .int .i64 2] 64)) w3.heap.size #[.int .i64 1, .int .i64 2, .int .i64 5, .slice A3 1 c3, .int .i64 1, .slice B3 1 d3, .int .i64 1, .int .i64 90] := by repeat (first | (with_reducible exact Hid.out ‹Hid (Row _ _ _)›) | (with_reducible exact Row.newAt rfl) | (with_reducible apply Row.newAt; (simp; done)) | (with_reducible apply Row.set_) | (with_reducible apply Row.far; focus (simp <;> omega)) | (with_reducible apply Row.alloc) | (with_reducible apply Row.drew) | (with_reducible apply Row.drewN) | (with_reducible apply Row.ext (Hid.out ‹Hid (Ext _ _)›)))
  have hb2 : Row ((w3.alloc (.cells #[.int .i64 1, .int .i64 2, .int .i64 5, .slice A3 1 c3, .int .i64 1, .slice B3 1 d3, .int .i64 1, .int .i64 90] 60)).alloc (.cells #[.int .i64 1, .int .i64 1, .int .i64 5, .int .i64 50, .int .i64 2] 64)) (w3.heap.size + 1) #[.int .i64 1, .int .i64 1, .int .i64 5, .int .i64 50, .int .i64 2] := by repeat (first | (with_reducible exact Hid.out ‹Hid (Row _ _ _)›) | (with_reducible exact Row.newAt rfl) | (with_reducible apply Row.newAt; (simp; done)) | (with_reducible apply Row.set_) | (with_reducible apply Row.far; focus (simp <;> omega)) | (with_reducible apply Row.alloc) | (with_reducible apply Row.drew) | (with_reducible apply Row.drewN) | (with_reducible apply Row.ext (Hid.out ‹Hid (Ext _ _)›)))
  have hE0 : Ext w ((w3.alloc (.cells #[.int .i64 1, .int .i64 2, .int .i64 5, .slice A3 1 c3, .int .i64 1, .slice B3 1 d3, .int .i64 1, .int .i64 90] 60)).alloc (.cells #[.int .i64 1, .int .i64 1, .int .i64 5, .int .i64 50, .int .i64 2] 64)) := by repeat (first | (with_reducible exact Ext.refl _) | (with_reducible refine Ext.alloc ?_ _) | (with_reducible apply Ext.setC; focus (simp <;> omega)) | (with_reducible refine Ext.drew ?_) | (with_reducible refine Ext.drewN ?_ _) | (with_reducible refine Ext.trans ?_ (Hid.out ‹Hid (Ext _ _)›)))
  have hO0 := (HO3.out.ext ((((Ext.refl w3).alloc (.cells #[.int .i64 1, .int .i64 2, .int .i64 5, .slice A3 1 c3, .int .i64 1, .slice B3 1 d3, .int .i64 1, .int .i64 90] 60)).alloc (.cells #[.int .i64 1, .int .i64 1, .int .i64 5, .int .i64 50, .int .i64 2] 64))))
  have hI0 := (HI3.out.ext ((((Ext.refl w3).alloc (.cells #[.int .i64 1, .int .i64 2, .int .i64 5, .slice A3 1 c3, .int .i64 1, .slice B3 1 d3, .int .i64 1, .int .i64 90] 60)).alloc (.cells #[.int .i64 1, .int .i64 1, .int .i64 5, .int .i64 50, .int .i64 2] 64))))
  generalize hB : w3.heap.size = B at *
  generalize ((w3.alloc (.cells #[.int .i64 1, .int .i64 2, .int .i64 5, .slice A3 1 c3, .int .i64 1, .slice B3 1 d3, .int .i64 1, .int .i64 90] 60)).alloc (.cells #[.int .i64 1, .int .i64 1, .int .i64 5, .int .i64 50, .int .i64 2] 64)) = W at *
  have HR0 := Lib.hid hb1
  have HR1 := Lib.hid hb2
  have HE0 := Lib.hid hE0
  have HO := Lib.hid hO0
  have HI := Lib.hid hI0
  have hS0 : (∀ o, W.cell? ⟨B, o, none⟩ = (#[.int .i64 1, .int .i64 2, .int .i64 5, .slice A3 1 c3, .int .i64 1, .slice B3 1 d3, .int .i64 1, .int .i64 90] : Array Value)[o]?) ∧ Ext W W := ⟨hb1.2.1, Ext.refl _⟩
  have HKeep := Lib.hid (fun (w' : World) (h : Ext W w') => (show (∀ o, w'.cell? ⟨B, o, none⟩ = (#[.int .i64 1, .int .i64 2, .int .i64 5, .slice A3 1 c3, .int .i64 1, .slice B3 1 d3, .int .i64 1, .int .i64 90] : Array Value)[o]?) ∧ Ext W w' from ⟨(Row.ext h hb1).2.1, h⟩))
  clear hb1 hb2 hE0 hO0 hI0 hS0 HO3 HI3 H1 H2 H3 hz2
  go_upto_region 3 with fail
  go_cut [6] (fun s6 wx => s6 = .int .i64 10 ∧ Aside (Ext W wx))
  case first =>
    go_wp2_with fail
    go_region_held3 (fun w' => (∀ o, w'.cell? ⟨B, o, none⟩ = (#[.int .i64 1, .int .i64 2, .int .i64 5, .slice A3 1 c3, .int .i64 1, .slice B3 1 d3, .int .i64 1, .int .i64 90] : Array Value)[o]?) ∧ Ext W w')
      (first | (refine HKeep.out _ ?_; (repeat (first | (with_reducible exact Ext.refl _) | (with_reducible refine Ext.alloc ?_ _) | (with_reducible apply Ext.setC; focus (simp <;> omega)) | (with_reducible refine Ext.drew ?_) | (with_reducible refine Ext.drewN ?_ _) | (with_reducible refine Ext.trans ?_ (Hid.out ‹Hid (Ext _ _)›)))); done))
      (first | (go_at_call 67; refine (HS.out 1 _).mono ?_; rintro e w4 ⟨rfl, h⟩; have hc4 := h.cells; have hf4 := h.frozs; have hz4 := h.size; have H4 := Lib.hid h; clear h; (try simp only [World.size_alloc, size_set, World.heap_drewN, size_drew] at hz4); (try (have hq4 : W.heap.size < w4.heap.size := by omega)); (try (have hp4 : W.heap.size + 1 < w4.heap.size := by omega))) | (go_at_call 35; refine (tap_b _ _ _ (HO.out.ext (by repeat (first | (with_reducible exact Ext.refl _) | (with_reducible refine Ext.alloc ?_ _) | (with_reducible apply Ext.setC; focus (simp <;> omega)) | (with_reducible refine Ext.drew ?_) | (with_reducible refine Ext.drewN ?_ _) | (with_reducible refine Ext.trans ?_ (Hid.out ‹Hid (Ext _ _)›))))) (HI.out.ext (by repeat (first | (with_reducible exact Ext.refl _) | (with_reducible refine Ext.alloc ?_ _) | (with_reducible apply Ext.setC; focus (simp <;> omega)) | (with_reducible refine Ext.drew ?_) | (with_reducible refine Ext.drewN ?_ _) | (with_reducible refine Ext.trans ?_ (Hid.out ‹Hid (Ext _ _)›)))))).mono ?_; rintro e w5 ⟨A5, c5, B5, d5, rfl, h⟩; have hc5 := h.cells; have hf5 := h.frozs; have hz5 := h.size; have H5 := Lib.hid h; clear h; (try simp only [World.size_alloc, size_set, World.heap_drewN, size_drew] at hz5); (try (have hq5 : W.heap.size < w5.heap.size := by omega)); (try (have hp5 : W.heap.size + 1 < w5.heap.size := by omega)); (try (have hr5 : w4.heap.size < w5.heap.size := by omega)); (try (have hs5 : w4.heap.size + 1 < w5.heap.size := by omega))))
    all_goals
      go_wp2_with fail
      go_meet
      case rel => exact ⟨rfl, (show Ext W _ by repeat (first | (with_reducible exact Ext.refl _) | (with_reducible refine Ext.alloc ?_ _) | (with_reducible apply Ext.setC; focus (simp <;> omega)) | (with_reducible refine Ext.drew ?_) | (with_reducible refine Ext.drewN ?_ _) | (with_reducible refine Ext.trans ?_ (Hid.out ‹Hid (Ext _ _)›))))⟩
  case rest =>
    obtain ⟨rfl, HWX⟩ := hcut
    obtain ⟨wx, rfl⟩ : ∃ wx : World, wx = wc := ⟨_, rfl⟩
    have HEX := Lib.hid HWX.out
    (apply Row.use (w := wx) (g := B); (focus (repeat (first | (with_reducible exact Hid.out ‹Hid (Row _ _ _)›) | (with_reducible exact Row.newAt rfl) | (with_reducible apply Row.newAt; (simp; done)) | (with_reducible apply Row.set_) | (with_reducible apply Row.far; focus (simp <;> omega)) | (with_reducible apply Row.alloc) | (with_reducible apply Row.drew) | (with_reducible apply Row.drewN) | (with_reducible apply Row.ext (Hid.out ‹Hid (Ext _ _)›))))); intro qx_0 fx_0 lx_0 Rx_0; (try simp only [List.setIfInBounds_toArray, List.set_cons_zero, List.set_cons_succ] at qx_0 Rx_0); apply Row.use (w := wx) (g := B + 1); (focus (repeat (first | (with_reducible exact Hid.out ‹Hid (Row _ _ _)›) | (with_reducible exact Row.newAt rfl) | (with_reducible apply Row.newAt; (simp; done)) | (with_reducible apply Row.set_) | (with_reducible apply Row.far; focus (simp <;> omega)) | (with_reducible apply Row.alloc) | (with_reducible apply Row.drew) | (with_reducible apply Row.drewN) | (with_reducible apply Row.ext (Hid.out ‹Hid (Ext _ _)›))))); intro qx_1 fx_1 lx_1 Rx_1; (try simp only [List.setIfInBounds_toArray, List.set_cons_zero, List.set_cons_succ] at qx_1 Rx_1))
    have hq1 : ∀ V : World, (binOp .eql 64 (.agg #[.int .i64 1, .int .i64 1, .int .i64 5, .int .i64 50, .int .i64 2]) (.agg #[.int .i64 1, .int .i64 1, .int .i64 5, .int .i64 50, .int .i64 2])).run Try.prog V = .ok (.bool true) V := fun V => by simpa using eql_tp 1 1 5 50 2 1 1 5 50 2 V
    have hq2 : ∀ V : World, (binOp .eql 58 (.agg #[.int .i64 9, .int .i64 160]) (.agg #[.int .i64 9, .int .i64 160])).run Try.prog V = .ok (.bool true) V := fun V => by simpa using eql_bd 9 160 9 160 V
    have HQ1 := Lib.hid hq1
    have HQ2 := Lib.hid hq2
    clear hq1 hq2 HWX
    go_wp2_with fail
    refine (HP.out _).mono ?_
    rintro e w6 ⟨s6, rfl, h6, hr6⟩
    have H6 := Lib.hid h6
    have HR6 := Lib.hid hr6
    clear h6 hr6
    go_wp2_with fail
    (refine (HS.out 7 _).mono ?_; rintro e w7 ⟨rfl, h7⟩; have H7 := Lib.hid h7; have hz7 := h7.size; clear h7; (try simp only [World.size_alloc, size_set, World.heap_drewN, size_drew] at hz7))
    go_wp2_with fail
    refine (tap_c s6 _ (HR6.out.ext H7.out)).mono ?_
    rintro e w8 ⟨A8, c8, B8, d8, rfl, h8⟩
    have H8 := Lib.hid h8
    clear h8
    go_wp2_with fail
    refine (HP.out _).mono ?_
    rintro e w9 ⟨s9, rfl, h9, hr9⟩
    have H9 := Lib.hid h9
    have HR9 := Lib.hid hr9
    clear h9 hr9
    go_wp2_with fail
    (refine (HS.out 1 _).mono ?_; rintro e w10 ⟨rfl, h10⟩; have H10 := Lib.hid h10; have hz10 := h10.size; clear h10; (try simp only [World.size_alloc, size_set, World.heap_drewN, size_drew] at hz10))
    go_wp2_with fail
    refine (tap_d s9 _ (HR9.out.ext H10.out)).mono ?_
    rintro e w11 ⟨A11, c11, B11, d11, rfl, h11⟩
    have H11 := Lib.hid h11
    have hz11 := h11.size
    clear h11
    (apply Row.use (w := w11) (g := B); (focus (repeat (first | (with_reducible exact Hid.out ‹Hid (Row _ _ _)›) | (with_reducible exact Row.newAt rfl) | (with_reducible apply Row.newAt; (simp; done)) | (with_reducible apply Row.set_) | (with_reducible apply Row.far; focus (simp <;> omega)) | (with_reducible apply Row.alloc) | (with_reducible apply Row.drew) | (with_reducible apply Row.drewN) | (with_reducible apply Row.ext (Hid.out ‹Hid (Ext _ _)›))))); intro q11_0 f11_0 l11_0 R11_0; (try simp only [List.setIfInBounds_toArray, List.set_cons_zero, List.set_cons_succ] at q11_0 R11_0); apply Row.use (w := w11) (g := B + 1); (focus (repeat (first | (with_reducible exact Hid.out ‹Hid (Row _ _ _)›) | (with_reducible exact Row.newAt rfl) | (with_reducible apply Row.newAt; (simp; done)) | (with_reducible apply Row.set_) | (with_reducible apply Row.far; focus (simp <;> omega)) | (with_reducible apply Row.alloc) | (with_reducible apply Row.drew) | (with_reducible apply Row.drewN) | (with_reducible apply Row.ext (Hid.out ‹Hid (Ext _ _)›))))); intro q11_1 f11_1 l11_1 R11_1; (try simp only [List.setIfInBounds_toArray, List.set_cons_zero, List.set_cons_succ] at q11_1 R11_1))
    go_wp2_with fail
    refine (sync_e _ _ _ (HO.out.ext (by repeat (first | (with_reducible exact Ext.refl _) | (with_reducible refine Ext.alloc ?_ _) | (with_reducible apply Ext.setC; focus (simp <;> omega)) | (with_reducible refine Ext.drew ?_) | (with_reducible refine Ext.drewN ?_ _) | (with_reducible refine Ext.trans ?_ (Hid.out ‹Hid (Ext _ _)›))))) (HI.out.ext (by repeat (first | (with_reducible exact Ext.refl _) | (with_reducible refine Ext.alloc ?_ _) | (with_reducible apply Ext.setC; focus (simp <;> omega)) | (with_reducible refine Ext.drew ?_) | (with_reducible refine Ext.drewN ?_ _) | (with_reducible refine Ext.trans ?_ (Hid.out ‹Hid (Ext _ _)›)))))).mono ?_
    rintro e w12 ⟨A12, c12, B12, d12, rfl, h12⟩
    have H12 := Lib.hid h12
    have hz12 := h12.size
    clear h12
    (apply Row.use (w := w12) (g := B); (focus (repeat (first | (with_reducible exact Hid.out ‹Hid (Row _ _ _)›) | (with_reducible exact Row.newAt rfl) | (with_reducible apply Row.newAt; (simp; done)) | (with_reducible apply Row.set_) | (with_reducible apply Row.far; focus (simp <;> omega)) | (with_reducible apply Row.alloc) | (with_reducible apply Row.drew) | (with_reducible apply Row.drewN) | (with_reducible apply Row.ext (Hid.out ‹Hid (Ext _ _)›))))); intro q12_0 f12_0 l12_0 R12_0; (try simp only [List.setIfInBounds_toArray, List.set_cons_zero, List.set_cons_succ] at q12_0 R12_0); apply Row.use (w := w12) (g := B + 1); (focus (repeat (first | (with_reducible exact Hid.out ‹Hid (Row _ _ _)›) | (with_reducible exact Row.newAt rfl) | (with_reducible apply Row.newAt; (simp; done)) | (with_reducible apply Row.set_) | (with_reducible apply Row.far; focus (simp <;> omega)) | (with_reducible apply Row.alloc) | (with_reducible apply Row.drew) | (with_reducible apply Row.drewN) | (with_reducible apply Row.ext (Hid.out ‹Hid (Ext _ _)›))))); intro q12_1 f12_1 l12_1 R12_1; (try simp only [List.setIfInBounds_toArray, List.set_cons_zero, List.set_cons_succ] at q12_1 R12_1))
    go_wp2_with fail
    refine (check_f _ _ _ (HO.out.ext (by repeat (first | (with_reducible exact Ext.refl _) | (with_reducible refine Ext.alloc ?_ _) | (with_reducible apply Ext.setC; focus (simp <;> omega)) | (with_reducible refine Ext.drew ?_) | (with_reducible refine Ext.drewN ?_ _) | (with_reducible refine Ext.trans ?_ (Hid.out ‹Hid (Ext _ _)›))))) (HI.out.ext (by repeat (first | (with_reducible exact Ext.refl _) | (with_reducible refine Ext.alloc ?_ _) | (with_reducible apply Ext.setC; focus (simp <;> omega)) | (with_reducible refine Ext.drew ?_) | (with_reducible refine Ext.drewN ?_ _) | (with_reducible refine Ext.trans ?_ (Hid.out ‹Hid (Ext _ _)›)))))).mono ?_
    rintro e w13 ⟨rfl, h13⟩
    have H13 := Lib.hid h13
    have hz13 := h13.size
    clear h13
    (try simp only [World.size_alloc, size_set, World.heap_drewN, size_drew] at hz13)
    (apply Row.use (w := w13) (g := B); (focus (repeat (first | (with_reducible exact Hid.out ‹Hid (Row _ _ _)›) | (with_reducible exact Row.newAt rfl) | (with_reducible apply Row.newAt; (simp; done)) | (with_reducible apply Row.set_) | (with_reducible apply Row.far; focus (simp <;> omega)) | (with_reducible apply Row.alloc) | (with_reducible apply Row.drew) | (with_reducible apply Row.drewN) | (with_reducible apply Row.ext (Hid.out ‹Hid (Ext _ _)›))))); intro q13_0 f13_0 l13_0 R13_0; (try simp only [List.setIfInBounds_toArray, List.set_cons_zero, List.set_cons_succ] at q13_0 R13_0); apply Row.use (w := w13) (g := B + 1); (focus (repeat (first | (with_reducible exact Hid.out ‹Hid (Row _ _ _)›) | (with_reducible exact Row.newAt rfl) | (with_reducible apply Row.newAt; (simp; done)) | (with_reducible apply Row.set_) | (with_reducible apply Row.far; focus (simp <;> omega)) | (with_reducible apply Row.alloc) | (with_reducible apply Row.drew) | (with_reducible apply Row.drewN) | (with_reducible apply Row.ext (Hid.out ‹Hid (Ext _ _)›))))); intro q13_1 f13_1 l13_1 R13_1; (try simp only [List.setIfInBounds_toArray, List.set_cons_zero, List.set_cons_succ] at q13_1 R13_1); apply Row.use (w := w13) (g := w12.heap.size); (focus (repeat (first | (with_reducible exact Hid.out ‹Hid (Row _ _ _)›) | (with_reducible exact Row.newAt rfl) | (with_reducible apply Row.newAt; (simp; done)) | (with_reducible apply Row.set_) | (with_reducible apply Row.far; focus (simp <;> omega)) | (with_reducible apply Row.alloc) | (with_reducible apply Row.drew) | (with_reducible apply Row.drewN) | (with_reducible apply Row.ext (Hid.out ‹Hid (Ext _ _)›))))); intro q13_2 f13_2 l13_2 R13_2; (try simp only [List.setIfInBounds_toArray, List.set_cons_zero, List.set_cons_succ] at q13_2 R13_2))
    have hx1 := HQ1.out w13
    have hx2 := HQ2.out w13
    go_wp2_with fail
    go_ret
    refine ⟨rfl, ?_⟩
    repeat (first | (with_reducible exact Ext.refl _) | (with_reducible refine Ext.alloc ?_ _) | (with_reducible apply Ext.setC; focus (simp <;> omega)) | (with_reducible refine Ext.drew ?_) | (with_reducible refine Ext.drewN ?_ _) | (with_reducible refine Ext.trans ?_ (Hid.out ‹Hid (Ext _ _)›)))
end Go.Proofs.Ythollackhkiofaa
