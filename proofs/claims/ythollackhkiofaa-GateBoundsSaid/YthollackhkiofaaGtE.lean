/- gate.Raw: a ticket that is right, at a gate that is. -/
import Derived.Test.YthollackhkiofaaGtD
namespace Go.Proofs.Ythollackhkiofaa
set_option linter.unusedSimpArgs false
set_option linter.unusedVariables false
set_option maxRecDepth 100000
open Go Go.RowKit Lb

set_option maxHeartbeats 16000000 in
theorem gate_Raw (g : Gt) (sa si : Value) (t : Tk) (time : Int) (w : World) (hgr : ckGate g = 0) (htk : ckTicket t = 0) (hr : RdL 5 tpc w sa g.alone) (hs : RdL 1 inc w si g.denied.ids) :
    Calls Try.prog 61 #[.agg (gta g sa si), .agg (tkc t), .int .i64 time] w fun e w' => ∃ sa' si', e = .returned (.tuple #[.agg (gta (tapG g t time).1 sa' si'), .agg (tpc (tapG g t time).2.1), .int .i64 (tapG g t time).2.2]) ∧ Ext w w' ∧
      OwnL 64 5 tpc w.heap.size w' sa' (tapG g t time).1.alone ∧ OwnL 3 1 inc w.heap.size w' si' (tapG g t time).1.denied.ids := by
  have r := ckGate_ok.1 hgr
  have hl12 := r.len
  have hd12 := ((ckDn_ok g.denied).1 r.denied).2.1
  have HOwn := Lib.hid (fun (w' : World) (h : Ext w w') => gate_Own g sa si w' (hr.ext h) (hs.ext h) (by omega) (by omega))
  have HT := Lib.hid (fun (sa' si' : Value) (b0 base : Nat) (w' : World) => keeper_tap g sa' si' t time b0 base w' hgr htk)
  obtain ⟨A, c, rfl, -, -⟩ := hr.form
  obtain ⟨A2, c2, rfl, -, -⟩ := hs.form
  have hres : tapG g t time = if tapE g t time ≠ 0 then (gt0, tp0, tapE g t time) else (tapped g t time, tapOf g t time, 0) := rfl
  have hlast : (tapped g t time).alone[(tapped g t time).alone.length - 1]? = some (tapOf g t time) := by simp [tapped]
  have hlpos : 0 < (tapped g t time).alone.length := by simp [tapped]
  have hlm : (tapped g t time).alone.length ≤ 13 := by simp [tapped]; omega
  have hden : (tapped g t time).denied.ids = g.denied.ids := rfl
  generalize tapped g t time = G at *
  generalize tapOf g t time = X at *
  generalize tapE g t time = E at *
  rw [hres]
  clear hr hs hgr htk hres r hl12 hd12
  unfold gta at HOwn ⊢
  rw [show tkc t = #[.int .i64 t.id, .int .i64 t.kind, .int .i64 t.frm, .int .i64 t.til, .int .i64 t.zones, .int .i64 t.rides] from rfl] at HT ⊢
  rw [show tpc (if E ≠ 0 then (gt0, tp0, E) else (G, X, 0)).2.1 = #[.int .i64 (if E ≠ 0 then (gt0, tp0, E) else (G, X, 0)).2.1.ticket, .int .i64 (if E ≠ 0 then (gt0, tp0, E) else (G, X, 0)).2.1.gate, .int .i64 (if E ≠ 0 then (gt0, tp0, E) else (G, X, 0)).2.1.seq, .int .i64 (if E ≠ 0 then (gt0, tp0, E) else (G, X, 0)).2.1.time, .int .i64 (if E ≠ 0 then (gt0, tp0, E) else (G, X, 0)).2.1.zone] from rfl]
  go_enter Try.func61, Try.ntmps61
  go_wp2_with fail
  refine (HOwn.out _ (by repeat (first | (with_reducible exact Ext.refl _) | (with_reducible refine Ext.alloc ?_ _) | (with_reducible apply Ext.setC; focus (simp <;> omega)) | (with_reducible refine Ext.drew ?_) | (with_reducible refine Ext.drewN ?_ _) | (with_reducible refine Ext.trans ?_ (Hid.out ‹Hid (Ext _ _)›))))).mono ?_
  rintro e w1 ⟨sa1, si1, rfl, h1, ho1, hi1, hdis⟩
  obtain ⟨A1, c1, rfl⟩ := ho1.form
  obtain ⟨B1, d1, rfl⟩ := hi1.form
  have hz1 := h1.size
  have H1 := Lib.hid h1
  (try simp only [World.size_alloc, size_set, World.heap_drewN, size_drew] at hz1 ho1 hi1)
  have HO1 := Lib.hid ho1
  have HI1 := Lib.hid hi1
  have HD1 := Lib.hid hdis
  clear h1 ho1 hi1 hdis
  (apply Row.use (w := w1) (g := w.heap.size); (focus (repeat (first | (with_reducible exact Hid.out ‹Hid (Row _ _ _)›) | (with_reducible exact Row.newAt rfl) | (with_reducible apply Row.newAt; (simp; done)) | (with_reducible apply Row.set_) | (with_reducible apply Row.far; focus (simp <;> omega)) | (with_reducible apply Row.alloc) | (with_reducible apply Row.drew) | (with_reducible apply Row.drewN) | (with_reducible apply Row.ext (Hid.out ‹Hid (Ext _ _)›))))); intro q1_0 f1_0 l1_0 R1_0; (try simp only [List.setIfInBounds_toArray, List.set_cons_zero, List.set_cons_succ] at q1_0 R1_0); apply Row.use (w := w1) (g := w.heap.size + 1); (focus (repeat (first | (with_reducible exact Hid.out ‹Hid (Row _ _ _)›) | (with_reducible exact Row.newAt rfl) | (with_reducible apply Row.newAt; (simp; done)) | (with_reducible apply Row.set_) | (with_reducible apply Row.far; focus (simp <;> omega)) | (with_reducible apply Row.alloc) | (with_reducible apply Row.drew) | (with_reducible apply Row.drewN) | (with_reducible apply Row.ext (Hid.out ‹Hid (Ext _ _)›))))); intro q1_1 f1_1 l1_1 R1_1; (try simp only [List.setIfInBounds_toArray, List.set_cons_zero, List.set_cons_succ] at q1_1 R1_1); apply Row.use (w := w1) (g := w.heap.size + 1 + 1); (focus (repeat (first | (with_reducible exact Hid.out ‹Hid (Row _ _ _)›) | (with_reducible exact Row.newAt rfl) | (with_reducible apply Row.newAt; (simp; done)) | (with_reducible apply Row.set_) | (with_reducible apply Row.far; focus (simp <;> omega)) | (with_reducible apply Row.alloc) | (with_reducible apply Row.drew) | (with_reducible apply Row.drewN) | (with_reducible apply Row.ext (Hid.out ‹Hid (Ext _ _)›))))); intro q1_2 f1_2 l1_2 R1_2; (try simp only [List.setIfInBounds_toArray, List.set_cons_zero, List.set_cons_succ] at q1_2 R1_2); apply Row.use (w := w1) (g := w.heap.size + 1 + 1 + 1); (focus (repeat (first | (with_reducible exact Hid.out ‹Hid (Row _ _ _)›) | (with_reducible exact Row.newAt rfl) | (with_reducible apply Row.newAt; (simp; done)) | (with_reducible apply Row.set_) | (with_reducible apply Row.far; focus (simp <;> omega)) | (with_reducible apply Row.alloc) | (with_reducible apply Row.drew) | (with_reducible apply Row.drewN) | (with_reducible apply Row.ext (Hid.out ‹Hid (Ext _ _)›))))); intro q1_3 f1_3 l1_3 R1_3; (try simp only [List.setIfInBounds_toArray, List.set_cons_zero, List.set_cons_succ] at q1_3 R1_3))
  go_wp2_with fail
  have hna : (Value.slice A1 g.alone.length c1).ownBlock ≠ some w1.heap.size := fun h => by have := (HO1.out.lt _ h).2; omega
  have hni : (Value.slice B1 g.denied.ids.length d1).ownBlock ≠ some w1.heap.size := fun h => by have := (HI1.out.lt _ h).2; omega
  refine (HT.out (.slice A1 g.alone.length c1) (.slice B1 g.denied.ids.length d1) w1.heap.size (w.heap.size + 1 + 1 + 1 + 1) _ (HO1.out.alloc _) (HI1.out.alloc _) HD1.out hna hni (by omega) (Row.newAt rfl)).mono ?_
  rintro e w2 ⟨rfl, hB, hP⟩
  have hr0 : Row w2 w.heap.size _ := (Row.alloc R1_0.out).below hB (by omega)
  have hr1 : Row w2 (w.heap.size + 1) _ := (Row.alloc R1_1.out).below hB (by omega)
  have hr2 : Row w2 (w.heap.size + 1 + 1) _ := (Row.alloc R1_2.out).below hB (by omega)
  have hr3 : Row w2 (w.heap.size + 1 + 1 + 1) _ := (Row.alloc R1_3.out).below hB (by omega)
  have hB2 : Ext w w2 := by
    have : Ext w w1 := by repeat (first | (with_reducible exact Ext.refl _) | (with_reducible refine Ext.alloc ?_ _) | (with_reducible apply Ext.setC; focus (simp <;> omega)) | (with_reducible refine Ext.drew ?_) | (with_reducible refine Ext.drewN ?_ _) | (with_reducible refine Ext.trans ?_ (Hid.out ‹Hid (Ext _ _)›)))
    exact Below.trans (this.alloc _) (Below.mono hB (by omega))
  have HE2 := Lib.hid hB2
  have hq0 := hr0.2.1
  have hq1 := hr1.2.1
  have hq2 := hr2.2.1
  have hq3 := hr3.2.1
  have hf2 := hr2.2.2
  have hf3 := hr3.2.2
  have hlt2 := hr3.1
  have HR2 := Lib.hid hr2
  have HR3 := Lib.hid hr3
  clear hB hB2 hr0 hr1 hr2 hr3
  by_cases h0 : E = 0
  · subst h0
    obtain ⟨sa2, hrow2, ho2, hi2⟩ := hP rfl
    obtain ⟨A3, c3, rfl⟩ := ho2.form
    have hll : G.alone.length - 1 < G.alone.length := by omega
    obtain ⟨b, oo, rfl, hb, k0, k1, k2, k3, k4⟩ := (ho2.rd tpc_size).tp_at rfl hll
    rw [List.getElem?_eq_getElem hll] at hlast
    injection hlast with hlast
    rw [hlast] at k0 k1 k2 k3 k4
    have HO2 := Lib.hid ho2
    have HI2 := Lib.hid (show OwnL 3 1 inc _ _ _ G.denied.ids by rw [hden]; exact hi2)
    clear hden
    have hqb := hrow2.2.1
    have hltb := hrow2.1
    have HRB := Lib.hid hrow2
    unfold gta at hqb HRB
    clear hP hrow2 ho2 hi2 hlast
    have hw1 : IntKind.i64.wrap ((G.alone.length : Int) - 1) = ((G.alone.length - 1 : Nat) : Int) := by rw [IntWalk.i64_in _ (by omega)]; omega
    have hk1 : ((G.alone.length - 1 : Nat) : Int) < (G.alone.length : Int) := by omega
    have hk0 : (0 : Int) ≤ ((G.alone.length - 1 : Nat) : Int) := by omega
    simp only [ne_eq, not_true_eq_false, if_false]
    go_wp2_with fail
    have hbb := (HO2.out.lt b rfl).1
    have hb1 : w.heap.size + 1 + 1 ≠ b := by omega
    have hb2 : w.heap.size + 1 + 1 + 1 ≠ b := by omega
    refine T_begin (fun w' => (∀ o, w'.cell? ⟨w1.heap.size, o, none⟩ = (#[.int .i64 G.id, .int .i64 G.zone, .int .i64 G.seq, .slice (some ⟨b, oo, none⟩) G.alone.length c3, .int .i64 G.denied.version, .slice B1 g.denied.ids.length d1, .int .i64 G.left, .int .i64 G.untl] : Array Value)[o]?) ∧ w'.cell? ⟨b, oo + (G.alone.length - 1) * 5, none⟩ = some (.int .i64 X.ticket) ∧ w'.cell? ⟨b, oo + (G.alone.length - 1) * 5 + 1, none⟩ = some (.int .i64 X.gate) ∧ w'.cell? ⟨b, oo + (G.alone.length - 1) * 5 + 2, none⟩ = some (.int .i64 X.seq) ∧ w'.cell? ⟨b, oo + (G.alone.length - 1) * 5 + 3, none⟩ = some (.int .i64 X.time) ∧ w'.cell? ⟨b, oo + (G.alone.length - 1) * 5 + 4, none⟩ = some (.int .i64 X.zone)) 19 (by kernel_rfl) ⟨hqb, k0, k1, k2, k3, k4⟩ (fun hS => ?_)
    simp only [List.length_cons, List.length_nil]
    ((refine T_take (i := 0) (v := ?_) rfl (by kernel_rfl) rfl hS ?_ ?_; rotate_left; focus (intro w hSw; (try dsimp only at hSw); go_simp; try (with_reducible rfl))); (try simp only [Act.put, List.setIfInBounds_toArray, List.set_cons_zero, List.set_cons_succ]); (refine T_take (i := 1) (v := ?_) rfl (by kernel_rfl) rfl hS ?_ ?_; rotate_left; focus (intro w hSw; (try dsimp only at hSw); go_simp; try (with_reducible rfl))); (try simp only [Act.put, List.setIfInBounds_toArray, List.set_cons_zero, List.set_cons_succ]); (refine T_take (i := 2) (v := ?_) rfl (by kernel_rfl) rfl hS ?_ ?_; rotate_left; focus (intro w hSw; (try dsimp only at hSw); go_simp; try (with_reducible rfl))); (try simp only [Act.put, List.setIfInBounds_toArray, List.set_cons_zero, List.set_cons_succ]); (refine T_take (i := 3) (v := ?_) rfl (by kernel_rfl) rfl hS ?_ ?_; rotate_left; focus (intro w hSw; (try dsimp only at hSw); go_simp; try (with_reducible rfl))); (try simp only [Act.put, List.setIfInBounds_toArray, List.set_cons_zero, List.set_cons_succ]); (refine T_take (i := 4) (v := ?_) rfl (by kernel_rfl) rfl hS ?_ ?_; rotate_left; focus (intro w hSw; (try dsimp only at hSw); go_simp; try (with_reducible rfl))); (try simp only [Act.put, List.setIfInBounds_toArray, List.set_cons_zero, List.set_cons_succ]); (refine T_take (i := 5) (v := ?_) rfl (by kernel_rfl) rfl hS ?_ ?_; rotate_left; focus (intro w hSw; (try dsimp only at hSw); go_simp; try (with_reducible rfl))); (try simp only [Act.put, List.setIfInBounds_toArray, List.set_cons_zero, List.set_cons_succ]); (refine T_take (i := 6) (v := ?_) rfl (by kernel_rfl) rfl hS ?_ ?_; rotate_left; focus (intro w hSw; (try dsimp only at hSw); go_simp; try (with_reducible rfl))); (try simp only [Act.put, List.setIfInBounds_toArray, List.set_cons_zero, List.set_cons_succ]); (refine T_take (i := 7) (v := ?_) rfl (by kernel_rfl) rfl hS ?_ ?_; rotate_left; focus (intro w hSw; (try dsimp only at hSw); go_simp; try (with_reducible rfl))); (try simp only [Act.put, List.setIfInBounds_toArray, List.set_cons_zero, List.set_cons_succ]); (refine T_take (i := 8) (v := ?_) rfl (by kernel_rfl) rfl hS ?_ ?_; rotate_left; focus (intro w hSw; (try dsimp only at hSw); go_simp; try (with_reducible rfl))); (try simp only [Act.put, List.setIfInBounds_toArray, List.set_cons_zero, List.set_cons_succ]); (refine T_take (i := 9) (v := ?_) rfl (by kernel_rfl) rfl hS ?_ ?_; rotate_left; focus (intro w hSw; (try dsimp only at hSw); go_simp; try (with_reducible rfl))); (try simp only [Act.put, List.setIfInBounds_toArray, List.set_cons_zero, List.set_cons_succ]); (refine T_take (i := 10) (v := ?_) rfl (by kernel_rfl) rfl hS ?_ ?_; rotate_left; focus (intro w hSw; (try dsimp only at hSw); go_simp; try (with_reducible rfl))); (try simp only [Act.put, List.setIfInBounds_toArray, List.set_cons_zero, List.set_cons_succ]); (refine T_take (i := 11) (v := ?_) rfl (by kernel_rfl) rfl hS ?_ ?_; rotate_left; focus (intro w hSw; (try dsimp only at hSw); go_simp; try (with_reducible rfl))); (try simp only [Act.put, List.setIfInBounds_toArray, List.set_cons_zero, List.set_cons_succ]); (refine T_take (i := 12) (v := ?_) rfl (by kernel_rfl) rfl hS ?_ ?_; rotate_left; focus (intro w hSw; (try dsimp only at hSw); go_simp; try (with_reducible rfl))); (try simp only [Act.put, List.setIfInBounds_toArray, List.set_cons_zero, List.set_cons_succ]); (refine T_take (i := 13) (v := ?_) rfl (by kernel_rfl) rfl hS ?_ ?_; rotate_left; focus (intro w hSw; (try dsimp only at hSw); go_simp; try (with_reducible rfl))); (try simp only [Act.put, List.setIfInBounds_toArray, List.set_cons_zero, List.set_cons_succ]); (refine T_take (i := 14) (v := ?_) rfl (by kernel_rfl) rfl hS ?_ ?_; rotate_left; focus (intro w hSw; (try dsimp only at hSw); go_simp; try (with_reducible rfl))); (try simp only [Act.put, List.setIfInBounds_toArray, List.set_cons_zero, List.set_cons_succ]); (refine T_take (i := 15) (v := ?_) rfl (by kernel_rfl) rfl hS ?_ ?_; rotate_left; focus (intro w hSw; (try dsimp only at hSw); go_simp; try (with_reducible rfl))); (try simp only [Act.put, List.setIfInBounds_toArray, List.set_cons_zero, List.set_cons_succ]); (refine T_take (i := 16) (v := ?_) rfl (by kernel_rfl) rfl hS ?_ ?_; rotate_left; focus (intro w hSw; (try dsimp only at hSw); go_simp; try (with_reducible rfl))); (try simp only [Act.put, List.setIfInBounds_toArray, List.set_cons_zero, List.set_cons_succ]); (refine T_take (i := 17) (v := ?_) rfl (by kernel_rfl) rfl hS ?_ ?_; rotate_left; focus (intro w hSw; (try dsimp only at hSw); go_simp; try (with_reducible rfl))); (try simp only [Act.put, List.setIfInBounds_toArray, List.set_cons_zero, List.set_cons_succ]))
    clear hS
    refine T_only (i := 18) rfl (by kernel_rfl) rfl (fun K hK => ?_)
    go_simp
    refine hK.out _ _ (.inr ⟨(show Row _ w1.heap.size _ from ?_).2.1, ?_, ?_, ?_, ?_, ?_⟩) ?_
    · repeat (first | (with_reducible exact Hid.out ‹Hid (Row _ _ _)›) | (with_reducible exact Row.newAt rfl) | (with_reducible apply Row.newAt; (simp; done)) | (with_reducible apply Row.set_) | (with_reducible apply Row.far; focus (simp <;> omega)) | (with_reducible apply Row.alloc) | (with_reducible apply Row.drew) | (with_reducible apply Row.drewN) | (with_reducible apply Row.ext (Hid.out ‹Hid (Ext _ _)›)))
    · go_keep
    · go_keep
    · go_keep
    · go_keep
    · go_keep
    clear hK
    (try simp only [Act.put, List.setIfInBounds_toArray, List.set_cons_zero, List.set_cons_succ])
    refine T_only (i := 19) rfl (by kernel_rfl) rfl (fun K hK => ?_)
    go_simp
    refine hK.out _ _ (.inl (by kernel_rfl)) ?_
    clear hK
    (try simp only [Act.put, List.setIfInBounds_toArray, List.set_cons_zero, List.set_cons_succ])
    refine T_only (i := 20) rfl (by kernel_rfl) rfl (fun K hK => ?_)
    go_simp
    refine hK.out _ _ (.inl (by kernel_rfl)) ?_
    clear hK
    refine T_done (by kernel_rfl) ?_ _
    go_wp2_with fail
    refine bodyPost_ret (v := .tuple #[.agg #[.int .i64 G.id, .int .i64 G.zone, .int .i64 G.seq, .slice (some ⟨b, oo, none⟩) G.alone.length c3, .int .i64 G.denied.version, .slice B1 g.denied.ids.length d1, .int .i64 G.left, .int .i64 G.untl], .agg #[.int .i64 X.ticket, .int .i64 X.gate, .int .i64 X.seq, .int .i64 X.time, .int .i64 X.zone], .int .i64 0]) (by simp [results, Try.results61, go_sem, *]) rfl ⟨_, _, rfl, ?_, ?_, ?_⟩
    · repeat (first | (with_reducible exact Ext.refl _) | (with_reducible refine Ext.alloc ?_ _) | (with_reducible apply Ext.setC; focus (simp <;> omega)) | (with_reducible refine Ext.drew ?_) | (with_reducible refine Ext.drewN ?_ _) | (with_reducible refine Ext.trans ?_ (Hid.out ‹Hid (Ext _ _)›)))
    · (refine OwnL.lower (base := w.heap.size + 1 + 1 + 1 + 1) ?_ (by omega); repeat (first | (with_reducible assumption) | (with_reducible exact Hid.out ‹Hid (OwnL _ _ _ _ _ _ _)›) | (with_reducible apply OwnL.setC; focus (simp <;> omega)) | (with_reducible refine OwnL.put ?_ (by assumption) _) | (with_reducible apply OwnL.alloc) | (with_reducible apply OwnL.drew) | (with_reducible apply OwnL.drewN) | (with_reducible refine OwnL.ext ?_ (Hid.out ‹Hid (Ext _ _)›))))
    · (refine OwnL.lower (base := w.heap.size + 1 + 1 + 1 + 1) ?_ (by omega); repeat (first | (with_reducible assumption) | (with_reducible exact Hid.out ‹Hid (OwnL _ _ _ _ _ _ _)›) | (with_reducible apply OwnL.setC; focus (simp <;> omega)) | (with_reducible refine OwnL.put ?_ (by assumption) _) | (with_reducible apply OwnL.alloc) | (with_reducible apply OwnL.drew) | (with_reducible apply OwnL.drewN) | (with_reducible refine OwnL.ext ?_ (Hid.out ‹Hid (Ext _ _)›))))
  · have hb0 : (E != 0) = true := by simpa using h0
    clear hP
    simp only [ne_eq, h0, not_false_eq_true, if_true]
    go_wp2_with fail
    refine bodyPost_ret (v := .tuple #[.agg #[.int .i64 0, .int .i64 0, .int .i64 0, .slice none 0 0, .int .i64 0, .slice none 0 0, .int .i64 0, .int .i64 0], .agg #[.int .i64 0, .int .i64 0, .int .i64 0, .int .i64 0, .int .i64 0], .int .i64 E]) (by simp [results, Try.results61, go_sem, *]) rfl ⟨_, _, rfl, ?_, OwnL.nil, OwnL.nil⟩
    repeat (first | (with_reducible exact Ext.refl _) | (with_reducible refine Ext.alloc ?_ _) | (with_reducible apply Ext.setC; focus (simp <;> omega)) | (with_reducible refine Ext.drew ?_) | (with_reducible refine Ext.drewN ?_ _) | (with_reducible refine Ext.trans ?_ (Hid.out ‹Hid (Ext _ _)›)))
end Go.Proofs.Ythollackhkiofaa
