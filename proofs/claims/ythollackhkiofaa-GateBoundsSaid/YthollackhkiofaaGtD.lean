/- gate: spent; a ticket is tapped. -/
import Derived.BigRegion
import Derived.Deep.RegionHeld3
import Derived.Test.YthollackhkiofaaGtC
import Derived.Test.YthollackhkiofaaReg
namespace Go.Proofs.Ythollackhkiofaa
set_option linter.unusedSimpArgs false
set_option linter.unusedVariables false
set_option maxRecDepth 100000
open Go Go.RowKit Lb

theorem spent_one (x : Tp) (t : Tk) (g : Nat) (w : World) (hr : Row w g (tkc t)) :
    Calls Try.prog 97 #[.agg (tpc x), .pointer (some ⟨g, 0, none⟩)] w fun e w' => e = .returned (.bool (x.ticket == t.id)) ∧ Ext w w' := by
  obtain ⟨x0, x1, x2, x3, x4⟩ := x
  obtain ⟨t0, t1, t2, t3, t4, t5⟩ := t
  unfold tpc
  unfold tkc at hr
  apply Row.use hr; intro q f l R
  clear hr
  go_enter Try.func97, Try.ntmps97
  go_wp2
  all_goals
    go_ret
    refine ⟨ret_bool ?_, ?_⟩
    · simp_all
    · repeat (first | (with_reducible exact Ext.refl _) | (with_reducible refine Ext.alloc ?_ _) | (with_reducible apply Ext.setC; focus (simp <;> omega)) | (with_reducible refine Ext.drew ?_) | (with_reducible refine Ext.drewN ?_ _) | (with_reducible refine Ext.trans ?_ (Hid.out ‹Hid (Ext _ _)›)))

set_option maxHeartbeats 4000000 in
theorem keeper_spent (g : Gt) (sa si : Value) (t : Tk) (b0 : Nat) (w : World) (hr : RdL 5 tpc w sa g.alone) (hg : Row w b0 (gta g sa si)) :
    Calls Try.prog 90 #[.pointer (some ⟨b0, 0, none⟩), .agg (tkc t)] w fun e w' => e = .returned (.bool (g.left == 0 || (t.kind != 2 && twiceG g t.id))) ∧ Ext w w' := by
  have HC := Lib.hid (fun (w' : World) (b : Nat) (h : Ext w w') (hb : Row w' b (tkc t)) => ContainsFunc_tpx (fun p => p.ticket == t.id) 97 #[.pointer (some ⟨b, 0, none⟩)] (fun args w => by simp [go_sem]) g.alone sa w' (hr.ext h) (fun W x hE => spent_one x t b W (hb.ext hE)))
  have htw : g.alone.any (fun p => p.ticket == t.id) = twiceG g t.id := rfl
  rw [htw] at HC
  generalize twiceG g t.id = z at HC ⊢
  obtain ⟨A, c, rfl, -, -⟩ := hr.form
  obtain ⟨t0, t1, t2, t3, t4, t5⟩ := t
  have hq := hg.2.1
  have hlt := hg.1
  have HG := Lib.hid hg
  unfold gta at hq HG
  unfold tkc at HC ⊢
  simp only
  have hlt1 : b0 < w.heap.size + 1 := by omega
  generalize g.left = left at *
  clear hr hg htw
  go_enter Try.func90, Try.ntmps90
  go_wp2_with fail
  refine (HC.out _ _ (by repeat (first | (with_reducible exact Ext.refl _) | (with_reducible refine Ext.alloc ?_ _) | (with_reducible apply Ext.setC; focus (simp <;> omega)) | (with_reducible refine Ext.drew ?_) | (with_reducible refine Ext.drewN ?_ _) | (with_reducible refine Ext.trans ?_ (Hid.out ‹Hid (Ext _ _)›)))) (Row.newAt rfl)).mono ?_
  rintro e w1 ⟨rfl, h1⟩
  have H1 := Lib.hid h1
  clear h1
  (apply Row.use (w := w1) (g := b0); (focus (repeat (first | (with_reducible exact Hid.out ‹Hid (Row _ _ _)›) | (with_reducible exact Row.newAt rfl) | (with_reducible apply Row.newAt; (simp; done)) | (with_reducible apply Row.set_) | (with_reducible apply Row.far; focus (simp <;> omega)) | (with_reducible apply Row.alloc) | (with_reducible apply Row.drew) | (with_reducible apply Row.drewN) | (with_reducible apply Row.ext (Hid.out ‹Hid (Ext _ _)›))))); intro q1_0 f1_0 l1_0 R1_0; (try simp only [List.setIfInBounds_toArray, List.set_cons_zero, List.set_cons_succ] at q1_0 R1_0); apply Row.use (w := w1) (g := w.heap.size); (focus (repeat (first | (with_reducible exact Hid.out ‹Hid (Row _ _ _)›) | (with_reducible exact Row.newAt rfl) | (with_reducible apply Row.newAt; (simp; done)) | (with_reducible apply Row.set_) | (with_reducible apply Row.far; focus (simp <;> omega)) | (with_reducible apply Row.alloc) | (with_reducible apply Row.drew) | (with_reducible apply Row.drewN) | (with_reducible apply Row.ext (Hid.out ‹Hid (Ext _ _)›))))); intro q1_1 f1_1 l1_1 R1_1; (try simp only [List.setIfInBounds_toArray, List.set_cons_zero, List.set_cons_succ] at q1_1 R1_1))
  have hb1 : (left == 0) = true ∨ (left == 0) = false := by cases (left == 0) <;> simp
  have hb2 : (t1 != 2) = true ∨ (t1 != 2) = false := by cases (t1 != 2) <;> simp
  rcases hb1 with hb1 | hb1 <;> rcases hb2 with hb2 | hb2 <;> cases z
  all_goals
    go_wp2_with fail
    go_ret
    refine ⟨ret_bool (by simp_all), ?_⟩
    repeat (first | (with_reducible exact Ext.refl _) | (with_reducible refine Ext.alloc ?_ _) | (with_reducible apply Ext.setC; focus (simp <;> omega)) | (with_reducible refine Ext.drew ?_) | (with_reducible refine Ext.drewN ?_ _) | (with_reducible refine Ext.trans ?_ (Hid.out ‹Hid (Ext _ _)›)))

theorem own_ne {v u : Value} {b n : Nat} (h : v.ownBlock = u.ownBlock ∨ v.ownBlock = some n) (hu : u.ownBlock ≠ some b) (hb : b < n) : v.ownBlock ≠ some b := by
  rcases h with h | h
  · rw [h]; exact hu
  · rw [h]; intro e; injection e with e; omega
theorem taps_one (l : List Tp) : ∀ u ∈ encs tpc l, u.oneCell' = true := by
  intro u hu
  obtain ⟨x, -, hx⟩ := List.mem_flatMap.1 hu
  simp [tpc] at hx
  (rcases hx with rfl | rfl | rfl | rfl | rfl) <;> rfl
theorem zones_ok' {t : Tk} (h : ckTicket t = 0) : 0 ≤ t.zones ∧ t.zones < 16 := by
  unfold ckTicket at h
  cases hw : within t.zones 1 15 with
  | true => simp [within] at hw; omega
  | false => simp [hw] at h
theorem gta_tapped (g : Gt) (t : Tk) (time : Int) (sa' si : Value) : gta (tapped g t time) sa' si = #[.int .i64 g.id, .int .i64 g.zone, .int .i64 (g.seq + 1), sa', .int .i64 g.denied.version, si, .int .i64 (g.left - 1), .int .i64 g.untl] := rfl

set_option maxHeartbeats 16000000 in
theorem keeper_tap (g : Gt) (sa si : Value) (t : Tk) (time : Int) (b0 base : Nat) (w : World) (hgr : ckGate g = 0) (htk : ckTicket t = 0) (hoa : OwnL 64 5 tpc base w sa g.alone) (hoi : OwnL 3 1 inc base w si g.denied.ids)
    (hdis : ∀ q, sa.ownBlock = some q → si.ownBlock ≠ some q) (hna : sa.ownBlock ≠ some b0) (hni : si.ownBlock ≠ some b0) (hb : base ≤ b0) (hg : Row w b0 (gta g sa si)) :
    Calls Try.prog 82 #[.pointer (some ⟨b0, 0, none⟩), .agg (tkc t), .int .i64 time] w fun e w' => e = .returned (.int .i64 (tapE g t time)) ∧ Below base w w' ∧
      (tapE g t time = 0 → ∃ sa', Row w' b0 (gta (tapped g t time) sa' si) ∧ OwnL 64 5 tpc base w' sa' (tapped g t time).alone ∧ OwnL 3 1 inc base w' si g.denied.ids) := by
  have r := ckGate_ok.1 hgr
  have hE : tapE g t time = if within time 0 9999 = false then 3 else if Lb.early g.alone time = true then 4 else if g.denied.ids.contains t.id = true then 11 else if g.untl < time then 8 else if place t time g.zone ≠ 0 then place t time g.zone else if g.left = 0 ∨ t.kind ≠ 2 ∧ twiceG g t.id = true then 10 else if g.alone.length = 12 ∨ g.seq = 99 then 2 else 0 := rfl
  have hz := zones_ok' htk
  have HW := Lib.hid (fun w => gate_within time 0 9999 w)
  have HEA := Lib.hid (fun (w' : World) (h : Ext w w') => keeper_early g sa si time b0 w' ((hoa.rd tpc_size).ext h) (hg.ext h))
  have HCO := Lib.hid (fun (w' : World) (h : Ext w w') => slices_Contains_int g.denied.ids t.id si w' ((hoi.rd inc_size).ext h))
  have HPL := Lib.hid (fun (w' : World) => rule_Place t time g.zone w' hz.1 hz.2 r.zone)
  have HSP := Lib.hid (fun (w' : World) (h : Ext w w') => keeper_spent g sa si t b0 w' ((hoa.rd tpc_size).ext h) (hg.ext h))
  have hany : g.denied.ids.any (fun x => t.id == x) = g.denied.ids.contains t.id := by rw [List.contains_eq_any_beq]
  rw [hany] at HCO
  have hspd : (g.left == 0 || (t.kind != 2 && twiceG g t.id)) = decide (g.left = 0 ∨ t.kind ≠ 2 ∧ twiceG g t.id = true) := by
    rw [Bool.eq_iff_iff]
    simp
  rw [hspd] at HSP
  generalize hz1 : within time 0 9999 = z1 at *
  generalize Lb.early g.alone time = z2 at *
  generalize g.denied.ids.contains t.id = z3 at *
  generalize place t time g.zone = pl at *
  generalize hz6 : decide (g.left = 0 ∨ t.kind ≠ 2 ∧ twiceG g t.id = true) = z6 at *
  have hE6 : (g.left = 0 ∨ t.kind ≠ 2 ∧ twiceG g t.id = true) ↔ z6 = true := by rw [← hz6, decide_eq_true_eq]
  have hbw : base ≤ w.heap.size := Nat.le_trans hb (Nat.le_of_lt hg.1)
  have b2 := r.seq
  have b3 := r.left
  have hlen := r.len
  simp only [within, Bool.and_eq_true, decide_eq_true_eq] at b2 b3
  have hq := hg.2.1
  have hlt := hg.1
  have hf := hg.2.2
  have HGR := Lib.hid hg
  have HOA := Lib.hid hoa
  have HOI := Lib.hid hoi
  obtain ⟨A, c, rfl⟩ := hoa.form
  obtain ⟨A2, c2, rfl⟩ := hoi.form
  obtain ⟨i0, ji, ji0, ji1, ji2⟩ := info_parts info_tp
  have hlt1 : b0 < w.heap.size + 1 := by omega
  rw [show tkc t = #[.int .i64 t.id, .int .i64 t.kind, .int .i64 t.frm, .int .i64 t.til, .int .i64 t.zones, .int .i64 t.rides] from rfl] at HSP HPL ⊢
  unfold gta at hq HGR
  clear hg hoa hoi hgr htk hspd hz hany r
  go_enter Try.func82, Try.ntmps82
  go_wp2_with fail
  refine (HW.out _).mono ?_
  rintro e w' ⟨rfl, rfl⟩
  cases z1
  · have HQ := Lib.hid (show tapE g t time = 3 by rw [hE]; simp)
    clear hE hE6
    go_wp2_with fail
    go_ret
    refine ⟨ret_int (by rw [HQ.out]), Below.mono (show Ext w _ by repeat (first | (with_reducible exact Ext.refl _) | (with_reducible refine Ext.alloc ?_ _) | (with_reducible apply Ext.setC; focus (simp <;> omega)) | (with_reducible refine Ext.drew ?_) | (with_reducible refine Ext.drewN ?_ _) | (with_reducible refine Ext.trans ?_ (Hid.out ‹Hid (Ext _ _)›)))) hbw, fun h => ?_⟩
    rw [HQ.out] at h
    simp at h
  · go_wp2_with fail
    (refine (HEA.out _ (by repeat (first | (with_reducible exact Ext.refl _) | (with_reducible refine Ext.alloc ?_ _) | (with_reducible apply Ext.setC; focus (simp <;> omega)) | (with_reducible refine Ext.drew ?_) | (with_reducible refine Ext.drewN ?_ _) | (with_reducible refine Ext.trans ?_ (Hid.out ‹Hid (Ext _ _)›))))).mono ?_; rintro e w1 ⟨rfl, h1⟩; have H1 := Lib.hid h1; have hz1 := h1.size; clear h1; (try simp only [World.size_alloc, size_set, World.heap_drewN, size_drew] at hz1); apply Row.use (w := w1) (g := b0); (focus (repeat (first | (with_reducible exact Hid.out ‹Hid (Row _ _ _)›) | (with_reducible exact Row.newAt rfl) | (with_reducible apply Row.newAt; (simp; done)) | (with_reducible apply Row.set_) | (with_reducible apply Row.far; focus (simp <;> omega)) | (with_reducible apply Row.alloc) | (with_reducible apply Row.drew) | (with_reducible apply Row.drewN) | (with_reducible apply Row.ext (Hid.out ‹Hid (Ext _ _)›))))); intro q1_0 f1_0 l1_0 R1_0; (try simp only [List.setIfInBounds_toArray, List.set_cons_zero, List.set_cons_succ] at q1_0 R1_0); apply Row.use (w := w1) (g := w.heap.size); (focus (repeat (first | (with_reducible exact Hid.out ‹Hid (Row _ _ _)›) | (with_reducible exact Row.newAt rfl) | (with_reducible apply Row.newAt; (simp; done)) | (with_reducible apply Row.set_) | (with_reducible apply Row.far; focus (simp <;> omega)) | (with_reducible apply Row.alloc) | (with_reducible apply Row.drew) | (with_reducible apply Row.drewN) | (with_reducible apply Row.ext (Hid.out ‹Hid (Ext _ _)›))))); intro q1_1 f1_1 l1_1 R1_1; (try simp only [List.setIfInBounds_toArray, List.set_cons_zero, List.set_cons_succ] at q1_1 R1_1))
    cases z2
    rotate_left
    · have HQ := Lib.hid (show tapE g t time = 4 by rw [hE]; simp)
      clear hE hE6
      go_wp2_with fail
      go_ret
      refine ⟨ret_int (by rw [HQ.out]), Below.mono (show Ext w _ by repeat (first | (with_reducible exact Ext.refl _) | (with_reducible refine Ext.alloc ?_ _) | (with_reducible apply Ext.setC; focus (simp <;> omega)) | (with_reducible refine Ext.drew ?_) | (with_reducible refine Ext.drewN ?_ _) | (with_reducible refine Ext.trans ?_ (Hid.out ‹Hid (Ext _ _)›)))) hbw, fun h => ?_⟩
      rw [HQ.out] at h
      simp at h
    · go_wp2_with fail
      go_quiet ((go_at_call 58; exact Calls.quiet_of_same ((HCO.out _ (by repeat (first | (with_reducible exact Ext.refl _) | (with_reducible refine Ext.alloc ?_ _) | (with_reducible apply Ext.setC; focus (simp <;> omega)) | (with_reducible refine Ext.drew ?_) | (with_reducible refine Ext.drewN ?_ _) | (with_reducible refine Ext.trans ?_ (Hid.out ‹Hid (Ext _ _)›))))).mono (fun e w' h => ⟨h.1, h.2.symm⟩))))
      cases z3
      rotate_left
      · have HQ := Lib.hid (show tapE g t time = 11 by rw [hE]; simp)
        clear hE hE6
        go_wp2_with fail
        go_ret
        refine ⟨ret_int (by rw [HQ.out]), Below.mono (show Ext w _ by repeat (first | (with_reducible exact Ext.refl _) | (with_reducible refine Ext.alloc ?_ _) | (with_reducible apply Ext.setC; focus (simp <;> omega)) | (with_reducible refine Ext.drew ?_) | (with_reducible refine Ext.drewN ?_ _) | (with_reducible refine Ext.trans ?_ (Hid.out ‹Hid (Ext _ _)›)))) hbw, fun h => ?_⟩
        rw [HQ.out] at h
        simp at h
      · by_cases hu : g.untl < time
        · have HQ := Lib.hid (show tapE g t time = 8 by rw [hE]; simp [hu])
          clear hE hE6
          go_wp2_with fail
          go_ret
          refine ⟨ret_int (by rw [HQ.out]), Below.mono (show Ext w _ by repeat (first | (with_reducible exact Ext.refl _) | (with_reducible refine Ext.alloc ?_ _) | (with_reducible apply Ext.setC; focus (simp <;> omega)) | (with_reducible refine Ext.drew ?_) | (with_reducible refine Ext.drewN ?_ _) | (with_reducible refine Ext.trans ?_ (Hid.out ‹Hid (Ext _ _)›)))) hbw, fun h => ?_⟩
          rw [HQ.out] at h
          simp at h
        · have hu2 : ¬ g.untl < time := hu
          go_wp2_with fail
          by_cases hp : pl = 0
          rotate_left
          · have hpb : (pl != 0) = true := by simpa using hp
            have HQ := Lib.hid (show tapE g t time = pl by rw [hE, if_neg (by simp), if_neg (by simp), if_neg (by simp), if_neg (show ¬ g.untl < time by omega), if_pos hp])
            have HP0 := Lib.hid hp
            clear hE hE6 hp
            go_region_with ((go_at_call 89; (refine (HPL.out _).mono ?_; rintro e w2 ⟨rfl, h2⟩; have H2 := Lib.hid h2; have hz2 := h2.size; clear h2; (try simp only [World.size_alloc, size_set, World.heap_drewN, size_drew] at hz2); apply Row.use (w := w2) (g := b0); (focus (repeat (first | (with_reducible exact Hid.out ‹Hid (Row _ _ _)›) | (with_reducible exact Row.newAt rfl) | (with_reducible apply Row.newAt; (simp; done)) | (with_reducible apply Row.set_) | (with_reducible apply Row.far; focus (simp <;> omega)) | (with_reducible apply Row.alloc) | (with_reducible apply Row.drew) | (with_reducible apply Row.drewN) | (with_reducible apply Row.ext (Hid.out ‹Hid (Ext _ _)›))))); intro q2_0 f2_0 l2_0 R2_0; (try simp only [List.setIfInBounds_toArray, List.set_cons_zero, List.set_cons_succ] at q2_0 R2_0); apply Row.use (w := w2) (g := w.heap.size); (focus (repeat (first | (with_reducible exact Hid.out ‹Hid (Row _ _ _)›) | (with_reducible exact Row.newAt rfl) | (with_reducible apply Row.newAt; (simp; done)) | (with_reducible apply Row.set_) | (with_reducible apply Row.far; focus (simp <;> omega)) | (with_reducible apply Row.alloc) | (with_reducible apply Row.drew) | (with_reducible apply Row.drewN) | (with_reducible apply Row.ext (Hid.out ‹Hid (Ext _ _)›))))); intro q2_1 f2_1 l2_1 R2_1; (try simp only [List.setIfInBounds_toArray, List.set_cons_zero, List.set_cons_succ] at q2_1 R2_1))))
            all_goals
              go_wp2_with fail
              go_ret
              refine ⟨ret_int (by rw [HQ.out]), Below.mono (show Ext w _ by repeat (first | (with_reducible exact Ext.refl _) | (with_reducible refine Ext.alloc ?_ _) | (with_reducible apply Ext.setC; focus (simp <;> omega)) | (with_reducible refine Ext.drew ?_) | (with_reducible refine Ext.drewN ?_ _) | (with_reducible refine Ext.trans ?_ (Hid.out ‹Hid (Ext _ _)›)))) hbw, fun h => ?_⟩
              rw [HQ.out] at h
              exact absurd h HP0.out
          · subst hp
            go_region_with ((go_at_call 89; (refine (HPL.out _).mono ?_; rintro e w2 ⟨rfl, h2⟩; have H2 := Lib.hid h2; have hz2 := h2.size; clear h2; (try simp only [World.size_alloc, size_set, World.heap_drewN, size_drew] at hz2); apply Row.use (w := w2) (g := b0); (focus (repeat (first | (with_reducible exact Hid.out ‹Hid (Row _ _ _)›) | (with_reducible exact Row.newAt rfl) | (with_reducible apply Row.newAt; (simp; done)) | (with_reducible apply Row.set_) | (with_reducible apply Row.far; focus (simp <;> omega)) | (with_reducible apply Row.alloc) | (with_reducible apply Row.drew) | (with_reducible apply Row.drewN) | (with_reducible apply Row.ext (Hid.out ‹Hid (Ext _ _)›))))); intro q2_0 f2_0 l2_0 R2_0; (try simp only [List.setIfInBounds_toArray, List.set_cons_zero, List.set_cons_succ] at q2_0 R2_0); apply Row.use (w := w2) (g := w.heap.size); (focus (repeat (first | (with_reducible exact Hid.out ‹Hid (Row _ _ _)›) | (with_reducible exact Row.newAt rfl) | (with_reducible apply Row.newAt; (simp; done)) | (with_reducible apply Row.set_) | (with_reducible apply Row.far; focus (simp <;> omega)) | (with_reducible apply Row.alloc) | (with_reducible apply Row.drew) | (with_reducible apply Row.drewN) | (with_reducible apply Row.ext (Hid.out ‹Hid (Ext _ _)›))))); intro q2_1 f2_1 l2_1 R2_1; (try simp only [List.setIfInBounds_toArray, List.set_cons_zero, List.set_cons_succ] at q2_1 R2_1))))
            all_goals
              go_wp2_with fail
              (refine (HSP.out _ (by repeat (first | (with_reducible exact Ext.refl _) | (with_reducible refine Ext.alloc ?_ _) | (with_reducible apply Ext.setC; focus (simp <;> omega)) | (with_reducible refine Ext.drew ?_) | (with_reducible refine Ext.drewN ?_ _) | (with_reducible refine Ext.trans ?_ (Hid.out ‹Hid (Ext _ _)›))))).mono ?_; rintro e w3 ⟨rfl, h3⟩; have H3 := Lib.hid h3; have hz3 := h3.size; clear h3; (try simp only [World.size_alloc, size_set, World.heap_drewN, size_drew] at hz3); apply Row.use (w := w3) (g := b0); (focus (repeat (first | (with_reducible exact Hid.out ‹Hid (Row _ _ _)›) | (with_reducible exact Row.newAt rfl) | (with_reducible apply Row.newAt; (simp; done)) | (with_reducible apply Row.set_) | (with_reducible apply Row.far; focus (simp <;> omega)) | (with_reducible apply Row.alloc) | (with_reducible apply Row.drew) | (with_reducible apply Row.drewN) | (with_reducible apply Row.ext (Hid.out ‹Hid (Ext _ _)›))))); intro q3_0 f3_0 l3_0 R3_0; (try simp only [List.setIfInBounds_toArray, List.set_cons_zero, List.set_cons_succ] at q3_0 R3_0); apply Row.use (w := w3) (g := w.heap.size); (focus (repeat (first | (with_reducible exact Hid.out ‹Hid (Row _ _ _)›) | (with_reducible exact Row.newAt rfl) | (with_reducible apply Row.newAt; (simp; done)) | (with_reducible apply Row.set_) | (with_reducible apply Row.far; focus (simp <;> omega)) | (with_reducible apply Row.alloc) | (with_reducible apply Row.drew) | (with_reducible apply Row.drewN) | (with_reducible apply Row.ext (Hid.out ‹Hid (Ext _ _)›))))); intro q3_1 f3_1 l3_1 R3_1; (try simp only [List.setIfInBounds_toArray, List.set_cons_zero, List.set_cons_succ] at q3_1 R3_1))
              cases z6
              rotate_left
              · have HQ := Lib.hid (show tapE g t time = 10 by rw [hE, if_neg (by simp), if_neg (by simp), if_neg (by simp), if_neg (show ¬ g.untl < time by omega), if_neg (by simp), if_pos (hE6.2 rfl)])
                clear hE hE6
                go_wp2_with fail
                go_ret
                refine ⟨ret_int (by rw [HQ.out]), Below.mono (show Ext w _ by repeat (first | (with_reducible exact Ext.refl _) | (with_reducible refine Ext.alloc ?_ _) | (with_reducible apply Ext.setC; focus (simp <;> omega)) | (with_reducible refine Ext.drew ?_) | (with_reducible refine Ext.drewN ?_ _) | (with_reducible refine Ext.trans ?_ (Hid.out ‹Hid (Ext _ _)›)))) hbw, fun h => ?_⟩
                rw [HQ.out] at h
                simp at h
              · have h6 : ¬ (g.left = 0 ∨ t.kind ≠ 2 ∧ twiceG g t.id = true) := fun h => by have := hE6.1 h; cases this
                have h6l : 0 < g.left := by
                  have : g.left ≠ 0 := fun h => h6 (.inl h)
                  omega
                by_cases hl : g.alone.length = 12
                · have hlb : ((g.alone.length : Int) == 12) = true := by rw [hl]; rfl
                  have HQ := Lib.hid (show tapE g t time = 2 by rw [hE, if_neg (by simp), if_neg (by simp), if_neg (by simp), if_neg (show ¬ g.untl < time by omega), if_neg (by simp), if_neg h6, if_pos (.inl hl)])
                  clear hE hE6 h6
                  go_wp2_with fail
                  go_ret
                  refine ⟨ret_int (by rw [HQ.out]), Below.mono (show Ext w _ by repeat (first | (with_reducible exact Ext.refl _) | (with_reducible refine Ext.alloc ?_ _) | (with_reducible apply Ext.setC; focus (simp <;> omega)) | (with_reducible refine Ext.drew ?_) | (with_reducible refine Ext.drewN ?_ _) | (with_reducible refine Ext.trans ?_ (Hid.out ‹Hid (Ext _ _)›)))) hbw, fun h => ?_⟩
                  rw [HQ.out] at h
                  simp at h
                · have hlb : ((g.alone.length : Int) == 12) = false := by rw [beq_eq_false_iff_ne]; omega
                  by_cases hs : g.seq = 99
                  · have hsb : (g.seq == 99) = true := by rw [hs]; rfl
                    have HQ := Lib.hid (show tapE g t time = 2 by rw [hE, if_neg (by simp), if_neg (by simp), if_neg (by simp), if_neg (show ¬ g.untl < time by omega), if_neg (by simp), if_neg h6, if_pos (.inr hs)])
                    clear hE hE6 h6
                    go_wp2_with fail
                    go_ret
                    refine ⟨ret_int (by rw [HQ.out]), Below.mono (show Ext w _ by repeat (first | (with_reducible exact Ext.refl _) | (with_reducible refine Ext.alloc ?_ _) | (with_reducible apply Ext.setC; focus (simp <;> omega)) | (with_reducible refine Ext.drew ?_) | (with_reducible refine Ext.drewN ?_ _) | (with_reducible refine Ext.trans ?_ (Hid.out ‹Hid (Ext _ _)›)))) hbw, fun h => ?_⟩
                    rw [HQ.out] at h
                    simp at h
                  · have hsb : (g.seq == 99) = false := by rw [beq_eq_false_iff_ne]; omega
                    have HQ := Lib.hid (show tapE g t time = 0 by rw [hE, if_neg (by simp), if_neg (by simp), if_neg (by simp), if_neg (show ¬ g.untl < time by omega), if_neg (by simp), if_neg h6, if_neg (by omega)])
                    have hw1 : IntKind.i64.wrap (g.seq + 1) = g.seq + 1 := IntWalk.i64_in _ (by omega)
                    have hw2 : IntKind.i64.wrap (g.left - 1) = g.left - 1 := IntWalk.i64_in _ (by omega)
                    have hE3 : Ext w w3 := by repeat (first | (with_reducible exact Ext.refl _) | (with_reducible refine Ext.alloc ?_ _) | (with_reducible apply Ext.setC; focus (simp <;> omega)) | (with_reducible refine Ext.drew ?_) | (with_reducible refine Ext.drewN ?_ _) | (with_reducible refine Ext.trans ?_ (Hid.out ‹Hid (Ext _ _)›)))
                    have HE3 := Lib.hid hE3
                    clear hE hE6 h6 hE3
                    go_wp2_with fail
                    have hr0 := ((R3_0.out.set_ (i := 2) (u := .int .i64 (g.seq + 1))).set_ (i := 6) (u := .int .i64 (g.left - 1)))
                    have hr1 := Row.far (p := ⟨b0, 6, none⟩) (u := .int .i64 (g.left - 1)) (show w.heap.size ≠ b0 by omega) (Row.far (p := ⟨b0, 2, none⟩) (u := .int .i64 (g.seq + 1)) (show w.heap.size ≠ b0 by omega) R3_1.out)
                    simp only [List.setIfInBounds_toArray, List.set_cons_zero, List.set_cons_succ] at hr0
                    have HR0 := Lib.hid hr0
                    have HR1 := Lib.hid hr1
                    clear hr0 hr1
                    have hoW := OwnL.put (a := ⟨b0, 6, none⟩) (OwnL.put (a := ⟨b0, 2, none⟩) (HOA.out.ext HE3.out) hna (.int .i64 (g.seq + 1))) hna (.int .i64 (g.left - 1))
                    have hiW := OwnL.put (a := ⟨b0, 6, none⟩) (OwnL.put (a := ⟨b0, 2, none⟩) (HOI.out.ext HE3.out) hni (.int .i64 (g.seq + 1))) hni (.int .i64 (g.left - 1))
                    have hBW := Below.setCell (p := ⟨b0, 6, none⟩) (Below.setCell (p := ⟨b0, 2, none⟩) (Below.mono HE3.out hbw) hb (.int .i64 (g.seq + 1))) hb (.int .i64 (g.left - 1))
                    generalize (w3.setCell ⟨b0, 2, none⟩ (.int .i64 (g.seq + 1))).setCell ⟨b0, 6, none⟩ (.int .i64 (g.left - 1)) = W at *
                    have hsz := Below.size hBW
                    have HoW := Lib.hid hoW
                    have HiW := Lib.hid hiW
                    have HBW := Lib.hid hBW
                    have hlW := HR0.out.1
                    have hlW1 := HR1.out.1
                    clear hoW hiW hBW
                    refine T_begin (fun w' => (∀ o, w'.cell? ⟨b0, o, none⟩ = (#[.int .i64 g.id, .int .i64 g.zone, .int .i64 (g.seq + 1), .slice A g.alone.length c, .int .i64 g.denied.version, .slice A2 g.denied.ids.length c2, .int .i64 (g.left - 1), .int .i64 g.untl] : Array Value)[o]?) ∧ (∀ o, w'.cell? ⟨w.heap.size, o, none⟩ = (#[.int .i64 t.id, .int .i64 t.kind, .int .i64 t.frm, .int .i64 t.til, .int .i64 t.zones, .int .i64 t.rides] : Array Value)[o]?)) 30 (by kernel_rfl) ⟨fun o => HR0.out.2.1 o, fun o => HR1.out.2.1 o⟩ (fun hS => ?_)
                    simp only [List.length_cons, List.length_nil]
                    ((refine T_take (i := 0) (v := ?_) rfl (by kernel_rfl) rfl hS ?_ ?_; rotate_left; focus (intro w hSw; (try dsimp only at hSw); go_simp; try (with_reducible rfl))); (try simp only [Act.put, List.setIfInBounds_toArray, List.set_cons_zero, List.set_cons_succ]); (refine T_take (i := 1) (v := ?_) rfl (by kernel_rfl) rfl hS ?_ ?_; rotate_left; focus (intro w hSw; (try dsimp only at hSw); go_simp; try (with_reducible rfl))); (try simp only [Act.put, List.setIfInBounds_toArray, List.set_cons_zero, List.set_cons_succ]); (refine T_take (i := 2) (v := ?_) rfl (by kernel_rfl) rfl hS ?_ ?_; rotate_left; focus (intro w hSw; (try dsimp only at hSw); go_simp; try (with_reducible rfl))); (try simp only [Act.put, List.setIfInBounds_toArray, List.set_cons_zero, List.set_cons_succ]); (refine T_take (i := 3) (v := ?_) rfl (by kernel_rfl) rfl hS ?_ ?_; rotate_left; focus (intro w hSw; (try dsimp only at hSw); go_simp; try (with_reducible rfl))); (try simp only [Act.put, List.setIfInBounds_toArray, List.set_cons_zero, List.set_cons_succ]); (refine T_take (i := 4) (v := ?_) rfl (by kernel_rfl) rfl hS ?_ ?_; rotate_left; focus (intro w hSw; (try dsimp only at hSw); go_simp; try (with_reducible rfl))); (try simp only [Act.put, List.setIfInBounds_toArray, List.set_cons_zero, List.set_cons_succ]); (refine T_take (i := 5) (v := ?_) rfl (by kernel_rfl) rfl hS ?_ ?_; rotate_left; focus (intro w hSw; (try dsimp only at hSw); go_simp; try (with_reducible rfl))); (try simp only [Act.put, List.setIfInBounds_toArray, List.set_cons_zero, List.set_cons_succ]); (refine T_take (i := 6) (v := ?_) rfl (by kernel_rfl) rfl hS ?_ ?_; rotate_left; focus (intro w hSw; (try dsimp only at hSw); go_simp; try (with_reducible rfl))); (try simp only [Act.put, List.setIfInBounds_toArray, List.set_cons_zero, List.set_cons_succ]); (refine T_take (i := 7) (v := ?_) rfl (by kernel_rfl) rfl hS ?_ ?_; rotate_left; focus (intro w hSw; (try dsimp only at hSw); go_simp; try (with_reducible rfl))); (try simp only [Act.put, List.setIfInBounds_toArray, List.set_cons_zero, List.set_cons_succ]); (refine T_take (i := 8) (v := ?_) rfl (by kernel_rfl) rfl hS ?_ ?_; rotate_left; focus (intro w hSw; (try dsimp only at hSw); go_simp; try (with_reducible rfl))); (try simp only [Act.put, List.setIfInBounds_toArray, List.set_cons_zero, List.set_cons_succ]); (refine T_take (i := 9) (v := ?_) rfl (by kernel_rfl) rfl hS ?_ ?_; rotate_left; focus (intro w hSw; (try dsimp only at hSw); go_simp; try (with_reducible rfl))); (try simp only [Act.put, List.setIfInBounds_toArray, List.set_cons_zero, List.set_cons_succ]); (refine T_take (i := 10) (v := ?_) rfl (by kernel_rfl) rfl hS ?_ ?_; rotate_left; focus (intro w hSw; (try dsimp only at hSw); go_simp; try (with_reducible rfl))); (try simp only [Act.put, List.setIfInBounds_toArray, List.set_cons_zero, List.set_cons_succ]); (refine T_take (i := 11) (v := ?_) rfl (by kernel_rfl) rfl hS ?_ ?_; rotate_left; focus (intro w hSw; (try dsimp only at hSw); go_simp; try (with_reducible rfl))); (try simp only [Act.put, List.setIfInBounds_toArray, List.set_cons_zero, List.set_cons_succ]); (refine T_take (i := 12) (v := ?_) rfl (by kernel_rfl) rfl hS ?_ ?_; rotate_left; focus (intro w hSw; (try dsimp only at hSw); go_simp; try (with_reducible rfl))); (try simp only [Act.put, List.setIfInBounds_toArray, List.set_cons_zero, List.set_cons_succ]); (refine T_take (i := 13) (v := ?_) rfl (by kernel_rfl) rfl hS ?_ ?_; rotate_left; focus (intro w hSw; (try dsimp only at hSw); go_simp; try (with_reducible rfl))); (try simp only [Act.put, List.setIfInBounds_toArray, List.set_cons_zero, List.set_cons_succ]); (refine T_take (i := 14) (v := ?_) rfl (by kernel_rfl) rfl hS ?_ ?_; rotate_left; focus (intro w hSw; (try dsimp only at hSw); go_simp; try (with_reducible rfl))); (try simp only [Act.put, List.setIfInBounds_toArray, List.set_cons_zero, List.set_cons_succ]); (refine T_take (i := 15) (v := ?_) rfl (by kernel_rfl) rfl hS ?_ ?_; rotate_left; focus (intro w hSw; (try dsimp only at hSw); go_simp; try (with_reducible rfl))); (try simp only [Act.put, List.setIfInBounds_toArray, List.set_cons_zero, List.set_cons_succ]); (refine T_take (i := 16) (v := ?_) rfl (by kernel_rfl) rfl hS ?_ ?_; rotate_left; focus (intro w hSw; (try dsimp only at hSw); go_simp; try (with_reducible rfl))); (try simp only [Act.put, List.setIfInBounds_toArray, List.set_cons_zero, List.set_cons_succ]); (refine T_take (i := 17) (v := ?_) rfl (by kernel_rfl) rfl hS ?_ ?_; rotate_left; focus (intro w hSw; (try dsimp only at hSw); go_simp; try (with_reducible rfl))); (try simp only [Act.put, List.setIfInBounds_toArray, List.set_cons_zero, List.set_cons_succ]); (refine T_take (i := 18) (v := ?_) rfl (by kernel_rfl) rfl hS ?_ ?_; rotate_left; focus (intro w hSw; (try dsimp only at hSw); go_simp; try (with_reducible rfl))); (try simp only [Act.put, List.setIfInBounds_toArray, List.set_cons_zero, List.set_cons_succ]); (refine T_take (i := 19) (v := ?_) rfl (by kernel_rfl) rfl hS ?_ ?_; rotate_left; focus (intro w hSw; (try dsimp only at hSw); go_simp; try (with_reducible rfl))); (try simp only [Act.put, List.setIfInBounds_toArray, List.set_cons_zero, List.set_cons_succ]); (refine T_take (i := 20) (v := ?_) rfl (by kernel_rfl) rfl hS ?_ ?_; rotate_left; focus (intro w hSw; (try dsimp only at hSw); go_simp; try (with_reducible rfl))); (try simp only [Act.put, List.setIfInBounds_toArray, List.set_cons_zero, List.set_cons_succ]); (refine T_take (i := 21) (v := ?_) rfl (by kernel_rfl) rfl hS ?_ ?_; rotate_left; focus (intro w hSw; (try dsimp only at hSw); go_simp; try (with_reducible rfl))); (try simp only [Act.put, List.setIfInBounds_toArray, List.set_cons_zero, List.set_cons_succ]); (refine T_take (i := 22) (v := ?_) rfl (by kernel_rfl) rfl hS ?_ ?_; rotate_left; focus (intro w hSw; (try dsimp only at hSw); go_simp; try (with_reducible rfl))); (try simp only [Act.put, List.setIfInBounds_toArray, List.set_cons_zero, List.set_cons_succ]); (refine T_take (i := 23) (v := ?_) rfl (by kernel_rfl) rfl hS ?_ ?_; rotate_left; focus (intro w hSw; (try dsimp only at hSw); go_simp; try (with_reducible rfl))); (try simp only [Act.put, List.setIfInBounds_toArray, List.set_cons_zero, List.set_cons_succ]); (refine T_take (i := 24) (v := ?_) rfl (by kernel_rfl) rfl hS ?_ ?_; rotate_left; focus (intro w hSw; (try dsimp only at hSw); go_simp; try (with_reducible rfl))); (try simp only [Act.put, List.setIfInBounds_toArray, List.set_cons_zero, List.set_cons_succ]))
                    refine T_only (i := 25) rfl (by kernel_rfl) rfl (fun K hK => ?_)
                    go_simp
                    refine hK.out _ _ (.inr ⟨fun o => HR0.out.drew.alloc.2.1 o, fun o => HR1.out.drew.alloc.2.1 o⟩) ?_
                    clear hK hS
                    (try simp only [Act.put, List.setIfInBounds_toArray, List.set_cons_zero, List.set_cons_succ])
                    refine T_only (i := 26) rfl (by kernel_rfl) rfl (fun K hK => ?_)
                    refine wp_append_rd (enc := tpc) (k := 5) _ (.tmp 91) (.tmp 111) 56 rfl base 64 i0 (.agg #[.int .i64 0, .int .i64 0, .int .i64 0, .int .i64 0, .int .i64 0]) 40 Try.underlying56 ji ji0 ji1 ji2 rfl (by decide) tpc_size (.slice A g.alone.length c) g.alone rfl (OwnL.alloc _ (OwnL.drew HoW.out)) (.slice (some ⟨W.heap.size, 0, none⟩) 1 1) [tapOf g t time] rfl (RdL.lit (enc := tpc) (tapOf g t time) rfl rfl) (taps_one _) (by unfold maxLen; simp; omega) (by simp; omega) (by simp; omega) ?_
                    intro v' w' ho' hg' hn'
                    obtain ⟨A', c', rfl⟩ := ho'.form
                    have hr' := Row.grown (HR0.out.drew.alloc) hg' (fun h => hna h.symm)
                    have hB' := Below.grown (Below.alloc (Below.drew HBW.out) (by simp; omega) _) hg' (by simp; omega) (fun q hq => (HOA.out.lt q hq).1)
                    have hI' := OwnL.kept' (OwnL.alloc _ (OwnL.drew HiW.out)) hg' hdis
                    have hr1' := Row.grown (HR1.out.drew.alloc) hg' (fun h => by have := (HOA.out.lt _ h.symm).2; omega)
                    have hv' : (Value.slice A' (g.alone ++ [tapOf g t time]).length c').ownBlock ≠ some b0 := own_ne hn' hna (by simp; omega)
                    have HR' := Lib.hid hr'
                    have HR1' := Lib.hid hr1'
                    have HB' := Lib.hid hB'
                    have HO' := Lib.hid ho'
                    have HI' := Lib.hid hI'
                    have HV' := Lib.hid hv'
                    have hq' := hr'.2.1
                    have hf' := hr'.2.2
                    have hlt' := hr'.1
                    clear hr' hr1' hB' hI' hv' hg' hn' ho'
                    refine hK.out _ _ (.inr ⟨fun o => HR'.out.2.1 o, fun o => HR1'.out.2.1 o⟩) ?_
                    clear hK
                    have hS := And.intro (fun o => HR'.out.2.1 o) (fun o => HR1'.out.2.1 o)
                    (try simp only [Act.put, List.setIfInBounds_toArray, List.set_cons_zero, List.set_cons_succ])
                    ((refine T_take (i := 27) (v := ?_) rfl (by kernel_rfl) rfl hS ?_ ?_; rotate_left; focus (intro w hSw; (try dsimp only at hSw); go_simp; try (with_reducible rfl))); (try simp only [Act.put, List.setIfInBounds_toArray, List.set_cons_zero, List.set_cons_succ]); (refine T_take (i := 28) (v := ?_) rfl (by kernel_rfl) rfl hS ?_ ?_; rotate_left; focus (intro w hSw; (try dsimp only at hSw); go_simp; try (with_reducible rfl))); (try simp only [Act.put, List.setIfInBounds_toArray, List.set_cons_zero, List.set_cons_succ]); (refine T_take (i := 29) (v := ?_) rfl (by kernel_rfl) rfl hS ?_ ?_; rotate_left; focus (intro w hSw; (try dsimp only at hSw); go_simp; try (with_reducible rfl))); (try simp only [Act.put, List.setIfInBounds_toArray, List.set_cons_zero, List.set_cons_succ]))
                    clear hS
                    refine T_only (i := 30) rfl (by kernel_rfl) rfl (fun K hK => ?_)
                    go_simp
                    refine hK.out _ _ (.inl (by kernel_rfl)) ?_
                    clear hK
                    refine T_done (by kernel_rfl) ?_ _
                    all_goals
                      go_wp2_with fail
                      go_ret
                      refine ⟨ret_int (by rw [HQ.out]), HB'.out.setCell hb _, fun _ => ⟨_, ?_, HO'.out.put HV'.out _, HI'.out.put hni _⟩⟩
                      rw [gta_tapped]
                      have := HR'.out.set_ (i := 3) (u := .slice A' (g.alone ++ [tapOf g t time]).length c')
                      simpa using this
end Go.Proofs.Ythollackhkiofaa
