/- MergeNone: for every input the law returns true, and each argument reads afterwards as it read before. No condition. -/
import Derived.Test.YtbboonepfmkgnaaRows
import Derived.Test.YtbboonepfmkgnaaMh
import Derived.Test.YtbboonepfmkgnaaMe
import Derived.Test.YtbboonepfmkgnaaMo
/- The law MergeNone. -/
namespace Go.Proofs.Ytbboonepfmkgnaa
set_option linter.unusedSimpArgs false
set_option linter.unusedVariables false
set_option maxRecDepth 100000
open Go Go.RowKit Lb

set_option maxHeartbeats 64000000 in
theorem law_MergeNone (l : Ld) (s0 s1 s2 : Value) (taps : List Tp) (u : Value) (w : World) (hr0 : RdL 6 tkc w s0 l.tickets) (hr1 : RdL 5 tpc w s1 l.taps) (hr2 : RdL 1 inc w s2 l.verdicts) (hs : RdL 5 tpc w u taps) :
    Calls Try.prog 11 #[.agg #[s0, s1, s2], u] w fun e w' => e = .returned (.bool true) ∧ Ext w w' := by
  have HOR := Lib.hid (fun (w' : World) (h : Ext w w') => merge_Order taps u w' (hs.ext h))
  have HO2 := Lib.hid (fun (s : Value) (w' : World) (h0 : (orderL taps).2 = 0) (h : RdL 5 tpc w' s (orderL taps).1) => (show Calls Try.prog 33 #[s] w' fun e w'' => ∃ t, e = .returned (.tuple #[t, .int .i64 0]) ∧ Ext w' w'' ∧ RdL 5 tpc w'' t (orderL taps).1 from by
    refine (merge_Order (orderL taps).1 s w' h).mono ?_
    rintro e w'' ⟨t, h1, h2, h3⟩
    rw [(orderL_again h0).1] at h1 h3
    exact ⟨t, h1, h2, h3.rd tpc_size⟩))
  have HIN := Lib.hid (fun (w' : World) (h : Ext w w') => merge_Into l [] s0 s1 s2 (.slice none 0 0) w' (hr0.ext h) (hr1.ext h) (hr2.ext h) RdL.nil)
  have HBG := Lib.hid (fun (w' : World) => law_mergeBegun w')
  have HST := Lib.hid (fun (m : List Tp) (v u : Value) (w' : World) (hr : RdL 5 tpc w' v m) (hs : RdL 5 tpc w' u m) => (show Calls Try.prog 25 #[v, u] w' fun e w'' => e = .returned (.bool true) ∧ Ext w' w'' from by
    have := ref_SameTaps m m v u w' hr hs
    simpa using this))
  have HSL := Lib.hid (fun (t0 t1 t2 : Value) (w' : World) (h : Ext w w') (h0 : RdL 6 tkc w' t0 l.tickets) (h1 : RdL 5 tpc w' t1 l.taps) (h2 : RdL 1 inc w' t2 l.verdicts) => (show Calls Try.prog 26 #[.agg #[t0, t1, t2], .agg #[s0, s1, s2]] w' fun e w'' => e = .returned (.bool true) ∧ Ext w' w'' from by
    have := ref_SameLedger l l t0 t1 t2 s0 s1 s2 w' h0 h1 h2 (hr0.ext h) (hr1.ext h) (hr2.ext h)
    rw [decide_eq_true (rfl : l = l)] at this
    exact this))
  have HRd := Lib.hid hr1
  have hag := @orderL_again taps
  have hbad := @intoAll_bad l []
  have hnone := @intoAll_none l
  have hlen := @intoAll_len l []
  have hm : taps.length ≤ 9223372036854775807 := by
    obtain ⟨A, c, -, h1, h2⟩ := hs.form
    unfold maxLen at h2
    omega
  have hml : l.taps.length ≤ 9223372036854775807 := by
    obtain ⟨A, c, -, h1, h2⟩ := hr1.form
    unfold maxLen at h2
    omega
  generalize orderL taps = O at *
  generalize intoAll l [] = X at *
  obtain ⟨O1, O2⟩ := O
  obtain ⟨X1, X2, X3⟩ := X
  simp only at HOR HO2 HIN hag hbad hnone hlen
  obtain ⟨A0, c0, rfl, -, -⟩ := hr0.form
  obtain ⟨A1, c1, rfl, -, -⟩ := hr1.form
  obtain ⟨A2, c2, rfl, -, -⟩ := hr2.form
  obtain ⟨A4, c4, rfl, -, -⟩ := hs.form
  have HAG := Lib.hid hag
  have HBD := Lib.hid hbad
  have HNO := Lib.hid hnone
  have HLE := Lib.hid hlen
  clear hr0 hr1 hr2 hs hag hbad hnone hlen
  go_enter Try.func11, Try.ntmps11
  go_wp2_with fail
  refine (HOR.out _ (by repeat (first | (with_reducible exact Ext.refl _) | (with_reducible refine Ext.alloc ?_ _) | (with_reducible apply Ext.setC; focus (simp <;> omega)) | (with_reducible refine Ext.drew ?_) | (with_reducible refine Ext.drewN ?_ _) | (with_reducible refine Ext.trans ?_ (Hid.out ‹Hid (Ext _ _)›))))).mono ?_
  rintro e w1 ⟨s, rfl, h1, ho⟩
  obtain ⟨B1, d1, rfl⟩ := ho.form
  have o1 := Lib.hid (ho.rd tpc_size)
  have H1 := Lib.hid h1
  have hz1 := h1.size
  (try simp only [World.size_alloc, size_set, World.heap_drewN, size_drew] at hz1)
  clear h1 ho
  (apply Row.use (w := w1) (g := w.heap.size); (focus (repeat (first | (with_reducible exact Hid.out ‹Hid (Row _ _ _)›) | (with_reducible exact Row.newAt rfl) | (with_reducible apply Row.newAt; (simp; done)) | (with_reducible apply Row.set_) | (with_reducible apply Row.far; focus (simp <;> omega)) | (with_reducible apply Row.alloc) | (with_reducible apply Row.drew) | (with_reducible apply Row.drewN) | (with_reducible apply Row.ext (Hid.out ‹Hid (Ext _ _)›))))); intro q1_0 f1_0 l1_0 R1_0; (try simp only [List.setIfInBounds_toArray, List.set_cons_zero, List.set_cons_succ] at q1_0 R1_0))
  go_wp2_with fail
  (refine (HBG.out _).mono ?_; rintro e w2 ⟨rfl, h2⟩; have H2 := Lib.hid h2; have hz2 := h2.size; clear h2; (try simp only [World.size_alloc, size_set, World.heap_drewN, size_drew] at hz2); apply Row.use (w := w2) (g := w.heap.size); (focus (repeat (first | (with_reducible exact Hid.out ‹Hid (Row _ _ _)›) | (with_reducible exact Row.newAt rfl) | (with_reducible apply Row.newAt; (simp; done)) | (with_reducible apply Row.set_) | (with_reducible apply Row.far; focus (simp <;> omega)) | (with_reducible apply Row.alloc) | (with_reducible apply Row.drew) | (with_reducible apply Row.drewN) | (with_reducible apply Row.ext (Hid.out ‹Hid (Ext _ _)›))))); intro q2_0 f2_0 l2_0 R2_0; (try simp only [List.setIfInBounds_toArray, List.set_cons_zero, List.set_cons_succ] at q2_0 R2_0))
  go_upto_if 21 with fail
  go_cut [4, 7, 8, 9] (fun _ _ _ _ wx => Aside (Ext w2 wx))
  case first =>
    by_cases h0 : O2 = 0
    · subst h0
      have hag := HAG.out rfl
      have hl1 := hag.2.1
      have hri := hag.2.2
      have hlb : ((O1.length : Int) != (taps.length : Int)) = false := by rw [hl1]; simp
      have hmo : O1.length ≤ 9223372036854775807 := by omega
      have HRI := Lib.hid hri
      clear hag hl1 hri HAG
      go_wp2_with fail
      refine (HO2.out _ _ trivial (o1.out.ext (show Ext w1 _ by repeat (first | (with_reducible exact Ext.refl _) | (with_reducible refine Ext.alloc ?_ _) | (with_reducible apply Ext.setC; focus (simp <;> omega)) | (with_reducible refine Ext.drew ?_) | (with_reducible refine Ext.drewN ?_ _) | (with_reducible refine Ext.trans ?_ (Hid.out ‹Hid (Ext _ _)›)))))).mono ?_
      rintro e w3 ⟨s, rfl, h3, ho⟩
      obtain ⟨B3, d3, rfl, -, -⟩ := ho.form
      have o3 := Lib.hid ho
      have H3 := Lib.hid h3
      clear h3 ho
      go_wp2_with fail
      refine (HST.out O1 _ _ _ (o1.out.ext (show Ext w1 _ by repeat (first | (with_reducible exact Ext.refl _) | (with_reducible refine Ext.alloc ?_ _) | (with_reducible apply Ext.setC; focus (simp <;> omega)) | (with_reducible refine Ext.drew ?_) | (with_reducible refine Ext.drewN ?_ _) | (with_reducible refine Ext.trans ?_ (Hid.out ‹Hid (Ext _ _)›))))) (o3.out.ext (by repeat (first | (with_reducible exact Ext.refl _) | (with_reducible refine Ext.alloc ?_ _) | (with_reducible apply Ext.setC; focus (simp <;> omega)) | (with_reducible refine Ext.drew ?_) | (with_reducible refine Ext.drewN ?_ _) | (with_reducible refine Ext.trans ?_ (Hid.out ‹Hid (Ext _ _)›)))))).mono ?_
      (rintro e w4 ⟨rfl, h4⟩; have H4 := Lib.hid h4; have hz4 := h4.size; clear h4; (try simp only [World.size_alloc, size_set, World.heap_drewN, size_drew] at hz4))
      go_wp2_with fail
      go_loopg [4, 9] O1.length (fun gg _ s9 wr => ∃ k : Nat, 1 ≤ k ∧ O1.length + 1 - k ≤ gg + 1 ∧ s9 = .int .i64 k ∧ Aside (Ext w2 wr))
      case atStart => exact ⟨1, Nat.le_refl _, by omega, by go_num, (show Ext w2 _ by repeat (first | (with_reducible exact Ext.refl _) | (with_reducible refine Ext.alloc ?_ _) | (with_reducible apply Ext.setC; focus (simp <;> omega)) | (with_reducible refine Ext.drew ?_) | (with_reducible refine Ext.drewN ?_ _) | (with_reducible refine Ext.trans ?_ (Hid.out ‹Hid (Ext _ _)›))))⟩
      case round =>
        obtain ⟨k, hk, hg, rfl, HE⟩ := hrel
        have HE2 := Lib.hid HE.out
        clear HE
        by_cases hlt : k < O1.length
        · have hlt' : (k : Int) < (O1.length : Int) := by omega
          have hE1r : Ext w1 wr := by repeat (first | (with_reducible exact Ext.refl _) | (with_reducible refine Ext.alloc ?_ _) | (with_reducible apply Ext.setC; focus (simp <;> omega)) | (with_reducible refine Ext.drew ?_) | (with_reducible refine Ext.drewN ?_ _) | (with_reducible refine Ext.trans ?_ (Hid.out ‹Hid (Ext _ _)›)))
          obtain ⟨b, o, rfl, hb, c0', c1', c2', c3', c4'⟩ := (o1.out.ext hE1r).tap_at rfl hlt
          obtain ⟨b', o', hA, hb', e0', e1', e2', e3', e4'⟩ := (o1.out.ext hE1r).tap_at rfl (show k - 1 < O1.length by omega)
          injection hA with hA
          injection hA with q1 q2 q3
          subst q1 q2
          have hlt2 := rises_next HRI.out (k - 1) (by omega)
          have HIB := Lib.hid (fun (w' : World) => (show Calls Try.prog 39 #[.agg (tpc O1[k - 1]), .agg (tpc O1[k])] w' fun e w'' => e = .returned (.bool true) ∧ Ext w' w'' from by
            have := ref_IsBefore O1[k - 1] O1[k] w'
            have e : O1[k - 1 + 1]'(by omega) = O1[k] := by congr 1; omega
            rw [e] at hlt2
            rwa [hlt2] at this))
          obtain ⟨m, hkm⟩ : ∃ m, k = m + 1 := ⟨k - 1, by omega⟩
          have hwm : IntKind.i64.wrap ((k : Int) - 1) = (m : Int) := by rw [IntWalk.i64_in _ (by omega)]; omega
          have hm0 : 0 ≤ (m : Int) := by omega
          have hmi : (m : Int) < (O1.length : Int) := by omega
          simp only [show k - 1 = m by omega] at e0' e1' e2' e3' e4' HIB
          clear hlt2
          generalize O1[m] = x at *
          generalize O1[k] = y at *
          have HKM := Lib.hid hkm
          have hxt : tpc x = #[.int .i64 x.ticket, .int .i64 x.gate, .int .i64 x.seq, .int .i64 x.time, .int .i64 x.zone] := rfl
          have hyt : tpc y = #[.int .i64 y.ticket, .int .i64 y.gate, .int .i64 y.seq, .int .i64 y.time, .int .i64 y.zone] := rfl
          rw [hxt, hyt] at HIB
          clear hxt hyt hkm
          go_upto_region 11 with fail
          have HK := Lib.hid (fun (w' : World) (h : Ext wr w') => And.intro ((h.cells _ _ hb).trans c0') (And.intro ((h.cells _ _ hb).trans c1') (And.intro ((h.cells _ _ hb).trans c2') (And.intro ((h.cells _ _ hb).trans c3') (And.intro ((h.cells _ _ hb).trans c4') (And.intro ((h.cells _ _ hb).trans e0') (And.intro ((h.cells _ _ hb).trans e1') (And.intro ((h.cells _ _ hb).trans e2') (And.intro ((h.cells _ _ hb).trans e3') (((h.cells _ _ hb).trans e4')))))))))))
          (refine T_begin (fun w' => Ext wr w') 10 (by kernel_rfl) ((Ext.refl _).drew) (fun hS => ?_); simp only [List.length_cons, List.length_nil])
          ((refine T_take (i := 0) (v := ?_) rfl (by kernel_rfl) rfl hS ?_ ?_; rotate_left; focus (intro w hSw; have hk := HK.out w hSw; clear hSw; go_simp; try (with_reducible rfl))); (try simp only [Act.put, List.setIfInBounds_toArray, List.set_cons_zero, List.set_cons_succ]); (refine T_take (i := 1) (v := ?_) rfl (by kernel_rfl) rfl hS ?_ ?_; rotate_left; focus (intro w hSw; have hk := HK.out w hSw; clear hSw; go_simp; try (with_reducible rfl))); (try simp only [Act.put, List.setIfInBounds_toArray, List.set_cons_zero, List.set_cons_succ]); (refine T_take (i := 2) (v := ?_) rfl (by kernel_rfl) rfl hS ?_ ?_; rotate_left; focus (intro w hSw; have hk := HK.out w hSw; clear hSw; go_simp; try (with_reducible rfl))); (try simp only [Act.put, List.setIfInBounds_toArray, List.set_cons_zero, List.set_cons_succ]); (refine T_take (i := 3) (v := ?_) rfl (by kernel_rfl) rfl hS ?_ ?_; rotate_left; focus (intro w hSw; have hk := HK.out w hSw; clear hSw; go_simp; try (with_reducible rfl))); (try simp only [Act.put, List.setIfInBounds_toArray, List.set_cons_zero, List.set_cons_succ]); (refine T_take (i := 4) (v := ?_) rfl (by kernel_rfl) rfl hS ?_ ?_; rotate_left; focus (intro w hSw; have hk := HK.out w hSw; clear hSw; go_simp; try (with_reducible rfl))); (try simp only [Act.put, List.setIfInBounds_toArray, List.set_cons_zero, List.set_cons_succ]); (refine T_take (i := 5) (v := ?_) rfl (by kernel_rfl) rfl hS ?_ ?_; rotate_left; focus (intro w hSw; have hk := HK.out w hSw; clear hSw; go_simp; try (with_reducible rfl))); (try simp only [Act.put, List.setIfInBounds_toArray, List.set_cons_zero, List.set_cons_succ]); (refine T_take (i := 6) (v := ?_) rfl (by kernel_rfl) rfl hS ?_ ?_; rotate_left; focus (intro w hSw; have hk := HK.out w hSw; clear hSw; go_simp; try (with_reducible rfl))); (try simp only [Act.put, List.setIfInBounds_toArray, List.set_cons_zero, List.set_cons_succ]); (refine T_take (i := 7) (v := ?_) rfl (by kernel_rfl) rfl hS ?_ ?_; rotate_left; focus (intro w hSw; have hk := HK.out w hSw; clear hSw; go_simp; try (with_reducible rfl))); (try simp only [Act.put, List.setIfInBounds_toArray, List.set_cons_zero, List.set_cons_succ]); (refine T_take (i := 8) (v := ?_) rfl (by kernel_rfl) rfl hS ?_ ?_; rotate_left; focus (intro w hSw; have hk := HK.out w hSw; clear hSw; go_simp; try (with_reducible rfl))); (try simp only [Act.put, List.setIfInBounds_toArray, List.set_cons_zero, List.set_cons_succ]))
          (refine T_only (i := 9) rfl (by kernel_rfl) rfl (fun K hK => ?_); go_simp)
          refine (HIB.out _).mono ?_
          rintro e w8 ⟨rfl, h8⟩
          have H8 := Lib.hid h8
          clear h8 hS
          (go_wp2_with fail; have hS : Ext wr w8 := by (repeat (first | (with_reducible exact Ext.refl _) | (with_reducible refine Ext.alloc ?_ _) | (with_reducible apply Ext.setC; focus (simp <;> omega)) | (with_reducible refine Ext.drew ?_) | (with_reducible refine Ext.drewN ?_ _) | (with_reducible refine Ext.trans ?_ (Hid.out ‹Hid (Ext _ _)›))))); (refine hK.out _ _ (.inr hS) ?_; clear hK; (try simp only [Act.put, List.setIfInBounds_toArray, List.set_cons_zero, List.set_cons_succ]))
          (refine T_only (i := 10) rfl (by kernel_rfl) rfl (fun K hK => ?_); go_simp; refine hK.out _ _ (.inl (by kernel_rfl)) ?_; clear hK; (try simp only [Act.put, List.setIfInBounds_toArray, List.set_cons_zero, List.set_cons_succ]); refine T_done (by kernel_rfl) ?_ _)
          clear hS HK
          go_wp2_with fail
          go_roundg (O1.length - (k + 1))
          case measure => omega
          case rel => exact ⟨k + 1, by omega, by omega, by go_num, (show Ext w2 _ by repeat (first | (with_reducible exact Ext.refl _) | (with_reducible refine Ext.alloc ?_ _) | (with_reducible apply Ext.setC; focus (simp <;> omega)) | (with_reducible refine Ext.drew ?_) | (with_reducible refine Ext.drewN ?_ _) | (with_reducible refine Ext.trans ?_ (Hid.out ‹Hid (Ext _ _)›))))⟩
        · have hge : ¬ (k : Int) < (O1.length : Int) := by omega
          go_wp2_with fail
          go_meet
          case rel => exact (show Ext w2 _ by repeat (first | (with_reducible exact Ext.refl _) | (with_reducible refine Ext.alloc ?_ _) | (with_reducible apply Ext.setC; focus (simp <;> omega)) | (with_reducible refine Ext.drew ?_) | (with_reducible refine Ext.drewN ?_ _) | (with_reducible refine Ext.trans ?_ (Hid.out ‹Hid (Ext _ _)›))))
    · have h0b : (O2 == 0) = false := by simpa using h0
      clear h0
      go_wp2_with fail
      go_meet
      case rel => exact (show Ext w2 _ by repeat (first | (with_reducible exact Ext.refl _) | (with_reducible refine Ext.alloc ?_ _) | (with_reducible apply Ext.setC; focus (simp <;> omega)) | (with_reducible refine Ext.drew ?_) | (with_reducible refine Ext.drewN ?_ _) | (with_reducible refine Ext.trans ?_ (Hid.out ‹Hid (Ext _ _)›))))
  case rest =>
    have HW := hcut
    obtain ⟨w5, rfl⟩ : ∃ w5 : World, w5 = wc := ⟨_, rfl⟩
    have H5 := Lib.hid HW.out
    have hz5 := HW.out.size
    clear HW hcut HAG HO2 HOR o1
    (apply Row.use (w := w5) (g := w.heap.size); (focus (repeat (first | (with_reducible exact Hid.out ‹Hid (Row _ _ _)›) | (with_reducible exact Row.newAt rfl) | (with_reducible apply Row.newAt; (simp; done)) | (with_reducible apply Row.set_) | (with_reducible apply Row.far; focus (simp <;> omega)) | (with_reducible apply Row.alloc) | (with_reducible apply Row.drew) | (with_reducible apply Row.drewN) | (with_reducible apply Row.ext (Hid.out ‹Hid (Ext _ _)›))))); intro q5_0 f5_0 l5_0 R5_0; (try simp only [List.setIfInBounds_toArray, List.set_cons_zero, List.set_cons_succ] at q5_0 R5_0))
    go_wp2_with fail
    refine (HIN.out _ (by repeat (first | (with_reducible exact Ext.refl _) | (with_reducible refine Ext.alloc ?_ _) | (with_reducible apply Ext.setC; focus (simp <;> omega)) | (with_reducible refine Ext.drew ?_) | (with_reducible refine Ext.drewN ?_ _) | (with_reducible refine Ext.trans ?_ (Hid.out ‹Hid (Ext _ _)›))))).mono ?_
    rintro e w6 ⟨t0, t1, t2, so, rfl, h6, hl, ho, -⟩
    obtain ⟨C0, e0, C1, e1, C2, e2, rfl, rfl, rfl⟩ := hl.forms
    obtain ⟨C3, e3, rfl⟩ := ho.form
    have o6a := Lib.hid (hl.tk.rd tkc_size)
    have o6b := Lib.hid (hl.tp.rd tpc_size)
    have o6c := Lib.hid (hl.vd.rd inc_size)
    have H6 := Lib.hid h6
    have hz6 := h6.size
    (try simp only [World.size_alloc, size_set, World.heap_drewN, size_drew] at hz6)
    clear h6 hl ho
    (apply Row.use (w := w6) (g := w.heap.size); (focus (repeat (first | (with_reducible exact Hid.out ‹Hid (Row _ _ _)›) | (with_reducible exact Row.newAt rfl) | (with_reducible apply Row.newAt; (simp; done)) | (with_reducible apply Row.set_) | (with_reducible apply Row.far; focus (simp <;> omega)) | (with_reducible apply Row.alloc) | (with_reducible apply Row.drew) | (with_reducible apply Row.drewN) | (with_reducible apply Row.ext (Hid.out ‹Hid (Ext _ _)›))))); intro q6_0 f6_0 l6_0 R6_0; (try simp only [List.setIfInBounds_toArray, List.set_cons_zero, List.set_cons_succ] at q6_0 R6_0))
    by_cases h0 : X3 = 0
    · subst h0
      have hle := HLE.out rfl
      simp only [List.length_nil, Nat.add_zero] at hle
      have HLEN := Lib.hid hle
      clear hle HBD
      have hsum : IntKind.i64.wrap ((X2.length : Int) + (X1.taps.length : Int)) = (l.taps.length : Int) := by
        have := HLEN.out
        rw [IntWalk.i64_in _ (by omega)]
        omega
      go_wp2_with fail
      go_loopg [4, 12] l.taps.length (fun gg _ s12 wr => ∃ k : Nat, 1 ≤ k ∧ l.taps.length + 1 - k ≤ gg + 1 ∧ s12 = .int .i64 k ∧ Aside (Ext w6 wr ∧ Row wr w6.heap.size #[.slice C0 X1.tickets.length e0, .slice C1 X1.taps.length e1, .slice C2 X1.verdicts.length e2]) ∧ Aside (∀ (i : Nat) (hi : i + 1 < l.taps.length), i + 1 < k → ltTp l.taps[i] l.taps[i + 1] = true))
      case atStart => exact ⟨1, Nat.le_refl _, by omega, by go_num, ⟨(show Ext w6 _ by repeat (first | (with_reducible exact Ext.refl _) | (with_reducible refine Ext.alloc ?_ _) | (with_reducible apply Ext.setC; focus (simp <;> omega)) | (with_reducible refine Ext.drew ?_) | (with_reducible refine Ext.drewN ?_ _) | (with_reducible refine Ext.trans ?_ (Hid.out ‹Hid (Ext _ _)›)))), Row.newAt rfl⟩, fun i hi h => absurd h (by omega)⟩
      case round =>
        obtain ⟨k, hk, hg, rfl, HV, HA⟩ := hrel
        have HE := Lib.hid HV.out.1
        have RA := Lib.hid HV.out.2
        have HA2 := Lib.hid HA.out
        have RL := Lib.hid (R6_0.out.ext HE.out)
        have hz7 := HE.out.size
        clear HV HA q6_0 f6_0 l6_0
        (apply Row.use (w := wr) (g := w.heap.size); (focus (repeat (first | (with_reducible exact Hid.out ‹Hid (Row _ _ _)›) | (with_reducible exact Row.newAt rfl) | (with_reducible apply Row.newAt; (simp; done)) | (with_reducible apply Row.set_) | (with_reducible apply Row.far; focus (simp <;> omega)) | (with_reducible apply Row.alloc) | (with_reducible apply Row.drew) | (with_reducible apply Row.drewN) | (with_reducible apply Row.ext (Hid.out ‹Hid (Ext _ _)›))))); intro qr_0 fr_0 lr_0 Rr_0; (try simp only [List.setIfInBounds_toArray, List.set_cons_zero, List.set_cons_succ] at qr_0 Rr_0); apply Row.use (w := wr) (g := w6.heap.size); (focus (repeat (first | (with_reducible exact Hid.out ‹Hid (Row _ _ _)›) | (with_reducible exact Row.newAt rfl) | (with_reducible apply Row.newAt; (simp; done)) | (with_reducible apply Row.set_) | (with_reducible apply Row.far; focus (simp <;> omega)) | (with_reducible apply Row.alloc) | (with_reducible apply Row.drew) | (with_reducible apply Row.drewN) | (with_reducible apply Row.ext (Hid.out ‹Hid (Ext _ _)›))))); intro qr_1 fr_1 lr_1 Rr_1; (try simp only [List.setIfInBounds_toArray, List.set_cons_zero, List.set_cons_succ] at qr_1 Rr_1))
        by_cases hlt : k < l.taps.length
        · have hlt' : (k : Int) < (l.taps.length : Int) := by omega
          have hEr : Ext w wr := by repeat (first | (with_reducible exact Ext.refl _) | (with_reducible refine Ext.alloc ?_ _) | (with_reducible apply Ext.setC; focus (simp <;> omega)) | (with_reducible refine Ext.drew ?_) | (with_reducible refine Ext.drewN ?_ _) | (with_reducible refine Ext.trans ?_ (Hid.out ‹Hid (Ext _ _)›)))
          obtain ⟨b, o, rfl, hb, c0', c1', c2', c3', c4'⟩ := (HRd.out.ext hEr).tap_at rfl hlt
          obtain ⟨b', o', hA, hb', e0', e1', e2', e3', e4'⟩ := (HRd.out.ext hEr).tap_at rfl (show k - 1 < l.taps.length by omega)
          injection hA with hA
          injection hA with q1 q2 q3
          subst q1 q2
          have HIB := Lib.hid (fun (w' : World) => ref_IsBefore l.taps[k - 1] l.taps[k] w')
          have HNX := Lib.hid (show ltTp l.taps[k - 1] l.taps[k] = true → ∀ (i : Nat) (hi : i + 1 < l.taps.length), i + 1 < k + 1 → ltTp l.taps[i] l.taps[i + 1] = true from fun h i hi hik => by
            by_cases e : i + 1 = k
            · subst e
              simpa using h
            · exact HA2.out i hi (by omega))
          obtain ⟨m, hkm⟩ : ∃ m, k = m + 1 := ⟨k - 1, by omega⟩
          have hwm : IntKind.i64.wrap ((k : Int) - 1) = (m : Int) := by rw [IntWalk.i64_in _ (by omega)]; omega
          have hm0 : 0 ≤ (m : Int) := by omega
          have hmi : (m : Int) < (l.taps.length : Int) := by omega
          simp only [show k - 1 = m by omega] at e0' e1' e2' e3' e4' HIB HNX
          generalize hz : ltTp l.taps[m] l.taps[k] = z at *
          generalize l.taps[m] = x at *
          generalize l.taps[k] = y at *
          have hxt : tpc x = #[.int .i64 x.ticket, .int .i64 x.gate, .int .i64 x.seq, .int .i64 x.time, .int .i64 x.zone] := rfl
          have hyt : tpc y = #[.int .i64 y.ticket, .int .i64 y.gate, .int .i64 y.seq, .int .i64 y.time, .int .i64 y.zone] := rfl
          rw [hxt, hyt] at HIB
          clear hxt hyt hkm hz hEr
          go_upto_region 19 with fail
          have HK := Lib.hid (fun (w' : World) (h : Ext wr w') => And.intro (Row.ext h RL.out).2.1 (And.intro ((h.cells _ _ hb).trans c0') (And.intro ((h.cells _ _ hb).trans c1') (And.intro ((h.cells _ _ hb).trans c2') (And.intro ((h.cells _ _ hb).trans c3') (And.intro ((h.cells _ _ hb).trans c4') (And.intro ((h.cells _ _ hb).trans e0') (And.intro ((h.cells _ _ hb).trans e1') (And.intro ((h.cells _ _ hb).trans e2') (And.intro ((h.cells _ _ hb).trans e3') (((h.cells _ _ hb).trans e4'))))))))))))
          (refine T_begin (fun w' => Ext wr w') 12 (by kernel_rfl) ((Ext.refl _).drew) (fun hS => ?_); simp only [List.length_cons, List.length_nil])
          ((refine T_take (i := 0) (v := ?_) rfl (by kernel_rfl) rfl hS ?_ ?_; rotate_left; focus (intro w hSw; have hk := HK.out w hSw; clear hSw; go_simp; try (with_reducible rfl))); (try simp only [Act.put, List.setIfInBounds_toArray, List.set_cons_zero, List.set_cons_succ]); (refine T_take (i := 1) (v := ?_) rfl (by kernel_rfl) rfl hS ?_ ?_; rotate_left; focus (intro w hSw; have hk := HK.out w hSw; clear hSw; go_simp; try (with_reducible rfl))); (try simp only [Act.put, List.setIfInBounds_toArray, List.set_cons_zero, List.set_cons_succ]); (refine T_take (i := 2) (v := ?_) rfl (by kernel_rfl) rfl hS ?_ ?_; rotate_left; focus (intro w hSw; have hk := HK.out w hSw; clear hSw; go_simp; try (with_reducible rfl))); (try simp only [Act.put, List.setIfInBounds_toArray, List.set_cons_zero, List.set_cons_succ]); (refine T_take (i := 3) (v := ?_) rfl (by kernel_rfl) rfl hS ?_ ?_; rotate_left; focus (intro w hSw; have hk := HK.out w hSw; clear hSw; go_simp; try (with_reducible rfl))); (try simp only [Act.put, List.setIfInBounds_toArray, List.set_cons_zero, List.set_cons_succ]); (refine T_take (i := 4) (v := ?_) rfl (by kernel_rfl) rfl hS ?_ ?_; rotate_left; focus (intro w hSw; have hk := HK.out w hSw; clear hSw; go_simp; try (with_reducible rfl))); (try simp only [Act.put, List.setIfInBounds_toArray, List.set_cons_zero, List.set_cons_succ]); (refine T_take (i := 5) (v := ?_) rfl (by kernel_rfl) rfl hS ?_ ?_; rotate_left; focus (intro w hSw; have hk := HK.out w hSw; clear hSw; go_simp; try (with_reducible rfl))); (try simp only [Act.put, List.setIfInBounds_toArray, List.set_cons_zero, List.set_cons_succ]); (refine T_take (i := 6) (v := ?_) rfl (by kernel_rfl) rfl hS ?_ ?_; rotate_left; focus (intro w hSw; have hk := HK.out w hSw; clear hSw; go_simp; try (with_reducible rfl))); (try simp only [Act.put, List.setIfInBounds_toArray, List.set_cons_zero, List.set_cons_succ]); (refine T_take (i := 7) (v := ?_) rfl (by kernel_rfl) rfl hS ?_ ?_; rotate_left; focus (intro w hSw; have hk := HK.out w hSw; clear hSw; go_simp; try (with_reducible rfl))); (try simp only [Act.put, List.setIfInBounds_toArray, List.set_cons_zero, List.set_cons_succ]); (refine T_take (i := 8) (v := ?_) rfl (by kernel_rfl) rfl hS ?_ ?_; rotate_left; focus (intro w hSw; have hk := HK.out w hSw; clear hSw; go_simp; try (with_reducible rfl))); (try simp only [Act.put, List.setIfInBounds_toArray, List.set_cons_zero, List.set_cons_succ]); (refine T_take (i := 9) (v := ?_) rfl (by kernel_rfl) rfl hS ?_ ?_; rotate_left; focus (intro w hSw; have hk := HK.out w hSw; clear hSw; go_simp; try (with_reducible rfl))); (try simp only [Act.put, List.setIfInBounds_toArray, List.set_cons_zero, List.set_cons_succ]); (refine T_take (i := 10) (v := ?_) rfl (by kernel_rfl) rfl hS ?_ ?_; rotate_left; focus (intro w hSw; have hk := HK.out w hSw; clear hSw; go_simp; try (with_reducible rfl))); (try simp only [Act.put, List.setIfInBounds_toArray, List.set_cons_zero, List.set_cons_succ]))
          (refine T_only (i := 11) rfl (by kernel_rfl) rfl (fun K hK => ?_); go_simp)
          refine (HIB.out _).mono ?_
          rintro e w8 ⟨rfl, h8⟩
          have H8 := Lib.hid h8
          clear h8 hS
          (go_wp2_with fail; have hS : Ext wr w8 := by (repeat (first | (with_reducible exact Ext.refl _) | (with_reducible refine Ext.alloc ?_ _) | (with_reducible apply Ext.setC; focus (simp <;> omega)) | (with_reducible refine Ext.drew ?_) | (with_reducible refine Ext.drewN ?_ _) | (with_reducible refine Ext.trans ?_ (Hid.out ‹Hid (Ext _ _)›))))); (refine hK.out _ _ (.inr hS) ?_; clear hK; (try simp only [Act.put, List.setIfInBounds_toArray, List.set_cons_zero, List.set_cons_succ]))
          (refine T_only (i := 12) rfl (by kernel_rfl) rfl (fun K hK => ?_); go_simp; refine hK.out _ _ (.inl (by kernel_rfl)) ?_; clear hK; (try simp only [Act.put, List.setIfInBounds_toArray, List.set_cons_zero, List.set_cons_succ]); refine T_done (by kernel_rfl) ?_ _)
          clear hS HK qr_0 fr_0 lr_0 qr_1 fr_1 lr_1
          (apply Row.use (w := w8) (g := w.heap.size); (focus (repeat (first | (with_reducible exact Hid.out ‹Hid (Row _ _ _)›) | (with_reducible exact Row.newAt rfl) | (with_reducible apply Row.newAt; (simp; done)) | (with_reducible apply Row.set_) | (with_reducible apply Row.far; focus (simp <;> omega)) | (with_reducible apply Row.alloc) | (with_reducible apply Row.drew) | (with_reducible apply Row.drewN) | (with_reducible apply Row.ext (Hid.out ‹Hid (Ext _ _)›))))); intro qs_0 fs_0 ls_0 Rs_0; (try simp only [List.setIfInBounds_toArray, List.set_cons_zero, List.set_cons_succ] at qs_0 Rs_0); apply Row.use (w := w8) (g := w6.heap.size); (focus (repeat (first | (with_reducible exact Hid.out ‹Hid (Row _ _ _)›) | (with_reducible exact Row.newAt rfl) | (with_reducible apply Row.newAt; (simp; done)) | (with_reducible apply Row.set_) | (with_reducible apply Row.far; focus (simp <;> omega)) | (with_reducible apply Row.alloc) | (with_reducible apply Row.drew) | (with_reducible apply Row.drewN) | (with_reducible apply Row.ext (Hid.out ‹Hid (Ext _ _)›))))); intro qs_1 fs_1 ls_1 Rs_1; (try simp only [List.setIfInBounds_toArray, List.set_cons_zero, List.set_cons_succ] at qs_1 Rs_1))
          cases z
          · go_wp2_with fail
            go_ret
            exact ⟨ret_bool (by simp), (show Ext w _ by repeat (first | (with_reducible exact Ext.refl _) | (with_reducible refine Ext.alloc ?_ _) | (with_reducible apply Ext.setC; focus (simp <;> omega)) | (with_reducible refine Ext.drew ?_) | (with_reducible refine Ext.drewN ?_ _) | (with_reducible refine Ext.trans ?_ (Hid.out ‹Hid (Ext _ _)›))))⟩
          · go_wp2_with fail
            go_roundg (l.taps.length - (k + 1))
            case measure => omega
            case rel => exact ⟨k + 1, by omega, by omega, by go_num, ⟨(show Ext w6 _ by repeat (first | (with_reducible exact Ext.refl _) | (with_reducible refine Ext.alloc ?_ _) | (with_reducible apply Ext.setC; focus (simp <;> omega)) | (with_reducible refine Ext.drew ?_) | (with_reducible refine Ext.drewN ?_ _) | (with_reducible refine Ext.trans ?_ (Hid.out ‹Hid (Ext _ _)›)))), by repeat (first | (with_reducible exact Hid.out ‹Hid (Row _ _ _)›) | (with_reducible exact Row.newAt rfl) | (with_reducible apply Row.newAt; (simp; done)) | (with_reducible apply Row.set_) | (with_reducible apply Row.far; focus (simp <;> omega)) | (with_reducible apply Row.alloc) | (with_reducible apply Row.drew) | (with_reducible apply Row.drewN) | (with_reducible apply Row.ext (Hid.out ‹Hid (Ext _ _)›)))⟩, HNX.out trivial⟩
        · have hge : ¬ (k : Int) < (l.taps.length : Int) := by omega
          have hfin := HNO.out trivial (rises_of_next (fun i hi => HA2.out i hi (by omega)))
          simp only [Prod.mk.injEq, and_true] at hfin
          obtain ⟨rfl, rfl⟩ := hfin
          go_wp2_with fail
          refine (HSL.out _ _ _ _ (by repeat (first | (with_reducible exact Ext.refl _) | (with_reducible refine Ext.alloc ?_ _) | (with_reducible apply Ext.setC; focus (simp <;> omega)) | (with_reducible refine Ext.drew ?_) | (with_reducible refine Ext.drewN ?_ _) | (with_reducible refine Ext.trans ?_ (Hid.out ‹Hid (Ext _ _)›)))) (o6a.out.ext (by repeat (first | (with_reducible exact Ext.refl _) | (with_reducible refine Ext.alloc ?_ _) | (with_reducible apply Ext.setC; focus (simp <;> omega)) | (with_reducible refine Ext.drew ?_) | (with_reducible refine Ext.drewN ?_ _) | (with_reducible refine Ext.trans ?_ (Hid.out ‹Hid (Ext _ _)›))))) (o6b.out.ext (by repeat (first | (with_reducible exact Ext.refl _) | (with_reducible refine Ext.alloc ?_ _) | (with_reducible apply Ext.setC; focus (simp <;> omega)) | (with_reducible refine Ext.drew ?_) | (with_reducible refine Ext.drewN ?_ _) | (with_reducible refine Ext.trans ?_ (Hid.out ‹Hid (Ext _ _)›))))) (o6c.out.ext (by repeat (first | (with_reducible exact Ext.refl _) | (with_reducible refine Ext.alloc ?_ _) | (with_reducible apply Ext.setC; focus (simp <;> omega)) | (with_reducible refine Ext.drew ?_) | (with_reducible refine Ext.drewN ?_ _) | (with_reducible refine Ext.trans ?_ (Hid.out ‹Hid (Ext _ _)›)))))).mono ?_
          (rintro e w9 ⟨rfl, h9⟩; have H9 := Lib.hid h9; have hz9 := h9.size; clear h9; (try simp only [World.size_alloc, size_set, World.heap_drewN, size_drew] at hz9))
          go_wp2_with fail
          go_ret
          exact ⟨rfl, (show Ext w _ by repeat (first | (with_reducible exact Ext.refl _) | (with_reducible refine Ext.alloc ?_ _) | (with_reducible apply Ext.setC; focus (simp <;> omega)) | (with_reducible refine Ext.drew ?_) | (with_reducible refine Ext.drewN ?_ _) | (with_reducible refine Ext.trans ?_ (Hid.out ‹Hid (Ext _ _)›))))⟩
    · have h0b : (X3 != 0) = true := by simpa using h0
      have hb := (HBD.out h0).1
      subst hb
      have hl0 : ld0.taps.length = 0 := rfl
      clear h0 HBD HNO HLE
      go_wp2_with fail
      go_ret
      exact ⟨ret_bool (by simp [ld0]), (show Ext w _ by repeat (first | (with_reducible exact Ext.refl _) | (with_reducible refine Ext.alloc ?_ _) | (with_reducible apply Ext.setC; focus (simp <;> omega)) | (with_reducible refine Ext.drew ?_) | (with_reducible refine Ext.drewN ?_ _) | (with_reducible refine Ext.trans ?_ (Hid.out ‹Hid (Ext _ _)›))))⟩
end Go.Proofs.Ytbboonepfmkgnaa

namespace Go.Proofs.Ytbboonepfmkgnaa
set_option linter.unusedSimpArgs false
set_option linter.unusedVariables false
open Go.ChangeShapes Go.WideShapes Go.ChangeAt Go.RowKit
open Go.ChangeMaps (open_string shut_string)

set_option maxRecDepth 100000 in
theorem mergeNone_lifted (os : Os) (started : os.Started) (H : Type) (enc : TypeId × Value → H) :
    ReturnsInHanded {} Try.checked os 11 .any (Rows.mergeNoneSpec.pre6 enc Try.prog Try.f11 Rows.mergeNoneRow.domain false) (Rows.mergeNoneSpec.post enc Try.prog Try.f11 false true false false) := by
  refine returnsInHanded_of_change (C := Try.checked) own started (by kernel_rfl) Try.func11
    (ChangeSpec.witness6 (enc := enc) (C := Try.checked) false ⟨#[], #[.agg #[.slice none 0 0, .slice none 0 0, .slice none 0 0], .slice none 0 0], []⟩ 8 (by kernel_rfl) (by kernel_rfl) (by kernel_rfl) (by kernel_rfl)) ?_
  intro W base args ds gs before hval0 hW hcnd _
  have hval : ∀ (j : Nat) t v, Try.f11.params[j]? = some t → args[j]? = some v → Value.okWide Try.prog W .any base t v := hval0
  have hW' := hW
  obtain ⟨p, q, hA0, hV, rfl, hfz, hnd⟩ := hW
  have hA : DataW.TrodAll enc Try.prog W 0 (fun _ => true) true Try.f11.params.toList args.toList ds p := hA0
  rw [Try.params11] at hA hval
  obtain ⟨v0, vs0, d0, ds0, p0, q0, hargs, rfl, rfl, h0, r0⟩ := trodAll_cons hA
  obtain ⟨v1, vs1, d1, ds1, p1, q1, rfl, rfl, rfl, h1, r1⟩ := trodAll_cons r0
  obtain ⟨rfl, rfl, rfl⟩ := trodAll_nil r1
  obtain rfl : args = #[v0, v1] := by cases args; simp_all
  obtain ⟨rfl, rfl⟩ := trodVars_none hV
  have k0 := h0
  have lt0 : ∀ x ∈ p0, x.block < W.heap.size := by obtain ⟨m, hm⟩ := k0; exact DataW.trod_lt m _ _ _ hm
  have k1 := h1
  have lt1 : ∀ x ∈ p1, x.block < W.heap.size := by obtain ⟨m, hm⟩ := k1; exact DataW.trod_lt m _ _ _ hm
  obtain ⟨l0, sk0, sp0, sv0, rfl, e0, f0, i0⟩ := open_ld (hval 0 26 v0 rfl rfl) h0
  obtain ⟨l1, e1⟩ := open_tps (hval 1 23 v1 rfl rfl) h1
  clear hA0 hval0
  refine (law_MergeNone l0 sk0 sp0 sv0 l1 v1 W e0 f0 i0 e1).mono fun e W' ⟨he, bel⟩ => ?_
  subst he
  exact ⟨_, rfl, _, _, _, [], _, [], hW', trodAll_mk1 (shut_bool Try.underlying4 _), (trodAll_cons_mk (Below.trod laidOut (by kernel_rfl) (of_decide_eq_true (by kernel_rfl)) k0 bel lt0) (trodAll_cons_mk (Below.trod laidOut (by kernel_rfl) (of_decide_eq_true (by kernel_rfl)) k1 bel lt1) trodAll_mk0)), rfl, bel.frame _, fun h => by cases h⟩

theorem mergeNone_holds : Rows.MergeNoneSaid :=
  OpenClaim.holds_of_wide 11 Try.f11 rfl rfl rfl rfl rfl rfl rfl ⟨rfl, rfl, rfl, rfl, rfl⟩ rfl rfl rfl rfl rfl (by kernel_rfl) Try.func11 (by kernel_rfl)
    (of_decide_eq_true (by kernel_rfl)) (by unfold Func.isWrapper; first | (rw [if_pos (by decide +kernel)]; kernel_rfl) | (rw [if_neg (by decide +kernel)]; exact ⟨rfl, rfl⟩))
    (fun os started H enc _ => mergeNone_lifted os started H enc)

end Go.Proofs.Ytbboonepfmkgnaa
