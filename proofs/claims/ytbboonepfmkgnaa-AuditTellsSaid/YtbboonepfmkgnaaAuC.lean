/- audit.Rest, Left; LeftOf, the document's own. -/
import Derived.Test.YtbboonepfmkgnaaAuB
import Derived.Test.YtbboonepfmkgnaaRegF
namespace Go.Proofs.Ytbboonepfmkgnaa
set_option linter.unusedSimpArgs false
set_option linter.unusedVariables false
set_option maxRecDepth 100000
open Go Go.RowKit Lb

theorem ridesOf_len (taps : List Tp) (vs : List Int) (id : Int) : (ridesOf taps vs id).length ≤ taps.length := by
  have h := ridesTo_len taps vs id (taps.length + vs.length)
  rw [ridesTo_all taps vs id _ (by omega) (by omega)] at h
  unfold ridesOf
  rw [List.length_map]
  refine Nat.le_trans (List.length_filter_le _ _) ?_
  rw [List.length_zip]
  omega
theorem most_in {t : Tk} (h : ckTicket t = 0) : 0 ≤ mostOf t ∧ mostOf t ≤ 60 := by
  have hk := kind_in h
  unfold mostOf
  split
  · omega
  · split
    · omega
    · rename_i h1 h2
      have h3 : t.kind = 3 := by omega
      unfold ckTicket at h
      split at h
      · simp at h
      · split at h
        · simp at h
        · split at h
          · simp at h
          · cases hw : within t.rides 2 9 with
            | true => simp [within] at hw; omega
            | false => simp [h3, hw] at h

set_option maxHeartbeats 8000000 in
theorem audit_Rest (tks : List Tk) (taps : List Tp) (vs : List Int) (s0 s1 s2 : Value) (i : Nat) (hi : i < tks.length) (w : World) (hck : ckLedger ⟨tks, taps, vs⟩ = 0) (hr0 : RdL 6 tkc w s0 tks) (hr1 : RdL 5 tpc w s1 taps) (hr2 : RdL 1 inc w s2 vs) :
    Calls Try.prog 60 #[.agg #[s0, s1, s2], .int .i64 i] w fun e w' => e = .returned (.int .i64 (restOf ⟨tks, taps, vs⟩ tks[i])) ∧ Ext w w' := by
  have HMN := Lib.hid (fun (w' : World) (h : Ext w w') => ledger_Many taps vs s0 s1 s2 tks[i].id w' (right_len hck) (by obtain ⟨A, c, h, -⟩ := hr0.form; exact ⟨_, _, _, h⟩) (hr1.ext h) (hr2.ext h))
  have hkd := right_kind hck _ (List.getElem_mem hi)
  have hmo := most_in (tickets_mem (right_iff.1 hck).2.2.2.1 _ (List.getElem_mem hi))
  have hln := ridesOf_len taps vs tks[i].id
  have h60 : taps.length ≤ 60 := (right_iff.1 hck).2.1
  have hi' : (i : Int) < (tks.length : Int) := by omega
  unfold restOf
  simp only
  obtain ⟨A0, c0, rfl, -, -⟩ := hr0.form
  obtain ⟨tb, tof, rfl, htb, g0, g1, g2, g3, g4, g5⟩ := hr0.tk_at rfl hi
  obtain ⟨A, c, rfl, -, -⟩ := hr1.form
  obtain ⟨A2, c2, rfl, -, -⟩ := hr2.form
  clear hr0 hr1 hr2
  generalize ridesOf taps vs tks[i].id = R at *
  generalize tks[i] = t at *
  obtain ⟨t0, t1, t2, t3, t4, t5⟩ := t
  simp only at g0 g1 g2 g3 g4 g5 HMN hkd
  have hws : IntKind.i64.wrap (mostOf ⟨t0, t1, t2, t3, t4, t5⟩ - (R.length : Int)) = mostOf ⟨t0, t1, t2, t3, t4, t5⟩ - (R.length : Int) := IntWalk.i64_in _ (by omega)
  clear hmo hln h60 hck
  have h3 : t1 = 1 ∨ t1 = 2 ∨ t1 = 3 := by omega
  clear hkd
  rcases h3 with rfl | rfl | rfl
  all_goals
    simp only [mostOf, if_true, (show ¬ ((2 : Int) = 1) by decide), (show ¬ ((3 : Int) = 1) by decide), (show ¬ ((3 : Int) = 2) by decide), if_false] at hws ⊢
    go_enter Try.func60, Try.ntmps60
    go_upto_region 3 with fail
    (apply wp_gen3 (w0 := w) (g0 := w.heap.size) (g1 := w.heap.size + 1) (g2 := w.heap.size + 1 + 1); (focus (repeat (first | (with_reducible exact Hid.out ‹Hid (Row _ _ _)›) | (with_reducible exact Row.newAt rfl) | (with_reducible apply Row.newAt; (simp; done)) | (with_reducible apply Row.set_) | (with_reducible apply Row.far; focus (simp <;> omega)) | (with_reducible apply Row.alloc) | (with_reducible apply Row.drew) | (with_reducible apply Row.drewN) | (with_reducible apply Row.ext (Hid.out ‹Hid (Ext _ _)›))))); (focus (repeat (first | (with_reducible exact Hid.out ‹Hid (Row _ _ _)›) | (with_reducible exact Row.newAt rfl) | (with_reducible apply Row.newAt; (simp; done)) | (with_reducible apply Row.set_) | (with_reducible apply Row.far; focus (simp <;> omega)) | (with_reducible apply Row.alloc) | (with_reducible apply Row.drew) | (with_reducible apply Row.drewN) | (with_reducible apply Row.ext (Hid.out ‹Hid (Ext _ _)›))))); (focus (repeat (first | (with_reducible exact Hid.out ‹Hid (Row _ _ _)›) | (with_reducible exact Row.newAt rfl) | (with_reducible apply Row.newAt; (simp; done)) | (with_reducible apply Row.set_) | (with_reducible apply Row.far; focus (simp <;> omega)) | (with_reducible apply Row.alloc) | (with_reducible apply Row.drew) | (with_reducible apply Row.drewN) | (with_reducible apply Row.ext (Hid.out ‹Hid (Ext _ _)›))))); (focus (repeat (first | (with_reducible exact Ext.refl _) | (with_reducible refine Ext.alloc ?_ _) | (with_reducible apply Ext.setC; focus (simp <;> omega)) | (with_reducible refine Ext.drew ?_) | (with_reducible refine Ext.drewN ?_ _) | (with_reducible refine Ext.trans ?_ (Hid.out ‹Hid (Ext _ _)›))))); intro W HW hzW Ra_0 Ra_1 Ra_2; (try simp only [List.setIfInBounds_toArray, List.set_cons_zero, List.set_cons_succ, World.size_alloc, size_set, World.heap_drewN, size_drew] at hzW Ra_0 Ra_1 Ra_2); have la_0 := Ra_0.out.size; have la_1 := Ra_1.out.size; have la_2 := Ra_2.out.size)
    have HK := Lib.hid (fun (w' : World) (h : Ext W w') => And.intro (Row.ext h Ra_0.out).2.1 (And.intro (Row.ext h Ra_1.out).2.1 ((Row.ext h Ra_2.out).2.1)))
    (refine T_begin (fun w' => Ext W w') 9 (by kernel_rfl) ((Ext.refl _).drew) (fun hS => ?_); simp only [List.length_cons, List.length_nil])
    ((refine T_take (i := 0) (v := ?_) rfl (by kernel_rfl) rfl hS ?_ ?_; rotate_left; focus (intro w hSw; have hk := HK.out w hSw; clear hSw; go_simp; try (with_reducible rfl))); (try simp only [Act.put, List.setIfInBounds_toArray, List.set_cons_zero, List.set_cons_succ]); (refine T_take (i := 1) (v := ?_) rfl (by kernel_rfl) rfl hS ?_ ?_; rotate_left; focus (intro w hSw; have hk := HK.out w hSw; clear hSw; go_simp; try (with_reducible rfl))); (try simp only [Act.put, List.setIfInBounds_toArray, List.set_cons_zero, List.set_cons_succ]); (refine T_take (i := 2) (v := ?_) rfl (by kernel_rfl) rfl hS ?_ ?_; rotate_left; focus (intro w hSw; have hk := HK.out w hSw; clear hSw; go_simp; try (with_reducible rfl))); (try simp only [Act.put, List.setIfInBounds_toArray, List.set_cons_zero, List.set_cons_succ]); (refine T_take (i := 3) (v := ?_) rfl (by kernel_rfl) rfl hS ?_ ?_; rotate_left; focus (intro w hSw; have hk := HK.out w hSw; clear hSw; go_simp; try (with_reducible rfl))); (try simp only [Act.put, List.setIfInBounds_toArray, List.set_cons_zero, List.set_cons_succ]); (refine T_take (i := 4) (v := ?_) rfl (by kernel_rfl) rfl hS ?_ ?_; rotate_left; focus (intro w hSw; have hk := HK.out w hSw; clear hSw; go_simp; try (with_reducible rfl))); (try simp only [Act.put, List.setIfInBounds_toArray, List.set_cons_zero, List.set_cons_succ]); (refine T_take (i := 5) (v := ?_) rfl (by kernel_rfl) rfl hS ?_ ?_; rotate_left; focus (intro w hSw; have hk := HK.out w hSw; clear hSw; go_simp; try (with_reducible rfl))); (try simp only [Act.put, List.setIfInBounds_toArray, List.set_cons_zero, List.set_cons_succ]); (refine T_take (i := 6) (v := ?_) rfl (by kernel_rfl) rfl hS ?_ ?_; rotate_left; focus (intro w hSw; have hk := HK.out w hSw; clear hSw; go_simp; try (with_reducible rfl))); (try simp only [Act.put, List.setIfInBounds_toArray, List.set_cons_zero, List.set_cons_succ]))
    (refine T_only (i := 7) rfl (by kernel_rfl) rfl (fun K hK => ?_); go_simp)
    refine (HMN.out _ (by repeat (first | (with_reducible exact Ext.refl _) | (with_reducible refine Ext.alloc ?_ _) | (with_reducible apply Ext.setC; focus (simp <;> omega)) | (with_reducible refine Ext.drew ?_) | (with_reducible refine Ext.drewN ?_ _) | (with_reducible refine Ext.trans ?_ (Hid.out ‹Hid (Ext _ _)›))))).mono ?_
    rintro e w1 ⟨rfl, h1⟩
    have H1 := Lib.hid h1
    clear h1 hS
    go_wp2_with fail
    have hS : Ext W w1 := by repeat (first | (with_reducible exact Ext.refl _) | (with_reducible refine Ext.alloc ?_ _) | (with_reducible apply Ext.setC; focus (simp <;> omega)) | (with_reducible refine Ext.drew ?_) | (with_reducible refine Ext.drewN ?_ _) | (with_reducible refine Ext.trans ?_ (Hid.out ‹Hid (Ext _ _)›)))
    refine hK.out _ _ (.inr hS) ?_
    clear hK
    (try simp only [Act.put, List.setIfInBounds_toArray, List.set_cons_zero, List.set_cons_succ])
    ((refine T_only (i := 8) rfl (by kernel_rfl) rfl (fun K hK => ?_); go_simp; refine hK.out _ _ (.inr hS) ?_; clear hK; (try simp only [Act.put, List.setIfInBounds_toArray, List.set_cons_zero, List.set_cons_succ])))
    (refine T_only (i := 9) rfl (by kernel_rfl) rfl (fun K hK => ?_); go_simp; refine hK.out _ _ (.inl (by kernel_rfl)) ?_; clear hK; (try simp only [Act.put, List.setIfInBounds_toArray, List.set_cons_zero, List.set_cons_succ]); refine T_done (by kernel_rfl) ?_ _)
    go_wp2_with fail
    go_ret
    exact ⟨rfl, (show Ext w _ by repeat (first | (with_reducible exact Ext.refl _) | (with_reducible refine Ext.alloc ?_ _) | (with_reducible apply Ext.setC; focus (simp <;> omega)) | (with_reducible refine Ext.drew ?_) | (with_reducible refine Ext.drewN ?_ _) | (with_reducible refine Ext.trans ?_ (Hid.out ‹Hid (Ext _ _)›))))⟩

set_option maxHeartbeats 8000000 in
theorem ref_LeftOf (tks : List Tk) (taps : List Tp) (vs : List Int) (s0 s1 s2 : Value) (i : Nat) (hi : i < tks.length) (w : World) (hck : ckLedger ⟨tks, taps, vs⟩ = 0) (hr0 : RdL 6 tkc w s0 tks) (hr1 : RdL 5 tpc w s1 taps) (hr2 : RdL 1 inc w s2 vs) :
    Calls Try.prog 30 #[.agg #[s0, s1, s2], .int .i64 i] w fun e w' => e = .returned (.int .i64 (restOf ⟨tks, taps, vs⟩ tks[i])) ∧ Ext w w' := by
  have HMN := Lib.hid (fun (w' : World) (h : Ext w w') => ref_ManyOf taps vs s0 s1 s2 tks[i].id taps.length w' (Nat.le_refl _) (right_len hck) (by obtain ⟨A, c, h, -⟩ := hr0.form; exact ⟨_, _, _, h⟩) (hr1.ext h) (hr2.ext h))
  rw [ridesTo_all taps vs tks[i].id taps.length (Nat.le_refl _) (by have := right_len hck; simp only at this; omega)] at HMN
  have hkd := right_kind hck _ (List.getElem_mem hi)
  have hmo := most_in (tickets_mem (right_iff.1 hck).2.2.2.1 _ (List.getElem_mem hi))
  have hln := ridesOf_len taps vs tks[i].id
  have h60 : taps.length ≤ 60 := (right_iff.1 hck).2.1
  have hi' : (i : Int) < (tks.length : Int) := by omega
  unfold restOf
  simp only
  obtain ⟨A0, c0, rfl, -, -⟩ := hr0.form
  obtain ⟨tb, tof, rfl, htb, g0, g1, g2, g3, g4, g5⟩ := hr0.tk_at rfl hi
  obtain ⟨A, c, rfl, -, -⟩ := hr1.form
  obtain ⟨A2, c2, rfl, -, -⟩ := hr2.form
  clear hr0 hr1 hr2
  generalize ridesOf taps vs tks[i].id = R at *
  generalize tks[i] = t at *
  obtain ⟨t0, t1, t2, t3, t4, t5⟩ := t
  simp only at g0 g1 g2 g3 g4 g5 HMN hkd
  have hws : IntKind.i64.wrap (mostOf ⟨t0, t1, t2, t3, t4, t5⟩ - (R.length : Int)) = mostOf ⟨t0, t1, t2, t3, t4, t5⟩ - (R.length : Int) := IntWalk.i64_in _ (by omega)
  clear hmo hln h60 hck
  have h3 : t1 = 1 ∨ t1 = 2 ∨ t1 = 3 := by omega
  clear hkd
  generalize lastInt R = lr at *
  rcases h3 with rfl | rfl | rfl
  all_goals
    simp only [mostOf, if_true, (show ¬ ((2 : Int) = 1) by decide), (show ¬ ((3 : Int) = 1) by decide), (show ¬ ((3 : Int) = 2) by decide), if_false] at hws ⊢
    go_enter Try.func30, Try.ntmps30
    go_upto_region 1 with fail
    (apply wp_gen1 (w0 := w) (g0 := w.heap.size); (focus (repeat (first | (with_reducible exact Hid.out ‹Hid (Row _ _ _)›) | (with_reducible exact Row.newAt rfl) | (with_reducible apply Row.newAt; (simp; done)) | (with_reducible apply Row.set_) | (with_reducible apply Row.far; focus (simp <;> omega)) | (with_reducible apply Row.alloc) | (with_reducible apply Row.drew) | (with_reducible apply Row.drewN) | (with_reducible apply Row.ext (Hid.out ‹Hid (Ext _ _)›))))); (focus (repeat (first | (with_reducible exact Ext.refl _) | (with_reducible refine Ext.alloc ?_ _) | (with_reducible apply Ext.setC; focus (simp <;> omega)) | (with_reducible refine Ext.drew ?_) | (with_reducible refine Ext.drewN ?_ _) | (with_reducible refine Ext.trans ?_ (Hid.out ‹Hid (Ext _ _)›))))); intro W HW hzW Ra_0; (try simp only [List.setIfInBounds_toArray, List.set_cons_zero, List.set_cons_succ, World.size_alloc, size_set, World.heap_drewN, size_drew] at hzW Ra_0); have la_0 := Ra_0.out.size)
    have HK := Lib.hid (fun (w' : World) (h : Ext W w') => And.intro (Row.ext h Ra_0.out).2.1 (And.intro (((HW.out.trans h).cells _ _ htb).trans g0) (And.intro (((HW.out.trans h).cells _ _ htb).trans g1) ((((HW.out.trans h).cells _ _ htb).trans g5)))))
    (refine T_begin (fun w' => Ext W w') 15 (by kernel_rfl) ((Ext.refl _).drew) (fun hS => ?_); simp only [List.length_cons, List.length_nil])
    ((refine T_take (i := 0) (v := ?_) rfl (by kernel_rfl) rfl hS ?_ ?_; rotate_left; focus (intro w hSw; have hk := HK.out w hSw; clear hSw; go_simp; try (with_reducible rfl))); (try simp only [Act.put, List.setIfInBounds_toArray, List.set_cons_zero, List.set_cons_succ]); (refine T_take (i := 1) (v := ?_) rfl (by kernel_rfl) rfl hS ?_ ?_; rotate_left; focus (intro w hSw; have hk := HK.out w hSw; clear hSw; go_simp; try (with_reducible rfl))); (try simp only [Act.put, List.setIfInBounds_toArray, List.set_cons_zero, List.set_cons_succ]); (refine T_take (i := 2) (v := ?_) rfl (by kernel_rfl) rfl hS ?_ ?_; rotate_left; focus (intro w hSw; have hk := HK.out w hSw; clear hSw; go_simp; try (with_reducible rfl))); (try simp only [Act.put, List.setIfInBounds_toArray, List.set_cons_zero, List.set_cons_succ]); (refine T_take (i := 3) (v := ?_) rfl (by kernel_rfl) rfl hS ?_ ?_; rotate_left; focus (intro w hSw; have hk := HK.out w hSw; clear hSw; go_simp; try (with_reducible rfl))); (try simp only [Act.put, List.setIfInBounds_toArray, List.set_cons_zero, List.set_cons_succ]); (refine T_take (i := 4) (v := ?_) rfl (by kernel_rfl) rfl hS ?_ ?_; rotate_left; focus (intro w hSw; have hk := HK.out w hSw; clear hSw; go_simp; try (with_reducible rfl))); (try simp only [Act.put, List.setIfInBounds_toArray, List.set_cons_zero, List.set_cons_succ]); (refine T_take (i := 5) (v := ?_) rfl (by kernel_rfl) rfl hS ?_ ?_; rotate_left; focus (intro w hSw; have hk := HK.out w hSw; clear hSw; go_simp; try (with_reducible rfl))); (try simp only [Act.put, List.setIfInBounds_toArray, List.set_cons_zero, List.set_cons_succ]); (refine T_take (i := 6) (v := ?_) rfl (by kernel_rfl) rfl hS ?_ ?_; rotate_left; focus (intro w hSw; have hk := HK.out w hSw; clear hSw; go_simp; try (with_reducible rfl))); (try simp only [Act.put, List.setIfInBounds_toArray, List.set_cons_zero, List.set_cons_succ]); (refine T_take (i := 7) (v := ?_) rfl (by kernel_rfl) rfl hS ?_ ?_; rotate_left; focus (intro w hSw; have hk := HK.out w hSw; clear hSw; go_simp; try (with_reducible rfl))); (try simp only [Act.put, List.setIfInBounds_toArray, List.set_cons_zero, List.set_cons_succ]); (refine T_take (i := 8) (v := ?_) rfl (by kernel_rfl) rfl hS ?_ ?_; rotate_left; focus (intro w hSw; have hk := HK.out w hSw; clear hSw; go_simp; try (with_reducible rfl))); (try simp only [Act.put, List.setIfInBounds_toArray, List.set_cons_zero, List.set_cons_succ]); (refine T_take (i := 9) (v := ?_) rfl (by kernel_rfl) rfl hS ?_ ?_; rotate_left; focus (intro w hSw; have hk := HK.out w hSw; clear hSw; go_simp; try (with_reducible rfl))); (try simp only [Act.put, List.setIfInBounds_toArray, List.set_cons_zero, List.set_cons_succ]))
    (refine T_only (i := 10) rfl (by kernel_rfl) rfl (fun K hK => ?_); go_simp)
    refine (HMN.out _ (by repeat (first | (with_reducible exact Ext.refl _) | (with_reducible refine Ext.alloc ?_ _) | (with_reducible apply Ext.setC; focus (simp <;> omega)) | (with_reducible refine Ext.drew ?_) | (with_reducible refine Ext.drewN ?_ _) | (with_reducible refine Ext.trans ?_ (Hid.out ‹Hid (Ext _ _)›))))).mono ?_
    rintro e w1 ⟨rfl, h1⟩
    have H1 := Lib.hid h1
    clear h1 hS
    go_wp2_with fail
    have hS : Ext W w1 := by repeat (first | (with_reducible exact Ext.refl _) | (with_reducible refine Ext.alloc ?_ _) | (with_reducible apply Ext.setC; focus (simp <;> omega)) | (with_reducible refine Ext.drew ?_) | (with_reducible refine Ext.drewN ?_ _) | (with_reducible refine Ext.trans ?_ (Hid.out ‹Hid (Ext _ _)›)))
    refine hK.out _ _ (.inr hS) ?_
    clear hK
    (try simp only [Act.put, List.setIfInBounds_toArray, List.set_cons_zero, List.set_cons_succ])
    ((refine T_only (i := 11) rfl (by kernel_rfl) rfl (fun K hK => ?_); go_simp; refine hK.out _ _ (.inr hS) ?_; clear hK; (try simp only [Act.put, List.setIfInBounds_toArray, List.set_cons_zero, List.set_cons_succ])))
    ((refine T_take (i := 12) (v := ?_) rfl (by kernel_rfl) rfl hS ?_ ?_; rotate_left; focus (intro w hSw; have hk := HK.out w hSw; clear hSw; go_simp; try (with_reducible rfl))); (try simp only [Act.put, List.setIfInBounds_toArray, List.set_cons_zero, List.set_cons_succ]); (refine T_take (i := 13) (v := ?_) rfl (by kernel_rfl) rfl hS ?_ ?_; rotate_left; focus (intro w hSw; have hk := HK.out w hSw; clear hSw; go_simp; try (with_reducible rfl))); (try simp only [Act.put, List.setIfInBounds_toArray, List.set_cons_zero, List.set_cons_succ]))
    ((refine T_take (i := 14) (v := ?_) rfl (by kernel_rfl) rfl hS ?_ ?_; rotate_left; focus (intro w hSw; have hk := HK.out w hSw; clear hSw; go_simp; try (with_reducible rfl))); (try simp only [Act.put, List.setIfInBounds_toArray, List.set_cons_zero, List.set_cons_succ]))
    (refine T_only (i := 15) rfl (by kernel_rfl) rfl (fun K hK => ?_); go_simp; refine hK.out _ _ (.inl (by kernel_rfl)) ?_; clear hK; (try simp only [Act.put, List.setIfInBounds_toArray, List.set_cons_zero, List.set_cons_succ]); refine T_done (by kernel_rfl) ?_ _)
    obtain ⟨k0, k1, k2, k3⟩ := HK.out w1 hS
    clear hS
    go_wp2_with fail
    go_ret
    exact ⟨rfl, (show Ext w _ by repeat (first | (with_reducible exact Ext.refl _) | (with_reducible refine Ext.alloc ?_ _) | (with_reducible apply Ext.setC; focus (simp <;> omega)) | (with_reducible refine Ext.drew ?_) | (with_reducible refine Ext.drewN ?_ _) | (with_reducible refine Ext.trans ?_ (Hid.out ‹Hid (Ext _ _)›))))⟩

set_option maxHeartbeats 8000000 in
theorem audit_Left (tks : List Tk) (taps : List Tp) (vs : List Int) (s0 s1 s2 : Value) (id : Int) (w : World) (hr0 : RdL 6 tkc w s0 tks) (hr1 : RdL 5 tpc w s1 taps) (hr2 : RdL 1 inc w s2 vs) :
    Calls Try.prog 28 #[.agg #[s0, s1, s2], .int .i64 id] w fun e w' => e = .returned (.tuple #[.int .i64 (leftAu ⟨tks, taps, vs⟩ id).1, .int .i64 (leftAu ⟨tks, taps, vs⟩ id).2]) ∧ Ext w w' := by
  have HCK := Lib.hid (fun (w' : World) (h : Ext w w') => ledger_Check tks taps vs s0 s1 s2 w' (hr0.ext h) (hr1.ext h) (hr2.ext h))
  have HF := Lib.hid (fun (w' : World) (h : Ext w w') => ledger_Find tks id s0 w' (hr0.ext h))
  have HRS := Lib.hid (fun (k : Nat) (hk : k < tks.length) (w' : World) (h : Ext w w') (hck : ckLedger ⟨tks, taps, vs⟩ = 0) => audit_Rest tks taps vs s0 s1 s2 k hk w' hck (hr0.ext h) (hr1.ext h) (hr2.ext h))
  have hres : leftAu ⟨tks, taps, vs⟩ id = if ckLedger ⟨tks, taps, vs⟩ ≠ 0 then (0, ckLedger ⟨tks, taps, vs⟩) else match ticketOf tks id with
    | none => (0, 5)
    | some t => (restOf ⟨tks, taps, vs⟩ t, 0) := rfl
  have hix := ixBy_ticket tks id
  generalize leftAu ⟨tks, taps, vs⟩ id = res at *
  generalize ckLedger ⟨tks, taps, vs⟩ = q at *
  generalize ixBy (fun t => t.id == id) tks = ix at *
  obtain ⟨A0, c0, rfl, -, -⟩ := hr0.form
  obtain ⟨A, c, rfl, -, -⟩ := hr1.form
  obtain ⟨A2, c2, rfl, -, -⟩ := hr2.form
  clear hr0 hr1 hr2
  by_cases hq : q = 0
  · subst hq
    rw [if_neg (by simp)] at hres
    rcases hix with ⟨rfl, hto⟩ | ⟨k, hk, rfl, hto⟩
    · rw [hto] at hres
      simp only at hres
      subst hres
      clear hto HRS
      go_enter Try.func28, Try.ntmps28
      go_wp2_with fail
      (refine (HCK.out _ (by repeat (first | (with_reducible exact Ext.refl _) | (with_reducible refine Ext.alloc ?_ _) | (with_reducible apply Ext.setC; focus (simp <;> omega)) | (with_reducible refine Ext.drew ?_) | (with_reducible refine Ext.drewN ?_ _) | (with_reducible refine Ext.trans ?_ (Hid.out ‹Hid (Ext _ _)›))))).mono ?_; rintro e w1 ⟨rfl, h1⟩; have H1 := Lib.hid h1; have hz1 := h1.size; clear h1; (try simp only [World.size_alloc, size_set, World.heap_drewN, size_drew] at hz1); apply Row.use (w := w1) (g := w.heap.size); (focus (repeat (first | (with_reducible exact Hid.out ‹Hid (Row _ _ _)›) | (with_reducible exact Row.newAt rfl) | (with_reducible apply Row.newAt; (simp; done)) | (with_reducible apply Row.set_) | (with_reducible apply Row.far; focus (simp <;> omega)) | (with_reducible apply Row.alloc) | (with_reducible apply Row.drew) | (with_reducible apply Row.drewN) | (with_reducible apply Row.ext (Hid.out ‹Hid (Ext _ _)›))))); intro q1_0 f1_0 l1_0 R1_0; (try simp only [List.setIfInBounds_toArray, List.set_cons_zero, List.set_cons_succ] at q1_0 R1_0))
      go_wp2_with fail
      (refine (HF.out _ (by repeat (first | (with_reducible exact Ext.refl _) | (with_reducible refine Ext.alloc ?_ _) | (with_reducible apply Ext.setC; focus (simp <;> omega)) | (with_reducible refine Ext.drew ?_) | (with_reducible refine Ext.drewN ?_ _) | (with_reducible refine Ext.trans ?_ (Hid.out ‹Hid (Ext _ _)›))))).mono ?_; rintro e w2 ⟨rfl, h2⟩; have H2 := Lib.hid h2; have hz2 := h2.size; clear h2; (try simp only [World.size_alloc, size_set, World.heap_drewN, size_drew] at hz2); apply Row.use (w := w2) (g := w.heap.size); (focus (repeat (first | (with_reducible exact Hid.out ‹Hid (Row _ _ _)›) | (with_reducible exact Row.newAt rfl) | (with_reducible apply Row.newAt; (simp; done)) | (with_reducible apply Row.set_) | (with_reducible apply Row.far; focus (simp <;> omega)) | (with_reducible apply Row.alloc) | (with_reducible apply Row.drew) | (with_reducible apply Row.drewN) | (with_reducible apply Row.ext (Hid.out ‹Hid (Ext _ _)›))))); intro q2_0 f2_0 l2_0 R2_0; (try simp only [List.setIfInBounds_toArray, List.set_cons_zero, List.set_cons_succ] at q2_0 R2_0))
      go_wp2_with fail
      go_ret2
      exact ⟨rfl, (show Ext w _ by repeat (first | (with_reducible exact Ext.refl _) | (with_reducible refine Ext.alloc ?_ _) | (with_reducible apply Ext.setC; focus (simp <;> omega)) | (with_reducible refine Ext.drew ?_) | (with_reducible refine Ext.drewN ?_ _) | (with_reducible refine Ext.trans ?_ (Hid.out ‹Hid (Ext _ _)›))))⟩
    · rw [hto] at hres
      simp only at hres
      have hkn : ¬ ((k : Int) < 0) := by omega
      have hkd : decide ((k : Int) < 0) = false := by simp
      have HR2 := Lib.hid (fun (w' : World) (h : Ext w w') => HRS.out k hk w' h rfl)
      generalize restOf ⟨tks, taps, vs⟩ tks[k] = r at *
      subst hres
      clear hto HRS
      go_enter Try.func28, Try.ntmps28
      go_wp2_with fail
      (refine (HCK.out _ (by repeat (first | (with_reducible exact Ext.refl _) | (with_reducible refine Ext.alloc ?_ _) | (with_reducible apply Ext.setC; focus (simp <;> omega)) | (with_reducible refine Ext.drew ?_) | (with_reducible refine Ext.drewN ?_ _) | (with_reducible refine Ext.trans ?_ (Hid.out ‹Hid (Ext _ _)›))))).mono ?_; rintro e w1 ⟨rfl, h1⟩; have H1 := Lib.hid h1; have hz1 := h1.size; clear h1; (try simp only [World.size_alloc, size_set, World.heap_drewN, size_drew] at hz1); apply Row.use (w := w1) (g := w.heap.size); (focus (repeat (first | (with_reducible exact Hid.out ‹Hid (Row _ _ _)›) | (with_reducible exact Row.newAt rfl) | (with_reducible apply Row.newAt; (simp; done)) | (with_reducible apply Row.set_) | (with_reducible apply Row.far; focus (simp <;> omega)) | (with_reducible apply Row.alloc) | (with_reducible apply Row.drew) | (with_reducible apply Row.drewN) | (with_reducible apply Row.ext (Hid.out ‹Hid (Ext _ _)›))))); intro q1_0 f1_0 l1_0 R1_0; (try simp only [List.setIfInBounds_toArray, List.set_cons_zero, List.set_cons_succ] at q1_0 R1_0))
      go_wp2_with fail
      (refine (HF.out _ (by repeat (first | (with_reducible exact Ext.refl _) | (with_reducible refine Ext.alloc ?_ _) | (with_reducible apply Ext.setC; focus (simp <;> omega)) | (with_reducible refine Ext.drew ?_) | (with_reducible refine Ext.drewN ?_ _) | (with_reducible refine Ext.trans ?_ (Hid.out ‹Hid (Ext _ _)›))))).mono ?_; rintro e w2 ⟨rfl, h2⟩; have H2 := Lib.hid h2; have hz2 := h2.size; clear h2; (try simp only [World.size_alloc, size_set, World.heap_drewN, size_drew] at hz2); apply Row.use (w := w2) (g := w.heap.size); (focus (repeat (first | (with_reducible exact Hid.out ‹Hid (Row _ _ _)›) | (with_reducible exact Row.newAt rfl) | (with_reducible apply Row.newAt; (simp; done)) | (with_reducible apply Row.set_) | (with_reducible apply Row.far; focus (simp <;> omega)) | (with_reducible apply Row.alloc) | (with_reducible apply Row.drew) | (with_reducible apply Row.drewN) | (with_reducible apply Row.ext (Hid.out ‹Hid (Ext _ _)›))))); intro q2_0 f2_0 l2_0 R2_0; (try simp only [List.setIfInBounds_toArray, List.set_cons_zero, List.set_cons_succ] at q2_0 R2_0))
      go_wp2_with fail
      (refine (HR2.out _ (by repeat (first | (with_reducible exact Ext.refl _) | (with_reducible refine Ext.alloc ?_ _) | (with_reducible apply Ext.setC; focus (simp <;> omega)) | (with_reducible refine Ext.drew ?_) | (with_reducible refine Ext.drewN ?_ _) | (with_reducible refine Ext.trans ?_ (Hid.out ‹Hid (Ext _ _)›))))).mono ?_; rintro e w3 ⟨rfl, h3⟩; have H3 := Lib.hid h3; have hz3 := h3.size; clear h3; (try simp only [World.size_alloc, size_set, World.heap_drewN, size_drew] at hz3); apply Row.use (w := w3) (g := w.heap.size); (focus (repeat (first | (with_reducible exact Hid.out ‹Hid (Row _ _ _)›) | (with_reducible exact Row.newAt rfl) | (with_reducible apply Row.newAt; (simp; done)) | (with_reducible apply Row.set_) | (with_reducible apply Row.far; focus (simp <;> omega)) | (with_reducible apply Row.alloc) | (with_reducible apply Row.drew) | (with_reducible apply Row.drewN) | (with_reducible apply Row.ext (Hid.out ‹Hid (Ext _ _)›))))); intro q3_0 f3_0 l3_0 R3_0; (try simp only [List.setIfInBounds_toArray, List.set_cons_zero, List.set_cons_succ] at q3_0 R3_0))
      go_wp2_with fail
      go_ret2
      exact ⟨rfl, (show Ext w _ by repeat (first | (with_reducible exact Ext.refl _) | (with_reducible refine Ext.alloc ?_ _) | (with_reducible apply Ext.setC; focus (simp <;> omega)) | (with_reducible refine Ext.drew ?_) | (with_reducible refine Ext.drewN ?_ _) | (with_reducible refine Ext.trans ?_ (Hid.out ‹Hid (Ext _ _)›))))⟩
  · have hqb2 : (q != 0) = true := by simpa using hq
    rw [if_pos hq] at hres
    subst hres
    clear hq HRS hix
    go_enter Try.func28, Try.ntmps28
    go_wp2_with fail
    (refine (HCK.out _ (by repeat (first | (with_reducible exact Ext.refl _) | (with_reducible refine Ext.alloc ?_ _) | (with_reducible apply Ext.setC; focus (simp <;> omega)) | (with_reducible refine Ext.drew ?_) | (with_reducible refine Ext.drewN ?_ _) | (with_reducible refine Ext.trans ?_ (Hid.out ‹Hid (Ext _ _)›))))).mono ?_; rintro e w1 ⟨rfl, h1⟩; have H1 := Lib.hid h1; have hz1 := h1.size; clear h1; (try simp only [World.size_alloc, size_set, World.heap_drewN, size_drew] at hz1); apply Row.use (w := w1) (g := w.heap.size); (focus (repeat (first | (with_reducible exact Hid.out ‹Hid (Row _ _ _)›) | (with_reducible exact Row.newAt rfl) | (with_reducible apply Row.newAt; (simp; done)) | (with_reducible apply Row.set_) | (with_reducible apply Row.far; focus (simp <;> omega)) | (with_reducible apply Row.alloc) | (with_reducible apply Row.drew) | (with_reducible apply Row.drewN) | (with_reducible apply Row.ext (Hid.out ‹Hid (Ext _ _)›))))); intro q1_0 f1_0 l1_0 R1_0; (try simp only [List.setIfInBounds_toArray, List.set_cons_zero, List.set_cons_succ] at q1_0 R1_0))
    go_wp2_with fail
    go_ret2
    exact ⟨rfl, (show Ext w _ by repeat (first | (with_reducible exact Ext.refl _) | (with_reducible refine Ext.alloc ?_ _) | (with_reducible apply Ext.setC; focus (simp <;> omega)) | (with_reducible refine Ext.drew ?_) | (with_reducible refine Ext.drewN ?_ _) | (with_reducible refine Ext.trans ?_ (Hid.out ‹Hid (Ext _ _)›))))⟩
end Go.Proofs.Ytbboonepfmkgnaa
