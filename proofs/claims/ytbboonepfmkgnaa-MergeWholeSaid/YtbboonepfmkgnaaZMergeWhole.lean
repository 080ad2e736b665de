/- MergeWhole: for every input the law returns true, and each argument reads afterwards as it read before. No condition. -/
import Derived.SizedLaws
import Derived.Test.YtbboonepfmkgnaaRows
import Derived.Test.YtbboonepfmkgnaaMh
import Derived.Test.YtbboonepfmkgnaaMe
import Derived.Test.YtbboonepfmkgnaaMc
import Derived.Test.YtbboonepfmkgnaaMo
/- The law MergeWhole. -/
namespace Go.Proofs.Ytbboonepfmkgnaa
set_option linter.unusedSimpArgs false
set_option linter.unusedVariables false
set_option maxRecDepth 100000
open Go Go.RowKit Lb

set_option maxHeartbeats 64000000 in
theorem law_MergeWhole (l : Ld) (s0 s1 s2 : Value) (more : List Tp) (v : Value) (w : World) (hr0 : RdL 6 tkc w s0 l.tickets) (hr1 : RdL 5 tpc w s1 l.taps) (hr2 : RdL 1 inc w s2 l.verdicts) (hr : RdL 5 tpc w v more) (hz : more.length * 40 ≤ 140737488355328) :
    Calls Try.prog 13 #[.agg #[s0, s1, s2], v] w fun e w' => e = .returned (.bool true) ∧ Ext w w' := by
  have HIN := Lib.hid (fun (m : List Tp) (u : Value) (w' : World) (h : Ext w w') (hu : RdL 5 tpc w' u m) => merge_Into l m s0 s1 s2 u w' (hr0.ext h) (hr1.ext h) (hr2.ext h) hu)
  have HMB := Lib.hid (fun (w' : World) => law_mergeBegun w')
  have HLB := Lib.hid (fun (w' : World) => law_ledgerBegun w')
  have HST := Lib.hid (fun (m : List Tp) (v u : Value) (w' : World) (hr : RdL 5 tpc w' v m) (hs : RdL 5 tpc w' u m) => (show Calls Try.prog 25 #[v, u] w' fun e w'' => e = .returned (.bool true) ∧ Ext w' w'' from by
    have := ref_SameTaps m m v u w' hr hs
    simpa using this))
  have HSK := Lib.hid (fun (m : List Tk) (v u : Value) (w' : World) (hr : RdL 6 tkc w' v m) (hs : RdL 6 tkc w' u m) => (show Calls Try.prog 41 #[v, u] w' fun e w'' => e = .returned (.bool true) ∧ Ext w' w'' from by
    have := ref_SameTickets m m v u w' hr hs
    simpa using this))
  have HSL := Lib.hid (fun (m : Ld) (t0 t1 t2 u0 u1 u2 : Value) (w' : World) (h0 : RdL 6 tkc w' t0 m.tickets) (h1 : RdL 5 tpc w' t1 m.taps) (h2 : RdL 1 inc w' t2 m.verdicts) (k0 : RdL 6 tkc w' u0 m.tickets) (k1 : RdL 5 tpc w' u1 m.taps) (k2 : RdL 1 inc w' u2 m.verdicts) => (show Calls Try.prog 26 #[.agg #[t0, t1, t2], .agg #[u0, u1, u2]] w' fun e w'' => e = .returned (.bool true) ∧ Ext w' w'' from by
    have := ref_SameLedger m m t0 t1 t2 u0 u1 u2 w' h0 h1 h2 k0 k1 k2
    rw [decide_eq_true (rfl : m = m)] at this
    exact this))
  have HOR := Lib.hid (fun (m : List Tp) (u : Value) (w' : World) (hu : RdL 5 tpc w' u m) => merge_Order m u w' hu)
  have HCK := Lib.hid (fun (m : Ld) (t0 t1 t2 : Value) (w' : World) (hm : ckLedger m = 0) (h0 : RdL 6 tkc w' t0 m.tickets) (h1 : RdL 5 tpc w' t1 m.taps) (h2 : RdL 1 inc w' t2 m.verdicts) => (show Calls Try.prog 23 #[.agg #[t0, t1, t2]] w' fun e w'' => e = .returned (.int .i64 0) ∧ Ext w' w'' from by
    have := ledger_Check m.tickets m.taps m.verdicts t0 t1 t2 w' h0 h1 h2
    rw [show (⟨m.tickets, m.taps, m.verdicts⟩ : Ld) = m from rfl, hm] at this
    exact this))
  have HT0 := Lib.hid hr0
  have HT1 := Lib.hid hr1
  have HMR := Lib.hid hr
  have HZ := Lib.hid hz
  have hml : more.length ≤ 9223372036854775807 := by omega
  have hpm := intoAll_perm (l := l) (List.reverse_perm more).symm
  have hbad := @intoAll_bad l more
  have hbad2 := @intoAll_bad l more.reverse
  have hok : (intoAll l more).2.2 = 0 → ckLedger (intoAll l more).1 = 0 ∧ (intoAll l more).1.tickets = l.tickets ∧ l.taps.length + more.length ≤ 72 ∧ (intoAll l more).1.taps.length + (intoAll l more).2.1.length ≤ 72 ∧ (orderL ((intoAll l more).1.taps ++ (intoAll l more).2.1)).2 = 0 ∧ orderL ((intoAll l more).1.taps ++ (intoAll l more).2.1) = orderL (l.taps ++ more) := fun h => by
    obtain ⟨h1, h2, h3, h4⟩ := intoAll_ok h
    obtain ⟨k1, k2, k3, k4⟩ := rawM_ok h1 h4
    rw [← h3] at k2 k3 k4
    have h72 := (orderL_ok.1 k1).1
    obtain ⟨m1, m2⟩ := orderL_perm k4
    have hl := k4.length_eq
    simp only [List.length_append] at h72 hl
    exact ⟨k2, k3, h72, by omega, m1.2 k1, m2 (m1.2 k1)⟩
  have HIN1 := Lib.hid (fun (w' : World) (h : Ext w w') => HIN.out more v w' h (hr.ext h))
  have HIN2 := Lib.hid (fun (u : Value) (w' : World) (h : Ext w w') (hu : RdL 5 tpc w' u more.reverse) => HIN.out more.reverse u w' h hu)
  clear HIN
  generalize intoAll l more = R at *
  generalize intoAll l more.reverse = T at *
  obtain ⟨A0, c0, rfl, -, -⟩ := hr0.form
  obtain ⟨A1, c1, rfl, -, -⟩ := hr1.form
  obtain ⟨A2, c2, rfl, -, -⟩ := hr2.form
  obtain ⟨A3, c3, rfl, -, -⟩ := hr.form
  obtain ⟨i0, ji, ji0, ji1, ji2⟩ := info_parts info_tp
  have hlast : IntKind.i64.wrap ((more.length : Int) - 1) = (more.length : Int) - 1 := IntWalk.i64_in _ (by omega)
  have HPM := Lib.hid hpm
  have HBAD := Lib.hid hbad
  have HBD2 := Lib.hid hbad2
  have HOK := Lib.hid hok
  clear hr0 hr1 hr2 hr hz hpm hbad hbad2 hok
  obtain ⟨R1, R2, R3⟩ := R
  obtain ⟨T1, T2, T3⟩ := T
  simp only at HIN1 HIN2 HPM HBAD HBD2 HOK
  have HI1 := Lib.hid (fun (w' : World) (h : Ext w w') => HIN1.out w' h)
  go_enter Try.func13, Try.ntmps13
  go_wp2_with fail
  refine (HI1.out _ (by repeat (first | (with_reducible exact Ext.refl _) | (with_reducible refine Ext.alloc ?_ _) | (with_reducible apply Ext.setC; focus (simp <;> omega)) | (with_reducible refine Ext.drew ?_) | (with_reducible refine Ext.drewN ?_ _) | (with_reducible refine Ext.trans ?_ (Hid.out ‹Hid (Ext _ _)›))))).mono ?_
  rintro e w1 ⟨t0, t1, t2, so, rfl, h1, hl, ho, -⟩
  obtain ⟨C0, e0, C1, e1, C2, e2, rfl, rfl, rfl⟩ := hl.forms
  obtain ⟨C3, e3, rfl⟩ := ho.form
  have o1a := Lib.hid (hl.tk.rd tkc_size)
  have o1b := Lib.hid (hl.tp.rd tpc_size)
  have o1c := Lib.hid (hl.vd.rd inc_size)
  have o1d := Lib.hid (ho.rd tpc_size)
  have H1 := Lib.hid h1
  have hz1 := h1.size
  (try simp only [World.size_alloc, size_set, World.heap_drewN, size_drew] at hz1)
  clear h1 hl ho
  (apply Row.use (w := w1) (g := w.heap.size); (focus (repeat (first | (with_reducible exact Hid.out ‹Hid (Row _ _ _)›) | (with_reducible exact Row.newAt rfl) | (with_reducible apply Row.newAt; (simp; done)) | (with_reducible apply Row.set_) | (with_reducible apply Row.far; focus (simp <;> omega)) | (with_reducible apply Row.alloc) | (with_reducible apply Row.drew) | (with_reducible apply Row.drewN) | (with_reducible apply Row.ext (Hid.out ‹Hid (Ext _ _)›))))); intro q1_0 f1_0 l1_0 R1_0; (try simp only [List.setIfInBounds_toArray, List.set_cons_zero, List.set_cons_succ] at q1_0 R1_0))
  go_wp2_with fail
  (refine (HMB.out _).mono ?_; rintro e w2 ⟨rfl, h2⟩; have H2 := Lib.hid h2; have hz2 := h2.size; clear h2; (try simp only [World.size_alloc, size_set, World.heap_drewN, size_drew] at hz2); apply Row.use (w := w2) (g := w.heap.size); (focus (repeat (first | (with_reducible exact Hid.out ‹Hid (Row _ _ _)›) | (with_reducible exact Row.newAt rfl) | (with_reducible apply Row.newAt; (simp; done)) | (with_reducible apply Row.set_) | (with_reducible apply Row.far; focus (simp <;> omega)) | (with_reducible apply Row.alloc) | (with_reducible apply Row.drew) | (with_reducible apply Row.drewN) | (with_reducible apply Row.ext (Hid.out ‹Hid (Ext _ _)›))))); intro q2_0 f2_0 l2_0 R2_0; (try simp only [List.setIfInBounds_toArray, List.set_cons_zero, List.set_cons_succ] at q2_0 R2_0); apply Row.use (w := w2) (g := w1.heap.size); (focus (repeat (first | (with_reducible exact Hid.out ‹Hid (Row _ _ _)›) | (with_reducible exact Row.newAt rfl) | (with_reducible apply Row.newAt; (simp; done)) | (with_reducible apply Row.set_) | (with_reducible apply Row.far; focus (simp <;> omega)) | (with_reducible apply Row.alloc) | (with_reducible apply Row.drew) | (with_reducible apply Row.drewN) | (with_reducible apply Row.ext (Hid.out ‹Hid (Ext _ _)›))))); intro q2_1 f2_1 l2_1 R2_1; (try simp only [List.setIfInBounds_toArray, List.set_cons_zero, List.set_cons_succ] at q2_1 R2_1))
  go_wp2_with fail
  (refine (HLB.out _).mono ?_; rintro e w3 ⟨rfl, h3⟩; have H3 := Lib.hid h3; have hz3 := h3.size; clear h3; (try simp only [World.size_alloc, size_set, World.heap_drewN, size_drew] at hz3); apply Row.use (w := w3) (g := w.heap.size); (focus (repeat (first | (with_reducible exact Hid.out ‹Hid (Row _ _ _)›) | (with_reducible exact Row.newAt rfl) | (with_reducible apply Row.newAt; (simp; done)) | (with_reducible apply Row.set_) | (with_reducible apply Row.far; focus (simp <;> omega)) | (with_reducible apply Row.alloc) | (with_reducible apply Row.drew) | (with_reducible apply Row.drewN) | (with_reducible apply Row.ext (Hid.out ‹Hid (Ext _ _)›))))); intro q3_0 f3_0 l3_0 R3_0; (try simp only [List.setIfInBounds_toArray, List.set_cons_zero, List.set_cons_succ] at q3_0 R3_0); apply Row.use (w := w3) (g := w1.heap.size); (focus (repeat (first | (with_reducible exact Hid.out ‹Hid (Row _ _ _)›) | (with_reducible exact Row.newAt rfl) | (with_reducible apply Row.newAt; (simp; done)) | (with_reducible apply Row.set_) | (with_reducible apply Row.far; focus (simp <;> omega)) | (with_reducible apply Row.alloc) | (with_reducible apply Row.drew) | (with_reducible apply Row.drewN) | (with_reducible apply Row.ext (Hid.out ‹Hid (Ext _ _)›))))); intro q3_1 f3_1 l3_1 R3_1; (try simp only [List.setIfInBounds_toArray, List.set_cons_zero, List.set_cons_succ] at q3_1 R3_1))
  go_wp2_with fail
  have HW3 := Lib.hid (show Ext w1 w3 by repeat (first | (with_reducible exact Ext.refl _) | (with_reducible refine Ext.alloc ?_ _) | (with_reducible apply Ext.setC; focus (simp <;> omega)) | (with_reducible refine Ext.drew ?_) | (with_reducible refine Ext.drewN ?_ _) | (with_reducible refine Ext.trans ?_ (Hid.out ‹Hid (Ext _ _)›))))
  have hz3w : w.heap.size ≤ w3.heap.size := by omega
  go_loopg [8, 9] (more.length + 1) (fun gg s8 s9 wr => ∃ (k : Nat) (B : Option Addr) (d : Nat), k ≤ more.length ∧ more.length - k < gg ∧ s9 = .int .i64 ((more.length : Int) - 1 - k) ∧ s8 = .slice B k d ∧ Aside (Ext w3 wr ∧ OwnL 30 5 tpc w3.heap.size wr (.slice B k d) (more.reverse.take k)))
  case atStart => exact ⟨0, none, 0, Nat.zero_le _, by omega, by go_num, rfl, ⟨Ext.refl _, (OwnL.nil : OwnL 30 5 tpc w3.heap.size w3 (.slice none 0 0) ([] : List Tp))⟩⟩
  case round =>
    obtain ⟨k, B, d, hk, hg, rfl, rfl, HV⟩ := hrel
    have HE := Lib.hid HV.out.1
    have HO := Lib.hid HV.out.2
    clear HV
    by_cases hlt : k < more.length
    · obtain ⟨j, hj⟩ : ∃ j : Nat, (more.length : Int) - 1 - k = j := ⟨more.length - 1 - k, by omega⟩
      rw [hj]
      have hj0 : (0 : Int) ≤ (j : Int) := by omega
      have hjl : (j : Int) < (more.length : Int) := by omega
      have hjn : j < more.length := by omega
      have hwj : IntKind.i64.wrap ((j : Int) - 1) = (j : Int) - 1 := IntWalk.i64_in _ (by omega)
      have hEr : Ext w wr := by repeat (first | (with_reducible exact Ext.refl _) | (with_reducible refine Ext.alloc ?_ _) | (with_reducible apply Ext.setC; focus (simp <;> omega)) | (with_reducible refine Ext.drew ?_) | (with_reducible refine Ext.drewN ?_ _) | (with_reducible refine Ext.trans ?_ (Hid.out ‹Hid (Ext _ _)›)))
      obtain ⟨b, o, rfl, hb, z0, z1, z2, z3, z4⟩ := (HMR.out.ext hEr).tap_at rfl hjn
      have hrev : more.reverse.take (k + 1) = more.reverse.take k ++ [more[j]] := by
        rw [List.take_succ_eq_append_getElem (show k < more.reverse.length by simpa using hlt)]
        congr 2
        rw [List.getElem_reverse]
        congr 1
        omega
      have htl : (more.reverse.take k).length = k := by simp; omega
      have HRV := Lib.hid hrev
      have HTL := Lib.hid htl
      clear hrev htl hEr
      generalize more.reverse.take k = m at *
      generalize hm2 : more.reverse.take (k + 1) = m2 at *
      have HM2 := Lib.hid hm2
      clear hm2
      generalize more[j] = p at *
      obtain ⟨pa, pb, pc, pd, pe⟩ := p
      simp only at z0 z1 z2 z3 z4
      go_wp2_with (at_builtin; go_loud (refine wpList_append_rd (enc := tpc) (k := 5) _ rfl _ _ 23 rfl w3.heap.size 30 i0 (.agg #[.int .i64 0, .int .i64 0, .int .i64 0, .int .i64 0, .int .i64 0]) 40 Try.underlying23 ji ji0 ji1 ji2 rfl (by decide) tpc_size _ m rfl (OwnL.alloc _ HO.out) _ [(⟨pa, pb, pc, pd, pe⟩ : Tp)] rfl (RdL.lit (⟨pa, pb, pc, pd, pe⟩ : Tp) rfl rfl) (tp_one _) ?f1 ?f2 (by have := Ext.size HE.out; simp only [World.size_alloc]; omega) ?_))
      case f1 => have := HTL.out; have := HZ.out; unfold maxLen; simp; omega
      case f2 => have := HTL.out; have := HZ.out; simp; omega
      intro v7 w7 ho7 hg7 hn7
      rw [← HRV.out] at ho7
      have hl2 : m2.length = k + 1 := by rw [HRV.out]; have := HTL.out; simp; omega
      obtain ⟨B7, d7, rfl⟩ := ho7.form
      rw [hl2] at ho7 ⊢
      have HO7 := Lib.hid ho7
      have HE7 := Lib.hid (Ext.grown (HE.out.alloc _) hg7 (fun q hq => (HO.out.lt q hq).1))
      clear ho7 hg7 hn7 z0 z1 z2 z3 z4 hl2
      go_wp2_with fail
      go_roundg (more.length - k)
      case measure => omega
      case rel => exact ⟨k + 1, B7, d7, by omega, by omega, by
        have e : (j : Int) - 1 = (more.length : Int) - 1 - ((k + 1 : Nat) : Int) := by omega
        rw [← e], rfl, ⟨HE7.out, by rw [HM2.out]; exact HO7.out⟩⟩
    · have hkl : k = more.length := by omega
      subst hkl
      have hneg : ((more.length : Int) - 1 - (more.length : Int)) = -1 := by omega
      rw [hneg]
      have hfin := HO.out
      rw [show more.length = more.reverse.length by simp, List.take_length, List.length_reverse] at hfin
      have HTU := Lib.hid (hfin.rd tpc_size)
      clear hfin HO
      have HI2 := Lib.hid (fun (w' : World) (h : Ext wr w') => HIN2.out (.slice B more.length d) w' (((show Ext w wr by repeat (first | (with_reducible exact Ext.refl _) | (with_reducible refine Ext.alloc ?_ _) | (with_reducible apply Ext.setC; focus (simp <;> omega)) | (with_reducible refine Ext.drew ?_) | (with_reducible refine Ext.drewN ?_ _) | (with_reducible refine Ext.trans ?_ (Hid.out ‹Hid (Ext _ _)›))))).trans h) (HTU.out.ext h))
      (apply Row.use (w := wr) (g := w.heap.size); (focus (repeat (first | (with_reducible exact Hid.out ‹Hid (Row _ _ _)›) | (with_reducible exact Row.newAt rfl) | (with_reducible apply Row.newAt; (simp; done)) | (with_reducible apply Row.set_) | (with_reducible apply Row.far; focus (simp <;> omega)) | (with_reducible apply Row.alloc) | (with_reducible apply Row.drew) | (with_reducible apply Row.drewN) | (with_reducible apply Row.ext (Hid.out ‹Hid (Ext _ _)›))))); intro q4_0 f4_0 l4_0 R4_0; (try simp only [List.setIfInBounds_toArray, List.set_cons_zero, List.set_cons_succ] at q4_0 R4_0); apply Row.use (w := wr) (g := w1.heap.size); (focus (repeat (first | (with_reducible exact Hid.out ‹Hid (Row _ _ _)›) | (with_reducible exact Row.newAt rfl) | (with_reducible apply Row.newAt; (simp; done)) | (with_reducible apply Row.set_) | (with_reducible apply Row.far; focus (simp <;> omega)) | (with_reducible apply Row.alloc) | (with_reducible apply Row.drew) | (with_reducible apply Row.drewN) | (with_reducible apply Row.ext (Hid.out ‹Hid (Ext _ _)›))))); intro q4_1 f4_1 l4_1 R4_1; (try simp only [List.setIfInBounds_toArray, List.set_cons_zero, List.set_cons_succ] at q4_1 R4_1))
      go_wp2_with fail
      refine (HI2.out _ (by repeat (first | (with_reducible exact Ext.refl _) | (with_reducible refine Ext.alloc ?_ _) | (with_reducible apply Ext.setC; focus (simp <;> omega)) | (with_reducible refine Ext.drew ?_) | (with_reducible refine Ext.drewN ?_ _) | (with_reducible refine Ext.trans ?_ (Hid.out ‹Hid (Ext _ _)›))))).mono ?_
      rintro e w5 ⟨t0, t1, t2, so, rfl, h5, hl, ho, -⟩
      obtain ⟨K0, k0, K1, k1, K2, k2, rfl, rfl, rfl⟩ := hl.forms
      obtain ⟨K3, k3, rfl⟩ := ho.form
      have o5a := Lib.hid (hl.tk.rd tkc_size)
      have o5b := Lib.hid (hl.tp.rd tpc_size)
      have o5c := Lib.hid (hl.vd.rd inc_size)
      have o5d := Lib.hid (ho.rd tpc_size)
      have H5 := Lib.hid h5
      have hz5 := h5.size
      (try simp only [World.size_alloc, size_set, World.heap_drewN, size_drew] at hz5)
      clear h5 hl ho HI1 HI2 HIN1 HIN2
      (apply Row.use (w := w5) (g := w.heap.size); (focus (repeat (first | (with_reducible exact Hid.out ‹Hid (Row _ _ _)›) | (with_reducible exact Row.newAt rfl) | (with_reducible apply Row.newAt; (simp; done)) | (with_reducible apply Row.set_) | (with_reducible apply Row.far; focus (simp <;> omega)) | (with_reducible apply Row.alloc) | (with_reducible apply Row.drew) | (with_reducible apply Row.drewN) | (with_reducible apply Row.ext (Hid.out ‹Hid (Ext _ _)›))))); intro q5_0 f5_0 l5_0 R5_0; (try simp only [List.setIfInBounds_toArray, List.set_cons_zero, List.set_cons_succ] at q5_0 R5_0); apply Row.use (w := w5) (g := w1.heap.size); (focus (repeat (first | (with_reducible exact Hid.out ‹Hid (Row _ _ _)›) | (with_reducible exact Row.newAt rfl) | (with_reducible apply Row.newAt; (simp; done)) | (with_reducible apply Row.set_) | (with_reducible apply Row.far; focus (simp <;> omega)) | (with_reducible apply Row.alloc) | (with_reducible apply Row.drew) | (with_reducible apply Row.drewN) | (with_reducible apply Row.ext (Hid.out ‹Hid (Ext _ _)›))))); intro q5_1 f5_1 l5_1 R5_1; (try simp only [List.setIfInBounds_toArray, List.set_cons_zero, List.set_cons_succ] at q5_1 R5_1))
      by_cases h0 : R3 = 0
      · subst h0
        have heq := HPM.out.2 rfl
        simp only [Prod.mk.injEq] at heq
        obtain ⟨rfl, rfl, rfl⟩ := heq
        obtain ⟨hc, htk, h72, h72b, hor, hoe⟩ := HOK.out rfl
        have H72 := Lib.hid (show l.taps.length + more.length ≤ 72 ∧ R1.taps.length + R2.length ≤ 72 from ⟨h72, h72b⟩)
        have HC := Lib.hid hc
        have HTK := Lib.hid htk
        have HOE := Lib.hid hoe
        have HOD := Lib.hid hor
        clear hc htk h72 h72b hor hoe HPM HOK HBAD HBD2
        go_wp2_with fail
        refine (HSL.out R1 _ _ _ _ _ _ _ (o1a.out.ext (by repeat (first | (with_reducible exact Ext.refl _) | (with_reducible refine Ext.alloc ?_ _) | (with_reducible apply Ext.setC; focus (simp <;> omega)) | (with_reducible refine Ext.drew ?_) | (with_reducible refine Ext.drewN ?_ _) | (with_reducible refine Ext.trans ?_ (Hid.out ‹Hid (Ext _ _)›))))) (o1b.out.ext (by repeat (first | (with_reducible exact Ext.refl _) | (with_reducible refine Ext.alloc ?_ _) | (with_reducible apply Ext.setC; focus (simp <;> omega)) | (with_reducible refine Ext.drew ?_) | (with_reducible refine Ext.drewN ?_ _) | (with_reducible refine Ext.trans ?_ (Hid.out ‹Hid (Ext _ _)›))))) (o1c.out.ext (by repeat (first | (with_reducible exact Ext.refl _) | (with_reducible refine Ext.alloc ?_ _) | (with_reducible apply Ext.setC; focus (simp <;> omega)) | (with_reducible refine Ext.drew ?_) | (with_reducible refine Ext.drewN ?_ _) | (with_reducible refine Ext.trans ?_ (Hid.out ‹Hid (Ext _ _)›))))) (o5a.out.ext (by repeat (first | (with_reducible exact Ext.refl _) | (with_reducible refine Ext.alloc ?_ _) | (with_reducible apply Ext.setC; focus (simp <;> omega)) | (with_reducible refine Ext.drew ?_) | (with_reducible refine Ext.drewN ?_ _) | (with_reducible refine Ext.trans ?_ (Hid.out ‹Hid (Ext _ _)›))))) (o5b.out.ext (by repeat (first | (with_reducible exact Ext.refl _) | (with_reducible refine Ext.alloc ?_ _) | (with_reducible apply Ext.setC; focus (simp <;> omega)) | (with_reducible refine Ext.drew ?_) | (with_reducible refine Ext.drewN ?_ _) | (with_reducible refine Ext.trans ?_ (Hid.out ‹Hid (Ext _ _)›))))) (o5c.out.ext (by repeat (first | (with_reducible exact Ext.refl _) | (with_reducible refine Ext.alloc ?_ _) | (with_reducible apply Ext.setC; focus (simp <;> omega)) | (with_reducible refine Ext.drew ?_) | (with_reducible refine Ext.drewN ?_ _) | (with_reducible refine Ext.trans ?_ (Hid.out ‹Hid (Ext _ _)›)))))).mono ?_
        (rintro e w6 ⟨rfl, h6⟩; have H6 := Lib.hid h6; have hz6 := h6.size; clear h6; (try simp only [World.size_alloc, size_set, World.heap_drewN, size_drew] at hz6); apply Row.use (w := w6) (g := w.heap.size); (focus (repeat (first | (with_reducible exact Hid.out ‹Hid (Row _ _ _)›) | (with_reducible exact Row.newAt rfl) | (with_reducible apply Row.newAt; (simp; done)) | (with_reducible apply Row.set_) | (with_reducible apply Row.far; focus (simp <;> omega)) | (with_reducible apply Row.alloc) | (with_reducible apply Row.drew) | (with_reducible apply Row.drewN) | (with_reducible apply Row.ext (Hid.out ‹Hid (Ext _ _)›))))); intro q6_0 f6_0 l6_0 R6_0; (try simp only [List.setIfInBounds_toArray, List.set_cons_zero, List.set_cons_succ] at q6_0 R6_0); apply Row.use (w := w6) (g := w1.heap.size); (focus (repeat (first | (with_reducible exact Hid.out ‹Hid (Row _ _ _)›) | (with_reducible exact Row.newAt rfl) | (with_reducible apply Row.newAt; (simp; done)) | (with_reducible apply Row.set_) | (with_reducible apply Row.far; focus (simp <;> omega)) | (with_reducible apply Row.alloc) | (with_reducible apply Row.drew) | (with_reducible apply Row.drewN) | (with_reducible apply Row.ext (Hid.out ‹Hid (Ext _ _)›))))); intro q6_1 f6_1 l6_1 R6_1; (try simp only [List.setIfInBounds_toArray, List.set_cons_zero, List.set_cons_succ] at q6_1 R6_1))
        go_wp2_with fail
        refine (HST.out R2 _ _ _ (o1d.out.ext (by repeat (first | (with_reducible exact Ext.refl _) | (with_reducible refine Ext.alloc ?_ _) | (with_reducible apply Ext.setC; focus (simp <;> omega)) | (with_reducible refine Ext.drew ?_) | (with_reducible refine Ext.drewN ?_ _) | (with_reducible refine Ext.trans ?_ (Hid.out ‹Hid (Ext _ _)›))))) (o5d.out.ext (by repeat (first | (with_reducible exact Ext.refl _) | (with_reducible refine Ext.alloc ?_ _) | (with_reducible apply Ext.setC; focus (simp <;> omega)) | (with_reducible refine Ext.drew ?_) | (with_reducible refine Ext.drewN ?_ _) | (with_reducible refine Ext.trans ?_ (Hid.out ‹Hid (Ext _ _)›)))))).mono ?_
        (rintro e w7 ⟨rfl, h7⟩; have H7 := Lib.hid h7; have hz7 := h7.size; clear h7; (try simp only [World.size_alloc, size_set, World.heap_drewN, size_drew] at hz7); apply Row.use (w := w7) (g := w.heap.size); (focus (repeat (first | (with_reducible exact Hid.out ‹Hid (Row _ _ _)›) | (with_reducible exact Row.newAt rfl) | (with_reducible apply Row.newAt; (simp; done)) | (with_reducible apply Row.set_) | (with_reducible apply Row.far; focus (simp <;> omega)) | (with_reducible apply Row.alloc) | (with_reducible apply Row.drew) | (with_reducible apply Row.drewN) | (with_reducible apply Row.ext (Hid.out ‹Hid (Ext _ _)›))))); intro q7_0 f7_0 l7_0 R7_0; (try simp only [List.setIfInBounds_toArray, List.set_cons_zero, List.set_cons_succ] at q7_0 R7_0); apply Row.use (w := w7) (g := w1.heap.size); (focus (repeat (first | (with_reducible exact Hid.out ‹Hid (Row _ _ _)›) | (with_reducible exact Row.newAt rfl) | (with_reducible apply Row.newAt; (simp; done)) | (with_reducible apply Row.set_) | (with_reducible apply Row.far; focus (simp <;> omega)) | (with_reducible apply Row.alloc) | (with_reducible apply Row.drew) | (with_reducible apply Row.drewN) | (with_reducible apply Row.ext (Hid.out ‹Hid (Ext _ _)›))))); intro q7_1 f7_1 l7_1 R7_1; (try simp only [List.setIfInBounds_toArray, List.set_cons_zero, List.set_cons_succ] at q7_1 R7_1))
        go_wp2_with (at_builtin; go_loud (refine wpList_append_rd (enc := tpc) (k := 5) _ rfl _ _ 23 rfl w7.heap.size 30 i0 (.agg #[.int .i64 0, .int .i64 0, .int .i64 0, .int .i64 0, .int .i64 0]) 40 Try.underlying23 ji ji0 ji1 ji2 rfl (by decide) tpc_size _ ([] : List Tp) rfl (OwnL.made (base := w7.heap.size) rfl (Nat.le_refl _)) _ R1.taps rfl (o1b.out.ext (by repeat (first | (with_reducible exact Ext.refl _) | (with_reducible refine Ext.alloc ?_ _) | (with_reducible apply Ext.setC; focus (simp <;> omega)) | (with_reducible refine Ext.drew ?_) | (with_reducible refine Ext.drewN ?_ _) | (with_reducible refine Ext.trans ?_ (Hid.out ‹Hid (Ext _ _)›))))) (tp_one _) ?g1 ?g2 (by simp) ?_))
        case g1 => have := H72.out; unfold maxLen; simp; omega
        case g2 => have := H72.out; simp; omega
        intro v8a w8a ho8a hg8a hn8a
        obtain ⟨B8a, d8a, rfl⟩ := ho8a.form
        have HO8a := Lib.hid ho8a
        have HE8a := Lib.hid (Ext.grown ((Ext.refl w7).alloc (.cells #[] 30)) hg8a (fun q hq => by simp [Value.ownBlock] at hq; omega))
        clear ho8a hg8a hn8a
        go_wp2_with (at_builtin; go_loud (refine wpList_append_rd (enc := tpc) (k := 5) _ rfl _ _ 23 rfl w7.heap.size 30 i0 (.agg #[.int .i64 0, .int .i64 0, .int .i64 0, .int .i64 0, .int .i64 0]) 40 Try.underlying23 ji ji0 ji1 ji2 rfl (by decide) tpc_size _ R1.taps rfl HO8a.out _ R2 rfl (o1d.out.ext (by repeat (first | (with_reducible exact Ext.refl _) | (with_reducible refine Ext.alloc ?_ _) | (with_reducible apply Ext.setC; focus (simp <;> omega)) | (with_reducible refine Ext.drew ?_) | (with_reducible refine Ext.drewN ?_ _) | (with_reducible refine Ext.trans ?_ (Hid.out ‹Hid (Ext _ _)›))))) (tp_one _) ?g3 ?g4 (Ext.size HE8a.out) ?_))
        case g3 => have := H72.out; unfold maxLen; omega
        case g4 => have := H72.out; omega
        intro v8 w8 ho8 hg8 hn8
        obtain ⟨B8, d8, rfl⟩ := ho8.form
        rw [List.length_append] at ho8 ⊢
        have HO8 := Lib.hid ho8
        have HE8 := Lib.hid (HE8a.out.grown hg8 (fun q hq => (HO8a.out.lt q hq).1))
        have hz8 := HE8.out.size
        clear ho8 hg8 hn8
        (apply Row.use (w := w8) (g := w.heap.size); (focus (repeat (first | (with_reducible exact Hid.out ‹Hid (Row _ _ _)›) | (with_reducible exact Row.newAt rfl) | (with_reducible apply Row.newAt; (simp; done)) | (with_reducible apply Row.set_) | (with_reducible apply Row.far; focus (simp <;> omega)) | (with_reducible apply Row.alloc) | (with_reducible apply Row.drew) | (with_reducible apply Row.drewN) | (with_reducible apply Row.ext (Hid.out ‹Hid (Ext _ _)›))))); intro q8_0 f8_0 l8_0 R8_0; (try simp only [List.setIfInBounds_toArray, List.set_cons_zero, List.set_cons_succ] at q8_0 R8_0); apply Row.use (w := w8) (g := w1.heap.size); (focus (repeat (first | (with_reducible exact Hid.out ‹Hid (Row _ _ _)›) | (with_reducible exact Row.newAt rfl) | (with_reducible apply Row.newAt; (simp; done)) | (with_reducible apply Row.set_) | (with_reducible apply Row.far; focus (simp <;> omega)) | (with_reducible apply Row.alloc) | (with_reducible apply Row.drew) | (with_reducible apply Row.drewN) | (with_reducible apply Row.ext (Hid.out ‹Hid (Ext _ _)›))))); intro q8_1 f8_1 l8_1 R8_1; (try simp only [List.setIfInBounds_toArray, List.set_cons_zero, List.set_cons_succ] at q8_1 R8_1))
        have HX8 := Lib.hid (HO8.out.rd tpc_size)
        go_wp2_with (at_builtin; go_loud (refine wpList_append_rd (enc := tpc) (k := 5) _ rfl _ _ 23 rfl w8.heap.size 30 i0 (.agg #[.int .i64 0, .int .i64 0, .int .i64 0, .int .i64 0, .int .i64 0]) 40 Try.underlying23 ji ji0 ji1 ji2 rfl (by decide) tpc_size _ ([] : List Tp) rfl (OwnL.made (base := w8.heap.size) rfl (Nat.le_refl _)) _ l.taps rfl (HT1.out.ext (by repeat (first | (with_reducible exact Ext.refl _) | (with_reducible refine Ext.alloc ?_ _) | (with_reducible apply Ext.setC; focus (simp <;> omega)) | (with_reducible refine Ext.drew ?_) | (with_reducible refine Ext.drewN ?_ _) | (with_reducible refine Ext.trans ?_ (Hid.out ‹Hid (Ext _ _)›))))) (tp_one _) ?p1 ?p2 (by simp) ?_))
        case p1 => have := H72.out; unfold maxLen; simp; omega
        case p2 => have := H72.out; simp; omega
        intro v9a w9a ho9a hg9a hn9a
        obtain ⟨B9a, d9a, rfl⟩ := ho9a.form
        have HO9a := Lib.hid ho9a
        have HE9a := Lib.hid (Ext.grown ((Ext.refl w8).alloc (.cells #[] 30)) hg9a (fun q hq => by simp [Value.ownBlock] at hq; omega))
        clear ho9a hg9a hn9a
        go_wp2_with (at_builtin; go_loud (refine wpList_append_rd (enc := tpc) (k := 5) _ rfl _ _ 23 rfl w8.heap.size 30 i0 (.agg #[.int .i64 0, .int .i64 0, .int .i64 0, .int .i64 0, .int .i64 0]) 40 Try.underlying23 ji ji0 ji1 ji2 rfl (by decide) tpc_size _ l.taps rfl HO9a.out _ more rfl (HMR.out.ext (by repeat (first | (with_reducible exact Ext.refl _) | (with_reducible refine Ext.alloc ?_ _) | (with_reducible apply Ext.setC; focus (simp <;> omega)) | (with_reducible refine Ext.drew ?_) | (with_reducible refine Ext.drewN ?_ _) | (with_reducible refine Ext.trans ?_ (Hid.out ‹Hid (Ext _ _)›))))) (tp_one _) ?p3 ?p4 (Ext.size HE9a.out) ?_))
        case p3 => have := H72.out; unfold maxLen; omega
        case p4 => have := H72.out; omega
        intro v9 w9 ho9 hg9 hn9
        obtain ⟨B9, d9, rfl⟩ := ho9.form
        rw [List.length_append] at ho9 ⊢
        have HO9 := Lib.hid ho9
        have HE9 := Lib.hid (HE9a.out.grown hg9 (fun q hq => (HO9a.out.lt q hq).1))
        have hz9 := HE9.out.size
        clear ho9 hg9 hn9
        (apply Row.use (w := w9) (g := w.heap.size); (focus (repeat (first | (with_reducible exact Hid.out ‹Hid (Row _ _ _)›) | (with_reducible exact Row.newAt rfl) | (with_reducible apply Row.newAt; (simp; done)) | (with_reducible apply Row.set_) | (with_reducible apply Row.far; focus (simp <;> omega)) | (with_reducible apply Row.alloc) | (with_reducible apply Row.drew) | (with_reducible apply Row.drewN) | (with_reducible apply Row.ext (Hid.out ‹Hid (Ext _ _)›))))); intro q9_0 f9_0 l9_0 R9_0; (try simp only [List.setIfInBounds_toArray, List.set_cons_zero, List.set_cons_succ] at q9_0 R9_0); apply Row.use (w := w9) (g := w1.heap.size); (focus (repeat (first | (with_reducible exact Hid.out ‹Hid (Row _ _ _)›) | (with_reducible exact Row.newAt rfl) | (with_reducible apply Row.newAt; (simp; done)) | (with_reducible apply Row.set_) | (with_reducible apply Row.far; focus (simp <;> omega)) | (with_reducible apply Row.alloc) | (with_reducible apply Row.drew) | (with_reducible apply Row.drewN) | (with_reducible apply Row.ext (Hid.out ‹Hid (Ext _ _)›))))); intro q9_1 f9_1 l9_1 R9_1; (try simp only [List.setIfInBounds_toArray, List.set_cons_zero, List.set_cons_succ] at q9_1 R9_1))
        have HX9 := Lib.hid (HO9.out.rd tpc_size)
        have HOB := Lib.hid (fun (u : Value) (w' : World) (hu : RdL 5 tpc w' u (R1.taps ++ R2)) => (show Calls Try.prog 33 #[u] w' fun e w'' => ∃ t, e = .returned (.tuple #[t, .int .i64 0]) ∧ Ext w' w'' ∧ RdL 5 tpc w'' t (orderL (l.taps ++ more)).1 from by
          refine (HOR.out _ u w' hu).mono ?_
          rintro e w'' ⟨t, h1, h2, h3⟩
          rw [HOD.out] at h1
          rw [HOE.out] at h3
          exact ⟨t, h1, h2, h3.rd tpc_size⟩))
        have HOC := Lib.hid (fun (u : Value) (w' : World) (hu : RdL 5 tpc w' u (l.taps ++ more)) => (show Calls Try.prog 33 #[u] w' fun e w'' => ∃ t, e = .returned (.tuple #[t, .int .i64 0]) ∧ Ext w' w'' ∧ RdL 5 tpc w'' t (orderL (l.taps ++ more)).1 from by
          refine (HOR.out _ u w' hu).mono ?_
          rintro e w'' ⟨t, h1, h2, h3⟩
          rw [← HOE.out, HOD.out] at h1
          exact ⟨t, h1, h2, h3.rd tpc_size⟩))
        generalize (orderL (l.taps ++ more)).1 = os at *
        go_wp2_with fail
        refine (HOB.out _ _ (HX8.out.ext (by repeat (first | (with_reducible exact Ext.refl _) | (with_reducible refine Ext.alloc ?_ _) | (with_reducible apply Ext.setC; focus (simp <;> omega)) | (with_reducible refine Ext.drew ?_) | (with_reducible refine Ext.drewN ?_ _) | (with_reducible refine Ext.trans ?_ (Hid.out ‹Hid (Ext _ _)›)))))).mono ?_
        rintro e w10 ⟨t, rfl, h10, hr10⟩
        obtain ⟨B10, d10, rfl, -, -⟩ := hr10.form
        have H10 := Lib.hid h10
        have HR10 := Lib.hid hr10
        clear h10 hr10
        (apply Row.use (w := w10) (g := w.heap.size); (focus (repeat (first | (with_reducible exact Hid.out ‹Hid (Row _ _ _)›) | (with_reducible exact Row.newAt rfl) | (with_reducible apply Row.newAt; (simp; done)) | (with_reducible apply Row.set_) | (with_reducible apply Row.far; focus (simp <;> omega)) | (with_reducible apply Row.alloc) | (with_reducible apply Row.drew) | (with_reducible apply Row.drewN) | (with_reducible apply Row.ext (Hid.out ‹Hid (Ext _ _)›))))); intro q10_0 f10_0 l10_0 R10_0; (try simp only [List.setIfInBounds_toArray, List.set_cons_zero, List.set_cons_succ] at q10_0 R10_0); apply Row.use (w := w10) (g := w1.heap.size); (focus (repeat (first | (with_reducible exact Hid.out ‹Hid (Row _ _ _)›) | (with_reducible exact Row.newAt rfl) | (with_reducible apply Row.newAt; (simp; done)) | (with_reducible apply Row.set_) | (with_reducible apply Row.far; focus (simp <;> omega)) | (with_reducible apply Row.alloc) | (with_reducible apply Row.drew) | (with_reducible apply Row.drewN) | (with_reducible apply Row.ext (Hid.out ‹Hid (Ext _ _)›))))); intro q10_1 f10_1 l10_1 R10_1; (try simp only [List.setIfInBounds_toArray, List.set_cons_zero, List.set_cons_succ] at q10_1 R10_1))
        go_wp2_with fail
        refine (HOC.out _ _ (HX9.out.ext (by repeat (first | (with_reducible exact Ext.refl _) | (with_reducible refine Ext.alloc ?_ _) | (with_reducible apply Ext.setC; focus (simp <;> omega)) | (with_reducible refine Ext.drew ?_) | (with_reducible refine Ext.drewN ?_ _) | (with_reducible refine Ext.trans ?_ (Hid.out ‹Hid (Ext _ _)›)))))).mono ?_
        rintro e w11 ⟨t, rfl, h11, hr11⟩
        obtain ⟨B11, d11, rfl, -, -⟩ := hr11.form
        have H11 := Lib.hid h11
        have HR11 := Lib.hid hr11
        clear h11 hr11
        (apply Row.use (w := w11) (g := w.heap.size); (focus (repeat (first | (with_reducible exact Hid.out ‹Hid (Row _ _ _)›) | (with_reducible exact Row.newAt rfl) | (with_reducible apply Row.newAt; (simp; done)) | (with_reducible apply Row.set_) | (with_reducible apply Row.far; focus (simp <;> omega)) | (with_reducible apply Row.alloc) | (with_reducible apply Row.drew) | (with_reducible apply Row.drewN) | (with_reducible apply Row.ext (Hid.out ‹Hid (Ext _ _)›))))); intro q11_0 f11_0 l11_0 R11_0; (try simp only [List.setIfInBounds_toArray, List.set_cons_zero, List.set_cons_succ] at q11_0 R11_0); apply Row.use (w := w11) (g := w1.heap.size); (focus (repeat (first | (with_reducible exact Hid.out ‹Hid (Row _ _ _)›) | (with_reducible exact Row.newAt rfl) | (with_reducible apply Row.newAt; (simp; done)) | (with_reducible apply Row.set_) | (with_reducible apply Row.far; focus (simp <;> omega)) | (with_reducible apply Row.alloc) | (with_reducible apply Row.drew) | (with_reducible apply Row.drewN) | (with_reducible apply Row.ext (Hid.out ‹Hid (Ext _ _)›))))); intro q11_1 f11_1 l11_1 R11_1; (try simp only [List.setIfInBounds_toArray, List.set_cons_zero, List.set_cons_succ] at q11_1 R11_1))
        go_wp2_with fail
        refine (HST.out os _ _ _ (HR10.out.ext (by repeat (first | (with_reducible exact Ext.refl _) | (with_reducible refine Ext.alloc ?_ _) | (with_reducible apply Ext.setC; focus (simp <;> omega)) | (with_reducible refine Ext.drew ?_) | (with_reducible refine Ext.drewN ?_ _) | (with_reducible refine Ext.trans ?_ (Hid.out ‹Hid (Ext _ _)›))))) (HR11.out.ext (by repeat (first | (with_reducible exact Ext.refl _) | (with_reducible refine Ext.alloc ?_ _) | (with_reducible apply Ext.setC; focus (simp <;> omega)) | (with_reducible refine Ext.drew ?_) | (with_reducible refine Ext.drewN ?_ _) | (with_reducible refine Ext.trans ?_ (Hid.out ‹Hid (Ext _ _)›)))))).mono ?_
        (rintro e w12 ⟨rfl, h12⟩; have H12 := Lib.hid h12; have hz12 := h12.size; clear h12; (try simp only [World.size_alloc, size_set, World.heap_drewN, size_drew] at hz12); apply Row.use (w := w12) (g := w.heap.size); (focus (repeat (first | (with_reducible exact Hid.out ‹Hid (Row _ _ _)›) | (with_reducible exact Row.newAt rfl) | (with_reducible apply Row.newAt; (simp; done)) | (with_reducible apply Row.set_) | (with_reducible apply Row.far; focus (simp <;> omega)) | (with_reducible apply Row.alloc) | (with_reducible apply Row.drew) | (with_reducible apply Row.drewN) | (with_reducible apply Row.ext (Hid.out ‹Hid (Ext _ _)›))))); intro q12_0 f12_0 l12_0 R12_0; (try simp only [List.setIfInBounds_toArray, List.set_cons_zero, List.set_cons_succ] at q12_0 R12_0); apply Row.use (w := w12) (g := w1.heap.size); (focus (repeat (first | (with_reducible exact Hid.out ‹Hid (Row _ _ _)›) | (with_reducible exact Row.newAt rfl) | (with_reducible apply Row.newAt; (simp; done)) | (with_reducible apply Row.set_) | (with_reducible apply Row.far; focus (simp <;> omega)) | (with_reducible apply Row.alloc) | (with_reducible apply Row.drew) | (with_reducible apply Row.drewN) | (with_reducible apply Row.ext (Hid.out ‹Hid (Ext _ _)›))))); intro q12_1 f12_1 l12_1 R12_1; (try simp only [List.setIfInBounds_toArray, List.set_cons_zero, List.set_cons_succ] at q12_1 R12_1))
        go_wp2_with fail
        refine (HCK.out R1 _ _ _ _ HC.out (o1a.out.ext (by repeat (first | (with_reducible exact Ext.refl _) | (with_reducible refine Ext.alloc ?_ _) | (with_reducible apply Ext.setC; focus (simp <;> omega)) | (with_reducible refine Ext.drew ?_) | (with_reducible refine Ext.drewN ?_ _) | (with_reducible refine Ext.trans ?_ (Hid.out ‹Hid (Ext _ _)›))))) (o1b.out.ext (by repeat (first | (with_reducible exact Ext.refl _) | (with_reducible refine Ext.alloc ?_ _) | (with_reducible apply Ext.setC; focus (simp <;> omega)) | (with_reducible refine Ext.drew ?_) | (with_reducible refine Ext.drewN ?_ _) | (with_reducible refine Ext.trans ?_ (Hid.out ‹Hid (Ext _ _)›))))) (o1c.out.ext (by repeat (first | (with_reducible exact Ext.refl _) | (with_reducible refine Ext.alloc ?_ _) | (with_reducible apply Ext.setC; focus (simp <;> omega)) | (with_reducible refine Ext.drew ?_) | (with_reducible refine Ext.drewN ?_ _) | (with_reducible refine Ext.trans ?_ (Hid.out ‹Hid (Ext _ _)›)))))).mono ?_
        (rintro e w13 ⟨rfl, h13⟩; have H13 := Lib.hid h13; have hz13 := h13.size; clear h13; (try simp only [World.size_alloc, size_set, World.heap_drewN, size_drew] at hz13); apply Row.use (w := w13) (g := w.heap.size); (focus (repeat (first | (with_reducible exact Hid.out ‹Hid (Row _ _ _)›) | (with_reducible exact Row.newAt rfl) | (with_reducible apply Row.newAt; (simp; done)) | (with_reducible apply Row.set_) | (with_reducible apply Row.far; focus (simp <;> omega)) | (with_reducible apply Row.alloc) | (with_reducible apply Row.drew) | (with_reducible apply Row.drewN) | (with_reducible apply Row.ext (Hid.out ‹Hid (Ext _ _)›))))); intro q13_0 f13_0 l13_0 R13_0; (try simp only [List.setIfInBounds_toArray, List.set_cons_zero, List.set_cons_succ] at q13_0 R13_0); apply Row.use (w := w13) (g := w1.heap.size); (focus (repeat (first | (with_reducible exact Hid.out ‹Hid (Row _ _ _)›) | (with_reducible exact Row.newAt rfl) | (with_reducible apply Row.newAt; (simp; done)) | (with_reducible apply Row.set_) | (with_reducible apply Row.far; focus (simp <;> omega)) | (with_reducible apply Row.alloc) | (with_reducible apply Row.drew) | (with_reducible apply Row.drewN) | (with_reducible apply Row.ext (Hid.out ‹Hid (Ext _ _)›))))); intro q13_1 f13_1 l13_1 R13_1; (try simp only [List.setIfInBounds_toArray, List.set_cons_zero, List.set_cons_succ] at q13_1 R13_1))
        have o1a' := Lib.hid (show RdL 6 tkc w1 (.slice C0 R1.tickets.length e0) l.tickets by rw [← HTK.out]; exact o1a.out)
        go_wp2_with fail
        refine (HSK.out l.tickets _ _ _ (o1a'.out.ext (by repeat (first | (with_reducible exact Ext.refl _) | (with_reducible refine Ext.alloc ?_ _) | (with_reducible apply Ext.setC; focus (simp <;> omega)) | (with_reducible refine Ext.drew ?_) | (with_reducible refine Ext.drewN ?_ _) | (with_reducible refine Ext.trans ?_ (Hid.out ‹Hid (Ext _ _)›))))) (HT0.out.ext (by repeat (first | (with_reducible exact Ext.refl _) | (with_reducible refine Ext.alloc ?_ _) | (with_reducible apply Ext.setC; focus (simp <;> omega)) | (with_reducible refine Ext.drew ?_) | (with_reducible refine Ext.drewN ?_ _) | (with_reducible refine Ext.trans ?_ (Hid.out ‹Hid (Ext _ _)›)))))).mono ?_
        (rintro e w14 ⟨rfl, h14⟩; have H14 := Lib.hid h14; have hz14 := h14.size; clear h14; (try simp only [World.size_alloc, size_set, World.heap_drewN, size_drew] at hz14))
        go_wp2_with fail
        go_ret
        exact ⟨rfl, (show Ext w _ by repeat (first | (with_reducible exact Ext.refl _) | (with_reducible refine Ext.alloc ?_ _) | (with_reducible apply Ext.setC; focus (simp <;> omega)) | (with_reducible refine Ext.drew ?_) | (with_reducible refine Ext.drewN ?_ _) | (with_reducible refine Ext.trans ?_ (Hid.out ‹Hid (Ext _ _)›))))⟩
      · have hT : T3 ≠ 0 := fun e => h0 (HPM.out.1.2 e)
        have h0b : (R3 == 0) = false := by simpa using h0
        have h0c : (R3 != 0) = true := by simpa using h0
        have hTb : (T3 == 0) = false := by simpa using hT
        obtain ⟨rfl, rfl⟩ := HBAD.out h0
        obtain ⟨rfl, rfl⟩ := HBD2.out hT
        clear h0 hT HPM HOK HBAD HBD2
        go_wp2_with fail
        refine (HSL.out ld0 _ _ _ _ _ _ _ (o1a.out.ext (by repeat (first | (with_reducible exact Ext.refl _) | (with_reducible refine Ext.alloc ?_ _) | (with_reducible apply Ext.setC; focus (simp <;> omega)) | (with_reducible refine Ext.drew ?_) | (with_reducible refine Ext.drewN ?_ _) | (with_reducible refine Ext.trans ?_ (Hid.out ‹Hid (Ext _ _)›))))) (o1b.out.ext (by repeat (first | (with_reducible exact Ext.refl _) | (with_reducible refine Ext.alloc ?_ _) | (with_reducible apply Ext.setC; focus (simp <;> omega)) | (with_reducible refine Ext.drew ?_) | (with_reducible refine Ext.drewN ?_ _) | (with_reducible refine Ext.trans ?_ (Hid.out ‹Hid (Ext _ _)›))))) (o1c.out.ext (by repeat (first | (with_reducible exact Ext.refl _) | (with_reducible refine Ext.alloc ?_ _) | (with_reducible apply Ext.setC; focus (simp <;> omega)) | (with_reducible refine Ext.drew ?_) | (with_reducible refine Ext.drewN ?_ _) | (with_reducible refine Ext.trans ?_ (Hid.out ‹Hid (Ext _ _)›))))) (o5a.out.ext (by repeat (first | (with_reducible exact Ext.refl _) | (with_reducible refine Ext.alloc ?_ _) | (with_reducible apply Ext.setC; focus (simp <;> omega)) | (with_reducible refine Ext.drew ?_) | (with_reducible refine Ext.drewN ?_ _) | (with_reducible refine Ext.trans ?_ (Hid.out ‹Hid (Ext _ _)›))))) (o5b.out.ext (by repeat (first | (with_reducible exact Ext.refl _) | (with_reducible refine Ext.alloc ?_ _) | (with_reducible apply Ext.setC; focus (simp <;> omega)) | (with_reducible refine Ext.drew ?_) | (with_reducible refine Ext.drewN ?_ _) | (with_reducible refine Ext.trans ?_ (Hid.out ‹Hid (Ext _ _)›))))) (o5c.out.ext (by repeat (first | (with_reducible exact Ext.refl _) | (with_reducible refine Ext.alloc ?_ _) | (with_reducible apply Ext.setC; focus (simp <;> omega)) | (with_reducible refine Ext.drew ?_) | (with_reducible refine Ext.drewN ?_ _) | (with_reducible refine Ext.trans ?_ (Hid.out ‹Hid (Ext _ _)›)))))).mono ?_
        (rintro e w6 ⟨rfl, h6⟩; have H6 := Lib.hid h6; have hz6 := h6.size; clear h6; (try simp only [World.size_alloc, size_set, World.heap_drewN, size_drew] at hz6); apply Row.use (w := w6) (g := w1.heap.size); (focus (repeat (first | (with_reducible exact Hid.out ‹Hid (Row _ _ _)›) | (with_reducible exact Row.newAt rfl) | (with_reducible apply Row.newAt; (simp; done)) | (with_reducible apply Row.set_) | (with_reducible apply Row.far; focus (simp <;> omega)) | (with_reducible apply Row.alloc) | (with_reducible apply Row.drew) | (with_reducible apply Row.drewN) | (with_reducible apply Row.ext (Hid.out ‹Hid (Ext _ _)›))))); intro q6_0 f6_0 l6_0 R6_0; (try simp only [List.setIfInBounds_toArray, List.set_cons_zero, List.set_cons_succ] at q6_0 R6_0))
        go_wp2_with fail
        refine (HST.out [] _ _ _ (o1d.out.ext (by repeat (first | (with_reducible exact Ext.refl _) | (with_reducible refine Ext.alloc ?_ _) | (with_reducible apply Ext.setC; focus (simp <;> omega)) | (with_reducible refine Ext.drew ?_) | (with_reducible refine Ext.drewN ?_ _) | (with_reducible refine Ext.trans ?_ (Hid.out ‹Hid (Ext _ _)›))))) (o5d.out.ext (by repeat (first | (with_reducible exact Ext.refl _) | (with_reducible refine Ext.alloc ?_ _) | (with_reducible apply Ext.setC; focus (simp <;> omega)) | (with_reducible refine Ext.drew ?_) | (with_reducible refine Ext.drewN ?_ _) | (with_reducible refine Ext.trans ?_ (Hid.out ‹Hid (Ext _ _)›)))))).mono ?_
        (rintro e w7 ⟨rfl, h7⟩; have H7 := Lib.hid h7; have hz7 := h7.size; clear h7; (try simp only [World.size_alloc, size_set, World.heap_drewN, size_drew] at hz7); apply Row.use (w := w7) (g := w1.heap.size); (focus (repeat (first | (with_reducible exact Hid.out ‹Hid (Row _ _ _)›) | (with_reducible exact Row.newAt rfl) | (with_reducible apply Row.newAt; (simp; done)) | (with_reducible apply Row.set_) | (with_reducible apply Row.far; focus (simp <;> omega)) | (with_reducible apply Row.alloc) | (with_reducible apply Row.drew) | (with_reducible apply Row.drewN) | (with_reducible apply Row.ext (Hid.out ‹Hid (Ext _ _)›))))); intro q7_0 f7_0 l7_0 R7_0; (try simp only [List.setIfInBounds_toArray, List.set_cons_zero, List.set_cons_succ] at q7_0 R7_0))
        go_wp2_with fail
        go_ret
        exact ⟨ret_bool (by simp [ld0]), (show Ext w _ by repeat (first | (with_reducible exact Ext.refl _) | (with_reducible refine Ext.alloc ?_ _) | (with_reducible apply Ext.setC; focus (simp <;> omega)) | (with_reducible refine Ext.drew ?_) | (with_reducible refine Ext.drewN ?_ _) | (with_reducible refine Ext.trans ?_ (Hid.out ‹Hid (Ext _ _)›))))⟩
end Go.Proofs.Ytbboonepfmkgnaa

/- How the arguments of the statements read, VI: the bytes of taps. -/
namespace Go.Proofs.Ytbboonepfmkgnaa
set_option linter.unusedSimpArgs false
set_option linter.unusedVariables false
set_option maxRecDepth 100000
open Go Go.RowKit Go.Joins Go.ChangeShapes Go.WideShapes Go.Deep Lb

theorem open_tpz {H : Type} {enc : TypeId × Value → H} {w : World} {b0 base : Nat} {spare : Nat → Bool} {held : Bool} {r : Reach} {v : Value} {d : DataW H} {p : List MemPlace} (hv : Value.okWide Try.prog w r b0 23 v) (h : DataW.Trod enc Try.prog w base spare held 23 v d p) (hz : ∀ m ∈ d.weights Try.prog 23, m ≤ reachBytes) : ∃ l : List Tp, RdL 5 tpc w v l ∧ l.length * 40 ≤ 140737488355328 := by
  obtain ⟨l, hl⟩ := open_tps hv h
  have hl' := hl
  obtain ⟨A, c, rfl, -, -⟩ := hl.form
  obtain ⟨fuel, hf⟩ := h
  have z := fits_slice Try.underlying23 hf hz
  rw [show Try.prog.bytesOf 30 = 40 from by kernel_rfl] at z
  have hr := reachBytes_lt
  exact ⟨l, hl', by omega⟩
end Go.Proofs.Ytbboonepfmkgnaa

namespace Go.Proofs.Ytbboonepfmkgnaa
set_option linter.unusedSimpArgs false
set_option linter.unusedVariables false
open Go.ChangeShapes Go.WideShapes Go.ChangeAt Go.RowKit
open Go.ChangeMaps (open_string shut_string)

set_option maxRecDepth 100000 in
theorem mergeWhole_lifted (os : Os) (started : os.Started) (H : Type) (enc : TypeId × Value → H) :
    ReturnsInHanded {} Try.checked os 13 .any (Rows.mergeWholeSpec.pre6 enc Try.prog Try.f13 Rows.mergeWholeRow.domain false) (Rows.mergeWholeSpec.post enc Try.prog Try.f13 false true false false) := by
  refine returnsInHanded_of_change_sized (C := Try.checked) own started (by kernel_rfl) Try.func13
    (ChangeSpec.witness6 (enc := enc) (C := Try.checked) false ⟨#[], #[.agg #[.slice none 0 0, .slice none 0 0, .slice none 0 0], .slice none 0 0], []⟩ 8 (by kernel_rfl) (by kernel_rfl) (by kernel_rfl) (by kernel_rfl)) ?_
  intro W base args ds gs before hval0 hW hcnd hsized _
  have hval : ∀ (j : Nat) t v, Try.f13.params[j]? = some t → args[j]? = some v → Value.okWide Try.prog W .any base t v := hval0
  have hW' := hW
  obtain ⟨p, q, hA0, hV, rfl, hfz, hnd⟩ := hW
  have hA : DataW.TrodAll enc Try.prog W 0 (fun _ => true) true Try.f13.params.toList args.toList ds p := hA0
  rw [Try.params13] at hA hval
  obtain ⟨v0, vs0, d0, ds0, p0, q0, hargs, rfl, rfl, h0, r0⟩ := trodAll_cons hA
  obtain ⟨v1, vs1, d1, ds1, p1, q1, rfl, rfl, rfl, h1, r1⟩ := trodAll_cons r0
  obtain ⟨rfl, rfl, rfl⟩ := trodAll_nil r1
  obtain rfl : args = #[v0, v1] := by cases args; simp_all
  obtain ⟨rfl, rfl⟩ := trodVars_none hV
  have k0 := h0
  have lt0 : ∀ x ∈ p0, x.block < W.heap.size := by obtain ⟨m, hm⟩ := k0; exact DataW.trod_lt m _ _ _ hm
  have k1 := h1
  have lt1 : ∀ x ∈ p1, x.block < W.heap.size := by obtain ⟨m, hm⟩ := k1; exact DataW.trod_lt m _ _ _ hm
  obtain ⟨l0, sk0, sp0, sv0, rfl, e0, f0, i0⟩ := open_ld (hval 0 26 v0 rfl rfl) h0
  have z1 : ∀ m ∈ d1.weights Try.prog 23, m ≤ reachBytes := fun m hm => by
    have := List.all_eq_true.1 hsized m (DataW.weights_mem_each (j := 1) (by rw [Try.params13]; rfl) rfl m hm)
    simpa using this
  obtain ⟨l1, e1, y1⟩ := open_tpz (hval 1 23 v1 rfl rfl) h1 z1
  clear hA0 hval0
  refine (law_MergeWhole l0 sk0 sp0 sv0 l1 v1 W e0 f0 i0 e1 y1).mono fun e W' ⟨he, bel⟩ => ?_
  subst he
  exact ⟨_, rfl, _, _, _, [], _, [], hW', trodAll_mk1 (shut_bool Try.underlying4 _), (trodAll_cons_mk (Below.trod laidOut (by kernel_rfl) (of_decide_eq_true (by kernel_rfl)) k0 bel lt0) (trodAll_cons_mk (Below.trod laidOut (by kernel_rfl) (of_decide_eq_true (by kernel_rfl)) k1 bel lt1) trodAll_mk0)), rfl, bel.frame _, fun h => by cases h⟩

theorem mergeWhole_holds : Rows.MergeWholeSaid :=
  OpenClaim.holds_of_wide 13 Try.f13 rfl rfl rfl rfl rfl rfl rfl ⟨rfl, rfl, rfl, rfl, rfl⟩ rfl rfl rfl rfl rfl (by kernel_rfl) Try.func13 (by kernel_rfl)
    (of_decide_eq_true (by kernel_rfl)) (by unfold Func.isWrapper; first | (rw [if_pos (by decide +kernel)]; kernel_rfl) | (rw [if_neg (by decide +kernel)]; exact ⟨rfl, rfl⟩))
    (fun os started H enc _ => mergeWhole_lifted os started H enc)

end Go.Proofs.Ytbboonepfmkgnaa
