/- LedgerRides: for every input the law returns true, and each argument reads afterwards as it read before. No condition. -/
import Derived.Test.YtbboonepfmkgnaaRows
import Derived.Test.YtbboonepfmkgnaaMc
import Derived.Test.YtbboonepfmkgnaaMe
import Derived.Test.YtbboonepfmkgnaaMo
/- The law LedgerRides. -/
namespace Go.Proofs.Ytbboonepfmkgnaa
set_option linter.unusedSimpArgs false
set_option linter.unusedVariables false
set_option maxRecDepth 100000
open Go Go.RowKit Lb

def rid (l : Ld) (id : Int) : Int := ((ridesOf l.taps l.verdicts id).length : Nat)
theorem rides_is {l : Ld} (h : ckLedger l = 0) {t : Tk} (ht : t ∈ l.tickets) : ridesAll l t.id = (rid l t.id, 0) := by
  unfold ridesAll
  rw [if_neg (by simpa using h), ticketOf_self (right_sorted h) ht, if_neg (by simp)]
  rfl
theorem rid_snoc {l : Ld} (h : ckLedger l = 0) (p : Tp) (v id : Int) : rid ⟨l.tickets, l.taps ++ [p], l.verdicts ++ [v]⟩ id = rid l id + (if p.ticket = id ∧ v = 1 then 1 else 0) := by
  unfold rid
  simp only
  rw [ridesOf_snoc _ _ _ _ _ (right_len h)]
  split <;> simp
theorem rid_most {l : Ld} (h : ckLedger l = 0) {t : Tk} (ht : t ∈ l.tickets) : 0 ≤ rid l t.id ∧ rid l t.id ≤ 60 ∧ (t.kind = 1 → rid l t.id ≤ 1) ∧ (t.kind = 3 → rid l t.id ≤ t.rides) := by
  have h1 := rides_most l.tickets t ht _ l.taps l.verdicts rfl h
  have h2 := ridesOf_len l.taps l.verdicts t.id
  have h3 := (right_iff.1 h).2.1
  unfold mostOf at h1
  unfold rid
  refine ⟨by omega, by omega, fun hk => ?_, fun hk => ?_⟩
  · rw [if_pos hk] at h1
    omega
  · rw [if_neg (by omega), if_neg (by omega)] at h1
    omega
theorem judge_bad {t : Tk} {last : Option Int} {n : Int} {p : Tp} (h : (judge t last n p).2 ≠ 0) : (judge t last n p).1 = 3 := by
  unfold judge at h ⊢
  by_cases h1 : place t p.time p.zone = 0
  · simp only [h1, ne_eq, not_true_eq_false, if_false] at h ⊢
    split
    · rename_i h2; rw [if_pos h2] at h; simp at h
    · rename_i h2
      rw [if_neg h2] at h
      split
      · rfl
      · rename_i h3; rw [if_neg h3] at h; simp at h
  · simp [h1]
theorem tapV_bad {tks : List Tk} {taps : List Tp} {vs : List Int} {p : Tp} (h : (tapV tks taps vs p).2 ≠ 0) : (tapV tks taps vs p).1 = 0 ∨ (tapV tks taps vs p).1 = 3 := by
  unfold tapV at h ⊢
  split
  · left; rfl
  · rename_i h1
    rw [if_neg h1] at h
    split
    · left; rfl
    · rename_i t ht
      rw [ht] at h
      simp only at h
      split
      · left; rfl
      · rename_i h2
        rw [if_neg h2] at h
        split
        · left; rfl
        · rename_i h3
          rw [if_neg h3] at h
          right
          exact judge_bad h
theorem enterAll_bad {l : Ld} {p : Tp} (h : (enterAll l p).2.2 ≠ 0) : (enterAll l p).2.1 = 0 ∨ (enterAll l p).2.1 = 3 := by
  rw [enterAll_eq] at h ⊢
  by_cases hc : ckLedger l = 0
  · rw [if_neg (by simpa using hc)] at h ⊢
    unfold enterL at h ⊢
    have hb := @tapV_bad l.tickets l.taps l.verdicts p
    generalize tapV l.tickets l.taps l.verdicts p = X at *
    obtain ⟨v, e⟩ := X
    simp only at h hb ⊢
    by_cases he : e = 0
    · rw [if_neg (by simpa using he)] at h ⊢
      split
      · left; rfl
      · rename_i h2
        rw [if_neg h2] at h
        simp at h
    · rw [if_pos he]
      exact hb he
  · rw [if_pos hc]
    left; rfl

set_option maxHeartbeats 64000000 in
theorem law_LedgerRides (l : Ld) (s0 s1 s2 : Value) (p : Tp) (w : World) (hr0 : RdL 6 tkc w s0 l.tickets) (hr1 : RdL 5 tpc w s1 l.taps) (hr2 : RdL 1 inc w s2 l.verdicts) :
    Calls Try.prog 4 #[.agg #[s0, s1, s2], .agg (tpc p)] w fun e w' => e = .returned (.bool true) ∧ Ext w w' := by
  have HE := Lib.hid (fun (w' : World) (h : Ext w w') => ledger_Enter l s0 s1 s2 p w' (hr0.ext h) (hr1.ext h) (hr2.ext h))
  have HB := Lib.hid (fun (w' : World) => law_ledgerBegun w')
  have HRL := Lib.hid (fun (id : Int) (w' : World) (h : Ext w w') => ledger_Rides l s0 s1 s2 id w' (hr0.ext h) (hr1.ext h) (hr2.ext h))
  have HRA := Lib.hid (fun (a : Ld) (t0 t1 t2 : Value) (id : Int) (w' : World) => ledger_Rides a t0 t1 t2 id w')
  have HCA := Lib.hid (fun (a : Ld) (t0 t1 t2 : Value) (w' : World) => ledger_Check a.tickets a.taps a.verdicts t0 t1 t2 w')
  have HST := Lib.hid (fun (v : Value) (w' : World) (hv : RdL 5 tpc w' v l.taps) (h : Ext w w') => ref_SameTaps l.taps l.taps v s1 w' hv (hr1.ext h))
  have HTR := Lib.hid hr0
  have herr := @enterAll_err l p
  have hbad := @enterAll_bad l p
  have hok := @enterAll_ok l (enterAll l p).1 p (enterAll l p).2.1
  have hm : l.tickets.length ≤ 9223372036854775807 := by
    obtain ⟨A, c, -, h1, h2⟩ := hr0.form
    unfold maxLen at h2
    omega
  obtain ⟨A0, c0, rfl, -, -⟩ := hr0.form
  obtain ⟨A, c, rfl, -, -⟩ := hr1.form
  obtain ⟨A2, c2, rfl, -, -⟩ := hr2.form
  clear hr0 hr1 hr2
  generalize enterAll l p = X at *
  obtain ⟨a, v, e⟩ := X
  simp only at HE herr hok hbad
  obtain ⟨p0, p1, p2, p3, p4⟩ := p
  rw [show tpc ⟨p0, p1, p2, p3, p4⟩ = #[.int .i64 p0, .int .i64 p1, .int .i64 p2, .int .i64 p3, .int .i64 p4] from rfl] at HE ⊢
  by_cases he : e = 0
  case neg =>
    have heb : (e != 0) = true := by simpa using he
    have ha := herr he
    have hv := hbad he
    subst ha
    have hl0 : ((ld0.taps.length : Int) == 0) = true := rfl
    clear herr hok he hbad
    rcases hv with rfl | rfl
    all_goals
      go_enter Try.func4, Try.ntmps4
      go_wp2_with fail
      refine (HE.out _ (by repeat (first | (with_reducible exact Ext.refl _) | (with_reducible refine Ext.alloc ?_ _) | (with_reducible apply Ext.setC; focus (simp <;> omega)) | (with_reducible refine Ext.drew ?_) | (with_reducible refine Ext.drewN ?_ _) | (with_reducible refine Ext.trans ?_ (Hid.out ‹Hid (Ext _ _)›))))).mono ?_
      (rintro e w1 ⟨t0, t1, t2, rfl, h1, ho⟩; have o1a := Lib.hid (ho.tk.rd tkc_size); have o1b := Lib.hid (ho.tp.rd tpc_size); have o1c := Lib.hid (ho.vd.rd inc_size); obtain ⟨A1a, c1a, A1b, c1b, A1c, c1c, rfl, rfl, rfl⟩ := ho.forms; have H1 := Lib.hid h1; have hz1 := h1.size; clear h1 ho; (try simp only [World.size_alloc, size_set, World.heap_drewN, size_drew] at hz1); apply Row.use (w := w1) (g := w.heap.size); (focus (repeat (first | (with_reducible exact Hid.out ‹Hid (Row _ _ _)›) | (with_reducible exact Row.newAt rfl) | (with_reducible apply Row.newAt; (simp; done)) | (with_reducible apply Row.set_) | (with_reducible apply Row.far; focus (simp <;> omega)) | (with_reducible apply Row.alloc) | (with_reducible apply Row.drew) | (with_reducible apply Row.drewN) | (with_reducible apply Row.ext (Hid.out ‹Hid (Ext _ _)›))))); intro q1_0 f1_0 l1_0 R1_0; (try simp only [List.setIfInBounds_toArray, List.set_cons_zero, List.set_cons_succ] at q1_0 R1_0); apply Row.use (w := w1) (g := w.heap.size + 1); (focus (repeat (first | (with_reducible exact Hid.out ‹Hid (Row _ _ _)›) | (with_reducible exact Row.newAt rfl) | (with_reducible apply Row.newAt; (simp; done)) | (with_reducible apply Row.set_) | (with_reducible apply Row.far; focus (simp <;> omega)) | (with_reducible apply Row.alloc) | (with_reducible apply Row.drew) | (with_reducible apply Row.drewN) | (with_reducible apply Row.ext (Hid.out ‹Hid (Ext _ _)›))))); intro q1_1 f1_1 l1_1 R1_1; (try simp only [List.setIfInBounds_toArray, List.set_cons_zero, List.set_cons_succ] at q1_1 R1_1))
      go_wp2_with fail
      (refine (HB.out _).mono ?_; rintro e w2 ⟨rfl, h2⟩; have H2 := Lib.hid h2; have hz2 := h2.size; clear h2; (try simp only [World.size_alloc, size_set, World.heap_drewN, size_drew] at hz2); apply Row.use (w := w2) (g := w.heap.size); (focus (repeat (first | (with_reducible exact Hid.out ‹Hid (Row _ _ _)›) | (with_reducible exact Row.newAt rfl) | (with_reducible apply Row.newAt; (simp; done)) | (with_reducible apply Row.set_) | (with_reducible apply Row.far; focus (simp <;> omega)) | (with_reducible apply Row.alloc) | (with_reducible apply Row.drew) | (with_reducible apply Row.drewN) | (with_reducible apply Row.ext (Hid.out ‹Hid (Ext _ _)›))))); intro q2_0 f2_0 l2_0 R2_0; (try simp only [List.setIfInBounds_toArray, List.set_cons_zero, List.set_cons_succ] at q2_0 R2_0); apply Row.use (w := w2) (g := w.heap.size + 1); (focus (repeat (first | (with_reducible exact Hid.out ‹Hid (Row _ _ _)›) | (with_reducible exact Row.newAt rfl) | (with_reducible apply Row.newAt; (simp; done)) | (with_reducible apply Row.set_) | (with_reducible apply Row.far; focus (simp <;> omega)) | (with_reducible apply Row.alloc) | (with_reducible apply Row.drew) | (with_reducible apply Row.drewN) | (with_reducible apply Row.ext (Hid.out ‹Hid (Ext _ _)›))))); intro q2_1 f2_1 l2_1 R2_1; (try simp only [List.setIfInBounds_toArray, List.set_cons_zero, List.set_cons_succ] at q2_1 R2_1); apply Row.use (w := w2) (g := w1.heap.size); (focus (repeat (first | (with_reducible exact Hid.out ‹Hid (Row _ _ _)›) | (with_reducible exact Row.newAt rfl) | (with_reducible apply Row.newAt; (simp; done)) | (with_reducible apply Row.set_) | (with_reducible apply Row.far; focus (simp <;> omega)) | (with_reducible apply Row.alloc) | (with_reducible apply Row.drew) | (with_reducible apply Row.drewN) | (with_reducible apply Row.ext (Hid.out ‹Hid (Ext _ _)›))))); intro q2_2 f2_2 l2_2 R2_2; (try simp only [List.setIfInBounds_toArray, List.set_cons_zero, List.set_cons_succ] at q2_2 R2_2))
      go_wp2_with fail
      go_ret
      exact ⟨by first | rfl | simp [ld0], (show Ext w _ by repeat (first | (with_reducible exact Ext.refl _) | (with_reducible refine Ext.alloc ?_ _) | (with_reducible apply Ext.setC; focus (simp <;> omega)) | (with_reducible refine Ext.drew ?_) | (with_reducible refine Ext.drewN ?_ _) | (with_reducible refine Ext.trans ?_ (Hid.out ‹Hid (Ext _ _)›))))⟩
  subst he
  obtain ⟨hl, hla, hae, h60, htv, hv12⟩ := hok rfl
  clear hok herr hbad htv
  have hvl := right_len hl
  have hlb : a.taps.length = l.taps.length + 1 := by rw [hae]; simp
  have hlc : a.verdicts.length = l.taps.length + 1 := by rw [hae]; simp [hvl]
  have HLB := Lib.hid hlb
  have HLC := Lib.hid hlc
  clear hlb hlc
  have hpb : a.taps[l.taps.length]'(by rw [HLB.out]; omega) = ⟨p0, p1, p2, p3, p4⟩ := by simp [hae]
  have hpc : a.verdicts[l.taps.length]'(by rw [HLC.out]; omega) = v := by
    simp [hae, hvl]
  have htk : a.taps.take l.taps.length = l.taps := by rw [hae]; simp
  have HRL2 := Lib.hid (fun (i : Nat) (hi : i < l.tickets.length) (w' : World) (h : Ext w w') => by
    have h1 := HRL.out l.tickets[i].id w' h
    rw [rides_is hl (List.getElem_mem hi)] at h1
    exact h1)
  have HRA2 := Lib.hid (fun (i : Nat) (hi : i < l.tickets.length) (t0 t1 t2 : Value) (w' : World) (ha : RdL 6 tkc w' t0 a.tickets) (hb : RdL 5 tpc w' t1 a.taps) (hc : RdL 1 inc w' t2 a.verdicts) => by
    have h1 := HRA.out a t0 t1 t2 l.tickets[i].id w' ha hb hc
    rw [rides_is hla (by rw [hae]; exact List.getElem_mem hi)] at h1
    exact h1)
  have HSN := Lib.hid (fun (i : Nat) (hi : i < l.tickets.length) => by
    have h1 := rid_snoc hl ⟨p0, p1, p2, p3, p4⟩ v l.tickets[i].id
    rw [← hae] at h1
    exact h1)
  have HMO := Lib.hid (fun (i : Nat) (hi : i < l.tickets.length) => by
    have h1 := rid_most hla (t := l.tickets[i]) (by rw [hae]; exact List.getElem_mem hi)
    exact h1)
  have HML := Lib.hid (fun (i : Nat) (hi : i < l.tickets.length) => (rid_most hl (List.getElem_mem hi)))
  have HCA2 := Lib.hid (fun (t0 t1 t2 : Value) (w' : World) (ha : RdL 6 tkc w' t0 a.tickets) (hb : RdL 5 tpc w' t1 a.taps) (hc : RdL 1 inc w' t2 a.verdicts) => by
    have h1 := HCA.out a t0 t1 t2 w' ha hb hc
    rw [show (⟨a.tickets, a.taps, a.verdicts⟩ : Ld) = a from rfl, hla] at h1
    exact h1)
  have HSM := Lib.hid (fun (v : Value) (w' : World) (hv : RdL 5 tpc w' v l.taps) (h : Ext w w') => by
    have h1 := HST.out v w' hv h
    rw [show (l.taps == l.taps) = true by simp] at h1
    exact h1)
  have HPB := Lib.hid hpb
  have HPC := Lib.hid hpc
  have HTK := Lib.hid htk
  have HV := Lib.hid hv12
  have hwn : IntKind.i64.wrap ((l.taps.length : Int) + 1) = (l.taps.length : Int) + 1 := IntWalk.i64_in _ (by omega)
  have HN60 := Lib.hid h60
  have hnt := fun W => neq_tp p0 p1 p2 p3 p4 p0 p1 p2 p3 p4 W
  rw [decide_eq_true rfl] at hnt
  clear HRL HRA HCA HST hl hla hae h60 hv12 hvl hpb hpc htk
  go_enter Try.func4, Try.ntmps4
  go_wp2_with fail
  refine (HE.out _ (by repeat (first | (with_reducible exact Ext.refl _) | (with_reducible refine Ext.alloc ?_ _) | (with_reducible apply Ext.setC; focus (simp <;> omega)) | (with_reducible refine Ext.drew ?_) | (with_reducible refine Ext.drewN ?_ _) | (with_reducible refine Ext.trans ?_ (Hid.out ‹Hid (Ext _ _)›))))).mono ?_
  (rintro e w1 ⟨t0, t1, t2, rfl, h1, ho⟩; have o1a := Lib.hid (ho.tk.rd tkc_size); have o1b := Lib.hid (ho.tp.rd tpc_size); have o1c := Lib.hid (ho.vd.rd inc_size); obtain ⟨A1a, c1a, A1b, c1b, A1c, c1c, rfl, rfl, rfl⟩ := ho.forms; have H1 := Lib.hid h1; have hz1 := h1.size; clear h1 ho; (try simp only [World.size_alloc, size_set, World.heap_drewN, size_drew] at hz1); apply Row.use (w := w1) (g := w.heap.size); (focus (repeat (first | (with_reducible exact Hid.out ‹Hid (Row _ _ _)›) | (with_reducible exact Row.newAt rfl) | (with_reducible apply Row.newAt; (simp; done)) | (with_reducible apply Row.set_) | (with_reducible apply Row.far; focus (simp <;> omega)) | (with_reducible apply Row.alloc) | (with_reducible apply Row.drew) | (with_reducible apply Row.drewN) | (with_reducible apply Row.ext (Hid.out ‹Hid (Ext _ _)›))))); intro q1_0 f1_0 l1_0 R1_0; (try simp only [List.setIfInBounds_toArray, List.set_cons_zero, List.set_cons_succ] at q1_0 R1_0); apply Row.use (w := w1) (g := w.heap.size + 1); (focus (repeat (first | (with_reducible exact Hid.out ‹Hid (Row _ _ _)›) | (with_reducible exact Row.newAt rfl) | (with_reducible apply Row.newAt; (simp; done)) | (with_reducible apply Row.set_) | (with_reducible apply Row.far; focus (simp <;> omega)) | (with_reducible apply Row.alloc) | (with_reducible apply Row.drew) | (with_reducible apply Row.drewN) | (with_reducible apply Row.ext (Hid.out ‹Hid (Ext _ _)›))))); intro q1_1 f1_1 l1_1 R1_1; (try simp only [List.setIfInBounds_toArray, List.set_cons_zero, List.set_cons_succ] at q1_1 R1_1))
  rw [HLB.out, HLC.out]
  rw [HLB.out] at o1b
  rw [HLC.out] at o1c
  go_wp2_with fail
  (refine (HB.out _).mono ?_; rintro e w2 ⟨rfl, h2⟩; have H2 := Lib.hid h2; have hz2 := h2.size; clear h2; (try simp only [World.size_alloc, size_set, World.heap_drewN, size_drew] at hz2); apply Row.use (w := w2) (g := w.heap.size); (focus (repeat (first | (with_reducible exact Hid.out ‹Hid (Row _ _ _)›) | (with_reducible exact Row.newAt rfl) | (with_reducible apply Row.newAt; (simp; done)) | (with_reducible apply Row.set_) | (with_reducible apply Row.far; focus (simp <;> omega)) | (with_reducible apply Row.alloc) | (with_reducible apply Row.drew) | (with_reducible apply Row.drewN) | (with_reducible apply Row.ext (Hid.out ‹Hid (Ext _ _)›))))); intro q2_0 f2_0 l2_0 R2_0; (try simp only [List.setIfInBounds_toArray, List.set_cons_zero, List.set_cons_succ] at q2_0 R2_0); apply Row.use (w := w2) (g := w.heap.size + 1); (focus (repeat (first | (with_reducible exact Hid.out ‹Hid (Row _ _ _)›) | (with_reducible exact Row.newAt rfl) | (with_reducible apply Row.newAt; (simp; done)) | (with_reducible apply Row.set_) | (with_reducible apply Row.far; focus (simp <;> omega)) | (with_reducible apply Row.alloc) | (with_reducible apply Row.drew) | (with_reducible apply Row.drewN) | (with_reducible apply Row.ext (Hid.out ‹Hid (Ext _ _)›))))); intro q2_1 f2_1 l2_1 R2_1; (try simp only [List.setIfInBounds_toArray, List.set_cons_zero, List.set_cons_succ] at q2_1 R2_1); apply Row.use (w := w2) (g := w1.heap.size); (focus (repeat (first | (with_reducible exact Hid.out ‹Hid (Row _ _ _)›) | (with_reducible exact Row.newAt rfl) | (with_reducible apply Row.newAt; (simp; done)) | (with_reducible apply Row.set_) | (with_reducible apply Row.far; focus (simp <;> omega)) | (with_reducible apply Row.alloc) | (with_reducible apply Row.drew) | (with_reducible apply Row.drewN) | (with_reducible apply Row.ext (Hid.out ‹Hid (Ext _ _)›))))); intro q2_2 f2_2 l2_2 R2_2; (try simp only [List.setIfInBounds_toArray, List.set_cons_zero, List.set_cons_succ] at q2_2 R2_2))
  go_upto_region 7 with fail
  (apply wp_gen3 (w0 := w2) (g0 := w.heap.size) (g1 := w.heap.size + 1) (g2 := w1.heap.size); (focus (repeat (first | (with_reducible exact Hid.out ‹Hid (Row _ _ _)›) | (with_reducible exact Row.newAt rfl) | (with_reducible apply Row.newAt; (simp; done)) | (with_reducible apply Row.set_) | (with_reducible apply Row.far; focus (simp <;> omega)) | (with_reducible apply Row.alloc) | (with_reducible apply Row.drew) | (with_reducible apply Row.drewN) | (with_reducible apply Row.ext (Hid.out ‹Hid (Ext _ _)›))))); (focus (repeat (first | (with_reducible exact Hid.out ‹Hid (Row _ _ _)›) | (with_reducible exact Row.newAt rfl) | (with_reducible apply Row.newAt; (simp; done)) | (with_reducible apply Row.set_) | (with_reducible apply Row.far; focus (simp <;> omega)) | (with_reducible apply Row.alloc) | (with_reducible apply Row.drew) | (with_reducible apply Row.drewN) | (with_reducible apply Row.ext (Hid.out ‹Hid (Ext _ _)›))))); (focus (repeat (first | (with_reducible exact Hid.out ‹Hid (Row _ _ _)›) | (with_reducible exact Row.newAt rfl) | (with_reducible apply Row.newAt; (simp; done)) | (with_reducible apply Row.set_) | (with_reducible apply Row.far; focus (simp <;> omega)) | (with_reducible apply Row.alloc) | (with_reducible apply Row.drew) | (with_reducible apply Row.drewN) | (with_reducible apply Row.ext (Hid.out ‹Hid (Ext _ _)›))))); (focus (repeat (first | (with_reducible exact Ext.refl _) | (with_reducible refine Ext.alloc ?_ _) | (with_reducible apply Ext.setC; focus (simp <;> omega)) | (with_reducible refine Ext.drew ?_) | (with_reducible refine Ext.drewN ?_ _) | (with_reducible refine Ext.trans ?_ (Hid.out ‹Hid (Ext _ _)›))))); intro W HW hzW Ra_0 Ra_1 Ra_2; (try simp only [List.setIfInBounds_toArray, List.set_cons_zero, List.set_cons_succ, World.size_alloc, size_set, World.heap_drewN, size_drew] at hzW Ra_0 Ra_1 Ra_2); have la_0 := Ra_0.out.size; have la_1 := Ra_1.out.size; have la_2 := Ra_2.out.size)
  obtain ⟨tb, tof, rfl, htb, g0, g1, g2, g3, g4⟩ := (o1b.out.ext (show Ext w1 W by repeat (first | (with_reducible exact Ext.refl _) | (with_reducible refine Ext.alloc ?_ _) | (with_reducible apply Ext.setC; focus (simp <;> omega)) | (with_reducible refine Ext.drew ?_) | (with_reducible refine Ext.drewN ?_ _) | (with_reducible refine Ext.trans ?_ (Hid.out ‹Hid (Ext _ _)›))))).tap_at rfl (show l.taps.length < a.taps.length by rw [HLB.out]; omega)
  obtain ⟨vb, vof, rfl, hvb, v0⟩ := (o1c.out.ext (show Ext w1 W by repeat (first | (with_reducible exact Ext.refl _) | (with_reducible refine Ext.alloc ?_ _) | (with_reducible apply Ext.setC; focus (simp <;> omega)) | (with_reducible refine Ext.drew ?_) | (with_reducible refine Ext.drewN ?_ _) | (with_reducible refine Ext.trans ?_ (Hid.out ‹Hid (Ext _ _)›))))).num_at rfl (show l.taps.length < a.verdicts.length by rw [HLC.out]; omega)
  rw [HPB.out] at g0 g1 g2 g3 g4
  rw [HPC.out] at v0
  simp only at g0 g1 g2 g3 g4
  have hcap : l.taps.length ≤ c1b := by
    obtain ⟨A', c', hh, hh1, -⟩ := o1b.out.form
    injection hh with _ _ hh
    rw [HLB.out] at hh1
    omega
  have hn0 : 0 ≤ (l.taps.length : Int) := by omega
  have hn1 : (l.taps.length : Int) < (l.taps.length : Int) + 1 := by omega
  have hn2 : (l.taps.length : Int) ≤ (l.taps.length : Int) + 1 := by omega
  have HK := Lib.hid (fun (w' : World) (h : Ext W w') => And.intro (Row.ext h Ra_0.out).2.1 (And.intro (Row.ext h Ra_1.out).2.1 (And.intro (Row.ext h Ra_2.out).2.1 (And.intro ((h.cells _ _ htb).trans g0) (And.intro ((h.cells _ _ htb).trans g1) (And.intro ((h.cells _ _ htb).trans g2) (And.intro ((h.cells _ _ htb).trans g3) (And.intro ((h.cells _ _ htb).trans g4) (((h.cells _ _ hvb).trans v0))))))))))
  (refine T_begin (fun w' => Ext W w') 46 (by kernel_rfl) ((Ext.refl _).drew) (fun hS => ?_); simp only [List.length_cons, List.length_nil])
  ((refine T_takeG (i := 0) (v := ?_) rfl (by kernel_rfl) (by kernel_rfl) hS ?_ ?_; rotate_left; focus (intro w hSw; have hk := HK.out w hSw; clear hSw; go_simp; try (with_reducible rfl))); (try simp only [Act.put, List.setIfInBounds_toArray, List.set_cons_zero, List.set_cons_succ]))
  refine T_onlyG (i := 1) rfl (by kernel_rfl) (by kernel_rfl) (fun K hK => ?_)
  go_simp
  refine (HCA2.out _ _ _ _ (o1a.out.ext (by repeat (first | (with_reducible exact Ext.refl _) | (with_reducible refine Ext.alloc ?_ _) | (with_reducible apply Ext.setC; focus (simp <;> omega)) | (with_reducible refine Ext.drew ?_) | (with_reducible refine Ext.drewN ?_ _) | (with_reducible refine Ext.trans ?_ (Hid.out ‹Hid (Ext _ _)›))))) (o1b.out.ext (by repeat (first | (with_reducible exact Ext.refl _) | (with_reducible refine Ext.alloc ?_ _) | (with_reducible apply Ext.setC; focus (simp <;> omega)) | (with_reducible refine Ext.drew ?_) | (with_reducible refine Ext.drewN ?_ _) | (with_reducible refine Ext.trans ?_ (Hid.out ‹Hid (Ext _ _)›))))) (o1c.out.ext (by repeat (first | (with_reducible exact Ext.refl _) | (with_reducible refine Ext.alloc ?_ _) | (with_reducible apply Ext.setC; focus (simp <;> omega)) | (with_reducible refine Ext.drew ?_) | (with_reducible refine Ext.drewN ?_ _) | (with_reducible refine Ext.trans ?_ (Hid.out ‹Hid (Ext _ _)›)))))).mono ?_
  rintro e w3 ⟨rfl, h3⟩
  have H3 := Lib.hid h3
  clear h3 hS
  (go_wp2_with fail; have hS : Ext W w3 := by (repeat (first | (with_reducible exact Ext.refl _) | (with_reducible refine Ext.alloc ?_ _) | (with_reducible apply Ext.setC; focus (simp <;> omega)) | (with_reducible refine Ext.drew ?_) | (with_reducible refine Ext.drewN ?_ _) | (with_reducible refine Ext.trans ?_ (Hid.out ‹Hid (Ext _ _)›))))); (refine hK.out _ _ (.inr hS) ?_; clear hK; (try simp only [Act.put, List.setIfInBounds_toArray, List.set_cons_zero, List.set_cons_succ]))
  ((refine T_takeG (i := 2) (v := ?_) rfl (by kernel_rfl) (by kernel_rfl) hS ?_ ?_; rotate_left; focus (intro w hSw; have hk := HK.out w hSw; clear hSw; go_simp; try (with_reducible rfl))); (try simp only [Act.put, List.setIfInBounds_toArray, List.set_cons_zero, List.set_cons_succ]); (refine T_takeG (i := 3) (v := ?_) rfl (by kernel_rfl) (by kernel_rfl) hS ?_ ?_; rotate_left; focus (intro w hSw; have hk := HK.out w hSw; clear hSw; go_simp; try (with_reducible rfl))); (try simp only [Act.put, List.setIfInBounds_toArray, List.set_cons_zero, List.set_cons_succ]); (refine T_takeG (i := 4) (v := ?_) rfl (by kernel_rfl) (by kernel_rfl) hS ?_ ?_; rotate_left; focus (intro w hSw; have hk := HK.out w hSw; clear hSw; go_simp; try (with_reducible rfl))); (try simp only [Act.put, List.setIfInBounds_toArray, List.set_cons_zero, List.set_cons_succ]); (refine T_takeG (i := 5) (v := ?_) rfl (by kernel_rfl) (by kernel_rfl) hS ?_ ?_; rotate_left; focus (intro w hSw; have hk := HK.out w hSw; clear hSw; go_simp; try (with_reducible rfl))); (try simp only [Act.put, List.setIfInBounds_toArray, List.set_cons_zero, List.set_cons_succ]); (refine T_takeG (i := 6) (v := ?_) rfl (by kernel_rfl) (by kernel_rfl) hS ?_ ?_; rotate_left; focus (intro w hSw; have hk := HK.out w hSw; clear hSw; go_simp; try (with_reducible rfl))); (try simp only [Act.put, List.setIfInBounds_toArray, List.set_cons_zero, List.set_cons_succ]); (refine T_takeG (i := 7) (v := ?_) rfl (by kernel_rfl) (by kernel_rfl) hS ?_ ?_; rotate_left; focus (intro w hSw; have hk := HK.out w hSw; clear hSw; go_simp; try (with_reducible rfl))); (try simp only [Act.put, List.setIfInBounds_toArray, List.set_cons_zero, List.set_cons_succ]); (refine T_takeG (i := 8) (v := ?_) rfl (by kernel_rfl) (by kernel_rfl) hS ?_ ?_; rotate_left; focus (intro w hSw; have hk := HK.out w hSw; clear hSw; go_simp; try (with_reducible rfl))); (try simp only [Act.put, List.setIfInBounds_toArray, List.set_cons_zero, List.set_cons_succ]); (refine T_takeG (i := 9) (v := ?_) rfl (by kernel_rfl) (by kernel_rfl) hS ?_ ?_; rotate_left; focus (intro w hSw; have hk := HK.out w hSw; clear hSw; go_simp; try (with_reducible rfl))); (try simp only [Act.put, List.setIfInBounds_toArray, List.set_cons_zero, List.set_cons_succ]); (refine T_takeG (i := 10) (v := ?_) rfl (by kernel_rfl) (by kernel_rfl) hS ?_ ?_; rotate_left; focus (intro w hSw; have hk := HK.out w hSw; clear hSw; go_simp; try (with_reducible rfl))); (try simp only [Act.put, List.setIfInBounds_toArray, List.set_cons_zero, List.set_cons_succ]); (refine T_takeG (i := 11) (v := ?_) rfl (by kernel_rfl) (by kernel_rfl) hS ?_ ?_; rotate_left; focus (intro w hSw; have hk := HK.out w hSw; clear hSw; go_simp; try (with_reducible rfl))); (try simp only [Act.put, List.setIfInBounds_toArray, List.set_cons_zero, List.set_cons_succ]); (refine T_takeG (i := 12) (v := ?_) rfl (by kernel_rfl) (by kernel_rfl) hS ?_ ?_; rotate_left; focus (intro w hSw; have hk := HK.out w hSw; clear hSw; go_simp; try (with_reducible rfl))); (try simp only [Act.put, List.setIfInBounds_toArray, List.set_cons_zero, List.set_cons_succ]); (refine T_takeG (i := 13) (v := ?_) rfl (by kernel_rfl) (by kernel_rfl) hS ?_ ?_; rotate_left; focus (intro w hSw; have hk := HK.out w hSw; clear hSw; go_simp; try (with_reducible rfl))); (try simp only [Act.put, List.setIfInBounds_toArray, List.set_cons_zero, List.set_cons_succ]); (refine T_takeG (i := 14) (v := ?_) rfl (by kernel_rfl) (by kernel_rfl) hS ?_ ?_; rotate_left; focus (intro w hSw; have hk := HK.out w hSw; clear hSw; go_simp; try (with_reducible rfl))); (try simp only [Act.put, List.setIfInBounds_toArray, List.set_cons_zero, List.set_cons_succ]); (refine T_takeG (i := 15) (v := ?_) rfl (by kernel_rfl) (by kernel_rfl) hS ?_ ?_; rotate_left; focus (intro w hSw; have hk := HK.out w hSw; clear hSw; go_simp; try (with_reducible rfl))); (try simp only [Act.put, List.setIfInBounds_toArray, List.set_cons_zero, List.set_cons_succ]); (refine T_takeG (i := 16) (v := ?_) rfl (by kernel_rfl) (by kernel_rfl) hS ?_ ?_; rotate_left; focus (intro w hSw; have hk := HK.out w hSw; clear hSw; go_simp; try (with_reducible rfl))); (try simp only [Act.put, List.setIfInBounds_toArray, List.set_cons_zero, List.set_cons_succ]); (refine T_takeG (i := 17) (v := ?_) rfl (by kernel_rfl) (by kernel_rfl) hS ?_ ?_; rotate_left; focus (intro w hSw; have hk := HK.out w hSw; clear hSw; go_simp; try (with_reducible rfl))); (try simp only [Act.put, List.setIfInBounds_toArray, List.set_cons_zero, List.set_cons_succ]); (refine T_takeG (i := 18) (v := ?_) rfl (by kernel_rfl) (by kernel_rfl) hS ?_ ?_; rotate_left; focus (intro w hSw; have hk := HK.out w hSw; clear hSw; go_simp; try (with_reducible rfl))); (try simp only [Act.put, List.setIfInBounds_toArray, List.set_cons_zero, List.set_cons_succ]); (refine T_takeG (i := 19) (v := ?_) rfl (by kernel_rfl) (by kernel_rfl) hS ?_ ?_; rotate_left; focus (intro w hSw; have hk := HK.out w hSw; clear hSw; go_simp; try (with_reducible rfl))); (try simp only [Act.put, List.setIfInBounds_toArray, List.set_cons_zero, List.set_cons_succ]); (refine T_takeG (i := 20) (v := ?_) rfl (by kernel_rfl) (by kernel_rfl) hS ?_ ?_; rotate_left; focus (intro w hSw; have hk := HK.out w hSw; clear hSw; go_simp; try (with_reducible rfl))); (try simp only [Act.put, List.setIfInBounds_toArray, List.set_cons_zero, List.set_cons_succ]); (refine T_takeG (i := 21) (v := ?_) rfl (by kernel_rfl) (by kernel_rfl) hS ?_ ?_; rotate_left; focus (intro w hSw; have hk := HK.out w hSw; clear hSw; go_simp; try (with_reducible rfl))); (try simp only [Act.put, List.setIfInBounds_toArray, List.set_cons_zero, List.set_cons_succ]); (refine T_takeG (i := 22) (v := ?_) rfl (by kernel_rfl) (by kernel_rfl) hS ?_ ?_; rotate_left; focus (intro w hSw; have hk := HK.out w hSw; clear hSw; go_simp; try (with_reducible rfl))); (try simp only [Act.put, List.setIfInBounds_toArray, List.set_cons_zero, List.set_cons_succ]); (refine T_takeG (i := 23) (v := ?_) rfl (by kernel_rfl) (by kernel_rfl) hS ?_ ?_; rotate_left; focus (intro w hSw; have hk := HK.out w hSw; clear hSw; go_simp; try (with_reducible rfl))); (try simp only [Act.put, List.setIfInBounds_toArray, List.set_cons_zero, List.set_cons_succ]); (refine T_takeG (i := 24) (v := ?_) rfl (by kernel_rfl) (by kernel_rfl) hS ?_ ?_; rotate_left; focus (intro w hSw; have hk := HK.out w hSw; clear hSw; go_simp; try (with_reducible rfl))); (try simp only [Act.put, List.setIfInBounds_toArray, List.set_cons_zero, List.set_cons_succ]); (refine T_takeG (i := 25) (v := ?_) rfl (by kernel_rfl) (by kernel_rfl) hS ?_ ?_; rotate_left; focus (intro w hSw; have hk := HK.out w hSw; clear hSw; go_simp; try (with_reducible rfl))); (try simp only [Act.put, List.setIfInBounds_toArray, List.set_cons_zero, List.set_cons_succ]))
  clear hS
  refine T_onlyG (i := 26) rfl (by kernel_rfl) (by kernel_rfl) (fun K hK => ?_)
  go_simp
  refine (HSM.out _ _ (by
    have h := (o1b.out.ext (show Ext w1 w3 by repeat (first | (with_reducible exact Ext.refl _) | (with_reducible refine Ext.alloc ?_ _) | (with_reducible apply Ext.setC; focus (simp <;> omega)) | (with_reducible refine Ext.drew ?_) | (with_reducible refine Ext.drewN ?_ _) | (with_reducible refine Ext.trans ?_ (Hid.out ‹Hid (Ext _ _)›))))).take l.taps.length (by rw [HLB.out]; omega)
    rw [HTK.out] at h
    exact h) (by repeat (first | (with_reducible exact Ext.refl _) | (with_reducible refine Ext.alloc ?_ _) | (with_reducible apply Ext.setC; focus (simp <;> omega)) | (with_reducible refine Ext.drew ?_) | (with_reducible refine Ext.drewN ?_ _) | (with_reducible refine Ext.trans ?_ (Hid.out ‹Hid (Ext _ _)›))))).mono ?_
  rintro e w4 ⟨rfl, h4⟩
  have H4 := Lib.hid h4
  clear h4
  (go_wp2_with fail; have hS : Ext W w4 := by (repeat (first | (with_reducible exact Ext.refl _) | (with_reducible refine Ext.alloc ?_ _) | (with_reducible apply Ext.setC; focus (simp <;> omega)) | (with_reducible refine Ext.drew ?_) | (with_reducible refine Ext.drewN ?_ _) | (with_reducible refine Ext.trans ?_ (Hid.out ‹Hid (Ext _ _)›))))); (refine hK.out _ _ (.inr hS) ?_; clear hK; (try simp only [Act.put, List.setIfInBounds_toArray, List.set_cons_zero, List.set_cons_succ]))
  ((refine T_takeG (i := 27) (v := ?_) rfl (by kernel_rfl) (by kernel_rfl) hS ?_ ?_; rotate_left; focus (intro w hSw; have hk := HK.out w hSw; clear hSw; go_simp; try (with_reducible rfl))); (try simp only [Act.put, List.setIfInBounds_toArray, List.set_cons_zero, List.set_cons_succ]); (refine T_takeG (i := 28) (v := ?_) rfl (by kernel_rfl) (by kernel_rfl) hS ?_ ?_; rotate_left; focus (intro w hSw; have hk := HK.out w hSw; clear hSw; go_simp; try (with_reducible rfl))); (try simp only [Act.put, List.setIfInBounds_toArray, List.set_cons_zero, List.set_cons_succ]); (refine T_takeG (i := 29) (v := ?_) rfl (by kernel_rfl) (by kernel_rfl) hS ?_ ?_; rotate_left; focus (intro w hSw; have hk := HK.out w hSw; clear hSw; go_simp; try (with_reducible rfl))); (try simp only [Act.put, List.setIfInBounds_toArray, List.set_cons_zero, List.set_cons_succ]); (refine T_takeG (i := 30) (v := ?_) rfl (by kernel_rfl) (by kernel_rfl) hS ?_ ?_; rotate_left; focus (intro w hSw; have hk := HK.out w hSw; clear hSw; go_simp; try (with_reducible rfl))); (try simp only [Act.put, List.setIfInBounds_toArray, List.set_cons_zero, List.set_cons_succ]); (refine T_takeG (i := 31) (v := ?_) rfl (by kernel_rfl) (by kernel_rfl) hS ?_ ?_; rotate_left; focus (intro w hSw; have hk := HK.out w hSw; clear hSw; go_simp; try (with_reducible rfl))); (try simp only [Act.put, List.setIfInBounds_toArray, List.set_cons_zero, List.set_cons_succ]); (refine T_takeG (i := 32) (v := ?_) rfl (by kernel_rfl) (by kernel_rfl) hS ?_ ?_; rotate_left; focus (intro w hSw; have hk := HK.out w hSw; clear hSw; go_simp; try (with_reducible rfl))); (try simp only [Act.put, List.setIfInBounds_toArray, List.set_cons_zero, List.set_cons_succ]); (refine T_takeG (i := 33) (v := ?_) rfl (by kernel_rfl) (by kernel_rfl) hS ?_ ?_; rotate_left; focus (intro w hSw; have hk := HK.out w hSw; clear hSw; go_simp; try (with_reducible rfl))); (try simp only [Act.put, List.setIfInBounds_toArray, List.set_cons_zero, List.set_cons_succ]); (refine T_takeG (i := 34) (v := ?_) rfl (by kernel_rfl) (by kernel_rfl) hS ?_ ?_; rotate_left; focus (intro w hSw; have hk := HK.out w hSw; clear hSw; go_simp; try (with_reducible rfl))); (try simp only [Act.put, List.setIfInBounds_toArray, List.set_cons_zero, List.set_cons_succ]); (refine T_takeG (i := 35) (v := ?_) rfl (by kernel_rfl) (by kernel_rfl) hS ?_ ?_; rotate_left; focus (intro w hSw; have hk := HK.out w hSw; clear hSw; go_simp; try (with_reducible rfl))); (try simp only [Act.put, List.setIfInBounds_toArray, List.set_cons_zero, List.set_cons_succ]); (refine T_takeG (i := 36) (v := ?_) rfl (by kernel_rfl) (by kernel_rfl) hS ?_ ?_; rotate_left; focus (intro w hSw; have hk := HK.out w hSw; clear hSw; go_simp; try (with_reducible rfl))); (try simp only [Act.put, List.setIfInBounds_toArray, List.set_cons_zero, List.set_cons_succ]); (refine T_takeG (i := 37) (v := ?_) rfl (by kernel_rfl) (by kernel_rfl) hS ?_ ?_; rotate_left; focus (intro w hSw; have hk := HK.out w hSw; clear hSw; go_simp; try (with_reducible rfl))); (try simp only [Act.put, List.setIfInBounds_toArray, List.set_cons_zero, List.set_cons_succ]); (refine T_takeG (i := 38) (v := ?_) rfl (by kernel_rfl) (by kernel_rfl) hS ?_ ?_; rotate_left; focus (intro w hSw; have hk := HK.out w hSw; clear hSw; go_simp; try (with_reducible rfl))); (try simp only [Act.put, List.setIfInBounds_toArray, List.set_cons_zero, List.set_cons_succ]); (refine T_takeG (i := 39) (v := ?_) rfl (by kernel_rfl) (by kernel_rfl) hS ?_ ?_; rotate_left; focus (intro w hSw; have hk := HK.out w hSw; clear hSw; go_simp; try (with_reducible rfl))); (try simp only [Act.put, List.setIfInBounds_toArray, List.set_cons_zero, List.set_cons_succ]); (refine T_takeG (i := 40) (v := ?_) rfl (by kernel_rfl) (by kernel_rfl) hS ?_ ?_; rotate_left; focus (intro w hSw; have hk := HK.out w hSw; clear hSw; go_simp; try (with_reducible rfl))); (try simp only [Act.put, List.setIfInBounds_toArray, List.set_cons_zero, List.set_cons_succ]); (refine T_takeG (i := 41) (v := ?_) rfl (by kernel_rfl) (by kernel_rfl) hS ?_ ?_; rotate_left; focus (intro w hSw; have hk := HK.out w hSw; clear hSw; go_simp; try (with_reducible rfl))); (try simp only [Act.put, List.setIfInBounds_toArray, List.set_cons_zero, List.set_cons_succ]); (refine T_takeG (i := 42) (v := ?_) rfl (by kernel_rfl) (by kernel_rfl) hS ?_ ?_; rotate_left; focus (intro w hSw; have hk := HK.out w hSw; clear hSw; go_simp; try (with_reducible rfl))); (try simp only [Act.put, List.setIfInBounds_toArray, List.set_cons_zero, List.set_cons_succ]); (refine T_takeG (i := 43) (v := ?_) rfl (by kernel_rfl) (by kernel_rfl) hS ?_ ?_; rotate_left; focus (intro w hSw; have hk := HK.out w hSw; clear hSw; go_simp; try (with_reducible rfl))); (try simp only [Act.put, List.setIfInBounds_toArray, List.set_cons_zero, List.set_cons_succ]); (refine T_takeG (i := 44) (v := ?_) rfl (by kernel_rfl) (by kernel_rfl) hS ?_ ?_; rotate_left; focus (intro w hSw; have hk := HK.out w hSw; clear hSw; go_simp; try (with_reducible rfl))); (try simp only [Act.put, List.setIfInBounds_toArray, List.set_cons_zero, List.set_cons_succ]); (refine T_takeG (i := 45) (v := ?_) rfl (by kernel_rfl) (by kernel_rfl) hS ?_ ?_; rotate_left; focus (intro w hSw; have hk := HK.out w hSw; clear hSw; go_simp; try (with_reducible rfl))); (try simp only [Act.put, List.setIfInBounds_toArray, List.set_cons_zero, List.set_cons_succ]))
  clear hS
  refine T_onlyG (i := 46) rfl (by kernel_rfl) (by kernel_rfl) (fun K hK => ?_)
  go_simp
  refine hK.out _ _ (.inl (by kernel_rfl)) ?_
  clear hK
  (try simp only [Act.put, List.setIfInBounds_toArray, List.set_cons_zero, List.set_cons_succ])
  refine T_done (by kernel_rfl) ?_ _
  clear HK g0 g1 g2 g3 g4 v0 htb hvb
  (apply Row.use (w := w4) (g := w.heap.size); (focus (repeat (first | (with_reducible exact Hid.out ‹Hid (Row _ _ _)›) | (with_reducible exact Row.newAt rfl) | (with_reducible apply Row.newAt; (simp; done)) | (with_reducible apply Row.set_) | (with_reducible apply Row.far; focus (simp <;> omega)) | (with_reducible apply Row.alloc) | (with_reducible apply Row.drew) | (with_reducible apply Row.drewN) | (with_reducible apply Row.ext (Hid.out ‹Hid (Ext _ _)›))))); intro qd_0 fd_0 ld_0 Rd_0; (try simp only [List.setIfInBounds_toArray, List.set_cons_zero, List.set_cons_succ] at qd_0 Rd_0); apply Row.use (w := w4) (g := w.heap.size + 1); (focus (repeat (first | (with_reducible exact Hid.out ‹Hid (Row _ _ _)›) | (with_reducible exact Row.newAt rfl) | (with_reducible apply Row.newAt; (simp; done)) | (with_reducible apply Row.set_) | (with_reducible apply Row.far; focus (simp <;> omega)) | (with_reducible apply Row.alloc) | (with_reducible apply Row.drew) | (with_reducible apply Row.drewN) | (with_reducible apply Row.ext (Hid.out ‹Hid (Ext _ _)›))))); intro qd_1 fd_1 ld_1 Rd_1; (try simp only [List.setIfInBounds_toArray, List.set_cons_zero, List.set_cons_succ] at qd_1 Rd_1); apply Row.use (w := w4) (g := w1.heap.size); (focus (repeat (first | (with_reducible exact Hid.out ‹Hid (Row _ _ _)›) | (with_reducible exact Row.newAt rfl) | (with_reducible apply Row.newAt; (simp; done)) | (with_reducible apply Row.set_) | (with_reducible apply Row.far; focus (simp <;> omega)) | (with_reducible apply Row.alloc) | (with_reducible apply Row.drew) | (with_reducible apply Row.drewN) | (with_reducible apply Row.ext (Hid.out ‹Hid (Ext _ _)›))))); intro qd_2 fd_2 ld_2 Rd_2; (try simp only [List.setIfInBounds_toArray, List.set_cons_zero, List.set_cons_succ] at qd_2 Rd_2))
  go_wp2_with fail
  go_loopg [9, 10, 11, 12, 13, 14] l.tickets.length (fun gg s9 _ _ _ _ _ wr => ∃ k : Nat, k ≤ l.tickets.length ∧ l.tickets.length - k ≤ gg ∧ s9 = .int .i64 k ∧ Aside (Ext w4 wr))
  case atStart => exact ⟨0, by omega, by omega, rfl, Ext.refl _⟩
  case round =>
    obtain ⟨k, hk, hg, rfl, HEW⟩ := hrel
    have H5 := Lib.hid HEW.out
    clear HEW
    clear qd_0 fd_0 qd_1 fd_1 qd_2 fd_2
    (apply Row.use (w := wr) (g := w.heap.size); (focus (repeat (first | (with_reducible exact Hid.out ‹Hid (Row _ _ _)›) | (with_reducible exact Row.newAt rfl) | (with_reducible apply Row.newAt; (simp; done)) | (with_reducible apply Row.set_) | (with_reducible apply Row.far; focus (simp <;> omega)) | (with_reducible apply Row.alloc) | (with_reducible apply Row.drew) | (with_reducible apply Row.drewN) | (with_reducible apply Row.ext (Hid.out ‹Hid (Ext _ _)›))))); intro qr_0 fr_0 lr_0 Rr_0; (try simp only [List.setIfInBounds_toArray, List.set_cons_zero, List.set_cons_succ] at qr_0 Rr_0); apply Row.use (w := wr) (g := w.heap.size + 1); (focus (repeat (first | (with_reducible exact Hid.out ‹Hid (Row _ _ _)›) | (with_reducible exact Row.newAt rfl) | (with_reducible apply Row.newAt; (simp; done)) | (with_reducible apply Row.set_) | (with_reducible apply Row.far; focus (simp <;> omega)) | (with_reducible apply Row.alloc) | (with_reducible apply Row.drew) | (with_reducible apply Row.drewN) | (with_reducible apply Row.ext (Hid.out ‹Hid (Ext _ _)›))))); intro qr_1 fr_1 lr_1 Rr_1; (try simp only [List.setIfInBounds_toArray, List.set_cons_zero, List.set_cons_succ] at qr_1 Rr_1); apply Row.use (w := wr) (g := w1.heap.size); (focus (repeat (first | (with_reducible exact Hid.out ‹Hid (Row _ _ _)›) | (with_reducible exact Row.newAt rfl) | (with_reducible apply Row.newAt; (simp; done)) | (with_reducible apply Row.set_) | (with_reducible apply Row.far; focus (simp <;> omega)) | (with_reducible apply Row.alloc) | (with_reducible apply Row.drew) | (with_reducible apply Row.drewN) | (with_reducible apply Row.ext (Hid.out ‹Hid (Ext _ _)›))))); intro qr_2 fr_2 lr_2 Rr_2; (try simp only [List.setIfInBounds_toArray, List.set_cons_zero, List.set_cons_succ] at qr_2 Rr_2))
    by_cases hlt : k < l.tickets.length
    · have hlt' : (k : Int) < (l.tickets.length : Int) := by omega
      obtain ⟨xb, xo, rfl, hxb, x0, x1, -, -, -, x5⟩ := (HTR.out.ext (show Ext w wr by repeat (first | (with_reducible exact Ext.refl _) | (with_reducible refine Ext.alloc ?_ _) | (with_reducible apply Ext.setC; focus (simp <;> omega)) | (with_reducible refine Ext.drew ?_) | (with_reducible refine Ext.drewN ?_ _) | (with_reducible refine Ext.trans ?_ (Hid.out ‹Hid (Ext _ _)›))))).tk_at rfl hlt
      have HL3 := Lib.hid (fun (w' : World) (h : Ext w w') => HRL2.out k hlt w' h)
      have HA3 := Lib.hid (fun (t0 t1 t2 : Value) (w' : World) => HRA2.out k hlt t0 t1 t2 w')
      have hsn := HSN.out k hlt
      obtain ⟨m0, m1, m2, m3⟩ := HMO.out k hlt
      obtain ⟨n0, n1, -, -⟩ := HML.out k hlt
      generalize l.tickets[k] = T at *
      obtain ⟨id, kd, tf, tt, tz, tr⟩ := T
      simp only at x0 x1 x5 HL3 HA3 hsn m0 m1 m2 m3 n0 n1
      generalize rid a id = ra at *
      generalize rid l id = rl at *
      have HSN3 := Lib.hid hsn
      have HM2 := Lib.hid m2
      have HM3 := Lib.hid m3
      have HB0 := Lib.hid (And.intro (And.intro m0 m1) (And.intro n0 n1))
      clear hsn m0 m1 m2 m3 n0 n1
      have HK := Lib.hid (fun (w' : World) (h : Ext wr w') => And.intro (Row.ext h Rr_0.out).2.1 (And.intro (Row.ext h Rr_1.out).2.1 (And.intro (Row.ext h Rr_2.out).2.1 (And.intro ((h.cells _ _ hxb).trans x0) (And.intro ((h.cells _ _ hxb).trans x1) (((h.cells _ _ hxb).trans x5)))))))
      go_upto_region 12 with fail
      (refine T_begin (fun w' => Ext wr w') 12 (by kernel_rfl) ((Ext.refl _).drew) (fun hS => ?_); simp only [List.length_cons, List.length_nil])
      ((refine T_take (i := 0) (v := ?_) rfl (by kernel_rfl) rfl hS ?_ ?_; rotate_left; focus (intro w hSw; have hk := HK.out w hSw; clear hSw; go_simp; try (with_reducible rfl))); (try simp only [Act.put, List.setIfInBounds_toArray, List.set_cons_zero, List.set_cons_succ]); (refine T_take (i := 1) (v := ?_) rfl (by kernel_rfl) rfl hS ?_ ?_; rotate_left; focus (intro w hSw; have hk := HK.out w hSw; clear hSw; go_simp; try (with_reducible rfl))); (try simp only [Act.put, List.setIfInBounds_toArray, List.set_cons_zero, List.set_cons_succ]); (refine T_take (i := 2) (v := ?_) rfl (by kernel_rfl) rfl hS ?_ ?_; rotate_left; focus (intro w hSw; have hk := HK.out w hSw; clear hSw; go_simp; try (with_reducible rfl))); (try simp only [Act.put, List.setIfInBounds_toArray, List.set_cons_zero, List.set_cons_succ]); (refine T_take (i := 3) (v := ?_) rfl (by kernel_rfl) rfl hS ?_ ?_; rotate_left; focus (intro w hSw; have hk := HK.out w hSw; clear hSw; go_simp; try (with_reducible rfl))); (try simp only [Act.put, List.setIfInBounds_toArray, List.set_cons_zero, List.set_cons_succ]); (refine T_take (i := 4) (v := ?_) rfl (by kernel_rfl) rfl hS ?_ ?_; rotate_left; focus (intro w hSw; have hk := HK.out w hSw; clear hSw; go_simp; try (with_reducible rfl))); (try simp only [Act.put, List.setIfInBounds_toArray, List.set_cons_zero, List.set_cons_succ]); (refine T_take (i := 5) (v := ?_) rfl (by kernel_rfl) rfl hS ?_ ?_; rotate_left; focus (intro w hSw; have hk := HK.out w hSw; clear hSw; go_simp; try (with_reducible rfl))); (try simp only [Act.put, List.setIfInBounds_toArray, List.set_cons_zero, List.set_cons_succ]); (refine T_take (i := 6) (v := ?_) rfl (by kernel_rfl) rfl hS ?_ ?_; rotate_left; focus (intro w hSw; have hk := HK.out w hSw; clear hSw; go_simp; try (with_reducible rfl))); (try simp only [Act.put, List.setIfInBounds_toArray, List.set_cons_zero, List.set_cons_succ]))
      (refine T_only (i := 7) rfl (by kernel_rfl) rfl (fun K hK => ?_); go_simp)
      refine (HL3.out _ (by repeat (first | (with_reducible exact Ext.refl _) | (with_reducible refine Ext.alloc ?_ _) | (with_reducible apply Ext.setC; focus (simp <;> omega)) | (with_reducible refine Ext.drew ?_) | (with_reducible refine Ext.drewN ?_ _) | (with_reducible refine Ext.trans ?_ (Hid.out ‹Hid (Ext _ _)›))))).mono ?_
      rintro e w5 ⟨rfl, h5⟩
      have H6 := Lib.hid h5
      clear h5 hS
      (go_wp2_with fail; have hS : Ext wr w5 := by (repeat (first | (with_reducible exact Ext.refl _) | (with_reducible refine Ext.alloc ?_ _) | (with_reducible apply Ext.setC; focus (simp <;> omega)) | (with_reducible refine Ext.drew ?_) | (with_reducible refine Ext.drewN ?_ _) | (with_reducible refine Ext.trans ?_ (Hid.out ‹Hid (Ext _ _)›))))); (refine hK.out _ _ (.inr hS) ?_; clear hK; (try simp only [Act.put, List.setIfInBounds_toArray, List.set_cons_zero, List.set_cons_succ]))
      ((refine T_only (i := 8) rfl (by kernel_rfl) rfl (fun K hK => ?_); go_simp; refine hK.out _ _ (.inr hS) ?_; clear hK; (try simp only [Act.put, List.setIfInBounds_toArray, List.set_cons_zero, List.set_cons_succ])))
      ((refine T_take (i := 9) (v := ?_) rfl (by kernel_rfl) rfl hS ?_ ?_; rotate_left; focus (intro w hSw; have hk := HK.out w hSw; clear hSw; go_simp; try (with_reducible rfl))); (try simp only [Act.put, List.setIfInBounds_toArray, List.set_cons_zero, List.set_cons_succ]); (refine T_take (i := 10) (v := ?_) rfl (by kernel_rfl) rfl hS ?_ ?_; rotate_left; focus (intro w hSw; have hk := HK.out w hSw; clear hSw; go_simp; try (with_reducible rfl))); (try simp only [Act.put, List.setIfInBounds_toArray, List.set_cons_zero, List.set_cons_succ]); (refine T_take (i := 11) (v := ?_) rfl (by kernel_rfl) rfl hS ?_ ?_; rotate_left; focus (intro w hSw; have hk := HK.out w hSw; clear hSw; go_simp; try (with_reducible rfl))); (try simp only [Act.put, List.setIfInBounds_toArray, List.set_cons_zero, List.set_cons_succ]))
      (refine T_only (i := 12) rfl (by kernel_rfl) rfl (fun K hK => ?_); go_simp; refine hK.out _ _ (.inl (by kernel_rfl)) ?_; clear hK; (try simp only [Act.put, List.setIfInBounds_toArray, List.set_cons_zero, List.set_cons_succ]); refine T_done (by kernel_rfl) ?_ _)
      go_upto_region 13 with fail
      (refine T_begin (fun w' => Ext wr w') 12 (by kernel_rfl) (Ext.drew hS) (fun hS => ?_); simp only [List.length_cons, List.length_nil])
      ((refine T_take (i := 0) (v := ?_) rfl (by kernel_rfl) rfl hS ?_ ?_; rotate_left; focus (intro w hSw; have hk := HK.out w hSw; clear hSw; go_simp; try (with_reducible rfl))); (try simp only [Act.put, List.setIfInBounds_toArray, List.set_cons_zero, List.set_cons_succ]); (refine T_take (i := 1) (v := ?_) rfl (by kernel_rfl) rfl hS ?_ ?_; rotate_left; focus (intro w hSw; have hk := HK.out w hSw; clear hSw; go_simp; try (with_reducible rfl))); (try simp only [Act.put, List.setIfInBounds_toArray, List.set_cons_zero, List.set_cons_succ]); (refine T_take (i := 2) (v := ?_) rfl (by kernel_rfl) rfl hS ?_ ?_; rotate_left; focus (intro w hSw; have hk := HK.out w hSw; clear hSw; go_simp; try (with_reducible rfl))); (try simp only [Act.put, List.setIfInBounds_toArray, List.set_cons_zero, List.set_cons_succ]); (refine T_take (i := 3) (v := ?_) rfl (by kernel_rfl) rfl hS ?_ ?_; rotate_left; focus (intro w hSw; have hk := HK.out w hSw; clear hSw; go_simp; try (with_reducible rfl))); (try simp only [Act.put, List.setIfInBounds_toArray, List.set_cons_zero, List.set_cons_succ]); (refine T_take (i := 4) (v := ?_) rfl (by kernel_rfl) rfl hS ?_ ?_; rotate_left; focus (intro w hSw; have hk := HK.out w hSw; clear hSw; go_simp; try (with_reducible rfl))); (try simp only [Act.put, List.setIfInBounds_toArray, List.set_cons_zero, List.set_cons_succ]); (refine T_take (i := 5) (v := ?_) rfl (by kernel_rfl) rfl hS ?_ ?_; rotate_left; focus (intro w hSw; have hk := HK.out w hSw; clear hSw; go_simp; try (with_reducible rfl))); (try simp only [Act.put, List.setIfInBounds_toArray, List.set_cons_zero, List.set_cons_succ]); (refine T_take (i := 6) (v := ?_) rfl (by kernel_rfl) rfl hS ?_ ?_; rotate_left; focus (intro w hSw; have hk := HK.out w hSw; clear hSw; go_simp; try (with_reducible rfl))); (try simp only [Act.put, List.setIfInBounds_toArray, List.set_cons_zero, List.set_cons_succ]))
      (refine T_only (i := 7) rfl (by kernel_rfl) rfl (fun K hK => ?_); go_simp)
      refine (HA3.out _ _ _ _ (o1a.out.ext (by repeat (first | (with_reducible exact Ext.refl _) | (with_reducible refine Ext.alloc ?_ _) | (with_reducible apply Ext.setC; focus (simp <;> omega)) | (with_reducible refine Ext.drew ?_) | (with_reducible refine Ext.drewN ?_ _) | (with_reducible refine Ext.trans ?_ (Hid.out ‹Hid (Ext _ _)›))))) (o1b.out.ext (by repeat (first | (with_reducible exact Ext.refl _) | (with_reducible refine Ext.alloc ?_ _) | (with_reducible apply Ext.setC; focus (simp <;> omega)) | (with_reducible refine Ext.drew ?_) | (with_reducible refine Ext.drewN ?_ _) | (with_reducible refine Ext.trans ?_ (Hid.out ‹Hid (Ext _ _)›))))) (o1c.out.ext (by repeat (first | (with_reducible exact Ext.refl _) | (with_reducible refine Ext.alloc ?_ _) | (with_reducible apply Ext.setC; focus (simp <;> omega)) | (with_reducible refine Ext.drew ?_) | (with_reducible refine Ext.drewN ?_ _) | (with_reducible refine Ext.trans ?_ (Hid.out ‹Hid (Ext _ _)›)))))).mono ?_
      rintro e w6 ⟨rfl, h6⟩
      have H7 := Lib.hid h6
      clear h6 hS
      (go_wp2_with fail; have hS : Ext wr w6 := by (repeat (first | (with_reducible exact Ext.refl _) | (with_reducible refine Ext.alloc ?_ _) | (with_reducible apply Ext.setC; focus (simp <;> omega)) | (with_reducible refine Ext.drew ?_) | (with_reducible refine Ext.drewN ?_ _) | (with_reducible refine Ext.trans ?_ (Hid.out ‹Hid (Ext _ _)›))))); (refine hK.out _ _ (.inr hS) ?_; clear hK; (try simp only [Act.put, List.setIfInBounds_toArray, List.set_cons_zero, List.set_cons_succ]))
      ((refine T_only (i := 8) rfl (by kernel_rfl) rfl (fun K hK => ?_); go_simp; refine hK.out _ _ (.inr hS) ?_; clear hK; (try simp only [Act.put, List.setIfInBounds_toArray, List.set_cons_zero, List.set_cons_succ])))
      ((refine T_take (i := 9) (v := ?_) rfl (by kernel_rfl) rfl hS ?_ ?_; rotate_left; focus (intro w hSw; have hk := HK.out w hSw; clear hSw; go_simp; try (with_reducible rfl))); (try simp only [Act.put, List.setIfInBounds_toArray, List.set_cons_zero, List.set_cons_succ]); (refine T_take (i := 10) (v := ?_) rfl (by kernel_rfl) rfl hS ?_ ?_; rotate_left; focus (intro w hSw; have hk := HK.out w hSw; clear hSw; go_simp; try (with_reducible rfl))); (try simp only [Act.put, List.setIfInBounds_toArray, List.set_cons_zero, List.set_cons_succ]); (refine T_take (i := 11) (v := ?_) rfl (by kernel_rfl) rfl hS ?_ ?_; rotate_left; focus (intro w hSw; have hk := HK.out w hSw; clear hSw; go_simp; try (with_reducible rfl))); (try simp only [Act.put, List.setIfInBounds_toArray, List.set_cons_zero, List.set_cons_succ]))
      (refine T_only (i := 12) rfl (by kernel_rfl) rfl (fun K hK => ?_); go_simp; refine hK.out _ _ (.inl (by kernel_rfl)) ?_; clear hK; (try simp only [Act.put, List.setIfInBounds_toArray, List.set_cons_zero, List.set_cons_succ]); refine T_done (by kernel_rfl) ?_ _)
      obtain ⟨k0, k1, k2, k3, k4, k5⟩ := HK.out w6 hS
      have hl6 : w.heap.size + 1 < w6.heap.size := by have := hS.size; omega
      clear hS x0 x1 x5
      have hwr : IntKind.i64.wrap (k + 1 : Int) = ((k + 1 : Nat) : Int) := by rw [IntWalk.i64_in _ (by omega)]; omega
      obtain ⟨mo, hmo, hra, hmw⟩ : ∃ mo : Int, mo = (if p0 = id ∧ v = 1 then 1 else 0) ∧ ra = rl + mo ∧ IntKind.i64.wrap (rl + mo) = ra := by
        refine ⟨_, rfl, HSN3.out, ?_⟩
        have h1 := HSN3.out
        have h2 := HB0.out
        rw [IntWalk.i64_in _ (by split at h1 <;> split <;> omega), h1]
      have HMO3 := Lib.hid hmo
      clear hmo hra
      have fin : ∀ z : Bool, (z = true → kd = 1 ∧ 1 < ra ∨ kd = 3 ∧ tr < ra) → z = false := by
        intro z hz
        cases z with
        | false => rfl
        | true =>
          rcases hz rfl with ⟨h1, h2⟩ | ⟨h1, h2⟩
          · have := HM2.out h1; omega
          · have := HM3.out h1; omega
      clear fin
      by_cases hk1 : kd = 1
      · have hgt : ¬ 1 < ra := by have := HM2.out hk1; omega
        subst hk1
        by_cases hv : v = 1
        · have hvb : (v == 1) = true := by simpa using hv
          by_cases hid : id = p0
          · have hidb : (id == p0) = true := by simpa using hid
            have hmo := HMO3.out
            rw [if_pos ⟨hid.symm, hv⟩] at hmo
            subst hmo
            clear hv hid
            go_wp2_with fail
            (try (go_quiet (fail); go_wp2_with fail))
            (try (go_quiet (fail); go_wp2_with fail))
            go_roundg (l.tickets.length - (k + 1))
            case measure => omega
            case rel => exact ⟨k + 1, by omega, by omega, by go_num, (show Ext w4 _ by repeat (first | (with_reducible exact Ext.refl _) | (with_reducible refine Ext.alloc ?_ _) | (with_reducible apply Ext.setC; focus (simp <;> omega)) | (with_reducible refine Ext.drew ?_) | (with_reducible refine Ext.drewN ?_ _) | (with_reducible refine Ext.trans ?_ (Hid.out ‹Hid (Ext _ _)›))))⟩
          · have hidb : (id == p0) = false := by simpa using hid
            have hmo := HMO3.out
            rw [if_neg (fun h => hid h.1.symm)] at hmo
            subst hmo
            rw [Int.add_zero] at hmw
            clear hv hid
            go_wp2_with fail
            (try (go_quiet (fail); go_wp2_with fail))
            (try (go_quiet (fail); go_wp2_with fail))
            go_roundg (l.tickets.length - (k + 1))
            case measure => omega
            case rel => exact ⟨k + 1, by omega, by omega, by go_num, (show Ext w4 _ by repeat (first | (with_reducible exact Ext.refl _) | (with_reducible refine Ext.alloc ?_ _) | (with_reducible apply Ext.setC; focus (simp <;> omega)) | (with_reducible refine Ext.drew ?_) | (with_reducible refine Ext.drewN ?_ _) | (with_reducible refine Ext.trans ?_ (Hid.out ‹Hid (Ext _ _)›))))⟩
        · have hvb : (v == 1) = false := by simpa using hv
          have hmo := HMO3.out
          rw [if_neg (fun h => hv h.2)] at hmo
          subst hmo
          rw [Int.add_zero] at hmw
          clear hv
          by_cases hid : id = p0
          · have hidb : (id == p0) = true := by simpa using hid
            clear hid
            go_wp2_with fail
            (try (go_quiet (fail); go_wp2_with fail))
            (try (go_quiet (fail); go_wp2_with fail))
            go_roundg (l.tickets.length - (k + 1))
            case measure => omega
            case rel => exact ⟨k + 1, by omega, by omega, by go_num, (show Ext w4 _ by repeat (first | (with_reducible exact Ext.refl _) | (with_reducible refine Ext.alloc ?_ _) | (with_reducible apply Ext.setC; focus (simp <;> omega)) | (with_reducible refine Ext.drew ?_) | (with_reducible refine Ext.drewN ?_ _) | (with_reducible refine Ext.trans ?_ (Hid.out ‹Hid (Ext _ _)›))))⟩
          · have hidb : (id == p0) = false := by simpa using hid
            clear hid
            go_wp2_with fail
            (try (go_quiet (fail); go_wp2_with fail))
            (try (go_quiet (fail); go_wp2_with fail))
            go_roundg (l.tickets.length - (k + 1))
            case measure => omega
            case rel => exact ⟨k + 1, by omega, by omega, by go_num, (show Ext w4 _ by repeat (first | (with_reducible exact Ext.refl _) | (with_reducible refine Ext.alloc ?_ _) | (with_reducible apply Ext.setC; focus (simp <;> omega)) | (with_reducible refine Ext.drew ?_) | (with_reducible refine Ext.drewN ?_ _) | (with_reducible refine Ext.trans ?_ (Hid.out ‹Hid (Ext _ _)›))))⟩
      · have hkb : (kd == 1) = false := by simpa using hk1
        by_cases hk3 : kd = 3
        · have hgt : ¬ tr < ra := by have := HM3.out hk3; omega
          subst hk3
          clear hkb hk1
          by_cases hv : v = 1
          · have hvb : (v == 1) = true := by simpa using hv
            by_cases hid : id = p0
            · have hidb : (id == p0) = true := by simpa using hid
              have hmo := HMO3.out
              rw [if_pos ⟨hid.symm, hv⟩] at hmo
              subst hmo
              clear hv hid
              go_wp2_with fail
              (try (go_quiet (fail); go_wp2_with fail))
              (try (go_quiet (fail); go_wp2_with fail))
              go_roundg (l.tickets.length - (k + 1))
              case measure => omega
              case rel => exact ⟨k + 1, by omega, by omega, by go_num, (show Ext w4 _ by repeat (first | (with_reducible exact Ext.refl _) | (with_reducible refine Ext.alloc ?_ _) | (with_reducible apply Ext.setC; focus (simp <;> omega)) | (with_reducible refine Ext.drew ?_) | (with_reducible refine Ext.drewN ?_ _) | (with_reducible refine Ext.trans ?_ (Hid.out ‹Hid (Ext _ _)›))))⟩
            · have hidb : (id == p0) = false := by simpa using hid
              have hmo := HMO3.out
              rw [if_neg (fun h => hid h.1.symm)] at hmo
              subst hmo
              rw [Int.add_zero] at hmw
              clear hv hid
              go_wp2_with fail
              (try (go_quiet (fail); go_wp2_with fail))
              (try (go_quiet (fail); go_wp2_with fail))
              go_roundg (l.tickets.length - (k + 1))
              case measure => omega
              case rel => exact ⟨k + 1, by omega, by omega, by go_num, (show Ext w4 _ by repeat (first | (with_reducible exact Ext.refl _) | (with_reducible refine Ext.alloc ?_ _) | (with_reducible apply Ext.setC; focus (simp <;> omega)) | (with_reducible refine Ext.drew ?_) | (with_reducible refine Ext.drewN ?_ _) | (with_reducible refine Ext.trans ?_ (Hid.out ‹Hid (Ext _ _)›))))⟩
          · have hvb : (v == 1) = false := by simpa using hv
            have hmo := HMO3.out
            rw [if_neg (fun h => hv h.2)] at hmo
            subst hmo
            rw [Int.add_zero] at hmw
            clear hv
            by_cases hid : id = p0
            · have hidb : (id == p0) = true := by simpa using hid
              clear hid
              go_wp2_with fail
              (try (go_quiet (fail); go_wp2_with fail))
              (try (go_quiet (fail); go_wp2_with fail))
              go_roundg (l.tickets.length - (k + 1))
              case measure => omega
              case rel => exact ⟨k + 1, by omega, by omega, by go_num, (show Ext w4 _ by repeat (first | (with_reducible exact Ext.refl _) | (with_reducible refine Ext.alloc ?_ _) | (with_reducible apply Ext.setC; focus (simp <;> omega)) | (with_reducible refine Ext.drew ?_) | (with_reducible refine Ext.drewN ?_ _) | (with_reducible refine Ext.trans ?_ (Hid.out ‹Hid (Ext _ _)›))))⟩
            · have hidb : (id == p0) = false := by simpa using hid
              clear hid
              go_wp2_with fail
              (try (go_quiet (fail); go_wp2_with fail))
              (try (go_quiet (fail); go_wp2_with fail))
              go_roundg (l.tickets.length - (k + 1))
              case measure => omega
              case rel => exact ⟨k + 1, by omega, by omega, by go_num, (show Ext w4 _ by repeat (first | (with_reducible exact Ext.refl _) | (with_reducible refine Ext.alloc ?_ _) | (with_reducible apply Ext.setC; focus (simp <;> omega)) | (with_reducible refine Ext.drew ?_) | (with_reducible refine Ext.drewN ?_ _) | (with_reducible refine Ext.trans ?_ (Hid.out ‹Hid (Ext _ _)›))))⟩
        · have hkc : (kd == 3) = false := by simpa using hk3
          clear hk1 hk3
          by_cases hv : v = 1
          · have hvb : (v == 1) = true := by simpa using hv
            by_cases hid : id = p0
            · have hidb : (id == p0) = true := by simpa using hid
              have hmo := HMO3.out
              rw [if_pos ⟨hid.symm, hv⟩] at hmo
              subst hmo
              clear hv hid
              go_wp2_with fail
              (try (go_quiet (fail); go_wp2_with fail))
              (try (go_quiet (fail); go_wp2_with fail))
              go_roundg (l.tickets.length - (k + 1))
              case measure => omega
              case rel => exact ⟨k + 1, by omega, by omega, by go_num, (show Ext w4 _ by repeat (first | (with_reducible exact Ext.refl _) | (with_reducible refine Ext.alloc ?_ _) | (with_reducible apply Ext.setC; focus (simp <;> omega)) | (with_reducible refine Ext.drew ?_) | (with_reducible refine Ext.drewN ?_ _) | (with_reducible refine Ext.trans ?_ (Hid.out ‹Hid (Ext _ _)›))))⟩
            · have hidb : (id == p0) = false := by simpa using hid
              have hmo := HMO3.out
              rw [if_neg (fun h => hid h.1.symm)] at hmo
              subst hmo
              rw [Int.add_zero] at hmw
              clear hv hid
              go_wp2_with fail
              (try (go_quiet (fail); go_wp2_with fail))
              (try (go_quiet (fail); go_wp2_with fail))
              go_roundg (l.tickets.length - (k + 1))
              case measure => omega
              case rel => exact ⟨k + 1, by omega, by omega, by go_num, (show Ext w4 _ by repeat (first | (with_reducible exact Ext.refl _) | (with_reducible refine Ext.alloc ?_ _) | (with_reducible apply Ext.setC; focus (simp <;> omega)) | (with_reducible refine Ext.drew ?_) | (with_reducible refine Ext.drewN ?_ _) | (with_reducible refine Ext.trans ?_ (Hid.out ‹Hid (Ext _ _)›))))⟩
          · have hvb : (v == 1) = false := by simpa using hv
            have hmo := HMO3.out
            rw [if_neg (fun h => hv h.2)] at hmo
            subst hmo
            rw [Int.add_zero] at hmw
            clear hv
            by_cases hid : id = p0
            · have hidb : (id == p0) = true := by simpa using hid
              clear hid
              go_wp2_with fail
              (try (go_quiet (fail); go_wp2_with fail))
              (try (go_quiet (fail); go_wp2_with fail))
              go_roundg (l.tickets.length - (k + 1))
              case measure => omega
              case rel => exact ⟨k + 1, by omega, by omega, by go_num, (show Ext w4 _ by repeat (first | (with_reducible exact Ext.refl _) | (with_reducible refine Ext.alloc ?_ _) | (with_reducible apply Ext.setC; focus (simp <;> omega)) | (with_reducible refine Ext.drew ?_) | (with_reducible refine Ext.drewN ?_ _) | (with_reducible refine Ext.trans ?_ (Hid.out ‹Hid (Ext _ _)›))))⟩
            · have hidb : (id == p0) = false := by simpa using hid
              clear hid
              go_wp2_with fail
              (try (go_quiet (fail); go_wp2_with fail))
              (try (go_quiet (fail); go_wp2_with fail))
              go_roundg (l.tickets.length - (k + 1))
              case measure => omega
              case rel => exact ⟨k + 1, by omega, by omega, by go_num, (show Ext w4 _ by repeat (first | (with_reducible exact Ext.refl _) | (with_reducible refine Ext.alloc ?_ _) | (with_reducible apply Ext.setC; focus (simp <;> omega)) | (with_reducible refine Ext.drew ?_) | (with_reducible refine Ext.drewN ?_ _) | (with_reducible refine Ext.trans ?_ (Hid.out ‹Hid (Ext _ _)›))))⟩
    · have hge : ¬ (k : Int) < (l.tickets.length : Int) := by omega
      go_wp2_with fail
      go_ret
      exact ⟨rfl, (show Ext w _ by repeat (first | (with_reducible exact Ext.refl _) | (with_reducible refine Ext.alloc ?_ _) | (with_reducible apply Ext.setC; focus (simp <;> omega)) | (with_reducible refine Ext.drew ?_) | (with_reducible refine Ext.drewN ?_ _) | (with_reducible refine Ext.trans ?_ (Hid.out ‹Hid (Ext _ _)›))))⟩
end Go.Proofs.Ytbboonepfmkgnaa

namespace Go.Proofs.Ytbboonepfmkgnaa
set_option linter.unusedSimpArgs false
set_option linter.unusedVariables false
open Go.ChangeShapes Go.WideShapes Go.ChangeAt Go.RowKit
open Go.ChangeMaps (open_string shut_string)

set_option maxRecDepth 100000 in
theorem ledgerRides_lifted (os : Os) (started : os.Started) (H : Type) (enc : TypeId × Value → H) :
    ReturnsInHanded {} Try.checked os 4 .any (Rows.ledgerRidesSpec.pre6 enc Try.prog Try.f4 Rows.ledgerRidesRow.domain false) (Rows.ledgerRidesSpec.post enc Try.prog Try.f4 false true false false) := by
  refine returnsInHanded_of_change (C := Try.checked) own started (by kernel_rfl) Try.func4
    (ChangeSpec.witness6 (enc := enc) (C := Try.checked) false ⟨#[], #[.agg #[.slice none 0 0, .slice none 0 0, .slice none 0 0], .agg #[.int .i64 0, .int .i64 0, .int .i64 0, .int .i64 0, .int .i64 0]], []⟩ 8 (by kernel_rfl) (by kernel_rfl) (by kernel_rfl) (by kernel_rfl)) ?_
  intro W base args ds gs before hval0 hW hcnd _
  have hval : ∀ (j : Nat) t v, Try.f4.params[j]? = some t → args[j]? = some v → Value.okWide Try.prog W .any base t v := hval0
  have hW' := hW
  obtain ⟨p, q, hA0, hV, rfl, hfz, hnd⟩ := hW
  have hA : DataW.TrodAll enc Try.prog W 0 (fun _ => true) true Try.f4.params.toList args.toList ds p := hA0
  rw [Try.params4] at hA hval
  obtain ⟨v0, vs0, d0, ds0, p0, q0, hargs, rfl, rfl, h0, r0⟩ := trodAll_cons hA
  obtain ⟨v1, vs1, d1, ds1, p1, q1, rfl, rfl, rfl, h1, r1⟩ := trodAll_cons r0
  obtain ⟨rfl, rfl, rfl⟩ := trodAll_nil r1
  obtain rfl : args = #[v0, v1] := by cases args; simp_all
  obtain ⟨rfl, rfl⟩ := trodVars_none hV
  have k0 := h0
  have lt0 : ∀ x ∈ p0, x.block < W.heap.size := by obtain ⟨m, hm⟩ := k0; exact DataW.trod_lt m _ _ _ hm
  have k1 := h1
  have lt1 : ∀ x ∈ p1, x.block < W.heap.size := by obtain ⟨m, hm⟩ := k1; exact DataW.trod_lt m _ _ _ hm
  obtain ⟨l0, sk0, sp0, sv0, rfl, e0, f0, i0⟩ := open_ld (hval 0 26 v0 rfl rfl) h0
  obtain ⟨t1, rfl⟩ := open_tp (hval 1 30 v1 rfl rfl) h1
  clear hA0 hval0
  refine (law_LedgerRides l0 sk0 sp0 sv0 t1 W e0 f0 i0).mono fun e W' ⟨he, bel⟩ => ?_
  subst he
  exact ⟨_, rfl, _, _, _, [], _, [], hW', trodAll_mk1 (shut_bool Try.underlying4 _), (trodAll_cons_mk (Below.trod laidOut (by kernel_rfl) (of_decide_eq_true (by kernel_rfl)) k0 bel lt0) (trodAll_cons_mk (Below.trod laidOut (by kernel_rfl) (of_decide_eq_true (by kernel_rfl)) k1 bel lt1) trodAll_mk0)), rfl, bel.frame _, fun h => by cases h⟩

theorem ledgerRides_holds : Rows.LedgerRidesSaid :=
  OpenClaim.holds_of_wide 4 Try.f4 rfl rfl rfl rfl rfl rfl rfl ⟨rfl, rfl, rfl, rfl, rfl⟩ rfl rfl rfl rfl rfl (by kernel_rfl) Try.func4 (by kernel_rfl)
    (of_decide_eq_true (by kernel_rfl)) (by unfold Func.isWrapper; first | (rw [if_pos (by decide +kernel)]; kernel_rfl) | (rw [if_neg (by decide +kernel)]; exact ⟨rfl, rfl⟩))
    (fun os started H enc _ => ledgerRides_lifted os started H enc)

end Go.Proofs.Ytbboonepfmkgnaa
