/- AuditMore: for every input the law returns true, and each argument reads afterwards as it read before. No condition. -/
import Derived.Test.YtbboonepfmkgnaaRows
import Derived.Test.YtbboonepfmkgnaaMc
import Derived.Test.YtbboonepfmkgnaaMd
import Derived.Test.YtbboonepfmkgnaaMo
/- The law AuditMore. -/
namespace Go.Proofs.Ytbboonepfmkgnaa
set_option linter.unusedSimpArgs false
set_option linter.unusedVariables false
set_option maxRecDepth 100000
open Go Go.RowKit Lb

theorem rest_in {l : Ld} (h : ckLedger l = 0) {t : Tk} (ht : t ∈ l.tickets) : -60 ≤ restOf l t ∧ restOf l t ≤ 60 := by
  have h1 := most_in (tickets_mem (right_iff.1 h).2.2.2.1 t ht)
  have h2 := ridesOf_len l.taps l.verdicts t.id
  have h3 := (right_iff.1 h).2.1
  unfold restOf
  omega
theorem rest_snoc {l : Ld} (h : ckLedger l = 0) (p : Tp) (v : Int) (t : Tk) : restOf ⟨l.tickets, l.taps ++ [p], l.verdicts ++ [v]⟩ t = restOf l t - (if p.ticket = t.id ∧ v = 1 then 1 else 0) := by
  unfold restOf
  simp only
  rw [ridesOf_snoc _ _ _ _ _ (right_len h)]
  split
  · simp only [List.length_append, List.length_singleton]; omega
  · simp
theorem left_of {l : Ld} (h : ckLedger l = 0) {t : Tk} (ht : t ∈ l.tickets) : leftAu l t.id = (restOf l t, 0) := by
  unfold leftAu
  rw [if_neg (by simpa using h), ticketOf_self (right_sorted h) ht]
theorem gate_of {l : Ld} (h : ckLedger l = 0) {g : Int} (hg : 0 ≤ g ∧ g < 3) : gateAu l g = ((cntAll (atGate g) l 1 : Int), (cntAll (atGate g) l 2 : Int), 0) := by
  unfold gateAu
  rw [if_neg (by simpa using h), if_neg (by omega)]
theorem gate_in {p : Tp} (h : ckTap p = 0) : 0 ≤ p.gate ∧ p.gate < 3 := by
  unfold ckTap at h
  cases hh : within p.gate 0 2 with
  | true => simp [within] at hh; omega
  | false => simp [hh] at h

set_option maxHeartbeats 64000000 in
theorem law_AuditMore (l : Ld) (s0 s1 s2 : Value) (p : Tp) (w : World) (hr0 : RdL 6 tkc w s0 l.tickets) (hr1 : RdL 5 tpc w s1 l.taps) (hr2 : RdL 1 inc w s2 l.verdicts) :
    Calls Try.prog 8 #[.agg #[s0, s1, s2], .agg (tpc p)] w fun e w' => e = .returned (.bool true) ∧ Ext w w' := by
  have HE := Lib.hid (fun (w' : World) (h : Ext w w') => ledger_Enter l s0 s1 s2 p w' (hr0.ext h) (hr1.ext h) (hr2.ext h))
  have HB := Lib.hid (fun (w' : World) => law_ledgerBegun w')
  have HBA := Lib.hid (fun (w' : World) => law_auditBegun w')
  have herr := @enterAll_err l p
  have hok := @enterAll_ok l (enterAll l p).1 p (enterAll l p).2.1
  have HLL := Lib.hid (fun (id : Int) (w' : World) (h : Ext w w') => audit_Left l.tickets l.taps l.verdicts s0 s1 s2 id w' (hr0.ext h) (hr1.ext h) (hr2.ext h))
  have HLA := Lib.hid (fun (a : Ld) (t0 t1 t2 : Value) (id : Int) (w' : World) => audit_Left a.tickets a.taps a.verdicts t0 t1 t2 id w')
  have HGL := Lib.hid (fun (w' : World) (h : Ext w w') => audit_Gate l.tickets l.taps l.verdicts s0 s1 s2 p.gate w' (hr0.ext h) (hr1.ext h) (hr2.ext h))
  have HGA := Lib.hid (fun (a : Ld) (t0 t1 t2 : Value) (w' : World) => audit_Gate a.tickets a.taps a.verdicts t0 t1 t2 p.gate w')
  have HTR := Lib.hid hr0
  have hm : l.tickets.length ≤ 9223372036854775807 := by
    obtain ⟨A, c, -, h1, h2⟩ := hr0.form
    unfold maxLen at h2
    omega
  obtain ⟨A0, c0, rfl, -, -⟩ := hr0.form
  obtain ⟨A, c, rfl, -, -⟩ := hr1.form
  obtain ⟨A2, c2, rfl, -, -⟩ := hr2.form
  clear hr0 hr1 hr2
  generalize enterAll l p = X at *
  obtain ⟨a, v, e⟩ := X
  simp only at HE herr hok
  obtain ⟨p0, p1, p2, p3, p4⟩ := p
  rw [show tpc ⟨p0, p1, p2, p3, p4⟩ = #[.int .i64 p0, .int .i64 p1, .int .i64 p2, .int .i64 p3, .int .i64 p4] from rfl] at HE ⊢
  simp only at HGL HGA
  by_cases he : e = 0
  case neg =>
    have heb : (e != 0) = true := by simpa using he
    have ha := herr he
    subst ha
    clear herr hok he HLL HLA HGL HGA
    go_enter Try.func8, Try.ntmps8
    go_wp2_with fail
    refine (HE.out _ (by repeat (first | (with_reducible exact Ext.refl _) | (with_reducible refine Ext.alloc ?_ _) | (with_reducible apply Ext.setC; focus (simp <;> omega)) | (with_reducible refine Ext.drew ?_) | (with_reducible refine Ext.drewN ?_ _) | (with_reducible refine Ext.trans ?_ (Hid.out ‹Hid (Ext _ _)›))))).mono ?_
    (rintro e w1 ⟨t0, t1, t2, rfl, h1, ho⟩; have o1a := Lib.hid (ho.tk.rd tkc_size); have o1b := Lib.hid (ho.tp.rd tpc_size); have o1c := Lib.hid (ho.vd.rd inc_size); obtain ⟨A1a, c1a, A1b, c1b, A1c, c1c, rfl, rfl, rfl⟩ := ho.forms; have H1 := Lib.hid h1; have hz1 := h1.size; clear h1 ho; (try simp only [World.size_alloc, size_set, World.heap_drewN, size_drew] at hz1); apply Row.use (w := w1) (g := w.heap.size); (focus (repeat (first | (with_reducible exact Hid.out ‹Hid (Row _ _ _)›) | (with_reducible exact Row.newAt rfl) | (with_reducible apply Row.newAt; (simp; done)) | (with_reducible apply Row.set_) | (with_reducible apply Row.far; focus (simp <;> omega)) | (with_reducible apply Row.alloc) | (with_reducible apply Row.drew) | (with_reducible apply Row.drewN) | (with_reducible apply Row.ext (Hid.out ‹Hid (Ext _ _)›))))); intro q1_0 f1_0 l1_0 R1_0; (try simp only [List.setIfInBounds_toArray, List.set_cons_zero, List.set_cons_succ] at q1_0 R1_0); apply Row.use (w := w1) (g := w.heap.size + 1); (focus (repeat (first | (with_reducible exact Hid.out ‹Hid (Row _ _ _)›) | (with_reducible exact Row.newAt rfl) | (with_reducible apply Row.newAt; (simp; done)) | (with_reducible apply Row.set_) | (with_reducible apply Row.far; focus (simp <;> omega)) | (with_reducible apply Row.alloc) | (with_reducible apply Row.drew) | (with_reducible apply Row.drewN) | (with_reducible apply Row.ext (Hid.out ‹Hid (Ext _ _)›))))); intro q1_1 f1_1 l1_1 R1_1; (try simp only [List.setIfInBounds_toArray, List.set_cons_zero, List.set_cons_succ] at q1_1 R1_1))
    have hl0 : ((ld0.taps.length : Int) == 0) = true := rfl
    go_wp2_with fail
    (refine (HBA.out _).mono ?_; rintro e w2 ⟨rfl, h2⟩; have H2 := Lib.hid h2; have hz2 := h2.size; clear h2; (try simp only [World.size_alloc, size_set, World.heap_drewN, size_drew] at hz2); apply Row.use (w := w2) (g := w.heap.size); (focus (repeat (first | (with_reducible exact Hid.out ‹Hid (Row _ _ _)›) | (with_reducible exact Row.newAt rfl) | (with_reducible apply Row.newAt; (simp; done)) | (with_reducible apply Row.set_) | (with_reducible apply Row.far; focus (simp <;> omega)) | (with_reducible apply Row.alloc) | (with_reducible apply Row.drew) | (with_reducible apply Row.drewN) | (with_reducible apply Row.ext (Hid.out ‹Hid (Ext _ _)›))))); intro q2_0 f2_0 l2_0 R2_0; (try simp only [List.setIfInBounds_toArray, List.set_cons_zero, List.set_cons_succ] at q2_0 R2_0); apply Row.use (w := w2) (g := w.heap.size + 1); (focus (repeat (first | (with_reducible exact Hid.out ‹Hid (Row _ _ _)›) | (with_reducible exact Row.newAt rfl) | (with_reducible apply Row.newAt; (simp; done)) | (with_reducible apply Row.set_) | (with_reducible apply Row.far; focus (simp <;> omega)) | (with_reducible apply Row.alloc) | (with_reducible apply Row.drew) | (with_reducible apply Row.drewN) | (with_reducible apply Row.ext (Hid.out ‹Hid (Ext _ _)›))))); intro q2_1 f2_1 l2_1 R2_1; (try simp only [List.setIfInBounds_toArray, List.set_cons_zero, List.set_cons_succ] at q2_1 R2_1); apply Row.use (w := w2) (g := w1.heap.size); (focus (repeat (first | (with_reducible exact Hid.out ‹Hid (Row _ _ _)›) | (with_reducible exact Row.newAt rfl) | (with_reducible apply Row.newAt; (simp; done)) | (with_reducible apply Row.set_) | (with_reducible apply Row.far; focus (simp <;> omega)) | (with_reducible apply Row.alloc) | (with_reducible apply Row.drew) | (with_reducible apply Row.drewN) | (with_reducible apply Row.ext (Hid.out ‹Hid (Ext _ _)›))))); intro q2_2 f2_2 l2_2 R2_2; (try simp only [List.setIfInBounds_toArray, List.set_cons_zero, List.set_cons_succ] at q2_2 R2_2))
    go_wp2_with fail
    (refine (HB.out _).mono ?_; rintro e w3 ⟨rfl, h3⟩; have H3 := Lib.hid h3; have hz3 := h3.size; clear h3; (try simp only [World.size_alloc, size_set, World.heap_drewN, size_drew] at hz3); apply Row.use (w := w3) (g := w.heap.size); (focus (repeat (first | (with_reducible exact Hid.out ‹Hid (Row _ _ _)›) | (with_reducible exact Row.newAt rfl) | (with_reducible apply Row.newAt; (simp; done)) | (with_reducible apply Row.set_) | (with_reducible apply Row.far; focus (simp <;> omega)) | (with_reducible apply Row.alloc) | (with_reducible apply Row.drew) | (with_reducible apply Row.drewN) | (with_reducible apply Row.ext (Hid.out ‹Hid (Ext _ _)›))))); intro q3_0 f3_0 l3_0 R3_0; (try simp only [List.setIfInBounds_toArray, List.set_cons_zero, List.set_cons_succ] at q3_0 R3_0); apply Row.use (w := w3) (g := w.heap.size + 1); (focus (repeat (first | (with_reducible exact Hid.out ‹Hid (Row _ _ _)›) | (with_reducible exact Row.newAt rfl) | (with_reducible apply Row.newAt; (simp; done)) | (with_reducible apply Row.set_) | (with_reducible apply Row.far; focus (simp <;> omega)) | (with_reducible apply Row.alloc) | (with_reducible apply Row.drew) | (with_reducible apply Row.drewN) | (with_reducible apply Row.ext (Hid.out ‹Hid (Ext _ _)›))))); intro q3_1 f3_1 l3_1 R3_1; (try simp only [List.setIfInBounds_toArray, List.set_cons_zero, List.set_cons_succ] at q3_1 R3_1); apply Row.use (w := w3) (g := w1.heap.size); (focus (repeat (first | (with_reducible exact Hid.out ‹Hid (Row _ _ _)›) | (with_reducible exact Row.newAt rfl) | (with_reducible apply Row.newAt; (simp; done)) | (with_reducible apply Row.set_) | (with_reducible apply Row.far; focus (simp <;> omega)) | (with_reducible apply Row.alloc) | (with_reducible apply Row.drew) | (with_reducible apply Row.drewN) | (with_reducible apply Row.ext (Hid.out ‹Hid (Ext _ _)›))))); intro q3_2 f3_2 l3_2 R3_2; (try simp only [List.setIfInBounds_toArray, List.set_cons_zero, List.set_cons_succ] at q3_2 R3_2))
    go_wp2_with fail
    go_ret
    exact ⟨by first | rfl | simp [ld0], (show Ext w _ by repeat (first | (with_reducible exact Ext.refl _) | (with_reducible refine Ext.alloc ?_ _) | (with_reducible apply Ext.setC; focus (simp <;> omega)) | (with_reducible refine Ext.drew ?_) | (with_reducible refine Ext.drewN ?_ _) | (with_reducible refine Ext.trans ?_ (Hid.out ‹Hid (Ext _ _)›))))⟩
  subst he
  obtain ⟨hl, hla, hae, h60, htv, hv12⟩ := hok rfl
  clear hok herr
  obtain ⟨hck, -⟩ := tapV_ok (tks := l.tickets) (taps := l.taps) (vs := l.verdicts) (p := ⟨p0, p1, p2, p3, p4⟩) (by rw [htv])
  have hgi := gate_in hck
  simp only at hgi
  have HLL2 := Lib.hid (fun (i : Nat) (hi : i < l.tickets.length) (w' : World) (h : Ext w w') => by
    have h1 := HLL.out l.tickets[i].id w' h
    rw [show (⟨l.tickets, l.taps, l.verdicts⟩ : Ld) = l from rfl, left_of hl (List.getElem_mem hi)] at h1
    exact h1)
  have HLA2 := Lib.hid (fun (i : Nat) (hi : i < l.tickets.length) (t0 t1 t2 : Value) (w' : World) (ha : RdL 6 tkc w' t0 a.tickets) (hb : RdL 5 tpc w' t1 a.taps) (hc : RdL 1 inc w' t2 a.verdicts) => by
    have h1 := HLA.out a t0 t1 t2 l.tickets[i].id w' ha hb hc
    rw [show (⟨a.tickets, a.taps, a.verdicts⟩ : Ld) = a from rfl, left_of hla (by rw [hae]; exact List.getElem_mem hi), show restOf a l.tickets[i] = restOf l l.tickets[i] - (if p0 = l.tickets[i].id ∧ v = 1 then 1 else 0) by rw [hae]; exact rest_snoc hl _ v _] at h1
    exact h1)
  have HRI := Lib.hid (fun (i : Nat) (hi : i < l.tickets.length) => rest_in hl (List.getElem_mem hi))
  have HG1 := Lib.hid (fun (w' : World) (h : Ext w w') => by
    have h1 := HGL.out w' h
    rw [show (⟨l.tickets, l.taps, l.verdicts⟩ : Ld) = l from rfl, gate_of hl hgi] at h1
    exact h1)
  have HG2 := Lib.hid (fun (t0 t1 t2 : Value) (w' : World) (ha : RdL 6 tkc w' t0 a.tickets) (hb : RdL 5 tpc w' t1 a.taps) (hc : RdL 1 inc w' t2 a.verdicts) => by
    have h1 := HGA.out a t0 t1 t2 w' ha hb hc
    rw [show (⟨a.tickets, a.taps, a.verdicts⟩ : Ld) = a from rfl, gate_of hla hgi] at h1
    exact h1)
  have hc1 : cntAll (atGate p1) a 1 = cntAll (atGate p1) l 1 + (if v = 1 then 1 else 0) := by
    rw [hae, cntAll_snoc _ _ _ _ _ _ _ (right_len hl)]
    simp [atGate]
  have hc2 : cntAll (atGate p1) a 2 = cntAll (atGate p1) l 2 + (if v = 2 then 1 else 0) := by
    rw [hae, cntAll_snoc _ _ _ _ _ _ _ (right_len hl)]
    simp [atGate]
  have hn1 : cntAll (atGate p1) l 1 ≤ 60 := Nat.le_trans (cntTo_le _ _ _ _ _) (by omega)
  have hn2 : cntAll (atGate p1) l 2 ≤ 60 := Nat.le_trans (cntTo_le _ _ _ _ _) (by omega)
  generalize cntAll (atGate p1) a 1 = z1 at *
  generalize cntAll (atGate p1) a 2 = z2 at *
  generalize cntAll (atGate p1) l 1 = x1 at *
  generalize cntAll (atGate p1) l 2 = x2 at *
  have HC1 := Lib.hid hc1
  have HC2 := Lib.hid hc2
  have HN1 := Lib.hid hn1
  have HN2 := Lib.hid hn2
  have HV := Lib.hid hv12
  clear hc1 hc2 hn1 hn2 HLL HLA HGL HGA hl hla hae h60 htv hck hgi hv12
  go_enter Try.func8, Try.ntmps8
  go_wp2_with fail
  refine (HE.out _ (by repeat (first | (with_reducible exact Ext.refl _) | (with_reducible refine Ext.alloc ?_ _) | (with_reducible apply Ext.setC; focus (simp <;> omega)) | (with_reducible refine Ext.drew ?_) | (with_reducible refine Ext.drewN ?_ _) | (with_reducible refine Ext.trans ?_ (Hid.out ‹Hid (Ext _ _)›))))).mono ?_
  (rintro e w1 ⟨t0, t1, t2, rfl, h1, ho⟩; have o1a := Lib.hid (ho.tk.rd tkc_size); have o1b := Lib.hid (ho.tp.rd tpc_size); have o1c := Lib.hid (ho.vd.rd inc_size); obtain ⟨A1a, c1a, A1b, c1b, A1c, c1c, rfl, rfl, rfl⟩ := ho.forms; have H1 := Lib.hid h1; have hz1 := h1.size; clear h1 ho; (try simp only [World.size_alloc, size_set, World.heap_drewN, size_drew] at hz1); apply Row.use (w := w1) (g := w.heap.size); (focus (repeat (first | (with_reducible exact Hid.out ‹Hid (Row _ _ _)›) | (with_reducible exact Row.newAt rfl) | (with_reducible apply Row.newAt; (simp; done)) | (with_reducible apply Row.set_) | (with_reducible apply Row.far; focus (simp <;> omega)) | (with_reducible apply Row.alloc) | (with_reducible apply Row.drew) | (with_reducible apply Row.drewN) | (with_reducible apply Row.ext (Hid.out ‹Hid (Ext _ _)›))))); intro q1_0 f1_0 l1_0 R1_0; (try simp only [List.setIfInBounds_toArray, List.set_cons_zero, List.set_cons_succ] at q1_0 R1_0); apply Row.use (w := w1) (g := w.heap.size + 1); (focus (repeat (first | (with_reducible exact Hid.out ‹Hid (Row _ _ _)›) | (with_reducible exact Row.newAt rfl) | (with_reducible apply Row.newAt; (simp; done)) | (with_reducible apply Row.set_) | (with_reducible apply Row.far; focus (simp <;> omega)) | (with_reducible apply Row.alloc) | (with_reducible apply Row.drew) | (with_reducible apply Row.drewN) | (with_reducible apply Row.ext (Hid.out ‹Hid (Ext _ _)›))))); intro q1_1 f1_1 l1_1 R1_1; (try simp only [List.setIfInBounds_toArray, List.set_cons_zero, List.set_cons_succ] at q1_1 R1_1))
  go_wp2_with fail
  (refine (HBA.out _).mono ?_; rintro e w2 ⟨rfl, h2⟩; have H2 := Lib.hid h2; have hz2 := h2.size; clear h2; (try simp only [World.size_alloc, size_set, World.heap_drewN, size_drew] at hz2); apply Row.use (w := w2) (g := w.heap.size); (focus (repeat (first | (with_reducible exact Hid.out ‹Hid (Row _ _ _)›) | (with_reducible exact Row.newAt rfl) | (with_reducible apply Row.newAt; (simp; done)) | (with_reducible apply Row.set_) | (with_reducible apply Row.far; focus (simp <;> omega)) | (with_reducible apply Row.alloc) | (with_reducible apply Row.drew) | (with_reducible apply Row.drewN) | (with_reducible apply Row.ext (Hid.out ‹Hid (Ext _ _)›))))); intro q2_0 f2_0 l2_0 R2_0; (try simp only [List.setIfInBounds_toArray, List.set_cons_zero, List.set_cons_succ] at q2_0 R2_0); apply Row.use (w := w2) (g := w.heap.size + 1); (focus (repeat (first | (with_reducible exact Hid.out ‹Hid (Row _ _ _)›) | (with_reducible exact Row.newAt rfl) | (with_reducible apply Row.newAt; (simp; done)) | (with_reducible apply Row.set_) | (with_reducible apply Row.far; focus (simp <;> omega)) | (with_reducible apply Row.alloc) | (with_reducible apply Row.drew) | (with_reducible apply Row.drewN) | (with_reducible apply Row.ext (Hid.out ‹Hid (Ext _ _)›))))); intro q2_1 f2_1 l2_1 R2_1; (try simp only [List.setIfInBounds_toArray, List.set_cons_zero, List.set_cons_succ] at q2_1 R2_1); apply Row.use (w := w2) (g := w1.heap.size); (focus (repeat (first | (with_reducible exact Hid.out ‹Hid (Row _ _ _)›) | (with_reducible exact Row.newAt rfl) | (with_reducible apply Row.newAt; (simp; done)) | (with_reducible apply Row.set_) | (with_reducible apply Row.far; focus (simp <;> omega)) | (with_reducible apply Row.alloc) | (with_reducible apply Row.drew) | (with_reducible apply Row.drewN) | (with_reducible apply Row.ext (Hid.out ‹Hid (Ext _ _)›))))); intro q2_2 f2_2 l2_2 R2_2; (try simp only [List.setIfInBounds_toArray, List.set_cons_zero, List.set_cons_succ] at q2_2 R2_2))
  go_wp2_with fail
  (refine (HB.out _).mono ?_; rintro e w3 ⟨rfl, h3⟩; have H3 := Lib.hid h3; have hz3 := h3.size; clear h3; (try simp only [World.size_alloc, size_set, World.heap_drewN, size_drew] at hz3); apply Row.use (w := w3) (g := w.heap.size); (focus (repeat (first | (with_reducible exact Hid.out ‹Hid (Row _ _ _)›) | (with_reducible exact Row.newAt rfl) | (with_reducible apply Row.newAt; (simp; done)) | (with_reducible apply Row.set_) | (with_reducible apply Row.far; focus (simp <;> omega)) | (with_reducible apply Row.alloc) | (with_reducible apply Row.drew) | (with_reducible apply Row.drewN) | (with_reducible apply Row.ext (Hid.out ‹Hid (Ext _ _)›))))); intro q3_0 f3_0 l3_0 R3_0; (try simp only [List.setIfInBounds_toArray, List.set_cons_zero, List.set_cons_succ] at q3_0 R3_0); apply Row.use (w := w3) (g := w.heap.size + 1); (focus (repeat (first | (with_reducible exact Hid.out ‹Hid (Row _ _ _)›) | (with_reducible exact Row.newAt rfl) | (with_reducible apply Row.newAt; (simp; done)) | (with_reducible apply Row.set_) | (with_reducible apply Row.far; focus (simp <;> omega)) | (with_reducible apply Row.alloc) | (with_reducible apply Row.drew) | (with_reducible apply Row.drewN) | (with_reducible apply Row.ext (Hid.out ‹Hid (Ext _ _)›))))); intro q3_1 f3_1 l3_1 R3_1; (try simp only [List.setIfInBounds_toArray, List.set_cons_zero, List.set_cons_succ] at q3_1 R3_1); apply Row.use (w := w3) (g := w1.heap.size); (focus (repeat (first | (with_reducible exact Hid.out ‹Hid (Row _ _ _)›) | (with_reducible exact Row.newAt rfl) | (with_reducible apply Row.newAt; (simp; done)) | (with_reducible apply Row.set_) | (with_reducible apply Row.far; focus (simp <;> omega)) | (with_reducible apply Row.alloc) | (with_reducible apply Row.drew) | (with_reducible apply Row.drewN) | (with_reducible apply Row.ext (Hid.out ‹Hid (Ext _ _)›))))); intro q3_2 f3_2 l3_2 R3_2; (try simp only [List.setIfInBounds_toArray, List.set_cons_zero, List.set_cons_succ] at q3_2 R3_2))
  go_wp2_with fail
  go_loopg [8, 9, 10, 11, 12, 13] l.tickets.length (fun gg s8 _ _ _ _ _ wr => ∃ k : Nat, k ≤ l.tickets.length ∧ l.tickets.length - k ≤ gg ∧ s8 = .int .i64 k ∧ Aside (Ext w3 wr))
  case atStart => exact ⟨0, by omega, by omega, rfl, Ext.refl _⟩
  case round =>
    obtain ⟨k, hk, hg, rfl, HEW⟩ := hrel
    have H4 := Lib.hid HEW.out
    clear HEW
    (apply Row.use (w := wr) (g := w.heap.size); (focus (repeat (first | (with_reducible exact Hid.out ‹Hid (Row _ _ _)›) | (with_reducible exact Row.newAt rfl) | (with_reducible apply Row.newAt; (simp; done)) | (with_reducible apply Row.set_) | (with_reducible apply Row.far; focus (simp <;> omega)) | (with_reducible apply Row.alloc) | (with_reducible apply Row.drew) | (with_reducible apply Row.drewN) | (with_reducible apply Row.ext (Hid.out ‹Hid (Ext _ _)›))))); intro qr_0 fr_0 lr_0 Rr_0; (try simp only [List.setIfInBounds_toArray, List.set_cons_zero, List.set_cons_succ] at qr_0 Rr_0); apply Row.use (w := wr) (g := w.heap.size + 1); (focus (repeat (first | (with_reducible exact Hid.out ‹Hid (Row _ _ _)›) | (with_reducible exact Row.newAt rfl) | (with_reducible apply Row.newAt; (simp; done)) | (with_reducible apply Row.set_) | (with_reducible apply Row.far; focus (simp <;> omega)) | (with_reducible apply Row.alloc) | (with_reducible apply Row.drew) | (with_reducible apply Row.drewN) | (with_reducible apply Row.ext (Hid.out ‹Hid (Ext _ _)›))))); intro qr_1 fr_1 lr_1 Rr_1; (try simp only [List.setIfInBounds_toArray, List.set_cons_zero, List.set_cons_succ] at qr_1 Rr_1); apply Row.use (w := wr) (g := w1.heap.size); (focus (repeat (first | (with_reducible exact Hid.out ‹Hid (Row _ _ _)›) | (with_reducible exact Row.newAt rfl) | (with_reducible apply Row.newAt; (simp; done)) | (with_reducible apply Row.set_) | (with_reducible apply Row.far; focus (simp <;> omega)) | (with_reducible apply Row.alloc) | (with_reducible apply Row.drew) | (with_reducible apply Row.drewN) | (with_reducible apply Row.ext (Hid.out ‹Hid (Ext _ _)›))))); intro qr_2 fr_2 lr_2 Rr_2; (try simp only [List.setIfInBounds_toArray, List.set_cons_zero, List.set_cons_succ] at qr_2 Rr_2))
    by_cases hlt : k < l.tickets.length
    · have hlt' : (k : Int) < (l.tickets.length : Int) := by omega
      obtain ⟨tb, tof, rfl, htb, g0, -⟩ := (HTR.out.ext (show Ext w wr by repeat (first | (with_reducible exact Ext.refl _) | (with_reducible refine Ext.alloc ?_ _) | (with_reducible apply Ext.setC; focus (simp <;> omega)) | (with_reducible refine Ext.drew ?_) | (with_reducible refine Ext.drewN ?_ _) | (with_reducible refine Ext.trans ?_ (Hid.out ‹Hid (Ext _ _)›))))).tk_at rfl hlt
      have HL3 := Lib.hid (fun (w' : World) (h : Ext w w') => HLL2.out k hlt w' h)
      have HA3 := Lib.hid (fun (t0 t1 t2 : Value) (w' : World) => HLA2.out k hlt t0 t1 t2 w')
      have hri := HRI.out k hlt
      generalize restOf l l.tickets[k] = rr at *
      generalize l.tickets[k].id = id at *
      generalize hra : rr - (if p0 = id ∧ v = 1 then 1 else 0) = ra at *
      have HRA := Lib.hid hra
      clear hra
      have HK := Lib.hid (fun (w' : World) (h : Ext wr w') => And.intro (Row.ext h Rr_0.out).2.1 (And.intro (Row.ext h Rr_1.out).2.1 (And.intro (Row.ext h Rr_2.out).2.1 (((h.cells _ _ htb).trans g0)))))
      go_upto_region 9 with fail
      (refine T_begin (fun w' => Ext wr w') 12 (by kernel_rfl) ((Ext.refl _).drew) (fun hS => ?_); simp only [List.length_cons, List.length_nil])
      ((refine T_take (i := 0) (v := ?_) rfl (by kernel_rfl) rfl hS ?_ ?_; rotate_left; focus (intro w hSw; have hk := HK.out w hSw; clear hSw; go_simp; try (with_reducible rfl))); (try simp only [Act.put, List.setIfInBounds_toArray, List.set_cons_zero, List.set_cons_succ]); (refine T_take (i := 1) (v := ?_) rfl (by kernel_rfl) rfl hS ?_ ?_; rotate_left; focus (intro w hSw; have hk := HK.out w hSw; clear hSw; go_simp; try (with_reducible rfl))); (try simp only [Act.put, List.setIfInBounds_toArray, List.set_cons_zero, List.set_cons_succ]); (refine T_take (i := 2) (v := ?_) rfl (by kernel_rfl) rfl hS ?_ ?_; rotate_left; focus (intro w hSw; have hk := HK.out w hSw; clear hSw; go_simp; try (with_reducible rfl))); (try simp only [Act.put, List.setIfInBounds_toArray, List.set_cons_zero, List.set_cons_succ]); (refine T_take (i := 3) (v := ?_) rfl (by kernel_rfl) rfl hS ?_ ?_; rotate_left; focus (intro w hSw; have hk := HK.out w hSw; clear hSw; go_simp; try (with_reducible rfl))); (try simp only [Act.put, List.setIfInBounds_toArray, List.set_cons_zero, List.set_cons_succ]); (refine T_take (i := 4) (v := ?_) rfl (by kernel_rfl) rfl hS ?_ ?_; rotate_left; focus (intro w hSw; have hk := HK.out w hSw; clear hSw; go_simp; try (with_reducible rfl))); (try simp only [Act.put, List.setIfInBounds_toArray, List.set_cons_zero, List.set_cons_succ]); (refine T_take (i := 5) (v := ?_) rfl (by kernel_rfl) rfl hS ?_ ?_; rotate_left; focus (intro w hSw; have hk := HK.out w hSw; clear hSw; go_simp; try (with_reducible rfl))); (try simp only [Act.put, List.setIfInBounds_toArray, List.set_cons_zero, List.set_cons_succ]); (refine T_take (i := 6) (v := ?_) rfl (by kernel_rfl) rfl hS ?_ ?_; rotate_left; focus (intro w hSw; have hk := HK.out w hSw; clear hSw; go_simp; try (with_reducible rfl))); (try simp only [Act.put, List.setIfInBounds_toArray, List.set_cons_zero, List.set_cons_succ]))
      (refine T_only (i := 7) rfl (by kernel_rfl) rfl (fun K hK => ?_); go_simp)
      refine (HL3.out _ (by repeat (first | (with_reducible exact Ext.refl _) | (with_reducible refine Ext.alloc ?_ _) | (with_reducible apply Ext.setC; focus (simp <;> omega)) | (with_reducible refine Ext.drew ?_) | (with_reducible refine Ext.drewN ?_ _) | (with_reducible refine Ext.trans ?_ (Hid.out ‹Hid (Ext _ _)›))))).mono ?_
      rintro e w5 ⟨rfl, h5⟩
      have H5 := Lib.hid h5
      clear h5 hS
      (go_wp2_with fail; have hS : Ext wr w5 := by (repeat (first | (with_reducible exact Ext.refl _) | (with_reducible refine Ext.alloc ?_ _) | (with_reducible apply Ext.setC; focus (simp <;> omega)) | (with_reducible refine Ext.drew ?_) | (with_reducible refine Ext.drewN ?_ _) | (with_reducible refine Ext.trans ?_ (Hid.out ‹Hid (Ext _ _)›))))); (refine hK.out _ _ (.inr hS) ?_; clear hK; (try simp only [Act.put, List.setIfInBounds_toArray, List.set_cons_zero, List.set_cons_succ]))
      ((refine T_only (i := 8) rfl (by kernel_rfl) rfl (fun K hK => ?_); go_simp; refine hK.out _ _ (.inr hS) ?_; clear hK; (try simp only [Act.put, List.setIfInBounds_toArray, List.set_cons_zero, List.set_cons_succ])))
      ((refine T_take (i := 9) (v := ?_) rfl (by kernel_rfl) rfl hS ?_ ?_; rotate_left; focus (intro w hSw; have hk := HK.out w hSw; clear hSw; go_simp; try (with_reducible rfl))); (try simp only [Act.put, List.setIfInBounds_toArray, List.set_cons_zero, List.set_cons_succ]); (refine T_take (i := 10) (v := ?_) rfl (by kernel_rfl) rfl hS ?_ ?_; rotate_left; focus (intro w hSw; have hk := HK.out w hSw; clear hSw; go_simp; try (with_reducible rfl))); (try simp only [Act.put, List.setIfInBounds_toArray, List.set_cons_zero, List.set_cons_succ]); (refine T_take (i := 11) (v := ?_) rfl (by kernel_rfl) rfl hS ?_ ?_; rotate_left; focus (intro w hSw; have hk := HK.out w hSw; clear hSw; go_simp; try (with_reducible rfl))); (try simp only [Act.put, List.setIfInBounds_toArray, List.set_cons_zero, List.set_cons_succ]))
      (refine T_only (i := 12) rfl (by kernel_rfl) rfl (fun K hK => ?_); go_simp; refine hK.out _ _ (.inl (by kernel_rfl)) ?_; clear hK; (try simp only [Act.put, List.setIfInBounds_toArray, List.set_cons_zero, List.set_cons_succ]); refine T_done (by kernel_rfl) ?_ _)
      go_upto_region 10 with fail
      (refine T_begin (fun w' => Ext wr w') 12 (by kernel_rfl) (Ext.drew hS) (fun hS => ?_); simp only [List.length_cons, List.length_nil])
      ((refine T_take (i := 0) (v := ?_) rfl (by kernel_rfl) rfl hS ?_ ?_; rotate_left; focus (intro w hSw; have hk := HK.out w hSw; clear hSw; go_simp; try (with_reducible rfl))); (try simp only [Act.put, List.setIfInBounds_toArray, List.set_cons_zero, List.set_cons_succ]); (refine T_take (i := 1) (v := ?_) rfl (by kernel_rfl) rfl hS ?_ ?_; rotate_left; focus (intro w hSw; have hk := HK.out w hSw; clear hSw; go_simp; try (with_reducible rfl))); (try simp only [Act.put, List.setIfInBounds_toArray, List.set_cons_zero, List.set_cons_succ]); (refine T_take (i := 2) (v := ?_) rfl (by kernel_rfl) rfl hS ?_ ?_; rotate_left; focus (intro w hSw; have hk := HK.out w hSw; clear hSw; go_simp; try (with_reducible rfl))); (try simp only [Act.put, List.setIfInBounds_toArray, List.set_cons_zero, List.set_cons_succ]); (refine T_take (i := 3) (v := ?_) rfl (by kernel_rfl) rfl hS ?_ ?_; rotate_left; focus (intro w hSw; have hk := HK.out w hSw; clear hSw; go_simp; try (with_reducible rfl))); (try simp only [Act.put, List.setIfInBounds_toArray, List.set_cons_zero, List.set_cons_succ]); (refine T_take (i := 4) (v := ?_) rfl (by kernel_rfl) rfl hS ?_ ?_; rotate_left; focus (intro w hSw; have hk := HK.out w hSw; clear hSw; go_simp; try (with_reducible rfl))); (try simp only [Act.put, List.setIfInBounds_toArray, List.set_cons_zero, List.set_cons_succ]); (refine T_take (i := 5) (v := ?_) rfl (by kernel_rfl) rfl hS ?_ ?_; rotate_left; focus (intro w hSw; have hk := HK.out w hSw; clear hSw; go_simp; try (with_reducible rfl))); (try simp only [Act.put, List.setIfInBounds_toArray, List.set_cons_zero, List.set_cons_succ]); (refine T_take (i := 6) (v := ?_) rfl (by kernel_rfl) rfl hS ?_ ?_; rotate_left; focus (intro w hSw; have hk := HK.out w hSw; clear hSw; go_simp; try (with_reducible rfl))); (try simp only [Act.put, List.setIfInBounds_toArray, List.set_cons_zero, List.set_cons_succ]))
      (refine T_only (i := 7) rfl (by kernel_rfl) rfl (fun K hK => ?_); go_simp)
      refine (HA3.out _ _ _ _ (o1a.out.ext (by repeat (first | (with_reducible exact Ext.refl _) | (with_reducible refine Ext.alloc ?_ _) | (with_reducible apply Ext.setC; focus (simp <;> omega)) | (with_reducible refine Ext.drew ?_) | (with_reducible refine Ext.drewN ?_ _) | (with_reducible refine Ext.trans ?_ (Hid.out ‹Hid (Ext _ _)›))))) (o1b.out.ext (by repeat (first | (with_reducible exact Ext.refl _) | (with_reducible refine Ext.alloc ?_ _) | (with_reducible apply Ext.setC; focus (simp <;> omega)) | (with_reducible refine Ext.drew ?_) | (with_reducible refine Ext.drewN ?_ _) | (with_reducible refine Ext.trans ?_ (Hid.out ‹Hid (Ext _ _)›))))) (o1c.out.ext (by repeat (first | (with_reducible exact Ext.refl _) | (with_reducible refine Ext.alloc ?_ _) | (with_reducible apply Ext.setC; focus (simp <;> omega)) | (with_reducible refine Ext.drew ?_) | (with_reducible refine Ext.drewN ?_ _) | (with_reducible refine Ext.trans ?_ (Hid.out ‹Hid (Ext _ _)›)))))).mono ?_
      rintro e w6 ⟨rfl, h6⟩
      have H6 := Lib.hid h6
      clear h6 hS
      (go_wp2_with fail; have hS : Ext wr w6 := by (repeat (first | (with_reducible exact Ext.refl _) | (with_reducible refine Ext.alloc ?_ _) | (with_reducible apply Ext.setC; focus (simp <;> omega)) | (with_reducible refine Ext.drew ?_) | (with_reducible refine Ext.drewN ?_ _) | (with_reducible refine Ext.trans ?_ (Hid.out ‹Hid (Ext _ _)›))))); (refine hK.out _ _ (.inr hS) ?_; clear hK; (try simp only [Act.put, List.setIfInBounds_toArray, List.set_cons_zero, List.set_cons_succ]))
      ((refine T_only (i := 8) rfl (by kernel_rfl) rfl (fun K hK => ?_); go_simp; refine hK.out _ _ (.inr hS) ?_; clear hK; (try simp only [Act.put, List.setIfInBounds_toArray, List.set_cons_zero, List.set_cons_succ])))
      ((refine T_take (i := 9) (v := ?_) rfl (by kernel_rfl) rfl hS ?_ ?_; rotate_left; focus (intro w hSw; have hk := HK.out w hSw; clear hSw; go_simp; try (with_reducible rfl))); (try simp only [Act.put, List.setIfInBounds_toArray, List.set_cons_zero, List.set_cons_succ]); (refine T_take (i := 10) (v := ?_) rfl (by kernel_rfl) rfl hS ?_ ?_; rotate_left; focus (intro w hSw; have hk := HK.out w hSw; clear hSw; go_simp; try (with_reducible rfl))); (try simp only [Act.put, List.setIfInBounds_toArray, List.set_cons_zero, List.set_cons_succ]); (refine T_take (i := 11) (v := ?_) rfl (by kernel_rfl) rfl hS ?_ ?_; rotate_left; focus (intro w hSw; have hk := HK.out w hSw; clear hSw; go_simp; try (with_reducible rfl))); (try simp only [Act.put, List.setIfInBounds_toArray, List.set_cons_zero, List.set_cons_succ]))
      (refine T_only (i := 12) rfl (by kernel_rfl) rfl (fun K hK => ?_); go_simp; refine hK.out _ _ (.inl (by kernel_rfl)) ?_; clear hK; (try simp only [Act.put, List.setIfInBounds_toArray, List.set_cons_zero, List.set_cons_succ]); refine T_done (by kernel_rfl) ?_ _)
      obtain ⟨k0, k1, k2, k3⟩ := HK.out w6 hS
      have hl6 : w.heap.size + 1 < w6.heap.size := by have := hS.size; omega
      clear hS
      have hwr : IntKind.i64.wrap (k + 1 : Int) = ((k + 1 : Nat) : Int) := by rw [IntWalk.i64_in _ (by omega)]; omega
      by_cases hv : v = 1
      · have hvb : (v == 1) = true := by simpa using hv
        by_cases hid : id = p0
        · have hidb : (id == p0) = true := by simpa using hid
          have hra := HRA.out
          rw [if_pos ⟨hid.symm, hv⟩] at hra
          have hw1 : IntKind.i64.wrap (rr - 1) = ra := by rw [← hra]; exact IntWalk.i64_in _ (by omega)
          clear hra
          clear hv hid hri
          go_wp2_with fail
          (try (go_quiet (fail); go_wp2_with fail))
          go_roundg (l.tickets.length - (k + 1))
          case measure => omega
          case rel => exact ⟨k + 1, by omega, by omega, by go_num, (show Ext w3 _ by repeat (first | (with_reducible exact Ext.refl _) | (with_reducible refine Ext.alloc ?_ _) | (with_reducible apply Ext.setC; focus (simp <;> omega)) | (with_reducible refine Ext.drew ?_) | (with_reducible refine Ext.drewN ?_ _) | (with_reducible refine Ext.trans ?_ (Hid.out ‹Hid (Ext _ _)›))))⟩
        · have hidb : (id == p0) = false := by simpa using hid
          have hra := HRA.out
          rw [if_neg (fun h => hid h.1.symm), Int.sub_zero] at hra
          subst hra
          have hw1 : IntKind.i64.wrap rr = rr := IntWalk.i64_in _ (by omega)
          clear hv hid hri
          go_wp2_with fail
          (try (go_quiet (fail); go_wp2_with fail))
          go_roundg (l.tickets.length - (k + 1))
          case measure => omega
          case rel => exact ⟨k + 1, by omega, by omega, by go_num, (show Ext w3 _ by repeat (first | (with_reducible exact Ext.refl _) | (with_reducible refine Ext.alloc ?_ _) | (with_reducible apply Ext.setC; focus (simp <;> omega)) | (with_reducible refine Ext.drew ?_) | (with_reducible refine Ext.drewN ?_ _) | (with_reducible refine Ext.trans ?_ (Hid.out ‹Hid (Ext _ _)›))))⟩
      · have hvb : (v == 1) = false := by simpa using hv
        have hra := HRA.out
        rw [if_neg (fun h => hv h.2), Int.sub_zero] at hra
        subst hra
        have hw1 : IntKind.i64.wrap rr = rr := IntWalk.i64_in _ (by omega)
        clear hv hri
        go_wp2_with fail
        (try (go_quiet (fail); go_wp2_with fail))
        go_roundg (l.tickets.length - (k + 1))
        case measure => omega
        case rel => exact ⟨k + 1, by omega, by omega, by go_num, (show Ext w3 _ by repeat (first | (with_reducible exact Ext.refl _) | (with_reducible refine Ext.alloc ?_ _) | (with_reducible apply Ext.setC; focus (simp <;> omega)) | (with_reducible refine Ext.drew ?_) | (with_reducible refine Ext.drewN ?_ _) | (with_reducible refine Ext.trans ?_ (Hid.out ‹Hid (Ext _ _)›))))⟩
    · have hge : ¬ (k : Int) < (l.tickets.length : Int) := by omega
      go_wp2_with fail
      (refine (HG1.out _ (by repeat (first | (with_reducible exact Ext.refl _) | (with_reducible refine Ext.alloc ?_ _) | (with_reducible apply Ext.setC; focus (simp <;> omega)) | (with_reducible refine Ext.drew ?_) | (with_reducible refine Ext.drewN ?_ _) | (with_reducible refine Ext.trans ?_ (Hid.out ‹Hid (Ext _ _)›))))).mono ?_; rintro e w5 ⟨rfl, h5⟩; have H5 := Lib.hid h5; have hz5 := h5.size; clear h5; (try simp only [World.size_alloc, size_set, World.heap_drewN, size_drew] at hz5); apply Row.use (w := w5) (g := w.heap.size + 1); (focus (repeat (first | (with_reducible exact Hid.out ‹Hid (Row _ _ _)›) | (with_reducible exact Row.newAt rfl) | (with_reducible apply Row.newAt; (simp; done)) | (with_reducible apply Row.set_) | (with_reducible apply Row.far; focus (simp <;> omega)) | (with_reducible apply Row.alloc) | (with_reducible apply Row.drew) | (with_reducible apply Row.drewN) | (with_reducible apply Row.ext (Hid.out ‹Hid (Ext _ _)›))))); intro q5_0 f5_0 l5_0 R5_0; (try simp only [List.setIfInBounds_toArray, List.set_cons_zero, List.set_cons_succ] at q5_0 R5_0); apply Row.use (w := w5) (g := w1.heap.size); (focus (repeat (first | (with_reducible exact Hid.out ‹Hid (Row _ _ _)›) | (with_reducible exact Row.newAt rfl) | (with_reducible apply Row.newAt; (simp; done)) | (with_reducible apply Row.set_) | (with_reducible apply Row.far; focus (simp <;> omega)) | (with_reducible apply Row.alloc) | (with_reducible apply Row.drew) | (with_reducible apply Row.drewN) | (with_reducible apply Row.ext (Hid.out ‹Hid (Ext _ _)›))))); intro q5_1 f5_1 l5_1 R5_1; (try simp only [List.setIfInBounds_toArray, List.set_cons_zero, List.set_cons_succ] at q5_1 R5_1))
      go_wp2_with fail
      (refine (HG2.out _ _ _ _ (o1a.out.ext (by repeat (first | (with_reducible exact Ext.refl _) | (with_reducible refine Ext.alloc ?_ _) | (with_reducible apply Ext.setC; focus (simp <;> omega)) | (with_reducible refine Ext.drew ?_) | (with_reducible refine Ext.drewN ?_ _) | (with_reducible refine Ext.trans ?_ (Hid.out ‹Hid (Ext _ _)›))))) (o1b.out.ext (by repeat (first | (with_reducible exact Ext.refl _) | (with_reducible refine Ext.alloc ?_ _) | (with_reducible apply Ext.setC; focus (simp <;> omega)) | (with_reducible refine Ext.drew ?_) | (with_reducible refine Ext.drewN ?_ _) | (with_reducible refine Ext.trans ?_ (Hid.out ‹Hid (Ext _ _)›))))) (o1c.out.ext (by repeat (first | (with_reducible exact Ext.refl _) | (with_reducible refine Ext.alloc ?_ _) | (with_reducible apply Ext.setC; focus (simp <;> omega)) | (with_reducible refine Ext.drew ?_) | (with_reducible refine Ext.drewN ?_ _) | (with_reducible refine Ext.trans ?_ (Hid.out ‹Hid (Ext _ _)›)))))).mono ?_; rintro e w6 ⟨rfl, h6⟩; have H6 := Lib.hid h6; have hz6 := h6.size; clear h6; (try simp only [World.size_alloc, size_set, World.heap_drewN, size_drew] at hz6); apply Row.use (w := w6) (g := w1.heap.size); (focus (repeat (first | (with_reducible exact Hid.out ‹Hid (Row _ _ _)›) | (with_reducible exact Row.newAt rfl) | (with_reducible apply Row.newAt; (simp; done)) | (with_reducible apply Row.set_) | (with_reducible apply Row.far; focus (simp <;> omega)) | (with_reducible apply Row.alloc) | (with_reducible apply Row.drew) | (with_reducible apply Row.drewN) | (with_reducible apply Row.ext (Hid.out ‹Hid (Ext _ _)›))))); intro q6_0 f6_0 l6_0 R6_0; (try simp only [List.setIfInBounds_toArray, List.set_cons_zero, List.set_cons_succ] at q6_0 R6_0))
      have hc1 := HC1.out
      have hc2 := HC2.out
      have hn1 := HN1.out
      have hn2 := HN2.out
      have q1 : IntKind.i64.wrap ((z1 : Int) + (z2 : Int)) = (z1 : Int) + (z2 : Int) := IntWalk.i64_in _ (by split at hc1 <;> split at hc2 <;> omega)
      have q2 : IntKind.i64.wrap ((x1 : Int) + (x2 : Int)) = (x1 : Int) + (x2 : Int) := IntWalk.i64_in _ (by omega)
      have q3 : IntKind.i64.wrap ((x1 : Int) + (x2 : Int) + 1) = (x1 : Int) + (x2 : Int) + 1 := IntWalk.i64_in _ (by omega)
      have q4 : IntKind.i64.wrap ((x1 : Int) + 1) = (x1 : Int) + 1 := IntWalk.i64_in _ (by omega)
      rcases HV.out with hv | hv
      · subst hv
        have b1 : ((z1 : Int) + (z2 : Int) == (x1 : Int) + (x2 : Int) + 1) = true := by simp at hc1 hc2 ⊢; omega
        have b2 : ((z1 : Int) == (x1 : Int) + 1) = true := by simp at hc1 ⊢; omega
        clear hc1 hc2 hn1 hn2
        go_wp2_with fail
        go_ret
        exact ⟨rfl, (show Ext w _ by repeat (first | (with_reducible exact Ext.refl _) | (with_reducible refine Ext.alloc ?_ _) | (with_reducible apply Ext.setC; focus (simp <;> omega)) | (with_reducible refine Ext.drew ?_) | (with_reducible refine Ext.drewN ?_ _) | (with_reducible refine Ext.trans ?_ (Hid.out ‹Hid (Ext _ _)›))))⟩
      · subst hv
        have b1 : ((z1 : Int) + (z2 : Int) == (x1 : Int) + (x2 : Int) + 1) = true := by simp at hc1 hc2 ⊢; omega
        have b2 : ((z1 : Int) == (x1 : Int) + 1) = false := by simp at hc1 ⊢; omega
        clear hc1 hc2 hn1 hn2
        go_wp2_with fail
        go_ret
        exact ⟨rfl, (show Ext w _ by repeat (first | (with_reducible exact Ext.refl _) | (with_reducible refine Ext.alloc ?_ _) | (with_reducible apply Ext.setC; focus (simp <;> omega)) | (with_reducible refine Ext.drew ?_) | (with_reducible refine Ext.drewN ?_ _) | (with_reducible refine Ext.trans ?_ (Hid.out ‹Hid (Ext _ _)›))))⟩
end Go.Proofs.Ytbboonepfmkgnaa

namespace Go.Proofs.Ytbboonepfmkgnaa
set_option linter.unusedSimpArgs false
set_option linter.unusedVariables false
open Go.ChangeShapes Go.WideShapes Go.ChangeAt Go.RowKit
open Go.ChangeMaps (open_string shut_string)

set_option maxRecDepth 100000 in
theorem auditMore_lifted (os : Os) (started : os.Started) (H : Type) (enc : TypeId × Value → H) :
    ReturnsInHanded {} Try.checked os 8 .any (Rows.auditMoreSpec.pre6 enc Try.prog Try.f8 Rows.auditMoreRow.domain false) (Rows.auditMoreSpec.post enc Try.prog Try.f8 false true false false) := by
  refine returnsInHanded_of_change (C := Try.checked) own started (by kernel_rfl) Try.func8
    (ChangeSpec.witness6 (enc := enc) (C := Try.checked) false ⟨#[], #[.agg #[.slice none 0 0, .slice none 0 0, .slice none 0 0], .agg #[.int .i64 0, .int .i64 0, .int .i64 0, .int .i64 0, .int .i64 0]], []⟩ 8 (by kernel_rfl) (by kernel_rfl) (by kernel_rfl) (by kernel_rfl)) ?_
  intro W base args ds gs before hval0 hW hcnd _
  have hval : ∀ (j : Nat) t v, Try.f8.params[j]? = some t → args[j]? = some v → Value.okWide Try.prog W .any base t v := hval0
  have hW' := hW
  obtain ⟨p, q, hA0, hV, rfl, hfz, hnd⟩ := hW
  have hA : DataW.TrodAll enc Try.prog W 0 (fun _ => true) true Try.f8.params.toList args.toList ds p := hA0
  rw [Try.params8] at hA hval
  obtain ⟨v0, vs0, d0, ds0, p0, q0, hargs, rfl, rfl, h0, r0⟩ := trodAll_cons hA
  obtain ⟨v1, vs1, d1, ds1, p1, q1, rfl, rfl, rfl, h1, r1⟩ := trodAll_cons r0
  obtain ⟨rfl, rfl, rfl⟩ := trodAll_nil r1
  obtain rfl : args = #[v0, v1] := by cases args; simp_all
  obtain ⟨rfl, rfl⟩ := trodVars_none hV
  have k0 := h0
  have lt0 : ∀ x ∈ p0, x.block < W.heap.size := by obtain ⟨m, hm⟩ := k0; exact DataW.trod_lt m _ _ _ hm
  have k1 := h1
  have lt1 : ∀ x ∈ p1, x.block < W.heap.size := by obtain ⟨m, hm⟩ := k1; exact DataW.trod_lt m _ _ _ hm
  obtain ⟨l0, sk0, sp0, sv0, rfl, e0, f0, i0⟩ := open_ld (hval 0 26 v0 rfl rfl) h0
  obtain ⟨t1, rfl⟩ := open_tp (hval 1 30 v1 rfl rfl) h1
  clear hA0 hval0
  refine (law_AuditMore l0 sk0 sp0 sv0 t1 W e0 f0 i0).mono fun e W' ⟨he, bel⟩ => ?_
  subst he
  exact ⟨_, rfl, _, _, _, [], _, [], hW', trodAll_mk1 (shut_bool Try.underlying4 _), (trodAll_cons_mk (Below.trod laidOut (by kernel_rfl) (of_decide_eq_true (by kernel_rfl)) k0 bel lt0) (trodAll_cons_mk (Below.trod laidOut (by kernel_rfl) (of_decide_eq_true (by kernel_rfl)) k1 bel lt1) trodAll_mk0)), rfl, bel.frame _, fun h => by cases h⟩

theorem auditMore_holds : Rows.AuditMoreSaid :=
  OpenClaim.holds_of_wide 8 Try.f8 rfl rfl rfl rfl rfl rfl rfl ⟨rfl, rfl, rfl, rfl, rfl⟩ rfl rfl rfl rfl rfl (by kernel_rfl) Try.func8 (by kernel_rfl)
    (of_decide_eq_true (by kernel_rfl)) (by unfold Func.isWrapper; first | (rw [if_pos (by decide +kernel)]; kernel_rfl) | (rw [if_neg (by decide +kernel)]; exact ⟨rfl, rfl⟩))
    (fun os started H enc _ => auditMore_lifted os started H enc)

end Go.Proofs.Ytbboonepfmkgnaa
