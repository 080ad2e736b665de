/- AuditSums: for every input the law returns true, and each argument reads afterwards as it read before. No condition. -/
import Derived.Test.YtbboonepfmkgnaaRows
import Derived.Test.YtbboonepfmkgnaaMc
import Derived.Test.YtbboonepfmkgnaaMd
import Derived.Test.YtbboonepfmkgnaaMo
/- The law AuditMore. -/
namespace Go.Proofs.Ytbboonepfmkgnaa
set_option linter.unusedSimpArgs false
set_option linter.unusedVariables false
set_option maxRecDepth 100000
open Go Go.RowKit Lb

theorem rest_in {l : Ld} (h : ckLedger l = 0) {t : Tk} (ht : t ∈ l.tickets) : -60 ≤ restOf l t ∧ restOf l t ≤ 60 := by
  have h1 := most_in (tickets_mem (right_iff.1 h).2.2.2.1 t ht)
  have h2 := ridesOf_len l.taps l.verdicts t.id
  have h3 := (right_iff.1 h).2.1
  unfold restOf
  omega
theorem rest_snoc {l : Ld} (h : ckLedger l = 0) (p : Tp) (v : Int) (t : Tk) : restOf ⟨l.tickets, l.taps ++ [p], l.verdicts ++ [v]⟩ t = restOf l t - (if p.ticket = t.id ∧ v = 1 then 1 else 0) := by
  unfold restOf
  simp only
  rw [ridesOf_snoc _ _ _ _ _ (right_len h)]
  split
  · simp only [List.length_append, List.length_singleton]; omega
  · simp
theorem left_of {l : Ld} (h : ckLedger l = 0) {t : Tk} (ht : t ∈ l.tickets) : leftAu l t.id = (restOf l t, 0) := by
  unfold leftAu
  rw [if_neg (by simpa using h), ticketOf_self (right_sorted h) ht]
theorem gate_of {l : Ld} (h : ckLedger l = 0) {g : Int} (hg : 0 ≤ g ∧ g < 3) : gateAu l g = ((cntAll (atGate g) l 1 : Int), (cntAll (atGate g) l 2 : Int), 0) := by
  unfold gateAu
  rw [if_neg (by simpa using h), if_neg (by omega)]
theorem gate_in {p : Tp} (h : ckTap p = 0) : 0 ≤ p.gate ∧ p.gate < 3 := by
  unfold ckTap at h
  cases hh : within p.gate 0 2 with
  | true => simp [within] at hh; omega
  | false => simp [hh] at h

set_option maxHeartbeats 64000000 in
theorem law_AuditMore (l : Ld) (s0 s1 s2 : Value) (p : Tp) (w : World) (hr0 : RdL 6 tkc w s0 l.tickets) (hr1 : RdL 5 tpc w s1 l.taps) (hr2 : RdL 1 inc w s2 l.verdicts) :
    Calls Try.prog 8 #[.agg #[s0, s1, s2], .agg (tpc p)] w fun e w' => e = .returned (.bool true) ∧ Ext w w' := by
  have HE := Lib.hid (fun (w' : World) (h : Ext w w') => ledger_Enter l s0 s1 s2 p w' (hr0.ext h) (hr1.ext h) (hr2.ext h))
  have HB := Lib.hid (fun (w' : World) => law_ledgerBegun w')
  have HBA := Lib.hid (fun (w' : World) => law_auditBegun w')
  have herr := @enterAll_err l p
  have hok := @enterAll_ok l (enterAll l p).1 p (enterAll l p).2.1
  have HLL := Lib.hid (fun (id : Int) (w' : World) (h : Ext w w') => audit_Left l.tickets l.taps l.verdicts s0 s1 s2 id w' (hr0.ext h) (hr1.ext h) (hr2.ext h))
  have HLA := Lib.hid (fun (a : Ld) (t0 t1 t2 : Value) (id : Int) (w' : World) => audit_Left a.tickets a.taps a.verdicts t0 t1 t2 id w')
  have HGL := Lib.hid (fun (w' : World) (h : Ext w w') => audit_Gate l.tickets l.taps l.verdicts s0 s1 s2 p.gate w' (hr0.ext h) (hr1.ext h) (hr2.ext h))
  have HGA := Lib.hid (fun (a : Ld) (t0 t1 t2 : Value) (w' : World) => audit_Gate a.tickets a.taps a.verdicts t0 t1 t2 p.gate w')
  have HTR := Lib.hid hr0
  have hm : l.tickets.length ≤ 9223372036854775807 := by
    obtain ⟨A, c, -, h1, h2⟩ := hr0.form
    unfold maxLen at h2
    omega
  obtain ⟨A0, c0, rfl, -, -⟩ := hr0.form
  obtain ⟨A, c, rfl, -, -⟩ := hr1.form
  obtain ⟨A2, c2, rfl, -, -⟩ := hr2.form
  clear hr0 hr1 hr2
  generalize enterAll l p = X at *
  obtain ⟨a, v, e⟩ := X
  simp only at HE herr hok
  obtain ⟨p0, p1, p2, p3, p4⟩ := p
  rw [show tpc ⟨p0, p1, p2, p3, p4⟩ = #[.int .i64 p0, .int .i64 p1, .int .i64 p2, .int .i64 p3, .int .i64 p4] from rfl] at HE ⊢
  simp only at HGL HGA
  by_cases he : e = 0
  case neg =>
    have heb : (e != 0) = true := by simpa using he
    have ha := herr he
    subst ha
    clear herr hok he HLL HLA HGL HGA
    go_enter Try.func8, Try.ntmps8
    go_wp2_with fail
    refine (HE.out _ (by repeat (first | (with_reducible exact Ext.refl _) | (with_reducible refine Ext.alloc ?_ _) | (with_reducible apply Ext.setC; focus (simp <;> omega)) | (with_reducible refine Ext.drew ?_) | (with_reducible refine Ext.drewN ?_ _) | (with_reducible refine Ext.trans ?_ (Hid.out ‹Hid (Ext _ _)›))))).mono ?_
    (rintro e w1 ⟨t0, t1, t2, rfl, h1, ho⟩; have o1a := Lib.hid (ho.tk.rd tkc_size); have o1b := Lib.hid (ho.tp.rd tpc_size); have o1c := Lib.hid (ho.vd.rd inc_size); obtain ⟨A1a, c1a, A1b, c1b, A1c, c1c, rfl, rfl, rfl⟩ := ho.forms; have H1 := Lib.hid h1; have hz1 := h1.size; clear h1 ho; (try simp only [World.size_alloc, size_set, World.heap_drewN, size_drew] at hz1); apply Row.use (w := w1) (g := w.heap.size); (focus (repeat (first | (with_reducible exact Hid.out ‹Hid (Row _ _ _)›) | (with_reducible exact Row.newAt rfl) | (with_reducible apply Row.newAt; (simp; done)) | (with_reducible apply Row.set_) | (with_reducible apply Row.far; focus (simp <;> omega)) | (with_reducible apply Row.alloc) | (with_reducible apply Row.drew) | (with_reducible apply Row.drewN) | (with_reducible apply Row.ext (Hid.out ‹Hid (Ext _ _)›))))); intro q1_0 f1_0 l1_0 R1_0; (try simp only [List.setIfInBounds_toArray, List.set_cons_zero, List.set_cons_succ] at q1_0 R1_0); apply Row.use (w := w1) (g := w.heap.size + 1); (focus (repeat (first | (with_reducible exact Hid.out ‹Hid (Row _ _ _)›) | (with_reducible exact Row.newAt rfl) | (with_reducible apply Row.newAt; (simp; done)) | (with_reducible apply Row.set_) | (with_reducible apply Row.far; focus (simp <;> omega)) | (with_reducible apply Row.alloc) | (with_reducible apply Row.drew) | (with_reducible apply Row.drewN) | (with_reducible apply Row.ext (Hid.out ‹Hid (Ext _ _)›))))); intro q1_1 f1_1 l1_1 R1_1; (try simp only [List.setIfInBounds_toArray, List.set_cons_zero, List.set_cons_succ] at q1_1 R1_1))
    have hl0 : ((ld0.taps.length : Int) == 0) = true := rfl
    go_wp2_with fail
    (refine (HBA.out _).mono ?_; rintro e w2 ⟨rfl, h2⟩; have H2 := Lib.hid h2; have hz2 := h2.size; clear h2; (try simp only [World.size_alloc, size_set, World.heap_drewN, size_drew] at hz2); apply Row.use (w := w2) (g := w.heap.size); (focus (repeat (first | (with_reducible exact Hid.out ‹Hid (Row _ _ _)›) | (with_reducible exact Row.newAt rfl) | (with_reducible apply Row.newAt; (simp; done)) | (with_reducible apply Row.set_) | (with_reducible apply Row.far; focus (simp <;> omega)) | (with_reducible apply Row.alloc) | (with_reducible apply Row.drew) | (with_reducible apply Row.drewN) | (with_reducible apply Row.ext (Hid.out ‹Hid (Ext _ _)›))))); intro q2_0 f2_0 l2_0 R2_0; (try simp only [List.setIfInBounds_toArray, List.set_cons_zero, List.set_cons_succ] at q2_0 R2_0); apply Row.use (w := w2) (g := w.heap.size + 1); (focus (repeat (first | (with_reducible exact Hid.out ‹Hid (Row _ _ _)›) | (with_reducible exact Row.newAt rfl) | (with_reducible apply Row.newAt; (simp; done)) | (with_reducible apply Row.set_) | (with_reducible apply Row.far; focus (simp <;> omega)) | (with_reducible apply Row.alloc) | (with_reducible apply Row.drew) | (with_reducible apply Row.drewN) | (with_reducible apply Row.ext (Hid.out ‹Hid (Ext _ _)›))))); intro q2_1 f2_1 l2_1 R2_1; (try simp only [List.setIfInBounds_toArray, List.set_cons_zero, List.set_cons_succ] at q2_1 R2_1); apply Row.use (w := w2) (g := w1.heap.size); (focus (repeat (first | (with_reducible exact Hid.out ‹Hid (Row _ _ _)›) | (with_reducible exact Row.newAt rfl) | (with_reducible apply Row.newAt; (simp; done)) | (with_reducible apply Row.set_) | (with_reducible apply Row.far; focus (simp <;> omega)) | (with_reducible apply Row.alloc) | (with_reducible apply Row.drew) | (with_reducible apply Row.drewN) | (with_reducible apply Row.ext (Hid.out ‹Hid (Ext _ _)›))))); intro q2_2 f2_2 l2_2 R2_2; (try simp only [List.setIfInBounds_toArray, List.set_cons_zero, List.set_cons_succ] at q2_2 R2_2))
    go_wp2_with fail
    (refine (HB.out _).mono ?_; rintro e w3 ⟨rfl, h3⟩; have H3 := Lib.hid h3; have hz3 := h3.size; clear h3; (try simp only [World.size_alloc, size_set, World.heap_drewN, size_drew] at hz3); apply Row.use (w := w3) (g := w.heap.size); (focus (repeat (first | (with_reducible exact Hid.out ‹Hid (Row _ _ _)›) | (with_reducible exact Row.newAt rfl) | (with_reducible apply Row.newAt; (simp; done)) | (with_reducible apply Row.set_) | (with_reducible apply Row.far; focus (simp <;> omega)) | (with_reducible apply Row.alloc) | (with_reducible apply Row.drew) | (with_reducible apply Row.drewN) | (with_reducible apply Row.ext (Hid.out ‹Hid (Ext _ _)›))))); intro q3_0 f3_0 l3_0 R3_0; (try simp only [List.setIfInBounds_toArray, List.set_cons_zero, List.set_cons_succ] at q3_0 R3_0); apply Row.use (w := w3) (g := w.heap.size + 1); (focus (repeat (first | (with_reducible exact Hid.out ‹Hid (Row _ _ _)›) | (with_reducible exact Row.newAt rfl) | (with_reducible apply Row.newAt; (simp; done)) | (with_reducible apply Row.set_) | (with_reducible apply Row.far; focus (simp <;> omega)) | (with_reducible apply Row.alloc) | (with_reducible apply Row.drew) | (with_reducible apply Row.drewN) | (with_reducible apply Row.ext (Hid.out ‹Hid (Ext _ _)›))))); intro q3_1 f3_1 l3_1 R3_1; (try simp only [List.setIfInBounds_toArray, List.set_cons_zero, List.set_cons_succ] at q3_1 R3_1); apply Row.use (w := w3) (g := w1.heap.size); (focus (repeat (first | (with_reducible exact Hid.out ‹Hid (Row _ _ _)›) | (with_reducible exact Row.newAt rfl) | (with_reducible apply Row.newAt; (simp; done)) | (with_reducible apply Row.set_) | (with_reducible apply Row.far; focus (simp <;> omega)) | (with_reducible apply Row.alloc) | (with_reducible apply Row.drew) | (with_reducible apply Row.drewN) | (with_reducible apply Row.ext (Hid.out ‹Hid (Ext _ _)›))))); intro q3_2 f3_2 l3_2 R3_2; (try simp only [List.setIfInBounds_toArray, List.set_cons_zero, List.set_cons_succ] at q3_2 R3_2))
    go_wp2_with fail
    go_ret
    exact ⟨by first | rfl | simp [ld0], (show Ext w _ by repeat (first | (with_reducible exact Ext.refl _) | (with_reducible refine Ext.alloc ?_ _) | (with_reducible apply Ext.setC; focus (simp <;> omega)) | (with_reducible refine Ext.drew ?_) | (with_reducible refine Ext.drewN ?_ _) | (with_reducible refine Ext.trans ?_ (Hid.out ‹Hid (Ext _ _)›))))⟩
  subst he
  obtain ⟨hl, hla, hae, h60, htv, hv12⟩ := hok rfl
  clear hok herr
  obtain ⟨hck, -⟩ := tapV_ok (tks := l.tickets) (taps := l.taps) (vs := l.verdicts) (p := ⟨p0, p1, p2, p3, p4⟩) (by rw [htv])
  have hgi := gate_in hck
  simp only at hgi
  have HLL2 := Lib.hid (fun (i : Nat) (hi : i < l.tickets.length) (w' : World) (h : Ext w w') => by
    have h1 := HLL.out l.tickets[i].id w' h
    rw [show (⟨l.tickets, l.taps, l.verdicts⟩ : Ld) = l from rfl, left_of hl (List.getElem_mem hi)] at h1
    exact h1)
  have HLA2 := Lib.hid (fun (i : Nat) (hi : i < l.tickets.length) (t0 t1 t2 : Value) (w' : World) (ha : RdL 6 tkc w' t0 a.tickets) (hb : RdL 5 tpc w' t1 a.taps) (hc : RdL 1 inc w' t2 a.verdicts) => by
    have h1 := HLA.out a t0 t1 t2 l.tickets[i].id w' ha hb hc
    rw [show (⟨a.tickets, a.taps, a.verdicts⟩ : Ld) = a from rfl, left_of hla (by rw [hae]; exact List.getElem_mem hi), show restOf a l.tickets[i] = restOf l l.tickets[i] - (if p0 = l.tickets[i].id ∧ v = 1 then 1 else 0) by rw [hae]; exact rest_snoc hl _ v _] at h1
    exact h1)
  have HRI := Lib.hid (fun (i : Nat) (hi : i < l.tickets.length) => rest_in hl (List.getElem_mem hi))
  have HG1 := Lib.hid (fun (w' : World) (h : Ext w w') => by
    have h1 := HGL.out w' h
    rw [show (⟨l.tickets, l.taps, l.verdicts⟩ : Ld) = l from rfl, gate_of hl hgi] at h1
    exact h1)
  have HG2 := Lib.hid (fun (t0 t1 t2 : Value) (w' : World) (ha : RdL 6 tkc w' t0 a.tickets) (hb : RdL 5 tpc w' t1 a.taps) (hc : RdL 1 inc w' t2 a.verdicts) => by
    have h1 := HGA.out a t0 t1 t2 w' ha hb hc
    rw [show (⟨a.tickets, a.taps, a.verdicts⟩ : Ld) = a from rfl, gate_of hla hgi] at h1
    exact h1)
  have hc1 : cntAll (atGate p1) a 1 = cntAll (atGate p1) l 1 + (if v = 1 then 1 else 0) := by
    rw [hae, cntAll_snoc _ _ _ _ _ _ _ (right_len hl)]
    simp [atGate]
  have hc2 : cntAll (atGate p1) a 2 = cntAll (atGate p1) l 2 + (if v = 2 then 1 else 0) := by
    rw [hae, cntAll_snoc _ _ _ _ _ _ _ (right_len hl)]
    simp [atGate]
  have hn1 : cntAll (atGate p1) l 1 ≤ 60 := Nat.le_trans (cntTo_le _ _ _ _ _) (by omega)
  have hn2 : cntAll (atGate p1) l 2 ≤ 60 := Nat.le_trans (cntTo_le _ _ _ _ _) (by omega)
  generalize cntAll (atGate p1) a 1 = z1 at *
  generalize cntAll (atGate p1) a 2 = z2 at *
  generalize cntAll (atGate p1) l 1 = x1 at *
  generalize cntAll (atGate p1) l 2 = x2 at *
  have HC1 := Lib.hid hc1
  have HC2 := Lib.hid hc2
  have HN1 := Lib.hid hn1
  have HN2 := Lib.hid hn2
  have HV := Lib.hid hv12
  clear hc1 hc2 hn1 hn2 HLL HLA HGL HGA hl hla hae h60 htv hck hgi hv12
  go_enter Try.func8, Try.ntmps8
  go_wp2_with fail
  refine (HE.out _ (by repeat (first | (with_reducible exact Ext.refl _) | (with_reducible refine Ext.alloc ?_ _) | (with_reducible apply Ext.setC; focus (simp <;> omega)) | (with_reducible refine Ext.drew ?_) | (with_reducible refine Ext.drewN ?_ _) | (with_reducible refine Ext.trans ?_ (Hid.out ‹Hid (Ext _ _)›))))).mono ?_
  (rintro e w1 ⟨t0, t1, t2, rfl, h1, ho⟩; have o1a := Lib.hid (ho.tk.rd tkc_size); have o1b := Lib.hid (ho.tp.rd tpc_size); have o1c := Lib.hid (ho.vd.rd inc_size); obtain ⟨A1a, c1a, A1b, c1b, A1c, c1c, rfl, rfl, rfl⟩ := ho.forms; have H1 := Lib.hid h1; have hz1 := h1.size; clear h1 ho; (try simp only [World.size_alloc, size_set, World.heap_drewN, size_drew] at hz1); apply Row.use (w := w1) (g := w.heap.size); (focus (repeat (first | (with_reducible exact Hid.out ‹Hid (Row _ _ _)›) | (with_reducible exact Row.newAt rfl) | (with_reducible apply Row.newAt; (simp; done)) | (with_reducible apply Row.set_) | (with_reducible apply Row.far; focus (simp <;> omega)) | (with_reducible apply Row.alloc) | (with_reducible apply Row.drew) | (with_reducible apply Row.drewN) | (with_reducible apply Row.ext (Hid.out ‹Hid (Ext _ _)›))))); intro q1_0 f1_0 l1_0 R1_0; (try simp only [List.setIfInBounds_toArray, List.set_cons_zero, List.set_cons_succ] at q1_0 R1_0); apply Row.use (w := w1) (g := w.heap.size + 1); (focus (repeat (first | (with_reducible exact Hid.out ‹Hid (Row _ _ _)›) | (with_reducible exact Row.newAt rfl) | (with_reducible apply Row.newAt; (simp; done)) | (with_reducible apply Row.set_) | (with_reducible apply Row.far; focus (simp <;> omega)) | (with_reducible apply Row.alloc) | (with_reducible apply Row.drew) | (with_reducible apply Row.drewN) | (with_reducible apply Row.ext (Hid.out ‹Hid (Ext _ _)›))))); intro q1_1 f1_1 l1_1 R1_1; (try simp only [List.setIfInBounds_toArray, List.set_cons_zero, List.set_cons_succ] at q1_1 R1_1))
  go_wp2_with fail
  (refine (HBA.out _).mono ?_; rintro e w2 ⟨rfl, h2⟩; have H2 := Lib.hid h2; have hz2 := h2.size; clear h2; (try simp only [World.size_alloc, size_set, World.heap_drewN, size_drew] at hz2); apply Row.use (w := w2) (g := w.heap.size); (focus (repeat (first | (with_reducible exact Hid.out ‹Hid (Row _ _ _)›) | (with_reducible exact Row.newAt rfl) | (with_reducible apply Row.newAt; (simp; done)) | (with_reducible apply Row.set_) | (with_reducible apply Row.far; focus (simp <;> omega)) | (with_reducible apply Row.alloc) | (with_reducible apply Row.drew) | (with_reducible apply Row.drewN) | (with_reducible apply Row.ext (Hid.out ‹Hid (Ext _ _)›))))); intro q2_0 f2_0 l2_0 R2_0; (try simp only [List.setIfInBounds_toArray, List.set_cons_zero, List.set_cons_succ] at q2_0 R2_0); apply Row.use (w := w2) (g := w.heap.size + 1); (focus (repeat (first | (with_reducible exact Hid.out ‹Hid (Row _ _ _)›) | (with_reducible exact Row.newAt rfl) | (with_reducible apply Row.newAt; (simp; done)) | (with_reducible apply Row.set_) | (with_reducible apply Row.far; focus (simp <;> omega)) | (with_reducible apply Row.alloc) | (with_reducible apply Row.drew) | (with_reducible apply Row.drewN) | (with_reducible apply Row.ext (Hid.out ‹Hid (Ext _ _)›))))); intro q2_1 f2_1 l2_1 R2_1; (try simp only [List.setIfInBounds_toArray, List.set_cons_zero, List.set_cons_succ] at q2_1 R2_1); apply Row.use (w := w2) (g := w1.heap.size); (focus (repeat (first | (with_reducible exact Hid.out ‹Hid (Row _ _ _)›) | (with_reducible exact Row.newAt rfl) | (with_reducible apply Row.newAt; (simp; done)) | (with_reducible apply Row.set_) | (with_reducible apply Row.far; focus (simp <;> omega)) | (with_reducible apply Row.alloc) | (with_reducible apply Row.drew) | (with_reducible apply Row.drewN) | (with_reducible apply Row.ext (Hid.out ‹Hid (Ext _ _)›))))); intro q2_2 f2_2 l2_2 R2_2; (try simp only [List.setIfInBounds_toArray, List.set_cons_zero, List.set_cons_succ] at q2_2 R2_2))
  go_wp2_with fail
  (refine (HB.out _).mono ?_; rintro e w3 ⟨rfl, h3⟩; have H3 := Lib.hid h3; have hz3 := h3.size; clear h3; (try simp only [World.size_alloc, size_set, World.heap_drewN, size_drew] at hz3); apply Row.use (w := w3) (g := w.heap.size); (focus (repeat (first | (with_reducible exact Hid.out ‹Hid (Row _ _ _)›) | (with_reducible exact Row.newAt rfl) | (with_reducible apply Row.newAt; (simp; done)) | (with_reducible apply Row.set_) | (with_reducible apply Row.far; focus (simp <;> omega)) | (with_reducible apply Row.alloc) | (with_reducible apply Row.drew) | (with_reducible apply Row.drewN) | (with_reducible apply Row.ext (Hid.out ‹Hid (Ext _ _)›))))); intro q3_0 f3_0 l3_0 R3_0; (try simp only [List.setIfInBounds_toArray, List.set_cons_zero, List.set_cons_succ] at q3_0 R3_0); apply Row.use (w := w3) (g := w.heap.size + 1); (focus (repeat (first | (with_reducible exact Hid.out ‹Hid (Row _ _ _)›) | (with_reducible exact Row.newAt rfl) | (with_reducible apply Row.newAt; (simp; done)) | (with_reducible apply Row.set_) | (with_reducible apply Row.far; focus (simp <;> omega)) | (with_reducible apply Row.alloc) | (with_reducible apply Row.drew) | (with_reducible apply Row.drewN) | (with_reducible apply Row.ext (Hid.out ‹Hid (Ext _ _)›))))); intro q3_1 f3_1 l3_1 R3_1; (try simp only [List.setIfInBounds_toArray, List.set_cons_zero, List.set_cons_succ] at q3_1 R3_1); apply Row.use (w := w3) (g := w1.heap.size); (focus (repeat (first | (with_reducible exact Hid.out ‹Hid (Row _ _ _)›) | (with_reducible exact Row.newAt rfl) | (with_reducible apply Row.newAt; (simp; done)) | (with_reducible apply Row.set_) | (with_reducible apply Row.far; focus (simp <;> omega)) | (with_reducible apply Row.alloc) | (with_reducible apply Row.drew) | (with_reducible apply Row.drewN) | (with_reducible apply Row.ext (Hid.out ‹Hid (Ext _ _)›))))); intro q3_2 f3_2 l3_2 R3_2; (try simp only [List.setIfInBounds_toArray, List.set_cons_zero, List.set_cons_succ] at q3_2 R3_2))
  go_wp2_with fail
  go_loopg [8, 9, 10, 11, 12, 13] l.tickets.length (fun gg s8 _ _ _ _ _ wr => ∃ k : Nat, k ≤ l.tickets.length ∧ l.tickets.length - k ≤ gg ∧ s8 = .int .i64 k ∧ Aside (Ext w3 wr))
  case atStart => exact ⟨0, by omega, by omega, rfl, Ext.refl _⟩
  case round =>
    obtain ⟨k, hk, hg, rfl, HEW⟩ := hrel
    have H4 := Lib.hid HEW.out
    clear HEW
    (apply Row.use (w := wr) (g := w.heap.size); (focus (repeat (first | (with_reducible exact Hid.out ‹Hid (Row _ _ _)›) | (with_reducible exact Row.newAt rfl) | (with_reducible apply Row.newAt; (simp; done)) | (with_reducible apply Row.set_) | (with_reducible apply Row.far; focus (simp <;> omega)) | (with_reducible apply Row.alloc) | (with_reducible apply Row.drew) | (with_reducible apply Row.drewN) | (with_reducible apply Row.ext (Hid.out ‹Hid (Ext _ _)›))))); intro qr_0 fr_0 lr_0 Rr_0; (try simp only [List.setIfInBounds_toArray, List.set_cons_zero, List.set_cons_succ] at qr_0 Rr_0); apply Row.use (w := wr) (g := w.heap.size + 1); (focus (repeat (first | (with_reducible exact Hid.out ‹Hid (Row _ _ _)›) | (with_reducible exact Row.newAt rfl) | (with_reducible apply Row.newAt; (simp; done)) | (with_reducible apply Row.set_) | (with_reducible apply Row.far; focus (simp <;> omega)) | (with_reducible apply Row.alloc) | (with_reducible apply Row.drew) | (with_reducible apply Row.drewN) | (with_reducible apply Row.ext (Hid.out ‹Hid (Ext _ _)›))))); intro qr_1 fr_1 lr_1 Rr_1; (try simp only [List.setIfInBounds_toArray, List.set_cons_zero, List.set_cons_succ] at qr_1 Rr_1); apply Row.use (w := wr) (g := w1.heap.size); (focus (repeat (first | (with_reducible exact Hid.out ‹Hid (Row _ _ _)›) | (with_reducible exact Row.newAt rfl) | (with_reducible apply Row.newAt; (simp; done)) | (with_reducible apply Row.set_) | (with_reducible apply Row.far; focus (simp <;> omega)) | (with_reducible apply Row.alloc) | (with_reducible apply Row.drew) | (with_reducible apply Row.drewN) | (with_reducible apply Row.ext (Hid.out ‹Hid (Ext _ _)›))))); intro qr_2 fr_2 lr_2 Rr_2; (try simp only [List.setIfInBounds_toArray, List.set_cons_zero, List.set_cons_succ] at qr_2 Rr_2))
    by_cases hlt : k < l.tickets.length
    · have hlt' : (k : Int) < (l.tickets.length : Int) := by omega
      obtain ⟨tb, tof, rfl, htb, g0, -⟩ := (HTR.out.ext (show Ext w wr by repeat (first | (with_reducible exact Ext.refl _) | (with_reducible refine Ext.alloc ?_ _) | (with_reducible apply Ext.setC; focus (simp <;> omega)) | (with_reducible refine Ext.drew ?_) | (with_reducible refine Ext.drewN ?_ _) | (with_reducible refine Ext.trans ?_ (Hid.out ‹Hid (Ext _ _)›))))).tk_at rfl hlt
      have HL3 := Lib.hid (fun (w' : World) (h : Ext w w') => HLL2.out k hlt w' h)
      have HA3 := Lib.hid (fun (t0 t1 t2 : Value) (w' : World) => HLA2.out k hlt t0 t1 t2 w')
      have hri := HRI.out k hlt
      generalize restOf l l.tickets[k] = rr at *
      generalize l.tickets[k].id = id at *
      generalize hra : rr - (if p0 = id ∧ v = 1 then 1 else 0) = ra at *
      have HRA := Lib.hid hra
      clear hra
      have HK := Lib.hid (fun (w' : World) (h : Ext wr w') => And.intro (Row.ext h Rr_0.out).2.1 (And.intro (Row.ext h Rr_1.out).2.1 (And.intro (Row.ext h Rr_2.out).2.1 (((h.cells _ _ htb).trans g0)))))
      go_upto_region 9 with fail
      (refine T_begin (fun w' => Ext wr w') 12 (by kernel_rfl) ((Ext.refl _).drew) (fun hS => ?_); simp only [List.length_cons, List.length_nil])
      ((refine T_take (i := 0) (v := ?_) rfl (by kernel_rfl) rfl hS ?_ ?_; rotate_left; focus (intro w hSw; have hk := HK.out w hSw; clear hSw; go_simp; try (with_reducible rfl))); (try simp only [Act.put, List.setIfInBounds_toArray, List.set_cons_zero, List.set_cons_succ]); (refine T_take (i := 1) (v := ?_) rfl (by kernel_rfl) rfl hS ?_ ?_; rotate_left; focus (intro w hSw; have hk := HK.out w hSw; clear hSw; go_simp; try (with_reducible rfl))); (try simp only [Act.put, List.setIfInBounds_toArray, List.set_cons_zero, List.set_cons_succ]); (refine T_take (i := 2) (v := ?_) rfl (by kernel_rfl) rfl hS ?_ ?_; rotate_left; focus (intro w hSw; have hk := HK.out w hSw; clear hSw; go_simp; try (with_reducible rfl))); (try simp only [Act.put, List.setIfInBounds_toArray, List.set_cons_zero, List.set_cons_succ]); (refine T_take (i := 3) (v := ?_) rfl (by kernel_rfl) rfl hS ?_ ?_; rotate_left; focus (intro w hSw; have hk := HK.out w hSw; clear hSw; go_simp; try (with_reducible rfl))); (try simp only [Act.put, List.setIfInBounds_toArray, List.set_cons_zero, List.set_cons_succ]); (refine T_take (i := 4) (v := ?_) rfl (by kernel_rfl) rfl hS ?_ ?_; rotate_left; focus (intro w hSw; have hk := HK.out w hSw; clear hSw; go_simp; try (with_reducible rfl))); (try simp only [Act.put, List.setIfInBounds_toArray, List.set_cons_zero, List.set_cons_succ]); (refine T_take (i := 5) (v := ?_) rfl (by kernel_rfl) rfl hS ?_ ?_; rotate_left; focus (intro w hSw; have hk := HK.out w hSw; clear hSw; go_simp; try (with_reducible rfl))); (try simp only [Act.put, List.setIfInBounds_toArray, List.set_cons_zero, List.set_cons_succ]); (refine T_take (i := 6) (v := ?_) rfl (by kernel_rfl) rfl hS ?_ ?_; rotate_left; focus (intro w hSw; have hk := HK.out w hSw; clear hSw; go_simp; try (with_reducible rfl))); (try simp only [Act.put, List.setIfInBounds_toArray, List.set_cons_zero, List.set_cons_succ]))
      (refine T_only (i := 7) rfl (by kernel_rfl) rfl (fun K hK => ?_); go_simp)
      refine (HL3.out _ (by repeat (first | (with_reducible exact Ext.refl _) | (with_reducible refine Ext.alloc ?_ _) | (with_reducible apply Ext.setC; focus (simp <;> omega)) | (with_reducible refine Ext.drew ?_) | (with_reducible refine Ext.drewN ?_ _) | (with_reducible refine Ext.trans ?_ (Hid.out ‹Hid (Ext _ _)›))))).mono ?_
      rintro e w5 ⟨rfl, h5⟩
      have H5 := Lib.hid h5
      clear h5 hS
      (go_wp2_with fail; have hS : Ext wr w5 := by (repeat (first | (with_reducible exact Ext.refl _) | (with_reducible refine Ext.alloc ?_ _) | (with_reducible apply Ext.setC; focus (simp <;> omega)) | (with_reducible refine Ext.drew ?_) | (with_reducible refine Ext.drewN ?_ _) | (with_reducible refine Ext.trans ?_ (Hid.out ‹Hid (Ext _ _)›))))); (refine hK.out _ _ (.inr hS) ?_; clear hK; (try simp only [Act.put, List.setIfInBounds_toArray, List.set_cons_zero, List.set_cons_succ]))
      ((refine T_only (i := 8) rfl (by kernel_rfl) rfl (fun K hK => ?_); go_simp; refine hK.out _ _ (.inr hS) ?_; clear hK; (try simp only [Act.put, List.setIfInBounds_toArray, List.set_cons_zero, List.set_cons_succ])))
      ((refine T_take (i := 9) (v := ?_) rfl (by kernel_rfl) rfl hS ?_ ?_; rotate_left; focus (intro w hSw; have hk := HK.out w hSw; clear hSw; go_simp; try (with_reducible rfl))); (try simp only [Act.put, List.setIfInBounds_toArray, List.set_cons_zero, List.set_cons_succ]); (refine T_take (i := 10) (v := ?_) rfl (by kernel_rfl) rfl hS ?_ ?_; rotate_left; focus (intro w hSw; have hk := HK.out w hSw; clear hSw; go_simp; try (with_reducible rfl))); (try simp only [Act.put, List.setIfInBounds_toArray, List.set_cons_zero, List.set_cons_succ]); (refine T_take (i := 11) (v := ?_) rfl (by kernel_rfl) rfl hS ?_ ?_; rotate_left; focus (intro w hSw; have hk := HK.out w hSw; clear hSw; go_simp; try (with_reducible rfl))); (try simp only [Act.put, List.setIfInBounds_toArray, List.set_cons_zero, List.set_cons_succ]))
      (refine T_only (i := 12) rfl (by kernel_rfl) rfl (fun K hK => ?_); go_simp; refine hK.out _ _ (.inl (by kernel_rfl)) ?_; clear hK; (try simp only [Act.put, List.setIfInBounds_toArray, List.set_cons_zero, List.set_cons_succ]); refine T_done (by kernel_rfl) ?_ _)
      go_upto_region 10 with fail
      (refine T_begin (fun w' => Ext wr w') 12 (by kernel_rfl) (Ext.drew hS) (fun hS => ?_); simp only [List.length_cons, List.length_nil])
      ((refine T_take (i := 0) (v := ?_) rfl (by kernel_rfl) rfl hS ?_ ?_; rotate_left; focus (intro w hSw; have hk := HK.out w hSw; clear hSw; go_simp; try (with_reducible rfl))); (try simp only [Act.put, List.setIfInBounds_toArray, List.set_cons_zero, List.set_cons_succ]); (refine T_take (i := 1) (v := ?_) rfl (by kernel_rfl) rfl hS ?_ ?_; rotate_left; focus (intro w hSw; have hk := HK.out w hSw; clear hSw; go_simp; try (with_reducible rfl))); (try simp only [Act.put, List.setIfInBounds_toArray, List.set_cons_zero, List.set_cons_succ]); (refine T_take (i := 2) (v := ?_) rfl (by kernel_rfl) rfl hS ?_ ?_; rotate_left; focus (intro w hSw; have hk := HK.out w hSw; clear hSw; go_simp; try (with_reducible rfl))); (try simp only [Act.put, List.setIfInBounds_toArray, List.set_cons_zero, List.set_cons_succ]); (refine T_take (i := 3) (v := ?_) rfl (by kernel_rfl) rfl hS ?_ ?_; rotate_left; focus (intro w hSw; have hk := HK.out w hSw; clear hSw; go_simp; try (with_reducible rfl))); (try simp only [Act.put, List.setIfInBounds_toArray, List.set_cons_zero, List.set_cons_succ]); (refine T_take (i := 4) (v := ?_) rfl (by kernel_rfl) rfl hS ?_ ?_; rotate_left; focus (intro w hSw; have hk := HK.out w hSw; clear hSw; go_simp; try (with_reducible rfl))); (try simp only [Act.put, List.setIfInBounds_toArray, List.set_cons_zero, List.set_cons_succ]); (refine T_take (i := 5) (v := ?_) rfl (by kernel_rfl) rfl hS ?_ ?_; rotate_left; focus (intro w hSw; have hk := HK.out w hSw; clear hSw; go_simp; try (with_reducible rfl))); (try simp only [Act.put, List.setIfInBounds_toArray, List.set_cons_zero, List.set_cons_succ]); (refine T_take (i := 6) (v := ?_) rfl (by kernel_rfl) rfl hS ?_ ?_; rotate_left; focus (intro w hSw; have hk := HK.out w hSw; clear hSw; go_simp; try (with_reducible rfl))); (try simp only [Act.put, List.setIfInBounds_toArray, List.set_cons_zero, List.set_cons_succ]))
      (refine T_only (i := 7) rfl (by kernel_rfl) rfl (fun K hK => ?_); go_simp)
      refine (HA3.out _ _ _ _ (o1a.out.ext (by repeat (first | (with_reducible exact Ext.refl _) | (with_reducible refine Ext.alloc ?_ _) | (with_reducible apply Ext.setC; focus (simp <;> omega)) | (with_reducible refine Ext.drew ?_) | (with_reducible refine Ext.drewN ?_ _) | (with_reducible refine Ext.trans ?_ (Hid.out ‹Hid (Ext _ _)›))))) (o1b.out.ext (by repeat (first | (with_reducible exact Ext.refl _) | (with_reducible refine Ext.alloc ?_ _) | (with_reducible apply Ext.setC; focus (simp <;> omega)) | (with_reducible refine Ext.drew ?_) | (with_reducible refine Ext.drewN ?_ _) | (with_reducible refine Ext.trans ?_ (Hid.out ‹Hid (Ext _ _)›))))) (o1c.out.ext (by repeat (first | (with_reducible exact Ext.refl _) | (with_reducible refine Ext.alloc ?_ _) | (with_reducible apply Ext.setC; focus (simp <;> omega)) | (with_reducible refine Ext.drew ?_) | (with_reducible refine Ext.drewN ?_ _) | (with_reducible refine Ext.trans ?_ (Hid.out ‹Hid (Ext _ _)›)))))).mono ?_
      rintro e w6 ⟨rfl, h6⟩
      have H6 := Lib.hid h6
      clear h6 hS
      (go_wp2_with fail; have hS : Ext wr w6 := by (repeat (first | (with_reducible exact Ext.refl _) | (with_reducible refine Ext.alloc ?_ _) | (with_reducible apply Ext.setC; focus (simp <;> omega)) | (with_reducible refine Ext.drew ?_) | (with_reducible refine Ext.drewN ?_ _) | (with_reducible refine Ext.trans ?_ (Hid.out ‹Hid (Ext _ _)›))))); (refine hK.out _ _ (.inr hS) ?_; clear hK; (try simp only [Act.put, List.setIfInBounds_toArray, List.set_cons_zero, List.set_cons_succ]))
      ((refine T_only (i := 8) rfl (by kernel_rfl) rfl (fun K hK => ?_); go_simp; refine hK.out _ _ (.inr hS) ?_; clear hK; (try simp only [Act.put, List.setIfInBounds_toArray, List.set_cons_zero, List.set_cons_succ])))
      ((refine T_take (i := 9) (v := ?_) rfl (by kernel_rfl) rfl hS ?_ ?_; rotate_left; focus (intro w hSw; have hk := HK.out w hSw; clear hSw; go_simp; try (with_reducible rfl))); (try simp only [Act.put, List.setIfInBounds_toArray, List.set_cons_zero, List.set_cons_succ]); (refine T_take (i := 10) (v := ?_) rfl (by kernel_rfl) rfl hS ?_ ?_; rotate_left; focus (intro w hSw; have hk := HK.out w hSw; clear hSw; go_simp; try (with_reducible rfl))); (try simp only [Act.put, List.setIfInBounds_toArray, List.set_cons_zero, List.set_cons_succ]); (refine T_take (i := 11) (v := ?_) rfl (by kernel_rfl) rfl hS ?_ ?_; rotate_left; focus (intro w hSw; have hk := HK.out w hSw; clear hSw; go_simp; try (with_reducible rfl))); (try simp only [Act.put, List.setIfInBounds_toArray, List.set_cons_zero, List.set_cons_succ]))
      (refine T_only (i := 12) rfl (by kernel_rfl) rfl (fun K hK => ?_); go_simp; refine hK.out _ _ (.inl (by kernel_rfl)) ?_; clear hK; (try simp only [Act.put, List.setIfInBounds_toArray, List.set_cons_zero, List.set_cons_succ]); refine T_done (by kernel_rfl) ?_ _)
      obtain ⟨k0, k1, k2, k3⟩ := HK.out w6 hS
      have hl6 : w.heap.size + 1 < w6.heap.size := by have := hS.size; omega
      clear hS
      have hwr : IntKind.i64.wrap (k + 1 : Int) = ((k + 1 : Nat) : Int) := by rw [IntWalk.i64_in _ (by omega)]; omega
      by_cases hv : v = 1
      · have hvb : (v == 1) = true := by simpa using hv
        by_cases hid : id = p0
        · have hidb : (id == p0) = true := by simpa using hid
          have hra := HRA.out
          rw [if_pos ⟨hid.symm, hv⟩] at hra
          have hw1 : IntKind.i64.wrap (rr - 1) = ra := by rw [← hra]; exact IntWalk.i64_in _ (by omega)
          clear hra
          clear hv hid hri
          go_wp2_with fail
          (try (go_quiet (fail); go_wp2_with fail))
          go_roundg (l.tickets.length - (k + 1))
          case measure => omega
          case rel => exact ⟨k + 1, by omega, by omega, by go_num, (show Ext w3 _ by repeat (first | (with_reducible exact Ext.refl _) | (with_reducible refine Ext.alloc ?_ _) | (with_reducible apply Ext.setC; focus (simp <;> omega)) | (with_reducible refine Ext.drew ?_) | (with_reducible refine Ext.drewN ?_ _) | (with_reducible refine Ext.trans ?_ (Hid.out ‹Hid (Ext _ _)›))))⟩
        · have hidb : (id == p0) = false := by simpa using hid
          have hra := HRA.out
          rw [if_neg (fun h => hid h.1.symm), Int.sub_zero] at hra
          subst hra
          have hw1 : IntKind.i64.wrap rr = rr := IntWalk.i64_in _ (by omega)
          clear hv hid hri
          go_wp2_with fail
          (try (go_quiet (fail); go_wp2_with fail))
          go_roundg (l.tickets.length - (k + 1))
          case measure => omega
          case rel => exact ⟨k + 1, by omega, by omega, by go_num, (show Ext w3 _ by repeat (first | (with_reducible exact Ext.refl _) | (with_reducible refine Ext.alloc ?_ _) | (with_reducible apply Ext.setC; focus (simp <;> omega)) | (with_reducible refine Ext.drew ?_) | (with_reducible refine Ext.drewN ?_ _) | (with_reducible refine Ext.trans ?_ (Hid.out ‹Hid (Ext _ _)›))))⟩
      · have hvb : (v == 1) = false := by simpa using hv
        have hra := HRA.out
        rw [if_neg (fun h => hv h.2), Int.sub_zero] at hra
        subst hra
        have hw1 : IntKind.i64.wrap rr = rr := IntWalk.i64_in _ (by omega)
        clear hv hri
        go_wp2_with fail
        (try (go_quiet (fail); go_wp2_with fail))
        go_roundg (l.tickets.length - (k + 1))
        case measure => omega
        case rel => exact ⟨k + 1, by omega, by omega, by go_num, (show Ext w3 _ by repeat (first | (with_reducible exact Ext.refl _) | (with_reducible refine Ext.alloc ?_ _) | (with_reducible apply Ext.setC; focus (simp <;> omega)) | (with_reducible refine Ext.drew ?_) | (with_reducible refine Ext.drewN ?_ _) | (with_reducible refine Ext.trans ?_ (Hid.out ‹Hid (Ext _ _)›))))⟩
    · have hge : ¬ (k : Int) < (l.tickets.length : Int) := by omega
      go_wp2_with fail
      (refine (HG1.out _ (by repeat (first | (with_reducible exact Ext.refl _) | (with_reducible refine Ext.alloc ?_ _) | (with_reducible apply Ext.setC; focus (simp <;> omega)) | (with_reducible refine Ext.drew ?_) | (with_reducible refine Ext.drewN ?_ _) | (with_reducible refine Ext.trans ?_ (Hid.out ‹Hid (Ext _ _)›))))).mono ?_; rintro e w5 ⟨rfl, h5⟩; have H5 := Lib.hid h5; have hz5 := h5.size; clear h5; (try simp only [World.size_alloc, size_set, World.heap_drewN, size_drew] at hz5); apply Row.use (w := w5) (g := w.heap.size + 1); (focus (repeat (first | (with_reducible exact Hid.out ‹Hid (Row _ _ _)›) | (with_reducible exact Row.newAt rfl) | (with_reducible apply Row.newAt; (simp; done)) | (with_reducible apply Row.set_) | (with_reducible apply Row.far; focus (simp <;> omega)) | (with_reducible apply Row.alloc) | (with_reducible apply Row.drew) | (with_reducible apply Row.drewN) | (with_reducible apply Row.ext (Hid.out ‹Hid (Ext _ _)›))))); intro q5_0 f5_0 l5_0 R5_0; (try simp only [List.setIfInBounds_toArray, List.set_cons_zero, List.set_cons_succ] at q5_0 R5_0); apply Row.use (w := w5) (g := w1.heap.size); (focus (repeat (first | (with_reducible exact Hid.out ‹Hid (Row _ _ _)›) | (with_reducible exact Row.newAt rfl) | (with_reducible apply Row.newAt; (simp; done)) | (with_reducible apply Row.set_) | (with_reducible apply Row.far; focus (simp <;> omega)) | (with_reducible apply Row.alloc) | (with_reducible apply Row.drew) | (with_reducible apply Row.drewN) | (with_reducible apply Row.ext (Hid.out ‹Hid (Ext _ _)›))))); intro q5_1 f5_1 l5_1 R5_1; (try simp only [List.setIfInBounds_toArray, List.set_cons_zero, List.set_cons_succ] at q5_1 R5_1))
      go_wp2_with fail
      (refine (HG2.out _ _ _ _ (o1a.out.ext (by repeat (first | (with_reducible exact Ext.refl _) | (with_reducible refine Ext.alloc ?_ _) | (with_reducible apply Ext.setC; focus (simp <;> omega)) | (with_reducible refine Ext.drew ?_) | (with_reducible refine Ext.drewN ?_ _) | (with_reducible refine Ext.trans ?_ (Hid.out ‹Hid (Ext _ _)›))))) (o1b.out.ext (by repeat (first | (with_reducible exact Ext.refl _) | (with_reducible refine Ext.alloc ?_ _) | (with_reducible apply Ext.setC; focus (simp <;> omega)) | (with_reducible refine Ext.drew ?_) | (with_reducible refine Ext.drewN ?_ _) | (with_reducible refine Ext.trans ?_ (Hid.out ‹Hid (Ext _ _)›))))) (o1c.out.ext (by repeat (first | (with_reducible exact Ext.refl _) | (with_reducible refine Ext.alloc ?_ _) | (with_reducible apply Ext.setC; focus (simp <;> omega)) | (with_reducible refine Ext.drew ?_) | (with_reducible refine Ext.drewN ?_ _) | (with_reducible refine Ext.trans ?_ (Hid.out ‹Hid (Ext _ _)›)))))).mono ?_; rintro e w6 ⟨rfl, h6⟩; have H6 := Lib.hid h6; have hz6 := h6.size; clear h6; (try simp only [World.size_alloc, size_set, World.heap_drewN, size_drew] at hz6); apply Row.use (w := w6) (g := w1.heap.size); (focus (repeat (first | (with_reducible exact Hid.out ‹Hid (Row _ _ _)›) | (with_reducible exact Row.newAt rfl) | (with_reducible apply Row.newAt; (simp; done)) | (with_reducible apply Row.set_) | (with_reducible apply Row.far; focus (simp <;> omega)) | (with_reducible apply Row.alloc) | (with_reducible apply Row.drew) | (with_reducible apply Row.drewN) | (with_reducible apply Row.ext (Hid.out ‹Hid (Ext _ _)›))))); intro q6_0 f6_0 l6_0 R6_0; (try simp only [List.setIfInBounds_toArray, List.set_cons_zero, List.set_cons_succ] at q6_0 R6_0))
      have hc1 := HC1.out
      have hc2 := HC2.out
      have hn1 := HN1.out
      have hn2 := HN2.out
      have q1 : IntKind.i64.wrap ((z1 : Int) + (z2 : Int)) = (z1 : Int) + (z2 : Int) := IntWalk.i64_in _ (by split at hc1 <;> split at hc2 <;> omega)
      have q2 : IntKind.i64.wrap ((x1 : Int) + (x2 : Int)) = (x1 : Int) + (x2 : Int) := IntWalk.i64_in _ (by omega)
      have q3 : IntKind.i64.wrap ((x1 : Int) + (x2 : Int) + 1) = (x1 : Int) + (x2 : Int) + 1 := IntWalk.i64_in _ (by omega)
      have q4 : IntKind.i64.wrap ((x1 : Int) + 1) = (x1 : Int) + 1 := IntWalk.i64_in _ (by omega)
      rcases HV.out with hv | hv
      · subst hv
        have b1 : ((z1 : Int) + (z2 : Int) == (x1 : Int) + (x2 : Int) + 1) = true := by simp at hc1 hc2 ⊢; omega
        have b2 : ((z1 : Int) == (x1 : Int) + 1) = true := by simp at hc1 ⊢; omega
        clear hc1 hc2 hn1 hn2
        go_wp2_with fail
        go_ret
        exact ⟨rfl, (show Ext w _ by repeat (first | (with_reducible exact Ext.refl _) | (with_reducible refine Ext.alloc ?_ _) | (with_reducible apply Ext.setC; focus (simp <;> omega)) | (with_reducible refine Ext.drew ?_) | (with_reducible refine Ext.drewN ?_ _) | (with_reducible refine Ext.trans ?_ (Hid.out ‹Hid (Ext _ _)›))))⟩
      · subst hv
        have b1 : ((z1 : Int) + (z2 : Int) == (x1 : Int) + (x2 : Int) + 1) = true := by simp at hc1 hc2 ⊢; omega
        have b2 : ((z1 : Int) == (x1 : Int) + 1) = false := by simp at hc1 ⊢; omega
        clear hc1 hc2 hn1 hn2
        go_wp2_with fail
        go_ret
        exact ⟨rfl, (show Ext w _ by repeat (first | (with_reducible exact Ext.refl _) | (with_reducible refine Ext.alloc ?_ _) | (with_reducible apply Ext.setC; focus (simp <;> omega)) | (with_reducible refine Ext.drew ?_) | (with_reducible refine Ext.drewN ?_ _) | (with_reducible refine Ext.trans ?_ (Hid.out ‹Hid (Ext _ _)›))))⟩
end Go.Proofs.Ytbboonepfmkgnaa

/- Sums over gates, tickets, times: the plain side. -/
namespace Go.Proofs.Ytbboonepfmkgnaa
set_option linter.unusedSimpArgs false
set_option linter.unusedVariables false
set_option maxRecDepth 100000
open Go Go.RowKit Lb

/-- how many there are with verdict u, of taps and verdicts side by side -/
theorem cntAll_eq (f : Tp → Bool) (tks : List Tk) (taps : List Tp) (vs : List Int) (u : Int) (h : taps.length = vs.length) : cntAll f ⟨tks, taps, vs⟩ u = ((taps.zip vs).filter (fun x => f x.1 && x.2 == u)).length := by
  unfold cntAll cntTo
  simp only
  rw [List.take_length, List.take_of_length_le (by omega)]
theorem gates_sum (u : Int) : ∀ (z : List (Tp × Int)), (∀ x ∈ z, 0 ≤ x.1.gate ∧ x.1.gate < 3) →
    (z.filter (fun x => atGate 0 x.1 && x.2 == u)).length + (z.filter (fun x => atGate 1 x.1 && x.2 == u)).length + (z.filter (fun x => atGate 2 x.1 && x.2 == u)).length = (z.filter (fun x => x.2 == u)).length
  | [], _ => rfl
  | x :: z, h => by
    have ih := gates_sum u z (fun y hy => h y (List.mem_cons_of_mem _ hy))
    have hx := h x (List.mem_cons_self ..)
    have hg : x.1.gate = 0 ∨ x.1.gate = 1 ∨ x.1.gate = 2 := by omega
    cases hu : (x.2 == u)
    · simp [List.filter_cons, hu]; simpa using ih
    · rcases hg with hg | hg | hg
      all_goals
        simp only [List.filter_cons, atGate, hu, hg, Bool.and_true, beq_self_eq_true, if_true, Bool.false_eq_true, if_false, List.length_cons, show ((0 : Int) == 1) = false from rfl, show ((0 : Int) == 2) = false from rfl, show ((1 : Int) == 0) = false from rfl, show ((1 : Int) == 2) = false from rfl, show ((2 : Int) == 0) = false from rfl, show ((2 : Int) == 1) = false from rfl] at ih ⊢
        omega
theorem verdicts_sum : ∀ (z : List (Tp × Int)), (∀ x ∈ z, x.2 = 1 ∨ x.2 = 2) → (z.filter (fun x => x.2 == 1)).length + (z.filter (fun x => x.2 == 2)).length = z.length
  | [], _ => rfl
  | x :: z, h => by
    have ih := verdicts_sum z (fun y hy => h y (List.mem_cons_of_mem _ hy))
    rcases h x (List.mem_cons_self ..) with hx | hx
    all_goals
      simp [List.filter_cons, hx]
      omega
/-- rides of the first k tickets -/
def ridesSum (tks : List Tk) (z : List (Tp × Int)) (k : Nat) : Nat := ((tks.take k).map fun t => (z.filter (isRide t.id)).length).sum
theorem ridesSum_zero (tks : List Tk) (z : List (Tp × Int)) : ridesSum tks z 0 = 0 := by simp [ridesSum]
theorem ridesSum_succ (tks : List Tk) (z : List (Tp × Int)) (k : Nat) (h : k < tks.length) : ridesSum tks z (k + 1) = ridesSum tks z k + (z.filter (isRide tks[k].id)).length := by
  unfold ridesSum
  rw [List.take_succ_eq_append_getElem h]
  simp only [List.map_append, List.map_cons, List.map_nil, List.sum_append, List.sum_cons, List.sum_nil, Nat.add_zero]
theorem rides_tickets (tks : List Tk) (hs : tks.Pairwise (fun a b => a.id < b.id)) : ∀ (z : List (Tp × Int)), (∀ x ∈ z, ∃ t ∈ tks, t.id = x.1.ticket) →
    (tks.map fun t => (z.filter (isRide t.id)).length).sum = (z.filter (fun x => x.2 == 1)).length
  | [], _ => by
    have : ∀ l : List Tk, (l.map fun t => (([] : List (Tp × Int)).filter (isRide t.id)).length).sum = 0 := by
      intro l
      induction l with
      | nil => rfl
      | cons a l ih => simpa using ih
    simpa using this tks
  | x :: z, h => by
    have ih := rides_tickets tks hs z (fun y hy => h y (List.mem_cons_of_mem _ hy))
    obtain ⟨t, ht, hid⟩ := h x (List.mem_cons_self ..)
    by_cases hv : x.2 = 1
    · -- just one ticket has it
      have one : ∀ (l : List Tk), l.Pairwise (fun a b => a.id < b.id) → (l.map fun t => ((x :: z).filter (isRide t.id)).length).sum = (l.map fun t => (z.filter (isRide t.id)).length).sum + (if l.any (fun t => t.id == x.1.ticket) then 1 else 0) := by
        intro l
        induction l with
        | nil => intro _; rfl
        | cons a l ih2 =>
          intro hl
          obtain ⟨h1, h2⟩ := List.pairwise_cons.1 hl
          have ih3 := ih2 h2
          simp only [List.map_cons, List.sum_cons, List.any_cons, ih3]
          by_cases ha : a.id = x.1.ticket
          · have hno : l.any (fun t => t.id == x.1.ticket) = false := by
              rw [List.any_eq_false]
              intro t ht
              have := h1 t ht
              simp
              omega
            have hr : isRide a.id x = true := by simp [isRide, ha, hv]
            rw [List.filter_cons, hr]
            simp [ha, hno]
            omega
          · have hr : isRide a.id x = false := by
              unfold isRide
              rw [show (x.1.ticket == a.id) = false by rw [beq_eq_false_iff_ne]; exact fun h => ha h.symm]
              rfl
            rw [List.filter_cons, hr]
            simp [ha]
            omega
      rw [one tks hs, ih, List.filter_cons]
      have hany : tks.any (fun t => t.id == x.1.ticket) = true := List.any_eq_true.2 ⟨t, ht, by simpa using hid⟩
      simp [hany, hv]
    · have hr : ∀ id, isRide id x = false := by
        intro id
        unfold isRide
        rw [show (x.2 == 1) = false by simpa using hv]
        simp
      have hm : (tks.map fun t => ((x :: z).filter (isRide t.id)).length) = (tks.map fun t => (z.filter (isRide t.id)).length) := by
        apply List.map_congr_left
        intro t _
        rw [List.filter_cons, hr]
        rfl
      rw [hm, ih, List.filter_cons]
      simp [hv]
theorem ckTaps_known (tks : List Tk) : ∀ (l : List Tp) (vl : List Int) (pre : List Tp) (pv : List Int), l.length = vl.length → ckTaps tks pre pv l vl = 0 → ∀ p ∈ l, ckTap p = 0 ∧ ∃ t ∈ tks, t.id = p.ticket
  | [], [], _, _, _, _ => by simp
  | p :: l, v :: vl, pre, pv, hl, h => by
    unfold ckTaps at h
    by_cases hc : ckTapAt tks pre pv p v = 0
    · rw [if_neg (by simpa using hc)] at h
      intro x hx
      rcases List.mem_cons.1 hx with rfl | hx
      · refine ⟨ckTapAt_tap hc, ?_⟩
        obtain ⟨ht, -⟩ := tapV_of_ckTapAt hc
        obtain ⟨-, t, ht, -⟩ := tapV_ok (tks := tks) (taps := pre) (vs := pv) (p := x) (by rw [ht])
        obtain ⟨h1, h2⟩ := ticketOf_mem ht
        exact ⟨t, h1, h2⟩
      · exact ckTaps_known tks l vl _ _ (by simpa using hl) h x hx
    · rw [if_pos hc] at h; exact absurd h hc
  | [], _ :: _, _, _, hl, _ => by simp at hl
  | _ :: _, [], _, _, hl, _ => by simp at hl
theorem right_known {l : Ld} (h : ckLedger l = 0) : ∀ p ∈ l.taps, ckTap p = 0 ∧ ∃ t ∈ l.tickets, t.id = p.ticket := ckTaps_known _ _ _ _ _ (right_len h) (right_iff.1 h).2.2.2.2

/-- all gates together have what there was -/
theorem sums_gates {l : Ld} (h : ckLedger l = 0) : cntAll (atGate 0) l 1 + cntAll (atGate 1) l 1 + cntAll (atGate 2) l 1 = ((l.taps.zip l.verdicts).filter (fun x => x.2 == 1)).length ∧
    cntAll (atGate 0) l 1 + cntAll (atGate 0) l 2 + (cntAll (atGate 1) l 1 + cntAll (atGate 1) l 2) + (cntAll (atGate 2) l 1 + cntAll (atGate 2) l 2) = l.taps.length := by
  have hlen := right_len h
  have hz : ∀ x ∈ l.taps.zip l.verdicts, 0 ≤ x.1.gate ∧ x.1.gate < 3 := fun x hx => gate_in (right_known h x.1 (List.of_mem_zip hx).1).1
  have hv : ∀ x ∈ l.taps.zip l.verdicts, x.2 = 1 ∨ x.2 = 2 := fun x hx => right_vs h x.2 (List.of_mem_zip hx).2
  have e : ∀ g u, cntAll (atGate g) l u = ((l.taps.zip l.verdicts).filter (fun x => atGate g x.1 && x.2 == u)).length := fun g u => cntAll_eq (atGate g) l.tickets l.taps l.verdicts u hlen
  have h1 := gates_sum 1 _ hz
  have h2 := gates_sum 2 _ hz
  have h3 := verdicts_sum _ hv
  have h4 : (l.taps.zip l.verdicts).length = l.taps.length := by rw [List.length_zip]; omega
  rw [e, e, e, e, e, e]
  omega
theorem sums_tickets {l : Ld} (h : ckLedger l = 0) : ridesSum l.tickets (l.taps.zip l.verdicts) l.tickets.length = ((l.taps.zip l.verdicts).filter (fun x => x.2 == 1)).length := by
  unfold ridesSum
  rw [List.take_length]
  exact rides_tickets l.tickets (right_sorted h) _ (fun x hx => (right_known h x.1 (List.of_mem_zip hx).1).2)
/-- times that stand side by side -/
theorem sums_times (m : Int) (h0 : 0 ≤ m) (h1 : m < 9999) : ∀ (taps : List Tp), (∀ x ∈ taps, 0 ≤ x.time ∧ x.time ≤ 9999) → taps.countP (betw 0 m) + taps.countP (betw (m + 1) 9999) = taps.length
  | [], _ => rfl
  | x :: l, h => by
    have ih := sums_times m h0 h1 l (fun y hy => h y (List.mem_cons_of_mem _ hy))
    have hx := h x (List.mem_cons_self ..)
    rw [List.countP_cons, List.countP_cons, List.length_cons]
    by_cases hc : x.time ≤ m
    · have a : betw 0 m x = true := by simp [betw]; omega
      have b : betw (m + 1) 9999 x = false := by simp [betw]; omega
      rw [a, b]
      simp
      omega
    · have a : betw 0 m x = false := by simp [betw]; omega
      have b : betw (m + 1) 9999 x = true := by simp [betw]; omega
      rw [a, b]
      simp
      omega
end Go.Proofs.Ytbboonepfmkgnaa

/- The law AuditSums. -/
namespace Go.Proofs.Ytbboonepfmkgnaa
set_option linter.unusedSimpArgs false
set_option linter.unusedVariables false
set_option maxRecDepth 100000
open Go Go.RowKit Lb

def gsum (l : Ld) : Nat → Nat
  | 0 => 0
  | k + 1 => gsum l k + (cntAll (atGate (k : Int)) l 1 + cntAll (atGate (k : Int)) l 2)
def rsum (l : Ld) : Nat → Nat
  | 0 => 0
  | k + 1 => rsum l k + cntAll (atGate (k : Int)) l 1
theorem gsum_le {l : Ld} (h : l.taps.length ≤ 60) : ∀ k, gsum l k ≤ 120 * k ∧ rsum l k ≤ 60 * k
  | 0 => by simp [gsum, rsum]
  | k + 1 => by
    have ih := gsum_le h k
    have h1 : cntAll (atGate (k : Int)) l 1 ≤ 60 := Nat.le_trans (cntTo_le _ _ _ _ _) h
    have h2 : cntAll (atGate (k : Int)) l 2 ≤ 60 := Nat.le_trans (cntTo_le _ _ _ _ _) h
    unfold gsum rsum
    omega
theorem ridesSum_le (tks : List Tk) (z : List (Tp × Int)) (h : ∀ id, (z.filter (isRide id)).length ≤ 60) : ∀ k, ridesSum tks z k ≤ 60 * k
  | 0 => by simp [ridesSum_zero]
  | k + 1 => by
    have ih := ridesSum_le tks z h k
    by_cases hk : k < tks.length
    · rw [ridesSum_succ tks z k hk]
      have := h tks[k].id
      omega
    · have : ridesSum tks z (k + 1) = ridesSum tks z k := by
        unfold ridesSum
        rw [List.take_of_length_le (by omega), List.take_of_length_le (by omega)]
      omega
theorem rides_all {l : Ld} (h : ckLedger l = 0) {t : Tk} (ht : t ∈ l.tickets) : ridesAll l t.id = (((((l.taps.zip l.verdicts).filter (isRide t.id)).length : Nat) : Int), 0) := by
  unfold ridesAll
  rw [if_neg (by simpa using h), ticketOf_self (right_sorted h) ht, if_neg (by simp)]
  unfold manyL ridesOf
  rw [List.length_map]
theorem betw_all {l : Ld} (h : ckLedger l = 0) {a b : Int} (h1 : 0 ≤ a ∧ a ≤ 9999) (h2 : 0 ≤ b ∧ b ≤ 9999) (h3 : a ≤ b) : betwAu l a b = ((l.taps.countP (betw a b) : Int), 0) := by
  unfold betwAu
  rw [if_neg (by simpa using h), if_neg (by omega), if_neg (by omega)]
  have h4 := cnt_both (betw a b) l.taps l.verdicts (right_len h) (right_vs h) l.taps.length (Nat.le_refl _)
  unfold cntAll
  unfold manyTo at h4
  rw [List.take_length] at h4
  rw [← h4]
  simp

set_option maxHeartbeats 64000000 in
theorem law_AuditSums (l : Ld) (s0 s1 s2 : Value) (mid : Int) (w : World) (hr0 : RdL 6 tkc w s0 l.tickets) (hr1 : RdL 5 tpc w s1 l.taps) (hr2 : RdL 1 inc w s2 l.verdicts) :
    Calls Try.prog 9 #[.agg #[s0, s1, s2], .int .i64 mid] w fun e w' => e = .returned (.bool true) ∧ Ext w w' := by
  have HB := Lib.hid (fun (w' : World) => law_ledgerBegun w')
  have HBA := Lib.hid (fun (w' : World) => law_auditBegun w')
  have HCK := Lib.hid (fun (w' : World) (h : Ext w w') => ledger_Check l.tickets l.taps l.verdicts s0 s1 s2 w' (hr0.ext h) (hr1.ext h) (hr2.ext h))
  rw [show (⟨l.tickets, l.taps, l.verdicts⟩ : Ld) = l from rfl] at HCK
  have HL := Lib.hid (fun (id : Int) (w' : World) (h : Ext w w') => audit_Left l.tickets l.taps l.verdicts s0 s1 s2 id w' (hr0.ext h) (hr1.ext h) (hr2.ext h))
  have HG := Lib.hid (fun (g : Int) (w' : World) (h : Ext w w') => audit_Gate l.tickets l.taps l.verdicts s0 s1 s2 g w' (hr0.ext h) (hr1.ext h) (hr2.ext h))
  have HBT := Lib.hid (fun (a b : Int) (w' : World) (h : Ext w w') => audit_Between l.tickets l.taps l.verdicts s0 s1 s2 a b w' (hr0.ext h) (hr1.ext h) (hr2.ext h))
  have HRI := Lib.hid (fun (id : Int) (w' : World) (h : Ext w w') => ledger_Rides l s0 s1 s2 id w' (hr0.ext h) (hr1.ext h) (hr2.ext h))
  have HTR := Lib.hid hr0
  have hm : l.tickets.length ≤ 9223372036854775807 := by
    obtain ⟨A, c, -, h1, h2⟩ := hr0.form
    unfold maxLen at h2
    omega
  obtain ⟨A0, c0, rfl, -, -⟩ := hr0.form
  obtain ⟨A, c, rfl, -, -⟩ := hr1.form
  obtain ⟨A2, c2, rfl, -, -⟩ := hr2.form
  clear hr0 hr1 hr2
  by_cases hq : ckLedger l = 0
  case neg =>
    have hqb : (ckLedger l != 0) = true := by simpa using hq
    generalize ckLedger l = q at *
    clear hq
    go_enter Try.func9, Try.ntmps9
    go_wp2_with fail
    (refine (HBA.out _).mono ?_; rintro e w1 ⟨rfl, h1⟩; have H1 := Lib.hid h1; have hz1 := h1.size; clear h1; (try simp only [World.size_alloc, size_set, World.heap_drewN, size_drew] at hz1); apply Row.use (w := w1) (g := w.heap.size); (focus (repeat (first | (with_reducible exact Hid.out ‹Hid (Row _ _ _)›) | (with_reducible exact Row.newAt rfl) | (with_reducible apply Row.newAt; (simp; done)) | (with_reducible apply Row.set_) | (with_reducible apply Row.far; focus (simp <;> omega)) | (with_reducible apply Row.alloc) | (with_reducible apply Row.drew) | (with_reducible apply Row.drewN) | (with_reducible apply Row.ext (Hid.out ‹Hid (Ext _ _)›))))); intro q1_0 f1_0 l1_0 R1_0; (try simp only [List.setIfInBounds_toArray, List.set_cons_zero, List.set_cons_succ] at q1_0 R1_0))
    go_wp2_with fail
    (refine (HB.out _).mono ?_; rintro e w2 ⟨rfl, h2⟩; have H2 := Lib.hid h2; have hz2 := h2.size; clear h2; (try simp only [World.size_alloc, size_set, World.heap_drewN, size_drew] at hz2); apply Row.use (w := w2) (g := w.heap.size); (focus (repeat (first | (with_reducible exact Hid.out ‹Hid (Row _ _ _)›) | (with_reducible exact Row.newAt rfl) | (with_reducible apply Row.newAt; (simp; done)) | (with_reducible apply Row.set_) | (with_reducible apply Row.far; focus (simp <;> omega)) | (with_reducible apply Row.alloc) | (with_reducible apply Row.drew) | (with_reducible apply Row.drewN) | (with_reducible apply Row.ext (Hid.out ‹Hid (Ext _ _)›))))); intro q2_0 f2_0 l2_0 R2_0; (try simp only [List.setIfInBounds_toArray, List.set_cons_zero, List.set_cons_succ] at q2_0 R2_0))
    go_wp2_with fail
    (refine (HCK.out _ (by repeat (first | (with_reducible exact Ext.refl _) | (with_reducible refine Ext.alloc ?_ _) | (with_reducible apply Ext.setC; focus (simp <;> omega)) | (with_reducible refine Ext.drew ?_) | (with_reducible refine Ext.drewN ?_ _) | (with_reducible refine Ext.trans ?_ (Hid.out ‹Hid (Ext _ _)›))))).mono ?_; rintro e w3 ⟨rfl, h3⟩; have H3 := Lib.hid h3; have hz3 := h3.size; clear h3; (try simp only [World.size_alloc, size_set, World.heap_drewN, size_drew] at hz3); apply Row.use (w := w3) (g := w.heap.size); (focus (repeat (first | (with_reducible exact Hid.out ‹Hid (Row _ _ _)›) | (with_reducible exact Row.newAt rfl) | (with_reducible apply Row.newAt; (simp; done)) | (with_reducible apply Row.set_) | (with_reducible apply Row.far; focus (simp <;> omega)) | (with_reducible apply Row.alloc) | (with_reducible apply Row.drew) | (with_reducible apply Row.drewN) | (with_reducible apply Row.ext (Hid.out ‹Hid (Ext _ _)›))))); intro q3_0 f3_0 l3_0 R3_0; (try simp only [List.setIfInBounds_toArray, List.set_cons_zero, List.set_cons_succ] at q3_0 R3_0))
    go_wp2_with fail
    go_ret
    exact ⟨rfl, (show Ext w _ by repeat (first | (with_reducible exact Ext.refl _) | (with_reducible refine Ext.alloc ?_ _) | (with_reducible apply Ext.setC; focus (simp <;> omega)) | (with_reducible refine Ext.drew ?_) | (with_reducible refine Ext.drewN ?_ _) | (with_reducible refine Ext.trans ?_ (Hid.out ‹Hid (Ext _ _)›))))⟩
  have h60 := (right_iff.1 hq).2.1
  have HL2 := Lib.hid (fun (i : Nat) (hi : i < l.tickets.length) (w' : World) (h : Ext w w') => by
    have h1 := HL.out l.tickets[i].id w' h
    rw [show (⟨l.tickets, l.taps, l.verdicts⟩ : Ld) = l from rfl, left_of hq (List.getElem_mem hi)] at h1
    exact h1)
  have HR2 := Lib.hid (fun (i : Nat) (hi : i < l.tickets.length) (w' : World) (h : Ext w w') => by
    have h1 := HRI.out l.tickets[i].id w' h
    rw [rides_all hq (List.getElem_mem hi)] at h1
    exact h1)
  have HNN := Lib.hid (fun (i : Nat) (hi : i < l.tickets.length) => by
    have h1 := rides_most l.tickets l.tickets[i] (List.getElem_mem hi) _ l.taps l.verdicts rfl hq
    exact (show 0 ≤ restOf l l.tickets[i] by unfold restOf; omega))
  have HG2 := Lib.hid (fun (k : Nat) (hk : k < 3) (w' : World) (h : Ext w w') => by
    have h1 := HG.out (k : Int) w' h
    rw [show (⟨l.tickets, l.taps, l.verdicts⟩ : Ld) = l from rfl, gate_of hq ⟨by omega, by omega⟩] at h1
    exact h1)
  have HB1 := Lib.hid (fun (hm : 0 ≤ mid ∧ mid < 9999) (w' : World) (h : Ext w w') => by
    have h1 := HBT.out 0 mid w' h
    rw [show (⟨l.tickets, l.taps, l.verdicts⟩ : Ld) = l from rfl, betw_all hq ⟨by omega, by omega⟩ ⟨by omega, by omega⟩ (by omega)] at h1
    exact h1)
  have HB2 := Lib.hid (fun (hm : 0 ≤ mid ∧ mid < 9999) (w' : World) (h : Ext w w') => by
    have h1 := HBT.out (mid + 1) 9999 w' h
    rw [show (⟨l.tickets, l.taps, l.verdicts⟩ : Ld) = l from rfl, betw_all hq ⟨by omega, by omega⟩ ⟨by omega, by omega⟩ (by omega)] at h1
    exact h1)
  have HST := Lib.hid (fun (hm : 0 ≤ mid ∧ mid < 9999) => sums_times mid hm.1 hm.2 l.taps (right_times hq))
  have HSG := Lib.hid (sums_gates hq)
  have HSK := Lib.hid (sums_tickets hq)
  have HGL := Lib.hid (@gsum_le l h60)
  have HRS := Lib.hid (fun (k : Nat) (h : k < l.tickets.length) => ridesSum_succ l.tickets (l.taps.zip l.verdicts) k h)
  have HZL := Lib.hid (fun (id : Int) => show ((l.taps.zip l.verdicts).filter (isRide id)).length ≤ 60 from by
    refine Nat.le_trans (List.length_filter_le _ _) ?_
    rw [List.length_zip]
    omega)
  have HSL := Lib.hid (ridesSum_le l.tickets (l.taps.zip l.verdicts) HZL.out)
  have h12 := (right_iff.1 hq).1
  have H12 := Lib.hid h12
  have H60 := Lib.hid h60
  rw [hq] at HCK
  clear HL HG HBT HRI hq h60 h12 hm
  go_enter Try.func9, Try.ntmps9
  go_wp2_with fail
  (refine (HBA.out _).mono ?_; rintro e w1 ⟨rfl, h1⟩; have H1 := Lib.hid h1; have hz1 := h1.size; clear h1; (try simp only [World.size_alloc, size_set, World.heap_drewN, size_drew] at hz1); apply Row.use (w := w1) (g := w.heap.size); (focus (repeat (first | (with_reducible exact Hid.out ‹Hid (Row _ _ _)›) | (with_reducible exact Row.newAt rfl) | (with_reducible apply Row.newAt; (simp; done)) | (with_reducible apply Row.set_) | (with_reducible apply Row.far; focus (simp <;> omega)) | (with_reducible apply Row.alloc) | (with_reducible apply Row.drew) | (with_reducible apply Row.drewN) | (with_reducible apply Row.ext (Hid.out ‹Hid (Ext _ _)›))))); intro q1_0 f1_0 l1_0 R1_0; (try simp only [List.setIfInBounds_toArray, List.set_cons_zero, List.set_cons_succ] at q1_0 R1_0))
  go_wp2_with fail
  (refine (HB.out _).mono ?_; rintro e w2 ⟨rfl, h2⟩; have H2 := Lib.hid h2; have hz2 := h2.size; clear h2; (try simp only [World.size_alloc, size_set, World.heap_drewN, size_drew] at hz2); apply Row.use (w := w2) (g := w.heap.size); (focus (repeat (first | (with_reducible exact Hid.out ‹Hid (Row _ _ _)›) | (with_reducible exact Row.newAt rfl) | (with_reducible apply Row.newAt; (simp; done)) | (with_reducible apply Row.set_) | (with_reducible apply Row.far; focus (simp <;> omega)) | (with_reducible apply Row.alloc) | (with_reducible apply Row.drew) | (with_reducible apply Row.drewN) | (with_reducible apply Row.ext (Hid.out ‹Hid (Ext _ _)›))))); intro q2_0 f2_0 l2_0 R2_0; (try simp only [List.setIfInBounds_toArray, List.set_cons_zero, List.set_cons_succ] at q2_0 R2_0))
  go_wp2_with fail
  (refine (HCK.out _ (by repeat (first | (with_reducible exact Ext.refl _) | (with_reducible refine Ext.alloc ?_ _) | (with_reducible apply Ext.setC; focus (simp <;> omega)) | (with_reducible refine Ext.drew ?_) | (with_reducible refine Ext.drewN ?_ _) | (with_reducible refine Ext.trans ?_ (Hid.out ‹Hid (Ext _ _)›))))).mono ?_; rintro e w3 ⟨rfl, h3⟩; have H3 := Lib.hid h3; have hz3 := h3.size; clear h3; (try simp only [World.size_alloc, size_set, World.heap_drewN, size_drew] at hz3); apply Row.use (w := w3) (g := w.heap.size); (focus (repeat (first | (with_reducible exact Hid.out ‹Hid (Row _ _ _)›) | (with_reducible exact Row.newAt rfl) | (with_reducible apply Row.newAt; (simp; done)) | (with_reducible apply Row.set_) | (with_reducible apply Row.far; focus (simp <;> omega)) | (with_reducible apply Row.alloc) | (with_reducible apply Row.drew) | (with_reducible apply Row.drewN) | (with_reducible apply Row.ext (Hid.out ‹Hid (Ext _ _)›))))); intro q3_0 f3_0 l3_0 R3_0; (try simp only [List.setIfInBounds_toArray, List.set_cons_zero, List.set_cons_succ] at q3_0 R3_0))
  go_wp2_with fail
  go_loopg [5, 6, 7, 8, 9, 10] 3 (fun gg s5 s6 s7 _ _ _ wr => ∃ k : Nat, k ≤ 3 ∧ 3 - k ≤ gg ∧ s5 = .int .i64 (gsum l k : Nat) ∧ s6 = .int .i64 (rsum l k : Nat) ∧ s7 = .int .i64 k ∧ Aside (Ext w3 wr))
  case atStart => exact ⟨0, by omega, by omega, rfl, rfl, rfl, Ext.refl _⟩
  case round =>
    obtain ⟨k, hk, hg, rfl, rfl, rfl, HEW⟩ := hrel
    have H4 := Lib.hid HEW.out
    clear HEW
    (apply Row.use (w := wr) (g := w.heap.size); (focus (repeat (first | (with_reducible exact Hid.out ‹Hid (Row _ _ _)›) | (with_reducible exact Row.newAt rfl) | (with_reducible apply Row.newAt; (simp; done)) | (with_reducible apply Row.set_) | (with_reducible apply Row.far; focus (simp <;> omega)) | (with_reducible apply Row.alloc) | (with_reducible apply Row.drew) | (with_reducible apply Row.drewN) | (with_reducible apply Row.ext (Hid.out ‹Hid (Ext _ _)›))))); intro qr_0 fr_0 lr_0 Rr_0; (try simp only [List.setIfInBounds_toArray, List.set_cons_zero, List.set_cons_succ] at qr_0 Rr_0))
    by_cases hlt : k < 3
    · have hlt' : (k : Int) < 3 := by omega
      have hgl := HGL.out k
      have hgl2 := HGL.out (k + 1)
      have hg1 : gsum l (k + 1) = gsum l k + (cntAll (atGate (k : Int)) l 1 + cntAll (atGate (k : Int)) l 2) := rfl
      have hr1 : rsum l (k + 1) = rsum l k + cntAll (atGate (k : Int)) l 1 := rfl
      have HGG := Lib.hid (fun (w' : World) (h : Ext w w') => HG2.out k hlt w' h)
      generalize cntAll (atGate (k : Int)) l 1 = x1 at *
      generalize cntAll (atGate (k : Int)) l 2 = x2 at *
      generalize gsum l k = g0 at *
      generalize rsum l k = r0 at *
      generalize hgn : gsum l (k + 1) = gn at *
      generalize hrn : rsum l (k + 1) = rn at *
      have HGN := Lib.hid hgn
      have HRN := Lib.hid hrn
      have q1 : IntKind.i64.wrap ((x1 : Int) + (x2 : Int)) = (x1 : Int) + (x2 : Int) := IntWalk.i64_in _ (by omega)
      have q2 : IntKind.i64.wrap ((g0 : Int) + ((x1 : Int) + (x2 : Int))) = (gn : Int) := by rw [IntWalk.i64_in _ (by omega)]; omega
      have q3 : IntKind.i64.wrap ((r0 : Int) + (x1 : Int)) = (rn : Int) := by rw [IntWalk.i64_in _ (by omega)]; omega
      have q4 : IntKind.i64.wrap ((k : Int) + 1) = ((k + 1 : Nat) : Int) := by rw [IntWalk.i64_in _ (by omega)]; omega
      clear hgl hgl2 hg1 hr1 hgn hrn
      go_wp2_with fail
      (refine (HGG.out _ (by repeat (first | (with_reducible exact Ext.refl _) | (with_reducible refine Ext.alloc ?_ _) | (with_reducible apply Ext.setC; focus (simp <;> omega)) | (with_reducible refine Ext.drew ?_) | (with_reducible refine Ext.drewN ?_ _) | (with_reducible refine Ext.trans ?_ (Hid.out ‹Hid (Ext _ _)›))))).mono ?_; rintro e w5 ⟨rfl, h5⟩; have H5 := Lib.hid h5; have hz5 := h5.size; clear h5; (try simp only [World.size_alloc, size_set, World.heap_drewN, size_drew] at hz5); apply Row.use (w := w5) (g := w.heap.size); (focus (repeat (first | (with_reducible exact Hid.out ‹Hid (Row _ _ _)›) | (with_reducible exact Row.newAt rfl) | (with_reducible apply Row.newAt; (simp; done)) | (with_reducible apply Row.set_) | (with_reducible apply Row.far; focus (simp <;> omega)) | (with_reducible apply Row.alloc) | (with_reducible apply Row.drew) | (with_reducible apply Row.drewN) | (with_reducible apply Row.ext (Hid.out ‹Hid (Ext _ _)›))))); intro q5_0 f5_0 l5_0 R5_0; (try simp only [List.setIfInBounds_toArray, List.set_cons_zero, List.set_cons_succ] at q5_0 R5_0))
      go_wp2_with fail
      go_roundg (3 - (k + 1))
      case measure => omega
      case rel => exact ⟨k + 1, by omega, by omega, by rw [HGN.out], by rw [HRN.out], by go_num, (show Ext w3 _ by repeat (first | (with_reducible exact Ext.refl _) | (with_reducible refine Ext.alloc ?_ _) | (with_reducible apply Ext.setC; focus (simp <;> omega)) | (with_reducible refine Ext.drew ?_) | (with_reducible refine Ext.drewN ?_ _) | (with_reducible refine Ext.trans ?_ (Hid.out ‹Hid (Ext _ _)›))))⟩
    · have hge : ¬ (k : Int) < 3 := by omega
      have hk3 : k = 3 := by omega
      subst hk3
      obtain ⟨wo, rfl⟩ : ∃ wo : World, wo = wr := ⟨_, rfl⟩
      have HGE := Lib.hid (show gsum l 3 = l.taps.length by
        have := HSG.out.2
        simp only [gsum]
        simp only [Int.natCast_zero, Int.natCast_one, show ((0 : Nat) : Int) = 0 from rfl, show ((0 + 1 : Nat) : Int) = 1 from rfl, show ((1 : Nat) : Int) = 1 from rfl, show ((2 : Nat) : Int) = 2 from rfl, show ((0 + 1 + 1 : Nat) : Int) = 2 from rfl] at this ⊢
        omega)
      have HRE := Lib.hid (show rsum l 3 = ridesSum l.tickets (l.taps.zip l.verdicts) l.tickets.length by
        have h1 := HSG.out.1
        have h2 := HSK.out
        rw [h2, ← h1]
        simp only [rsum]
        simp only [Int.natCast_zero, Int.natCast_one, show ((0 : Nat) : Int) = 0 from rfl, show ((0 + 1 : Nat) : Int) = 1 from rfl, show ((1 : Nat) : Int) = 1 from rfl, show ((2 : Nat) : Int) = 2 from rfl, show ((0 + 1 + 1 : Nat) : Int) = 2 from rfl]
        omega)
      generalize gsum l 3 = ga at *
      generalize rsum l 3 = ra at *
      clear HGL HG2 HSG HSK
      go_wp2_with fail
      go_loopg [6, 11, 12, 13, 14, 15] l.tickets.length (fun gg s6 s11 _ _ _ _ wr => ∃ k : Nat, k ≤ l.tickets.length ∧ l.tickets.length - k ≤ gg ∧ s6 = .int .i64 ((ra : Int) - (ridesSum l.tickets (l.taps.zip l.verdicts) k : Nat)) ∧ s11 = .int .i64 k ∧ Aside (Ext w3 wr))
      case atStart => exact ⟨0, by omega, by omega, by rw [ridesSum_zero]; simp, rfl, H4.out⟩
      case round =>
        obtain ⟨k, hk, hg, rfl, rfl, HEW⟩ := hrel
        have H5 := Lib.hid HEW.out
        clear HEW H4 qr_0 fr_0 lr_0 Rr_0
        (apply Row.use (w := wr) (g := w.heap.size); (focus (repeat (first | (with_reducible exact Hid.out ‹Hid (Row _ _ _)›) | (with_reducible exact Row.newAt rfl) | (with_reducible apply Row.newAt; (simp; done)) | (with_reducible apply Row.set_) | (with_reducible apply Row.far; focus (simp <;> omega)) | (with_reducible apply Row.alloc) | (with_reducible apply Row.drew) | (with_reducible apply Row.drewN) | (with_reducible apply Row.ext (Hid.out ‹Hid (Ext _ _)›))))); intro qs_0 fs_0 ls_0 Rs_0; (try simp only [List.setIfInBounds_toArray, List.set_cons_zero, List.set_cons_succ] at qs_0 Rs_0))
        by_cases hlt : k < l.tickets.length
        · have hlt' : (k : Int) < (l.tickets.length : Int) := by omega
          obtain ⟨tb, tof, rfl, htb, g0, -⟩ := (HTR.out.ext (show Ext w wr by repeat (first | (with_reducible exact Ext.refl _) | (with_reducible refine Ext.alloc ?_ _) | (with_reducible apply Ext.setC; focus (simp <;> omega)) | (with_reducible refine Ext.drew ?_) | (with_reducible refine Ext.drewN ?_ _) | (with_reducible refine Ext.trans ?_ (Hid.out ‹Hid (Ext _ _)›))))).tk_at rfl hlt
          have HL3 := Lib.hid (fun (w' : World) (h : Ext w w') => HL2.out k hlt w' h)
          have HR3 := Lib.hid (fun (w' : World) (h : Ext w w') => HR2.out k hlt w' h)
          have hnn := HNN.out k hlt
          have hsu := HRS.out k hlt
          have hzl := HZL.out l.tickets[k].id
          generalize restOf l l.tickets[k] = rr at *
          generalize ((l.taps.zip l.verdicts).filter (isRide l.tickets[k].id)).length = n at *
          generalize l.tickets[k].id = id at *
          have hsl := HSL.out k
          have hsl2 := HSL.out (k + 1)
          have h12 := H12.out
          have hra := HRE.out
          have hsl3 := HSL.out l.tickets.length
          generalize ridesSum l.tickets (l.taps.zip l.verdicts) k = u at *
          generalize hu2 : ridesSum l.tickets (l.taps.zip l.verdicts) (k + 1) = u2 at *
          generalize ridesSum l.tickets (l.taps.zip l.verdicts) l.tickets.length = u3 at *
          have HU2 := Lib.hid hu2
          have q1 : IntKind.i64.wrap ((ra : Int) - (u : Int) - (n : Int)) = (ra : Int) - (u2 : Int) := by rw [IntWalk.i64_in _ (by omega)]; omega
          have q4 : IntKind.i64.wrap ((k : Int) + 1) = ((k + 1 : Nat) : Int) := by rw [IntWalk.i64_in _ (by omega)]; omega
          have hnd : decide (rr < 0) = false := decide_eq_false (by omega)
          clear hnn hsu hzl hsl hsl2 h12 hra hsl3 hu2
          have HK := Lib.hid (fun (w' : World) (h : Ext wr w') => And.intro (Row.ext h Rs_0.out).2.1 (((h.cells _ _ htb).trans g0)))
          go_upto_region 17 with fail
          (refine T_begin (fun w' => Ext wr w') 12 (by kernel_rfl) ((Ext.refl _).drew) (fun hS => ?_); simp only [List.length_cons, List.length_nil])
          ((refine T_take (i := 0) (v := ?_) rfl (by kernel_rfl) rfl hS ?_ ?_; rotate_left; focus (intro w hSw; have hk := HK.out w hSw; clear hSw; go_simp; try (with_reducible rfl))); (try simp only [Act.put, List.setIfInBounds_toArray, List.set_cons_zero, List.set_cons_succ]); (refine T_take (i := 1) (v := ?_) rfl (by kernel_rfl) rfl hS ?_ ?_; rotate_left; focus (intro w hSw; have hk := HK.out w hSw; clear hSw; go_simp; try (with_reducible rfl))); (try simp only [Act.put, List.setIfInBounds_toArray, List.set_cons_zero, List.set_cons_succ]); (refine T_take (i := 2) (v := ?_) rfl (by kernel_rfl) rfl hS ?_ ?_; rotate_left; focus (intro w hSw; have hk := HK.out w hSw; clear hSw; go_simp; try (with_reducible rfl))); (try simp only [Act.put, List.setIfInBounds_toArray, List.set_cons_zero, List.set_cons_succ]); (refine T_take (i := 3) (v := ?_) rfl (by kernel_rfl) rfl hS ?_ ?_; rotate_left; focus (intro w hSw; have hk := HK.out w hSw; clear hSw; go_simp; try (with_reducible rfl))); (try simp only [Act.put, List.setIfInBounds_toArray, List.set_cons_zero, List.set_cons_succ]); (refine T_take (i := 4) (v := ?_) rfl (by kernel_rfl) rfl hS ?_ ?_; rotate_left; focus (intro w hSw; have hk := HK.out w hSw; clear hSw; go_simp; try (with_reducible rfl))); (try simp only [Act.put, List.setIfInBounds_toArray, List.set_cons_zero, List.set_cons_succ]); (refine T_take (i := 5) (v := ?_) rfl (by kernel_rfl) rfl hS ?_ ?_; rotate_left; focus (intro w hSw; have hk := HK.out w hSw; clear hSw; go_simp; try (with_reducible rfl))); (try simp only [Act.put, List.setIfInBounds_toArray, List.set_cons_zero, List.set_cons_succ]); (refine T_take (i := 6) (v := ?_) rfl (by kernel_rfl) rfl hS ?_ ?_; rotate_left; focus (intro w hSw; have hk := HK.out w hSw; clear hSw; go_simp; try (with_reducible rfl))); (try simp only [Act.put, List.setIfInBounds_toArray, List.set_cons_zero, List.set_cons_succ]))
          (refine T_only (i := 7) rfl (by kernel_rfl) rfl (fun K hK => ?_); go_simp)
          refine (HL3.out _ (by repeat (first | (with_reducible exact Ext.refl _) | (with_reducible refine Ext.alloc ?_ _) | (with_reducible apply Ext.setC; focus (simp <;> omega)) | (with_reducible refine Ext.drew ?_) | (with_reducible refine Ext.drewN ?_ _) | (with_reducible refine Ext.trans ?_ (Hid.out ‹Hid (Ext _ _)›))))).mono ?_
          rintro e w5 ⟨rfl, h5⟩
          have H6 := Lib.hid h5
          clear h5 hS
          (go_wp2_with fail; have hS : Ext wr w5 := by (repeat (first | (with_reducible exact Ext.refl _) | (with_reducible refine Ext.alloc ?_ _) | (with_reducible apply Ext.setC; focus (simp <;> omega)) | (with_reducible refine Ext.drew ?_) | (with_reducible refine Ext.drewN ?_ _) | (with_reducible refine Ext.trans ?_ (Hid.out ‹Hid (Ext _ _)›))))); (refine hK.out _ _ (.inr hS) ?_; clear hK; (try simp only [Act.put, List.setIfInBounds_toArray, List.set_cons_zero, List.set_cons_succ]))
          ((refine T_only (i := 8) rfl (by kernel_rfl) rfl (fun K hK => ?_); go_simp; refine hK.out _ _ (.inr hS) ?_; clear hK; (try simp only [Act.put, List.setIfInBounds_toArray, List.set_cons_zero, List.set_cons_succ])))
          ((refine T_take (i := 9) (v := ?_) rfl (by kernel_rfl) rfl hS ?_ ?_; rotate_left; focus (intro w hSw; have hk := HK.out w hSw; clear hSw; go_simp; try (with_reducible rfl))); (try simp only [Act.put, List.setIfInBounds_toArray, List.set_cons_zero, List.set_cons_succ]); (refine T_take (i := 10) (v := ?_) rfl (by kernel_rfl) rfl hS ?_ ?_; rotate_left; focus (intro w hSw; have hk := HK.out w hSw; clear hSw; go_simp; try (with_reducible rfl))); (try simp only [Act.put, List.setIfInBounds_toArray, List.set_cons_zero, List.set_cons_succ]); (refine T_take (i := 11) (v := ?_) rfl (by kernel_rfl) rfl hS ?_ ?_; rotate_left; focus (intro w hSw; have hk := HK.out w hSw; clear hSw; go_simp; try (with_reducible rfl))); (try simp only [Act.put, List.setIfInBounds_toArray, List.set_cons_zero, List.set_cons_succ]))
          (refine T_only (i := 12) rfl (by kernel_rfl) rfl (fun K hK => ?_); go_simp; refine hK.out _ _ (.inl (by kernel_rfl)) ?_; clear hK; (try simp only [Act.put, List.setIfInBounds_toArray, List.set_cons_zero, List.set_cons_succ]); refine T_done (by kernel_rfl) ?_ _)
          go_upto_region 18 with fail
          (refine T_begin (fun w' => Ext wr w') 12 (by kernel_rfl) (Ext.drew hS) (fun hS => ?_); simp only [List.length_cons, List.length_nil])
          ((refine T_take (i := 0) (v := ?_) rfl (by kernel_rfl) rfl hS ?_ ?_; rotate_left; focus (intro w hSw; have hk := HK.out w hSw; clear hSw; go_simp; try (with_reducible rfl))); (try simp only [Act.put, List.setIfInBounds_toArray, List.set_cons_zero, List.set_cons_succ]); (refine T_take (i := 1) (v := ?_) rfl (by kernel_rfl) rfl hS ?_ ?_; rotate_left; focus (intro w hSw; have hk := HK.out w hSw; clear hSw; go_simp; try (with_reducible rfl))); (try simp only [Act.put, List.setIfInBounds_toArray, List.set_cons_zero, List.set_cons_succ]); (refine T_take (i := 2) (v := ?_) rfl (by kernel_rfl) rfl hS ?_ ?_; rotate_left; focus (intro w hSw; have hk := HK.out w hSw; clear hSw; go_simp; try (with_reducible rfl))); (try simp only [Act.put, List.setIfInBounds_toArray, List.set_cons_zero, List.set_cons_succ]); (refine T_take (i := 3) (v := ?_) rfl (by kernel_rfl) rfl hS ?_ ?_; rotate_left; focus (intro w hSw; have hk := HK.out w hSw; clear hSw; go_simp; try (with_reducible rfl))); (try simp only [Act.put, List.setIfInBounds_toArray, List.set_cons_zero, List.set_cons_succ]); (refine T_take (i := 4) (v := ?_) rfl (by kernel_rfl) rfl hS ?_ ?_; rotate_left; focus (intro w hSw; have hk := HK.out w hSw; clear hSw; go_simp; try (with_reducible rfl))); (try simp only [Act.put, List.setIfInBounds_toArray, List.set_cons_zero, List.set_cons_succ]); (refine T_take (i := 5) (v := ?_) rfl (by kernel_rfl) rfl hS ?_ ?_; rotate_left; focus (intro w hSw; have hk := HK.out w hSw; clear hSw; go_simp; try (with_reducible rfl))); (try simp only [Act.put, List.setIfInBounds_toArray, List.set_cons_zero, List.set_cons_succ]); (refine T_take (i := 6) (v := ?_) rfl (by kernel_rfl) rfl hS ?_ ?_; rotate_left; focus (intro w hSw; have hk := HK.out w hSw; clear hSw; go_simp; try (with_reducible rfl))); (try simp only [Act.put, List.setIfInBounds_toArray, List.set_cons_zero, List.set_cons_succ]))
          (refine T_only (i := 7) rfl (by kernel_rfl) rfl (fun K hK => ?_); go_simp)
          refine (HR3.out _ (by repeat (first | (with_reducible exact Ext.refl _) | (with_reducible refine Ext.alloc ?_ _) | (with_reducible apply Ext.setC; focus (simp <;> omega)) | (with_reducible refine Ext.drew ?_) | (with_reducible refine Ext.drewN ?_ _) | (with_reducible refine Ext.trans ?_ (Hid.out ‹Hid (Ext _ _)›))))).mono ?_
          rintro e w6 ⟨rfl, h6⟩
          have H7 := Lib.hid h6
          clear h6 hS
          (go_wp2_with fail; have hS : Ext wr w6 := by (repeat (first | (with_reducible exact Ext.refl _) | (with_reducible refine Ext.alloc ?_ _) | (with_reducible apply Ext.setC; focus (simp <;> omega)) | (with_reducible refine Ext.drew ?_) | (with_reducible refine Ext.drewN ?_ _) | (with_reducible refine Ext.trans ?_ (Hid.out ‹Hid (Ext _ _)›))))); (refine hK.out _ _ (.inr hS) ?_; clear hK; (try simp only [Act.put, List.setIfInBounds_toArray, List.set_cons_zero, List.set_cons_succ]))
          ((refine T_only (i := 8) rfl (by kernel_rfl) rfl (fun K hK => ?_); go_simp; refine hK.out _ _ (.inr hS) ?_; clear hK; (try simp only [Act.put, List.setIfInBounds_toArray, List.set_cons_zero, List.set_cons_succ])))
          ((refine T_take (i := 9) (v := ?_) rfl (by kernel_rfl) rfl hS ?_ ?_; rotate_left; focus (intro w hSw; have hk := HK.out w hSw; clear hSw; go_simp; try (with_reducible rfl))); (try simp only [Act.put, List.setIfInBounds_toArray, List.set_cons_zero, List.set_cons_succ]); (refine T_take (i := 10) (v := ?_) rfl (by kernel_rfl) rfl hS ?_ ?_; rotate_left; focus (intro w hSw; have hk := HK.out w hSw; clear hSw; go_simp; try (with_reducible rfl))); (try simp only [Act.put, List.setIfInBounds_toArray, List.set_cons_zero, List.set_cons_succ]); (refine T_take (i := 11) (v := ?_) rfl (by kernel_rfl) rfl hS ?_ ?_; rotate_left; focus (intro w hSw; have hk := HK.out w hSw; clear hSw; go_simp; try (with_reducible rfl))); (try simp only [Act.put, List.setIfInBounds_toArray, List.set_cons_zero, List.set_cons_succ]))
          (refine T_only (i := 12) rfl (by kernel_rfl) rfl (fun K hK => ?_); go_simp; refine hK.out _ _ (.inl (by kernel_rfl)) ?_; clear hK; (try simp only [Act.put, List.setIfInBounds_toArray, List.set_cons_zero, List.set_cons_succ]); refine T_done (by kernel_rfl) ?_ _)
          clear hS
          go_wp2_with fail
          go_roundg (l.tickets.length - (k + 1))
          case measure => omega
          case rel => exact ⟨k + 1, by omega, by omega, by rw [HU2.out], by go_num, (show Ext w3 _ by repeat (first | (with_reducible exact Ext.refl _) | (with_reducible refine Ext.alloc ?_ _) | (with_reducible apply Ext.setC; focus (simp <;> omega)) | (with_reducible refine Ext.drew ?_) | (with_reducible refine Ext.drewN ?_ _) | (with_reducible refine Ext.trans ?_ (Hid.out ‹Hid (Ext _ _)›))))⟩
        · have hge : ¬ (k : Int) < (l.tickets.length : Int) := by omega
          have hkl : k = l.tickets.length := by omega
          subst hkl
          have hge0 : ((ga : Int) != (l.taps.length : Int)) = false := by rw [HGE.out]; simp
          have hge1 : ((ga : Int) == (l.taps.length : Int)) = true := by rw [HGE.out]; simp
          have hra : ((ra : Int) - ((ridesSum l.tickets (l.taps.zip l.verdicts) l.tickets.length : Nat) : Int)) = 0 := by rw [← HRE.out]; omega
          by_cases h0 : mid < 0
          · have hd0 : decide (mid < 0) = true := decide_eq_true h0
            clear h0
            go_wp2_with fail
            go_ret
            exact ⟨rfl, (show Ext w _ by repeat (first | (with_reducible exact Ext.refl _) | (with_reducible refine Ext.alloc ?_ _) | (with_reducible apply Ext.setC; focus (simp <;> omega)) | (with_reducible refine Ext.drew ?_) | (with_reducible refine Ext.drewN ?_ _) | (with_reducible refine Ext.trans ?_ (Hid.out ‹Hid (Ext _ _)›))))⟩
          have hd0 : decide (mid < 0) = false := decide_eq_false h0
          by_cases h1 : 9999 ≤ mid
          · have hd1 : decide (9999 ≤ mid) = true := decide_eq_true h1
            clear h0 h1
            go_wp2_with fail
            go_ret
            exact ⟨rfl, (show Ext w _ by repeat (first | (with_reducible exact Ext.refl _) | (with_reducible refine Ext.alloc ?_ _) | (with_reducible apply Ext.setC; focus (simp <;> omega)) | (with_reducible refine Ext.drew ?_) | (with_reducible refine Ext.drewN ?_ _) | (with_reducible refine Ext.trans ?_ (Hid.out ‹Hid (Ext _ _)›))))⟩
          have hd1 : decide (9999 ≤ mid) = false := decide_eq_false h1
          have HBB1 := Lib.hid (HB1.out ⟨by omega, by omega⟩)
          have HBB2 := Lib.hid (HB2.out ⟨by omega, by omega⟩)
          have hst := HST.out ⟨by omega, by omega⟩
          generalize l.taps.countP (betw 0 mid) = c1 at *
          generalize l.taps.countP (betw (mid + 1) 9999) = c2 at *
          have h60 := H60.out
          have q1 : IntKind.i64.wrap (mid + 1) = mid + 1 := IntWalk.i64_in _ (by omega)
          have q2 : IntKind.i64.wrap ((c1 : Int) + (c2 : Int)) = (ga : Int) := by
            have := HGE.out
            rw [IntWalk.i64_in _ (by omega)]
            omega
          clear h0 h1 hst h60
          go_wp2_with fail
          (refine (HBB1.out _ (by repeat (first | (with_reducible exact Ext.refl _) | (with_reducible refine Ext.alloc ?_ _) | (with_reducible apply Ext.setC; focus (simp <;> omega)) | (with_reducible refine Ext.drew ?_) | (with_reducible refine Ext.drewN ?_ _) | (with_reducible refine Ext.trans ?_ (Hid.out ‹Hid (Ext _ _)›))))).mono ?_; rintro e w6 ⟨rfl, h6⟩; have H6 := Lib.hid h6; have hz6 := h6.size; clear h6; (try simp only [World.size_alloc, size_set, World.heap_drewN, size_drew] at hz6); apply Row.use (w := w6) (g := w.heap.size); (focus (repeat (first | (with_reducible exact Hid.out ‹Hid (Row _ _ _)›) | (with_reducible exact Row.newAt rfl) | (with_reducible apply Row.newAt; (simp; done)) | (with_reducible apply Row.set_) | (with_reducible apply Row.far; focus (simp <;> omega)) | (with_reducible apply Row.alloc) | (with_reducible apply Row.drew) | (with_reducible apply Row.drewN) | (with_reducible apply Row.ext (Hid.out ‹Hid (Ext _ _)›))))); intro q6_0 f6_0 l6_0 R6_0; (try simp only [List.setIfInBounds_toArray, List.set_cons_zero, List.set_cons_succ] at q6_0 R6_0))
          go_wp2_with fail
          (refine (HBB2.out _ (by repeat (first | (with_reducible exact Ext.refl _) | (with_reducible refine Ext.alloc ?_ _) | (with_reducible apply Ext.setC; focus (simp <;> omega)) | (with_reducible refine Ext.drew ?_) | (with_reducible refine Ext.drewN ?_ _) | (with_reducible refine Ext.trans ?_ (Hid.out ‹Hid (Ext _ _)›))))).mono ?_; rintro e w7 ⟨rfl, h7⟩; have H7 := Lib.hid h7; have hz7 := h7.size; clear h7; (try simp only [World.size_alloc, size_set, World.heap_drewN, size_drew] at hz7))
          go_wp2_with fail
          go_ret
          exact ⟨rfl, (show Ext w _ by repeat (first | (with_reducible exact Ext.refl _) | (with_reducible refine Ext.alloc ?_ _) | (with_reducible apply Ext.setC; focus (simp <;> omega)) | (with_reducible refine Ext.drew ?_) | (with_reducible refine Ext.drewN ?_ _) | (with_reducible refine Ext.trans ?_ (Hid.out ‹Hid (Ext _ _)›))))⟩
end Go.Proofs.Ytbboonepfmkgnaa

namespace Go.Proofs.Ytbboonepfmkgnaa
set_option linter.unusedSimpArgs false
set_option linter.unusedVariables false
open Go.ChangeShapes Go.WideShapes Go.ChangeAt Go.RowKit
open Go.ChangeMaps (open_string shut_string)

set_option maxRecDepth 100000 in
theorem auditSums_lifted (os : Os) (started : os.Started) (H : Type) (enc : TypeId × Value → H) :
    ReturnsInHanded {} Try.checked os 9 .any (Rows.auditSumsSpec.pre6 enc Try.prog Try.f9 Rows.auditSumsRow.domain false) (Rows.auditSumsSpec.post enc Try.prog Try.f9 false true false false) := by
  refine returnsInHanded_of_change (C := Try.checked) own started (by kernel_rfl) Try.func9
    (ChangeSpec.witness6 (enc := enc) (C := Try.checked) false ⟨#[], #[.agg #[.slice none 0 0, .slice none 0 0, .slice none 0 0], .int .i64 0], []⟩ 8 (by kernel_rfl) (by kernel_rfl) (by kernel_rfl) (by kernel_rfl)) ?_
  intro W base args ds gs before hval0 hW hcnd _
  have hval : ∀ (j : Nat) t v, Try.f9.params[j]? = some t → args[j]? = some v → Value.okWide Try.prog W .any base t v := hval0
  have hW' := hW
  obtain ⟨p, q, hA0, hV, rfl, hfz, hnd⟩ := hW
  have hA : DataW.TrodAll enc Try.prog W 0 (fun _ => true) true Try.f9.params.toList args.toList ds p := hA0
  rw [Try.params9] at hA hval
  obtain ⟨v0, vs0, d0, ds0, p0, q0, hargs, rfl, rfl, h0, r0⟩ := trodAll_cons hA
  obtain ⟨v1, vs1, d1, ds1, p1, q1, rfl, rfl, rfl, h1, r1⟩ := trodAll_cons r0
  obtain ⟨rfl, rfl, rfl⟩ := trodAll_nil r1
  obtain rfl : args = #[v0, v1] := by cases args; simp_all
  obtain ⟨rfl, rfl⟩ := trodVars_none hV
  have k0 := h0
  have lt0 : ∀ x ∈ p0, x.block < W.heap.size := by obtain ⟨m, hm⟩ := k0; exact DataW.trod_lt m _ _ _ hm
  have k1 := h1
  have lt1 : ∀ x ∈ p1, x.block < W.heap.size := by obtain ⟨m, hm⟩ := k1; exact DataW.trod_lt m _ _ _ hm
  obtain ⟨l0, sk0, sp0, sv0, rfl, e0, f0, i0⟩ := open_ld (hval 0 26 v0 rfl rfl) h0
  obtain ⟨a1, rfl, b1⟩ := open_i64 (hval 1 3 v1 rfl rfl) h1
  clear hA0 hval0
  refine (law_AuditSums l0 sk0 sp0 sv0 a1 W e0 f0 i0).mono fun e W' ⟨he, bel⟩ => ?_
  subst he
  exact ⟨_, rfl, _, _, _, [], _, [], hW', trodAll_mk1 (shut_bool Try.underlying4 _), (trodAll_cons_mk (Below.trod laidOut (by kernel_rfl) (of_decide_eq_true (by kernel_rfl)) k0 bel lt0) (trodAll_cons_mk (Below.trod laidOut (by kernel_rfl) (of_decide_eq_true (by kernel_rfl)) k1 bel lt1) trodAll_mk0)), rfl, bel.frame _, fun h => by cases h⟩

theorem auditSums_holds : Rows.AuditSumsSaid :=
  OpenClaim.holds_of_wide 9 Try.f9 rfl rfl rfl rfl rfl rfl rfl ⟨rfl, rfl, rfl, rfl, rfl⟩ rfl rfl rfl rfl rfl (by kernel_rfl) Try.func9 (by kernel_rfl)
    (of_decide_eq_true (by kernel_rfl)) (by unfold Func.isWrapper; first | (rw [if_pos (by decide +kernel)]; kernel_rfl) | (rw [if_neg (by decide +kernel)]; exact ⟨rfl, rfl⟩))
    (fun os started H enc _ => auditSums_lifted os started H enc)

end Go.Proofs.Ytbboonepfmkgnaa
