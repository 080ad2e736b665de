/- Mc: parts of the proofs, laid together. -/
import Derived.Shelf.Spec.SlicesInsert
import Derived.Shelf.Spec.SlicesInsertGrow
import Derived.Test.YteojjbhadgkfgaaDoorMb
import Derived.Test.YteojjbhadgkfgaaDoorMa
/- ledger's keeper.enter. -/
namespace Go.Proofs.YteojjbhadgkfgaaDoor
set_option linter.unusedSimpArgs false
set_option linter.unusedVariables false
set_option maxRecDepth 100000
open Go Go.RowKit Lb

theorem ckTaps_times (tks : List Tk) : ∀ (l : List Tp) (vl : List Int) (pre : List Tp) (pv : List Int), l.length = vl.length → ckTaps tks pre pv l vl = 0 → ∀ x ∈ l, 0 ≤ x.time ∧ x.time ≤ 9999
 | [], [], _, _, _, _ => by simp
 | p :: l, v :: vl, pre, pv, hl, h => by
  unfold ckTaps at h
  by_cases hc : ckTapAt tks pre pv p v = 0
  ·rw [if_neg (by simpa using hc)] at h
   intro x hx
   rcases List.mem_cons.1 hx with rfl | hx
   ·exact time_ok (ckTapAt_tap hc)
   ·exact ckTaps_times tks l vl _ _ (by simpa using hl) h x hx
  ·rw [if_pos hc] at h; exact absurd h hc
 | [], _ :: _, _, _, hl, _ => by simp at hl
 | _ :: _, [], _, _, hl, _ => by simp at hl
theorem right_times {l : Ld} (h : ckLedger l = 0) : ∀ x ∈ l.taps, 0 ≤ x.time ∧ x.time ≤ 9999 := ckTaps_times _ _ _ _ _ (right_len h) (right_iff.1 h).2.2.2.2

end Go.Proofs.YteojjbhadgkfgaaDoor

/- ledger.Raw, Enter, Rides. -/
namespace Go.Proofs.YteojjbhadgkfgaaDoor
set_option linter.unusedSimpArgs false
set_option linter.unusedVariables false
set_option maxRecDepth 100000
open Go Go.RowKit Lb

theorem OwnLd.far {base g : Nat} {w : World} {t0 t1 t2 : Value} {l : Ld} (h : OwnLd base w t0 t1 t2 l) (hg : w.heap.size ≤ g) : t0.ownBlock ≠ some g ∧ t1.ownBlock ≠ some g ∧ t2.ownBlock ≠ some g :=
 ⟨fun e => by have := (h.tk.lt g e).2; omega, fun e => by have := (h.tp.lt g e).2; omega, fun e => by have := (h.vd.lt g e).2; omega⟩

end Go.Proofs.YteojjbhadgkfgaaDoor

/- slices.Insert of one ticket. -/
namespace Go.Proofs.YteojjbhadgkfgaaDoor
set_option linter.unusedSimpArgs false
set_option linter.unusedVariables false
set_option maxRecDepth 100000
open Go Go.RowKit Go.Lib Lb

end Go.Proofs.YteojjbhadgkfgaaDoor

/- slices.Insert of one ticket into a row of the call's own. -/
namespace Go.Proofs.YteojjbhadgkfgaaDoor
set_option linter.unusedSimpArgs false
set_option linter.unusedVariables false
set_option maxRecDepth 100000
open Go Go.RowKit Go.Lib Lb

end Go.Proofs.YteojjbhadgkfgaaDoor

/- slices.BinarySearchFunc over tickets. -/
namespace Go.Proofs.YteojjbhadgkfgaaDoor
set_option linter.unusedSimpArgs false
set_option linter.unusedVariables false
set_option maxRecDepth 100000
open Go Go.RowKit Lb

end Go.Proofs.YteojjbhadgkfgaaDoor

/- ledger's keeper.sell; ledger.Sell. -/
namespace Go.Proofs.YteojjbhadgkfgaaDoor
set_option linter.unusedSimpArgs false
set_option linter.unusedVariables false
set_option maxRecDepth 100000
open Go Go.RowKit Lb

theorem tickets_sorted : ∀ {l : List Tk} {prev : Option Int}, ckTickets prev l = 0 → l.Pairwise (fun a b => a.id < b.id) ∧ ∀ n, prev = some n → ∀ t ∈ l, n < t.id
 | [], _, _ => by simp
 | x :: l, prev, h => by
  rw [ckTickets_cons] at h
  by_cases h1 : ckTicket x = 0
  ·rw [if_neg (by simpa using h1)] at h
   by_cases h2 : noRise prev x.id = true
   ·rw [if_pos h2] at h; simp at h
   ·rw [if_neg h2] at h
    obtain ⟨h3, h4⟩ := tickets_sorted h
    refine ⟨List.pairwise_cons.2 ⟨h4 x.id rfl, h3⟩, fun n hn t ht => ?_⟩
    subst hn
    have hx : n < x.id := by simp [noRise] at h2; omega
    rcases List.mem_cons.1 ht with rfl | ht
    ·exact hx
    ·have := h4 x.id rfl t ht; omega
  ·rw [if_pos h1] at h; exact absurd h h1
end Go.Proofs.YteojjbhadgkfgaaDoor

/- A ticket of all zones. -/
namespace Go.Proofs.YteojjbhadgkfgaaDoor
set_option linter.unusedSimpArgs false
set_option linter.unusedVariables false
set_option maxRecDepth 100000
open Go Go.RowKit Lb

def single (id : Int) : Tk := ⟨id, 1, 10, 500, 15, 0⟩

theorem law_single (id : Int) (w : World) :
  Calls Tryd.prog 38 #[.int .i64 id] w fun e w' => e = .returned (.agg (tkc (single id))) ∧ Ext w w' := by
 go_enter Tryd.func38, Tryd.ntmps38
 go_wp2_with fail
 refine bodyPost_ret (v := .agg (tkc (single id))) (by simp [results, Tryd.results38, go_sem, tkc, single]) rfl ⟨rfl, ?_⟩
 exact extA
end Go.Proofs.YteojjbhadgkfgaaDoor

/- Taps at a gate; the ledger of two taps. -/
namespace Go.Proofs.YteojjbhadgkfgaaDoor
set_option linter.unusedSimpArgs false
set_option linter.unusedVariables false
set_option maxRecDepth 100000
open Go Go.RowKit Lb

/-- A row of records reads as them. -/
theorem RdL.rows {α : Type} [Inhabited α] {enc : α → Array Value} {k : Nat} {W : World} (l : List α) {cs : Array Value} {g n : Nat} (h : Row W g cs) (hcs : cs.toList = encs enc l) (hk : ∀ x, (enc x).size = k) (hl : l.length ≤ maxLen) (hn : n = l.length) : RdL k enc W (.slice (some ⟨g, 0, none⟩) n n) l := by
 subst hn
 refine ⟨_, l.length, rfl, Nat.le_refl _, hl, fun _ => ⟨g, 0, rfl, h.1, fun j hj i u hu => ?_⟩⟩
 have hi : i < k := by
  rw [← hk l[j]!]
  exact (Array.getElem?_eq_some_iff.1 hu).1
 rw [getElem!_pos l j hj, ← encs_get hk l j i hj hi, ← hcs, Array.getElem?_toList] at hu
 rw [Nat.zero_add, h.2.1]
 exact hu

theorem law_at' (a b c d : Int) (w : World) :
  Calls Tryd.prog 64 #[.int .i64 a, .int .i64 b, .int .i64 c, .int .i64 d] w fun e w' => e = .returned (.agg (tpc ⟨a, b, c, d, 1⟩)) ∧ Ext w w' := by
 unfold tpc
 go_enter Tryd.func64, Tryd.ntmps64
 go_wp2
 refine bodyPost_ret (v := .agg #[.int .i64 a, .int .i64 b, .int .i64 c, .int .i64 d, .int .i64 1]) (by simp [results, Tryd.results64, go_sem]) rfl ⟨rfl, ?_⟩
 exact extA

def bookTk : List Tk := [single 1, ⟨4, 3, 0, 900, 3, 2⟩]
def bookTp : List Tp := [⟨1, 0, 1, 20, 1⟩, ⟨1, 1, 1, 60, 1⟩]
def bookL : Ld := ⟨bookTk, bookTp, [1, 2]⟩

set_option maxHeartbeats 4000000 in
theorem law_book (w : World) :
  Calls Tryd.prog 36 #[] w fun e w' => ∃ s0 s1 s2, e = .returned (.agg #[s0, s1, s2]) ∧ Ext w w' ∧ RdL 6 tkc w' s0 bookTk ∧ RdL 5 tpc w' s1 bookTp ∧ RdL 1 inc w' s2 [1, 2] := by
 have HS := Lib.hid (fun (id : Int) (w' : World) => law_single id w')
 have HA := Lib.hid (fun (a b c d : Int) (w' : World) => law_at' a b c d w')
 unfold tkc single at HS
 unfold tpc at HA
 simp only at HS HA
 go_enter Tryd.func36, Tryd.ntmps36
 go_wp2_with fail
 (refine (HS.out _ _).mono ?_; rintro e w1 ⟨rfl, h1⟩; have H1 := Lib.hid h1; have hz1 := h1.size; clear h1; (try simp only [World.size_alloc, size_set, World.heap_drewN, size_drew] at hz1); apply Row.use (w := w1) (g := w.heap.size); (focus (exact rowA)); intro q1_0 f1_0 l1_0 R1_0; (try simp only [lSet] at q1_0 R1_0))
 go_wp2_with fail
 (refine (HA.out _ _ _ _ _).mono ?_; rintro e w2 ⟨rfl, h2⟩; have H2 := Lib.hid h2; have hz2 := h2.size; clear h2; (try simp only [World.size_alloc, size_set, World.heap_drewN, size_drew] at hz2); apply Row.use (w := w2) (g := w.heap.size); (focus (exact rowA)); intro q2_0 f2_0 l2_0 R2_0; (try simp only [lSet] at q2_0 R2_0); apply Row.use (w := w2) (g := w1.heap.size); (focus (exact rowA)); intro q2_1 f2_1 l2_1 R2_1; (try simp only [lSet] at q2_1 R2_1))
 go_wp2_with fail
 (refine (HA.out _ _ _ _ _).mono ?_; rintro e w3 ⟨rfl, h3⟩; have H3 := Lib.hid h3; have hz3 := h3.size; clear h3; (try simp only [World.size_alloc, size_set, World.heap_drewN, size_drew] at hz3); apply Row.use (w := w3) (g := w.heap.size); (focus (exact rowA)); intro q3_0 f3_0 l3_0 R3_0; (try simp only [lSet] at q3_0 R3_0); apply Row.use (w := w3) (g := w1.heap.size); (focus (exact rowA)); intro q3_1 f3_1 l3_1 R3_1; (try simp only [lSet] at q3_1 R3_1))
 go_wp2_with fail
 refine bodyPost_ret (v := .agg #[.slice (some ⟨w1.heap.size, 0, none⟩) 2 2, .slice (some ⟨w3.heap.size, 0, none⟩) 2 2, .slice (some ⟨w3.heap.size + 1, 0, none⟩) 2 2]) (by simp [results, Tryd.results36, go_sem, *]) rfl ⟨_, _, _, rfl, ?_, ?_, ?_, ?_⟩
 ·exact extA
 ·apply RdL.rows bookTk (hk := tkc_size) (hl := by decide) (hn := rfl)
  focus (exact rowA)
  rfl
 ·apply RdL.rows bookTp (hk := tpc_size) (hl := by decide) (hn := rfl)
  focus (exact rowA)
  rfl
 ·apply RdL.rows [(1 : Int), 2] (hk := inc_size) (hl := by decide) (hn := rfl)
  focus (exact rowA)
  rfl
end Go.Proofs.YteojjbhadgkfgaaDoor

/- ledgerBegun. -/
namespace Go.Proofs.YteojjbhadgkfgaaDoor
set_option linter.unusedSimpArgs false
set_option linter.unusedVariables false
set_option maxRecDepth 100000
open Go Go.RowKit Lb

section
variable (s0 s1 s2 : Value) (w : World) (hr0 : RdL 6 tkc w s0 bookTk) (hr1 : RdL 5 tpc w s1 bookTp) (hr2 : RdL 1 inc w s2 [1, 2])
end

end Go.Proofs.YteojjbhadgkfgaaDoor

/- Ledgers: one tap more: rides, counts, what is left: the plain side. -/
namespace Go.Proofs.YteojjbhadgkfgaaDoor
set_option linter.unusedSimpArgs false
set_option linter.unusedVariables false
set_option maxRecDepth 100000
open Go Go.RowKit Lb

theorem ridesOf_snoc (taps : List Tp) (vs : List Int) (p : Tp) (v id : Int) (h : taps.length = vs.length) :
  ridesOf (taps ++ [p]) (vs ++ [v]) id = ridesOf taps vs id ++ (if p.ticket = id ∧ v = 1 then [p] else []) := by
 unfold ridesOf
 rw [List.zip_append h]
 simp only [List.zip_cons_cons, List.zip_nil_right, List.filter_append, List.map_append, List.filter_cons, List.filter_nil, isRide]
 by_cases hc : p.ticket = id ∧ v = 1
 ·rw [if_pos hc]
  simp [hc.1, hc.2]
 ·have hf : (p.ticket == id && v == 1) = false := by
   rw [Bool.eq_false_iff]
   intro h
   simp only [Bool.and_eq_true, beq_iff_eq] at h
   exact hc h
  rw [if_neg hc]
  simp [hf]
theorem ticketOf_self {l : List Tk} (hs : l.Pairwise (fun a b => a.id < b.id)) {t : Tk} (ht : t ∈ l) : ticketOf l t.id = some t := by
 unfold ticketOf
 induction l with
 | nil => cases ht
 | cons x l ih =>
  obtain ⟨h1, h2⟩ := List.pairwise_cons.1 hs
  rw [List.find?_cons]
  rcases List.mem_cons.1 ht with rfl | ht
  ·simp
  ·have := h1 t ht
   rw [show (x.id == t.id) = false by rw [beq_eq_false_iff_ne]; omega]
   exact ih h2 ht
theorem ticketOf_mem {l : List Tk} {id : Int} {t : Tk} (h : ticketOf l id = some t) : t ∈ l ∧ t.id = id := by
 unfold ticketOf at h
 exact ⟨List.mem_of_find?_eq_some h, by simpa using List.find?_some h⟩
theorem right_sorted {l : Ld} (h : ckLedger l = 0) : l.tickets.Pairwise (fun a b => a.id < b.id) := (tickets_sorted (right_iff.1 h).2.2.2.1).1

theorem judge_ride {t : Tk} {last : Option Int} {n : Int} {p : Tp} (h : judge t last n p = (1, 0)) : ¬ (t.kind = 1 ∧ 1 ≤ n ∨ t.kind = 3 ∧ t.rides ≤ n) := by
 unfold judge at h
 by_cases h1 : place t p.time p.zone = 0
 ·simp only [h1, ne_eq, not_true_eq_false, if_false] at h
  split at h
  ·simp at h
  ·split at h
   ·simp at h
   ·assumption
 ·simp [h1] at h
theorem rides_most (tks : List Tk) (t : Tk) (ht : t ∈ tks) : ∀ (n : Nat) (taps : List Tp) (vs : List Int), taps.length = n → ckLedger ⟨tks, taps, vs⟩ = 0 → ((ridesOf taps vs t.id).length : Int) ≤ mostOf t
 | 0, taps, vs, hn, h => by
  have h0 := most_in (tickets_mem (right_iff.1 h).2.2.2.1 t ht)
  have : taps = [] := List.eq_nil_of_length_eq_zero hn
  subst this
  have hl := ridesOf_len [] vs t.id
  simp at hl
  simp [hl]
  exact h0.1
 | n + 1, taps, vs, hn, h => by
  have hlen := right_len h
  simp only at hlen
  have h60 := (right_iff.1 h).2.1
  simp only at h60
  rcases List.eq_nil_or_concat taps with rfl | ⟨tp', p, rfl⟩
  ·simp at hn
  rcases List.eq_nil_or_concat vs with rfl | ⟨vs', v, rfl⟩
  ·simp at hlen
  simp only [List.concat_eq_append, List.length_append, List.length_singleton] at *
  obtain ⟨h1, h2, h3⟩ := right_init h
  have ih := rides_most tks t ht n tp' vs' (by omega) h1
  rw [ridesOf_snoc tp' vs' p v t.id (by omega)]
  by_cases hc : p.ticket = t.id ∧ v = 1
  ·rw [if_pos hc]
   obtain ⟨-, t', ht', -, -, hj, -⟩ := tapV_ok (tks := tks) (taps := tp') (vs := vs') (p := p) (by rw [h2])
   rw [hc.1, ticketOf_self (right_sorted h1) ht] at ht'
   injection ht' with ht'
   subst ht'
   rw [h2, hc.2] at hj
   have hr := judge_ride (show judge t _ _ p = (1, 0) from hj.symm)
   rw [hc.1] at hr
   have hk := right_kind h1 t ht
   have hm := ridesOf_len tp' vs' t.id
   simp only [List.length_append, List.length_singleton]
   have hms := most_in (tickets_mem (right_iff.1 h1).2.2.2.1 t ht)
   unfold mostOf at hms ⊢
   split
   ·omega
   ·split
    ·omega
    ·omega
  ·rw [if_neg hc]
   simpa using ih

end Go.Proofs.YteojjbhadgkfgaaDoor
