/- Mb: parts of the proofs, laid together. -/
import Derived.Test.YteojjbhadgkfgaaGreatMa
/- Ledgers: rides of beginnings; what comes of a tap at a place: the plain side. -/
namespace Lb
set_option linter.unusedVariables false
set_option maxRecDepth 100000
set_option linter.unusedSimpArgs false

/-- the rides among the first k taps -/
def ridesTo (taps : List Tp) (vs : List Int) (id : Int) (k : Nat) : List Tp := ridesOf (taps.take k) (vs.take k) id
theorem ridesTo_zero (taps : List Tp) (vs : List Int) (id : Int) : ridesTo taps vs id 0 = [] := by simp [ridesTo, ridesOf]
theorem ridesTo_succ (taps : List Tp) (vs : List Int) (id : Int) (k : Nat) (h1 : k < taps.length) (h2 : k < vs.length) :
  ridesTo taps vs id (k + 1) = if taps[k].ticket == id && vs[k] == 1 then ridesTo taps vs id k ++ [taps[k]] else ridesTo taps vs id k := by
 unfold ridesTo ridesOf
 rw [List.take_succ_eq_append_getElem h1, List.take_succ_eq_append_getElem h2, List.zip_append (by simp; omega)]
 simp only [List.zip_cons_cons, List.zip_nil_right, List.filter_append, List.map_append, List.filter_cons, List.filter_nil, isRide]
 split
 ·rename_i h
  simp only [Bool.and_eq_true, beq_iff_eq] at h
  simp [h]
 ·rename_i h
  simp only [Bool.and_eq_true, beq_iff_eq, not_and] at h
  simpa using h
theorem ridesTo_all (taps : List Tp) (vs : List Int) (id : Int) (k : Nat) (h1 : taps.length ≤ k) (h2 : vs.length ≤ k) : ridesTo taps vs id k = ridesOf taps vs id := by
 unfold ridesTo
 rw [List.take_of_length_le h1, List.take_of_length_le h2]
theorem ridesTo_mem {taps : List Tp} {vs : List Int} {id : Int} {k : Nat} {x : Tp} (h : x ∈ ridesTo taps vs id k) : x ∈ taps.take k := by
 unfold ridesTo ridesOf at h
 obtain ⟨y, hy, rfl⟩ := List.mem_map.1 h
 exact (List.of_mem_zip (List.mem_filter.1 hy).1).1
theorem ridesTo_len (taps : List Tp) (vs : List Int) (id : Int) (k : Nat) : (ridesTo taps vs id k).length ≤ k := by
 unfold ridesTo ridesOf
 rw [List.length_map]
 refine Nat.le_trans (List.length_filter_le _ _) ?_
 rw [List.length_zip]
 simp
 omega
/-- the last ride alone -/
def lastRide (l : List Tp) : List Tp := l.getLast?.toList
theorem lastRide_snoc (l : List Tp) (p : Tp) : lastRide (l ++ [p]) = [p] := by simp [lastRide]
theorem lastTime_last (l : List Tp) : lastTime (lastRide l) = lastTime l := by
 unfold lastTime lastRide
 cases l.getLast? <;> simp
theorem lastRide_mem {l : List Tp} {x : Tp} (h : x ∈ lastRide l) : x ∈ l := by
 unfold lastRide at h
 rw [Option.mem_toList] at h
 exact List.mem_of_getLast? h
/-- a tap at a place i of a ledger -/
def tapAt (tks : List Tk) (taps : List Tp) (vs : List Int) (i : Nat) (p : Tp) : Int × Int :=
 if ckTap p ≠ 0 then (0, ckTap p)
 else match ticketOf tks p.ticket with
  | none => (0, 5)
  | some t => if (taps.take i).any (sameNo p) then (0, 6)
   else if i < vs.length ∧ vs[i]! ≠ 1 ∧ vs[i]! ≠ 2 then (0, 7)
   else if lateBy (taps.take i) p then (0, 4)
   else judge t (lastTime (ridesTo taps vs p.ticket i)) (ridesTo taps vs p.ticket i).length p
/-- what Check makes of that -/
theorem ckTapAt_of {tks : List Tk} {taps : List Tp} {vs : List Int} {i : Nat} (hi : i < vs.length) (hlen : taps.length = vs.length) :
  ckTapAt tks (taps.take i) (vs.take i) (taps[i]'(by omega)) vs[i] = if (tapAt tks taps vs i (taps[i]'(by omega))).1 = 0 then (tapAt tks taps vs i (taps[i]'(by omega))).2 else if (tapAt tks taps vs i (taps[i]'(by omega))).1 ≠ vs[i] then 4 else 0 := by
 generalize hp : taps[i]'(by omega) = p
 have hv : vs[i]! = vs[i] := by simp [hi]
 unfold ckTapAt tapAt
 by_cases h1 : ckTap p = 0
 ·simp only [h1, ne_eq, not_true_eq_false, if_false]
  cases ht : ticketOf tks p.ticket with
  | none => simp
  | some t =>
   simp only [hv, hi, true_and]
   cases h2 : (taps.take i).any (sameNo p) with
   | true => simp
   | false =>
    simp only [Bool.false_eq_true, if_false]
    by_cases h3 : vs[i] ≠ 1 ∧ vs[i] ≠ 2
    ·rw [if_pos h3, if_pos h3]
     simp
    ·rw [if_neg h3, if_neg h3]
     cases h4 : lateBy (taps.take i) p with
     | true => simp
     | false =>
      simp only [Bool.false_eq_true, if_false]
      have hj := judge_cases t (lastTime (ridesTo taps vs p.ticket i)) (ridesTo taps vs p.ticket i).length p
      rw [if_neg (show ¬ (judge t (lastTime (ridesTo taps vs p.ticket i)) (ridesTo taps vs p.ticket i).length p).1 = 0 by omega)]
      rfl
 ·simp [h1]
end Lb

/- Ledgers: where a ticket is; what is wrong with tickets. -/
namespace Go.Proofs.YteojjbhadgkfgaaGreat
set_option linter.unusedSimpArgs false
set_option linter.unusedVariables false
set_option maxRecDepth 100000
open Go Go.RowKit Lb

theorem RdL.tk_at {w : World} {v : Value} {l : List Tk} (h : RdL 6 tkc w v l) {A : Option Addr} {n c : Nat} (hv : v = .slice A n c) {k : Nat} (hk : k < l.length) : ∃ b o, A = some ⟨b, o, none⟩ ∧ b < w.heap.size ∧
  w.cell? ⟨b, o + k * 6, none⟩ = some (.int .i64 l[k].id) ∧ w.cell? ⟨b, o + k * 6 + 1, none⟩ = some (.int .i64 l[k].kind) ∧ w.cell? ⟨b, o + k * 6 + 2, none⟩ = some (.int .i64 l[k].frm) ∧ w.cell? ⟨b, o + k * 6 + 3, none⟩ = some (.int .i64 l[k].til) ∧ w.cell? ⟨b, o + k * 6 + 4, none⟩ = some (.int .i64 l[k].zones) ∧ w.cell? ⟨b, o + k * 6 + 5, none⟩ = some (.int .i64 l[k].rides) := by
 obtain ⟨b, o, c', hv', hb, hc⟩ := h.at_ hk
 rw [hv] at hv'
 injection hv' with ha
 exact ⟨b, o, ha, hb, hc 0 _ rfl, hc 1 _ rfl, hc 2 _ rfl, hc 3 _ rfl, hc 4 _ rfl, hc 5 _ rfl⟩

theorem find_one (x : Tk) (id : Int) (g : Nat) (w : World) (hr : Row w g #[.int .i64 id]) :
  Calls Tryz.prog 178 #[.agg (tkc x), .pointer (some ⟨g, 0, none⟩)] w fun e w' => e = .returned (.bool (x.id == id)) ∧ Ext w w' := by
 obtain ⟨x0, x1, x2, x3, x4, x5⟩ := x
 unfold tkc
 apply Row.use hr; intro q f l R
 clear hr
 go_enter Tryz.func178, Tryz.ntmps178
 go_wp2
 all_goals
  go_ret
  refine ⟨ret_bool ?_, ?_⟩
  ·simp_all
  ·exact extA

set_option maxHeartbeats 4000000 in
theorem ledger_Find (l : List Tk) (id : Int) (v : Value) (w : World) (hr : RdL 6 tkc w v l) :
  Calls Tryz.prog 153 #[v, .int .i64 id] w fun e w' => e = .returned (.int .i64 (ixBy (fun t => t.id == id) l)) ∧ Ext w w' := by
 have HC := Lib.hid (fun (w' : World) (b : Nat) (h : Ext w w') (hb : Row w' b #[.int .i64 id]) => IndexFunc_tk (fun t => t.id == id) 178 #[.pointer (some ⟨b, 0, none⟩)] (fun args w => by simp [go_sem]) l v w' (hr.ext h) (fun W x hE => find_one x id b W (hb.ext hE)))
 obtain ⟨A, c, rfl, -, -⟩ := hr.form
 generalize ixBy (fun t : Tk => t.id == id) l = r at *
 clear hr
 go_enter Tryz.func153, Tryz.ntmps153
 go_wp2_with fail
 refine (HC.out _ _ (by exact extA) (Row.newAt rfl)).mono ?_
 rintro e w1 ⟨rfl, h1⟩
 have H1 := Lib.hid h1
 clear h1
 go_wp2_with fail
 go_ret
 refine ⟨rfl, ?_⟩
 exact extA

theorem ixBy_cons {α : Type} (p : α → Bool) (l : List α) (k : Nat) (h : k < l.length) (hn : ∀ j (hj : j < l.length), j < k → p l[j] = false) (hp : p l[k] = true) : ixBy p l = k := by
 unfold ixBy
 have : l.findIdx? p = some k := List.findIdx?_eq_some_iff_getElem.2 ⟨h, hp, fun j hj => by simpa using hn j (by omega) hj⟩
 rw [this]
theorem ixBy_none {α : Type} (p : α → Bool) (l : List α) (hn : ∀ j (hj : j < l.length), p l[j] = false) : ixBy p l = -1 := by
 unfold ixBy
 have : l.findIdx? p = none := by
  rw [List.findIdx?_eq_none_iff]
  intro x hx
  obtain ⟨j, hj, rfl⟩ := List.mem_iff_getElem.1 hx
  exact hn j hj
 rw [this]

set_option maxHeartbeats 4000000 in
theorem ref_TicketAt (l : List Tk) (id : Int) (v : Value) (w : World) (hr : RdL 6 tkc w v l) :
  Calls Tryz.prog 30 #[v, .int .i64 id] w fun e w' => e = .returned (.int .i64 (ixBy (fun t => t.id == id) l)) ∧ Ext w w' := by
 obtain ⟨A, c, rfl, hmc, hmm⟩ := hr.form
 have hm : l.length ≤ 9223372036854775807 := by unfold maxLen at hmm; omega
 have HRd := Lib.hid hr
 generalize hR : ixBy (fun t : Tk => t.id == id) l = r
 have HR := Lib.hid hR
 clear hr hmc hmm hR
 go_enter Tryz.func30, Tryz.ntmps30
 go_wp2_with fail
 go_loopg [5] l.length (fun gg s5 wr => ∃ k : Nat, k ≤ l.length ∧ l.length - k ≤ gg ∧ s5 = .int .i64 k ∧ Aside (Ext w wr) ∧ Aside (∀ j (hj : j < l.length), j < k → (l[j].id == id) = false))
 case atStart => exact ⟨0, by omega, by omega, rfl, Ext.refl _, fun j _ hj => by omega⟩
 case round =>
  obtain ⟨k, hk, hg, rfl, HE, HA⟩ := hrel
  have HE2 := Lib.hid HE.out
  have HA2 := Lib.hid HA.out
  clear HE HA
  by_cases hlt : k < l.length
  ·have hlt' : (k : Int) < (l.length : Int) := by omega
   obtain ⟨b, o, rfl, hb, c0, -, -, -, -, -⟩ := (HRd.out.ext HE2.out).tk_at rfl hlt
   by_cases hx : l[k].id = id
   ·have hxb : (l[k].id == id) = true := by simpa using hx
    have hQ := ixBy_cons (fun t : Tk => t.id == id) l k hlt (fun j hj h => HA2.out j hj h) hxb
    rw [HR.out] at hQ
    subst hQ
    clear hx HA2
    generalize l[k].id = x at *
    go_wp2_with fail
    (try (go_quiet (fail); go_wp2_with fail))
    go_ret
    exact ⟨rfl, (show Ext w _ by exact extA)⟩
   ·have hxb : (l[k].id == id) = false := by simpa using hx
    have HA3 := Lib.hid (show ∀ j (hj : j < l.length), j < k + 1 → (l[j].id == id) = false from fun j hj h => by
     by_cases hjk : j = k
     ·subst hjk; exact hxb
     ·exact HA2.out j hj (by omega))
    clear HA2 hx
    generalize l[k].id = x at *
    go_wp2_with fail
    (try (go_quiet (fail); go_wp2_with fail))
    go_roundg (l.length - (k + 1))
    case measure => omega
    case rel => exact ⟨k + 1, by omega, by omega, by go_num, (show Ext w _ by exact extA), HA3.out⟩
  ·have hge : ¬ (k : Int) < (l.length : Int) := by omega
   have hQ := ixBy_none (fun t : Tk => t.id == id) l (fun j hj => HA2.out j hj (by omega))
   rw [HR.out] at hQ
   subst hQ
   clear HA2
   go_wp2_with fail
   go_ret
   exact ⟨rfl, HE2.out⟩
/-- the number ahead of place k -/
def prevK (l : List Tk) (k : Nat) : Option Int := if k = 0 then none else (l[k - 1]?).map (·.id)
theorem prevK_succ (l : List Tk) (k : Nat) (h : k < l.length) : prevK l (k + 1) = some l[k].id := by simp [prevK, h]
theorem ckTickets_cons (prev : Option Int) (t : Tk) (l : List Tk) : ckTickets prev (t :: l) = if ckTicket t ≠ 0 then ckTicket t else if noRise prev t.id = true then 4 else ckTickets (some t.id) l := rfl

set_option maxHeartbeats 8000000 in
theorem ledger_tickets (l : List Tk) (v : Value) (w : World) (hr : RdL 6 tkc w v l) :
  Calls Tryz.prog 113 #[v] w fun e w' => e = .returned (.int .i64 (ckTickets none l)) ∧ Ext w w' := by
 obtain ⟨A, c, rfl, hmc, hmm⟩ := hr.form
 have hm : l.length ≤ 9223372036854775807 := by unfold maxLen at hmm; omega
 have HRd := Lib.hid hr
 generalize hR : ckTickets none l = r
 have HR := Lib.hid hR
 clear hr hmc hmm hR
 go_enter Tryz.func113, Tryz.ntmps113
 go_wp2_with fail
 go_loopg [3, 4, 5, 8] l.length (fun gg _ _ _ s8 wr => ∃ k : Nat, k ≤ l.length ∧ l.length - k ≤ gg ∧ s8 = .int .i64 k ∧ Aside (Ext w wr) ∧ Aside (ckTickets (prevK l k) (l.drop k) = r))
 case atStart => exact ⟨0, by omega, by omega, rfl, Ext.refl _, HR.out⟩
 case round =>
  obtain ⟨k, hk, hg, rfl, HE, HA⟩ := hrel
  have HE2 := Lib.hid HE.out
  have hA := HA.out
  clear HE HA
  by_cases hlt : k < l.length
  ·have hlt' : (k : Int) < (l.length : Int) := by omega
   obtain ⟨b, o, rfl, hb, c0, c1, c2', c3, c4, c5⟩ := (HRd.out.ext HE2.out).tk_at rfl hlt
   rw [List.drop_eq_getElem_cons hlt, ckTickets_cons] at hA
   have HRC := Lib.hid (fun w => ticket_Check l[k] w)
   have hpv : 0 < k → ∃ y : Int, prevK l k = some y ∧ ∀ W, Ext wr W → W.cell? ⟨b, o + (k - 1) * 6, none⟩ = some (.int .i64 y) := by
    intro h0
    have hk1 : k - 1 < l.length := by omega
    refine ⟨l[k - 1].id, by unfold prevK; rw [if_neg (by omega), List.getElem?_eq_getElem hk1]; rfl, fun W hW => ?_⟩
    obtain ⟨b', o', hAA, _, d0, _⟩ := ((HRd.out.ext HE2.out).ext hW).tk_at rfl hk1
    injection hAA with hAA
    injection hAA with e1 e2
    subst e1 e2
    exact d0
   have HPV := Lib.hid hpv
   have hk0 : k = 0 → prevK l k = none := fun h => by subst h; rfl
   rw [← prevK_succ l k hlt] at hA
   clear hpv
   generalize hp : l[k] = p at *
   clear hp
   obtain ⟨x0, x1, x2, x3, x4, x5⟩ := p
   simp only at c0 c1 c2' c3 c4 c5 hA
   unfold tkc at HRC
   generalize ckTicket ⟨x0, x1, x2, x3, x4, x5⟩ = q at HRC hA
   by_cases hq0 : q = 0
   ·rw [if_neg (by simpa using hq0)] at hA
    subst hq0
    by_cases hz : k = 0
    ·rw [hk0 hz, if_neg (by simp [noRise])] at hA
     subst hz
     simp only [Nat.zero_mul, Nat.add_zero] at c0 c1 c2' c3 c4 c5
     have HA2 := Lib.hid hA
     clear hA hk0 HPV
     go_wp2_with fail
     (refine (HRC.out _).mono ?_; rintro e w1 ⟨rfl, h1⟩; have H1 := Lib.hid h1; have hz1 := h1.size; clear h1; (try simp only [World.size_alloc, size_set, World.heap_drewN, size_drew] at hz1); apply Row.use (w := w1) (g := wr.heap.size); (focus (exact rowA)); intro q1_0 f1_0 l1_0 R1_0; (try simp only [lSet] at q1_0 R1_0))
     go_wp2_with fail
     go_quiet (fail)
     go_wp2_with fail
     go_roundg (l.length - (0 + 1))
     case measure => omega
     case rel => exact ⟨0 + 1, by omega, by omega, by go_num, (show Ext w _ by exact extA), HA2.out⟩
    ·obtain ⟨y, hy, hyc⟩ := HPV.out (by omega)
     have hkn : 0 < k := by omega
     have hkd : decide (0 < k) = true := by simpa using hkn
     have hw1 : IntKind.i64.wrap ((k : Int) - 1) = ((k - 1 : Nat) : Int) := by rw [IntWalk.i64_in _ (by omega)]; omega
     have hk1 : ((k - 1 : Nat) : Int) < (l.length : Int) := by omega
     have hk2 : k - 1 < l.length := by omega
     rw [hy] at hA
     have HYC := Lib.hid hyc
     clear hy hyc HPV hk0
     by_cases e3 : x0 ≤ y
     ·have e3b : decide (x0 ≤ y) = true := by simpa using e3
      rw [if_pos (by simpa [noRise] using e3)] at hA
      subst hA
      clear e3
      go_wp2_with fail
      (refine (HRC.out _).mono ?_; rintro e w1 ⟨rfl, h1⟩; have H1 := Lib.hid h1; have hz1 := h1.size; clear h1; (try simp only [World.size_alloc, size_set, World.heap_drewN, size_drew] at hz1); apply Row.use (w := w1) (g := wr.heap.size); (focus (exact rowA)); intro q1_0 f1_0 l1_0 R1_0; (try simp only [lSet] at q1_0 R1_0))
      have f2 := HYC.out w1 (by exact extA)
      go_wp2_with fail
      go_quiet (fail)
      go_wp2_with fail
      go_ret
      exact ⟨rfl, (show Ext w _ by exact extA)⟩
     ·have e3b : decide (x0 ≤ y) = false := by simpa using e3
      rw [if_neg (by simpa [noRise] using e3)] at hA
      have HA2 := Lib.hid hA
      clear hA e3
      go_wp2_with fail
      (refine (HRC.out _).mono ?_; rintro e w1 ⟨rfl, h1⟩; have H1 := Lib.hid h1; have hz1 := h1.size; clear h1; (try simp only [World.size_alloc, size_set, World.heap_drewN, size_drew] at hz1); apply Row.use (w := w1) (g := wr.heap.size); (focus (exact rowA)); intro q1_0 f1_0 l1_0 R1_0; (try simp only [lSet] at q1_0 R1_0))
      have f2 := HYC.out w1 (by exact extA)
      go_wp2_with fail
      go_quiet (fail)
      go_wp2_with fail
      go_roundg (l.length - (k + 1))
      case measure => omega
      case rel => exact ⟨k + 1, by omega, by omega, by go_num, (show Ext w _ by exact extA), HA2.out⟩
   ·have hqb : (q != 0) = true := by simpa using hq0
    rw [if_pos hq0] at hA
    subst hA
    clear hq0 hk0 HPV
    go_wp2_with fail
    (refine (HRC.out _).mono ?_; rintro e w1 ⟨rfl, h1⟩; have H1 := Lib.hid h1; have hz1 := h1.size; clear h1; (try simp only [World.size_alloc, size_set, World.heap_drewN, size_drew] at hz1); apply Row.use (w := w1) (g := wr.heap.size); (focus (exact rowA)); intro q1_0 f1_0 l1_0 R1_0; (try simp only [lSet] at q1_0 R1_0))
    go_wp2_with fail
    go_ret
    exact ⟨rfl, (show Ext w _ by exact extA)⟩
  ·have hge : ¬ (k : Int) < (l.length : Int) := by omega
   have hkl : k = l.length := by omega
   rw [hkl, List.drop_length] at hA
   have hr0 : r = 0 := hA.symm
   subst hr0
   clear hA hkl
   go_wp2_with fail
   go_ret
   exact ⟨rfl, HE2.out⟩
end Go.Proofs.YteojjbhadgkfgaaGreat

/- Ledgers: rides as far as so many taps; a number that is there. -/
namespace Go.Proofs.YteojjbhadgkfgaaGreat
set_option linter.unusedSimpArgs false
set_option linter.unusedVariables false
set_option maxRecDepth 100000
open Go Go.RowKit Lb

theorem RdL.tap_at {w : World} {v : Value} {l : List Tp} (h : RdL 5 tpc w v l) {A : Option Addr} {n c : Nat} (hv : v = .slice A n c) {k : Nat} (hk : k < l.length) : ∃ b o, A = some ⟨b, o, none⟩ ∧ b < w.heap.size ∧
  w.cell? ⟨b, o + k * 5, none⟩ = some (.int .i64 l[k].ticket) ∧ w.cell? ⟨b, o + k * 5 + 1, none⟩ = some (.int .i64 l[k].gate) ∧ w.cell? ⟨b, o + k * 5 + 2, none⟩ = some (.int .i64 l[k].seq) ∧ w.cell? ⟨b, o + k * 5 + 3, none⟩ = some (.int .i64 l[k].time) ∧ w.cell? ⟨b, o + k * 5 + 4, none⟩ = some (.int .i64 l[k].zone) := by
 subst hv
 obtain ⟨b, o, c', hv, hb, hc⟩ := h.at_ hk
 injection hv with hA
 exact ⟨b, o, hA, hb, hc 0 _ rfl, hc 1 _ rfl, hc 2 _ rfl, hc 3 _ rfl, hc 4 _ rfl⟩
theorem RdL.num_at {w : World} {v : Value} {l : List Int} (h : RdL 1 inc w v l) {A : Option Addr} {n c : Nat} (hv : v = .slice A n c) {j : Nat} (hj : j < l.length) : ∃ b o, A = some ⟨b, o, none⟩ ∧ b < w.heap.size ∧ w.cell? ⟨b, o + j, none⟩ = some (.int .i64 l[j]) := by
 subst hv
 obtain ⟨b, o, c', hv, hb, hc⟩ := h.at_ hj
 injection hv with hA
 have := hc 0 _ rfl
 rw [Nat.mul_one, Nat.add_zero] at this
 exact ⟨b, o, hA, hb, this⟩

set_option maxHeartbeats 8000000 in
theorem ledger_rides (taps : List Tp) (vs : List Int) (s0 s1 s2 : Value) (id : Int) (m : Nat) (w : World) (hmt : m ≤ taps.length) (hlen : taps.length = vs.length) (h0 : ∃ A n c, s0 = .slice A n c) (hr : RdL 5 tpc w s1 taps) (hs : RdL 1 inc w s2 vs) :
  Calls Tryz.prog 159 #[.agg #[s0, s1, s2], .int .i64 id, .int .i64 m] w fun e w' => ∃ s, e = .returned (.tuple #[s, .int .i64 ((ridesTo taps vs id m).length : Nat)]) ∧ Ext w w' ∧ RdL 5 tpc w' s (lastRide (ridesTo taps vs id m)) := by
 obtain ⟨A0, n0, c0, rfl⟩ := h0
 obtain ⟨A, c, rfl, hmc, hmm⟩ := hr.form
 obtain ⟨A2, c2, rfl, hmc2, hmm2⟩ := hs.form
 have hm : taps.length ≤ 9223372036854775807 := by unfold maxLen at hmm; omega
 have hmc' : (m : Int) ≤ (c : Int) := by omega
 have hm0 : (0 : Int) ≤ (m : Int) := by omega
 have HRd := Lib.hid hr
 have HSd := Lib.hid hs
 have HLEN := Lib.hid hlen
 clear hlen
 have hvl : vs.length ≤ c2 := hmc2
 clear hr hs hmm hmm2 hmc2
 go_enter Tryz.func159, Tryz.ntmps159
 go_wp2_with fail
 go_loopg [8, 9, 10, 11, 17] m (fun gg s8 s9 _ _ s17 wr => ∃ (k : Nat) (A8 : Option Addr) (c8 : Nat), k ≤ m ∧ m - k ≤ gg ∧ s8 = .slice A8 (lastRide (ridesTo taps vs id k)).length c8 ∧ s9 = .int .i64 ((ridesTo taps vs id k).length : Nat) ∧ s17 = .int .i64 k ∧ Aside (Ext w wr ∧ Row wr w.heap.size #[.slice A0 n0 c0, .slice A taps.length c, .slice A2 vs.length c2] ∧ RdL 5 tpc wr (.slice A8 (lastRide (ridesTo taps vs id k)).length c8) (lastRide (ridesTo taps vs id k))))
 case atStart =>
  refine ⟨0, none, 0, by omega, by omega, ?_, ?_, rfl, (Ext.refl _).alloc _, Row.newAt rfl, ?_⟩
  ·rw [ridesTo_zero]; rfl
  ·rw [ridesTo_zero]; rfl
  ·rw [ridesTo_zero]; exact RdL.nil
 case round =>
  obtain ⟨k, A8, c8, hk, hg, rfl, rfl, rfl, HV⟩ := hrel
  have HE := Lib.hid HV.out.1
  have HR0 := Lib.hid HV.out.2.1
  have H8 := Lib.hid HV.out.2.2
  clear HV
  (apply Row.use (w := wr) (g := w.heap.size); (focus (exact rowA)); intro qr_0 fr_0 lr_0 Rr_0; (try simp only [lSet] at qr_0 Rr_0))
  by_cases hlt : k < m
  ·have hlt' : (k : Int) < (m : Int) := by omega
   have hkt : k < taps.length := by omega
   have hkv : k < vs.length := by have := HLEN.out; omega
   have hkv' : (k : Int) < (vs.length : Int) := by omega
   obtain ⟨b, o, rfl, hb, d0, d1, d2, d3, d4⟩ := (HRd.out.ext HE.out).tap_at rfl hkt
   obtain ⟨b2, o2, rfl, hb2, f0⟩ := (HSd.out.ext HE.out).num_at rfl hkv
   have hsu := ridesTo_succ taps vs id k hkt hkv
   have hle := ridesTo_len taps vs id k
   generalize hR : ridesTo taps vs id k = R at *
   generalize hR2 : ridesTo taps vs id (k + 1) = R2 at *
   have hws : IntKind.i64.wrap ((R.length : Int) + 1) = ((R.length + 1 : Nat) : Int) := by rw [IntWalk.i64_in _ (by omega)]; omega
   have HR2 := Lib.hid hR2
   clear hR hR2
   generalize taps[k] = p at *
   generalize vs[k] = y at *
   obtain ⟨x0, x1, x2, x3, x4⟩ := p
   simp only at d0 d1 d2 d3 d4 hsu
   by_cases hx : x0 = id
   ·have hxb : (x0 == id) = true := by simpa using hx
    by_cases hy : y = 1
    ·have hyb : (y == 1) = true := by simpa using hy
     rw [hxb, hyb] at hsu
     have HSU := Lib.hid (show R2 = R ++ [⟨x0, x1, x2, x3, x4⟩] from hsu)
     clear hsu hx hy
     go_wp2_with fail
     (try (go_quiet (fail); go_wp2_with fail))
     go_roundg (m - (k + 1))
     case measure => omega
     case rel =>
      refine ⟨k + 1, some ⟨wr.heap.size + 1, 0, none⟩, 1, by omega, by omega, ?_, ?_, by go_num, ⟨(show Ext w _ by exact extA), by exact rowA, ?_⟩⟩
      ·rw [HR2.out, HSU.out, lastRide_snoc]; rfl
      ·rw [HR2.out, HSU.out]; simp
      ·rw [HR2.out, HSU.out, lastRide_snoc]
       exact RdL.lit (enc := tpc) ⟨x0, x1, x2, x3, x4⟩ (by simp) rfl
    ·have hyb : (y == 1) = false := by simpa using hy
     rw [hxb, hyb] at hsu
     have HSU := Lib.hid (show R2 = R from hsu)
     clear hsu hx hy
     go_wp2_with fail
     (try (go_quiet (fail); go_wp2_with fail))
     go_roundg (m - (k + 1))
     case measure => omega
     case rel => exact ⟨k + 1, _, _, by omega, by omega, by rw [HR2.out, HSU.out], by rw [HR2.out, HSU.out], by go_num, ⟨(show Ext w _ by exact extA), by exact rowA, by rw [HR2.out, HSU.out]; exact H8.out.ext (by exact extA)⟩⟩
   ·have hxb : (x0 == id) = false := by simpa using hx
    rw [hxb] at hsu
    have HSU := Lib.hid (show R2 = R from hsu)
    clear hsu hx
    go_wp2_with fail
    (try (go_quiet (fail); go_wp2_with fail))
    go_roundg (m - (k + 1))
    case measure => omega
    case rel => exact ⟨k + 1, _, _, by omega, by omega, by rw [HR2.out, HSU.out], by rw [HR2.out, HSU.out], by go_num, ⟨(show Ext w _ by exact extA), by exact rowA, by rw [HR2.out, HSU.out]; exact H8.out.ext (by exact extA)⟩⟩
  ·have hge : ¬ (k : Int) < (m : Int) := by omega
   have hkm : k = m := by omega
   subst hkm
   go_wp2_with fail
   refine bodyPost_ret (v := .tuple #[.slice A8 (lastRide (ridesTo taps vs id k)).length c8, .int .i64 ((ridesTo taps vs id k).length : Nat)]) (by simp [results, Tryz.results159, go_sem, *]) rfl ⟨_, rfl, HE.out, H8.out⟩

end Go.Proofs.YteojjbhadgkfgaaGreat

/- Ledgers: what comes of a tap at a place. -/
namespace Go.Proofs.YteojjbhadgkfgaaGreat
set_option linter.unusedSimpArgs false
set_option linter.unusedVariables false
set_option maxRecDepth 100000
open Go Go.RowKit Lb

theorem ixBy_ticket (tks : List Tk) (id : Int) : (ixBy (fun t => t.id == id) tks = -1 ∧ ticketOf tks id = none) ∨ ∃ (k : Nat) (hk : k < tks.length), ixBy (fun t => t.id == id) tks = k ∧ ticketOf tks id = some tks[k] := by
 unfold ixBy ticketOf
 cases hf : tks.findIdx? (fun t => t.id == id) with
 | none =>
  left
  rw [List.findIdx?_eq_none_iff] at hf
  refine ⟨rfl, ?_⟩
  rw [List.find?_eq_none]
  intro x hx
  simpa using hf x hx
 | some k =>
  right
  rw [List.findIdx?_eq_some_iff_getElem] at hf
  obtain ⟨h3, h4, h5⟩ := hf
  refine ⟨k, h3, rfl, ?_⟩
  rw [List.find?_eq_some_iff_getElem]
  exact ⟨h4, k, h3, rfl, fun j hj => by simpa using h5 j hj⟩
theorem late_take (taps : List Tp) (p : Tp) (i : Nat) (h0 : 0 < i) (hi : i ≤ taps.length) : lateBy (taps.take i) p = decide (p.time < (taps[i - 1]'(by omega)).time) := by
 unfold lateBy
 have : (taps.take i).getLast? = some (taps[i - 1]'(by omega)) := by
  rw [List.getLast?_eq_getElem?, List.length_take, Nat.min_eq_left hi, List.getElem?_take_of_lt (by omega), List.getElem?_eq_getElem (by omega)]
 rw [this]
theorem late_zero (taps : List Tp) (p : Tp) : lateBy (taps.take 0) p = false := by simp [lateBy]

theorem tap_one (x p : Tp) (g : Nat) (w : World) (hr : Row w g (tpc p)) :
  Calls Tryz.prog 158 #[.agg (tpc x), .pointer (some ⟨g, 0, none⟩)] w fun e w' => e = .returned (.bool (sameNo p x)) ∧ Ext w w' := by
 obtain ⟨x0, x1, x2, x3, x4⟩ := x
 obtain ⟨p0, p1, p2, p3, p4⟩ := p
 unfold tpc at hr
 unfold tpc sameNo
 apply Row.use hr; intro q f l R
 clear hr
 simp only
 by_cases h : x1 = p1
 ·have hb : (x1 == p1) = true := by simpa using h
  rw [hb, Bool.true_and]
  clear h
  go_enter Tryz.func158, Tryz.ntmps158
  go_wp2
  all_goals
   go_ret
   exact ⟨ret_bool (by simp_all), (show Ext w _ by exact extA)⟩
 ·have hb : (x1 == p1) = false := by simpa using h
  rw [hb, Bool.false_and]
  clear h
  go_enter Tryz.func158, Tryz.ntmps158
  go_wp2
  all_goals
   go_ret
   exact ⟨ret_bool (by simp_all), (show Ext w _ by exact extA)⟩

set_option maxHeartbeats 16000000 in
theorem ledger_tap (tks : List Tk) (taps : List Tp) (vs : List Int) (s0 s1 s2 : Value) (i : Nat) (p : Tp) (w : World) (hit : i ≤ taps.length) (hlen : taps.length = vs.length) (htk : ∀ t ∈ tks, 0 ≤ t.zones ∧ t.zones < 16) (htm : ∀ x ∈ taps.take i, 0 ≤ x.time ∧ x.time ≤ 9999) (hr0 : RdL 6 tkc w s0 tks) (hr1 : RdL 5 tpc w s1 taps) (hr2 : RdL 1 inc w s2 vs) :
  Calls Tryz.prog 114 #[.agg #[s0, s1, s2], .int .i64 i, .agg (tpc p)] w fun e w' => e = .returned (.tuple #[.int .i64 (tapAt tks taps vs i p).1, .int .i64 (tapAt tks taps vs i p).2]) ∧ Ext w w' := by
 have HCK := Lib.hid (fun (w' : World) => rule_Check p w')
 have HF := Lib.hid (fun (w' : World) (h : Ext w w') => ledger_Find tks p.ticket s0 w' (hr0.ext h))
 obtain ⟨A0, c0, rfl, -, -⟩ := hr0.form
 obtain ⟨A, c, rfl, hmc, hmm⟩ := hr1.form
 obtain ⟨A2, c2, rfl, hmc2, hmm2⟩ := hr2.form
 have hm : taps.length ≤ 9223372036854775807 := by unfold maxLen at hmm; omega
 have hic : (i : Int) ≤ (c : Int) := by omega
 have hi0 : (0 : Int) ≤ (i : Int) := by omega
 have HC := Lib.hid (fun (w' : World) (b : Nat) (h : Ext w w') (hb : Row w' b (tpc p)) => ContainsFunc_tpx (sameNo p) 158 #[.pointer (some ⟨b, 0, none⟩)] (fun args w => by simp [go_sem]) (taps.take i) (.slice A i c) w' ((hr1.ext h).take i hit) (fun W x hE => tap_one x p b W (hb.ext hE)))
 have HRD := Lib.hid (fun (w' : World) (h : Ext w w') => ledger_rides taps vs (.slice A0 tks.length c0) (.slice A taps.length c) (.slice A2 vs.length c2) p.ticket i w' hit hlen ⟨_, _, _, rfl⟩ (hr1.ext h) (hr2.ext h))
 have HRW := Lib.hid (fun (t : Tk) (ht : t ∈ tks) (v : Value) (n : Int) (w' : World) (hz : ckTap p = 0) (h : RdL 5 tpc w' v (lastRide (ridesTo taps vs p.ticket i))) => rule_Raw t (lastRide (ridesTo taps vs p.ticket i)) n p v w' h (htk t ht).1 (htk t ht).2 (by unfold ckTap at hz; cases hh : isZone p.zone <;> simp [hh] at hz ⊢; split at hz <;> simp at hz) (by unfold ckTap at hz; cases hh : within p.time 0 9999 <;> simp [hh] at hz; simp [within] at hh; exact hh.1) (by unfold ckTap at hz; cases hh : within p.time 0 9999 <;> simp [hh] at hz; simp [within] at hh; exact hh.2) (fun x hx => htm x (ridesTo_mem (lastRide_mem hx))))
 have hres : tapAt tks taps vs i p = if ckTap p ≠ 0 then (0, ckTap p)
  else match ticketOf tks p.ticket with
   | none => (0, 5)
   | some t => if (taps.take i).any (sameNo p) then (0, 6)
    else if decide (i < vs.length ∧ vs[i]! ≠ 1 ∧ vs[i]! ≠ 2) = true then (0, 7)
    else if lateBy (taps.take i) p then (0, 4)
    else judge t (lastTime (ridesTo taps vs p.ticket i)) (ridesTo taps vs p.ticket i).length p := by
  simp only [decide_eq_true_eq]
  rfl
 have hix := ixBy_ticket tks p.ticket
 have HTR := Lib.hid hr0
 have HRd := Lib.hid hr1
 have HSd := Lib.hid hr2
 have HLEN := Lib.hid hlen
 generalize hvb : decide (i < vs.length ∧ vs[i]! ≠ 1 ∧ vs[i]! ≠ 2) = vb at *
 have HVB := Lib.hid hvb
 generalize hlate : lateBy (taps.take i) p = lt at *
 have HLT := Lib.hid hlate
 generalize (taps.take i).any (sameNo p) = z at *
 generalize tapAt tks taps vs i p = res at *
 have hll := lastTime_last (ridesTo taps vs p.ticket i)
 simp only [hll] at HRW
 generalize ridesTo taps vs p.ticket i = R at *
 generalize ckTap p = q at *
 generalize ixBy (fun t => t.id == p.ticket) tks = ix at *
 clear hr0 hr1 hr2 hlen hmm hmm2 hmc2 htk htm hvb hlate hll
 unfold tpc at HCK HRW HC
 unfold tkc at HRW
 unfold tpc
 by_cases hq0 : q = 0
 ·subst hq0
  rw [if_neg (by simp)] at hres
  rcases hix with ⟨rfl, hto⟩ | ⟨k, hk, rfl, hto⟩
  ·rw [hto] at hres
   simp only at hres
   subst hres
   clear hto HC HRD HRW
   go_enter Tryz.func114, Tryz.ntmps114
   go_wp2_with fail
   (refine (HCK.out _).mono ?_; rintro e w1 ⟨rfl, h1⟩; have H1 := Lib.hid h1; have hz1 := h1.size; clear h1; (try simp only [World.size_alloc, size_set, World.heap_drewN, size_drew] at hz1); apply Row.use (w := w1) (g := w.heap.size); (focus (exact rowA)); intro q1_0 f1_0 l1_0 R1_0; (try simp only [lSet] at q1_0 R1_0); apply Row.use (w := w1) (g := w.heap.size + 1); (focus (exact rowA)); intro q1_1 f1_1 l1_1 R1_1; (try simp only [lSet] at q1_1 R1_1))
   go_wp2_with fail
   (refine (HF.out _ (by exact extA)).mono ?_; rintro e w2 ⟨rfl, h2⟩; have H2 := Lib.hid h2; have hz2 := h2.size; clear h2; (try simp only [World.size_alloc, size_set, World.heap_drewN, size_drew] at hz2); apply Row.use (w := w2) (g := w.heap.size); (focus (exact rowA)); intro q2_0 f2_0 l2_0 R2_0; (try simp only [lSet] at q2_0 R2_0); apply Row.use (w := w2) (g := w.heap.size + 1); (focus (exact rowA)); intro q2_1 f2_1 l2_1 R2_1; (try simp only [lSet] at q2_1 R2_1))
   go_wp2_with fail
   go_ret2
   exact ⟨rfl, (show Ext w _ by exact extA)⟩
  ·rw [hto] at hres
   simp only at hres
   have hkn : ¬ ((k : Int) < 0) := by omega
   have hkd : decide ((k : Int) < 0) = false := by simp
   have hk' : (k : Int) < (tks.length : Int) := by omega
   have HRWt := Lib.hid (HRW.out tks[k] (List.getElem_mem hk))
   clear hto HRW
   cases z
   ·simp only [Bool.false_eq_true, if_false] at hres
    have HRES := Lib.hid hres
    clear hres
    go_enter Tryz.func114, Tryz.ntmps114
    go_wp2_with fail
    (refine (HCK.out _).mono ?_; rintro e w1 ⟨rfl, h1⟩; have H1 := Lib.hid h1; have hz1 := h1.size; clear h1; (try simp only [World.size_alloc, size_set, World.heap_drewN, size_drew] at hz1); apply Row.use (w := w1) (g := w.heap.size); (focus (exact rowA)); intro q1_0 f1_0 l1_0 R1_0; (try simp only [lSet] at q1_0 R1_0); apply Row.use (w := w1) (g := w.heap.size + 1); (focus (exact rowA)); intro q1_1 f1_1 l1_1 R1_1; (try simp only [lSet] at q1_1 R1_1))
    go_wp2_with fail
    (refine (HF.out _ (by exact extA)).mono ?_; rintro e w2 ⟨rfl, h2⟩; have H2 := Lib.hid h2; have hz2 := h2.size; clear h2; (try simp only [World.size_alloc, size_set, World.heap_drewN, size_drew] at hz2); apply Row.use (w := w2) (g := w.heap.size); (focus (exact rowA)); intro q2_0 f2_0 l2_0 R2_0; (try simp only [lSet] at q2_0 R2_0); apply Row.use (w := w2) (g := w.heap.size + 1); (focus (exact rowA)); intro q2_1 f2_1 l2_1 R2_1; (try simp only [lSet] at q2_1 R2_1))
    go_wp2_with fail
    (refine (HC.out _ (w.heap.size + 1) (by exact extA) R2_1.out).mono ?_; rintro e w3 ⟨rfl, h3⟩; have H3 := Lib.hid h3; have hz3 := h3.size; clear h3; (try simp only [World.size_alloc, size_set, World.heap_drewN, size_drew] at hz3); apply Row.use (w := w3) (g := w.heap.size); (focus (exact rowA)); intro q3_0 f3_0 l3_0 R3_0; (try simp only [lSet] at q3_0 R3_0); apply Row.use (w := w3) (g := w.heap.size + 1); (focus (exact rowA)); intro q3_1 f3_1 l3_1 R3_1; (try simp only [lSet] at q3_1 R3_1))
    go_upto_region 9 with fail
    go_cut [32] (fun s32 wx => s32 = .bool vb ∧ Aside (Ext w3 wx))
    case first =>
     have hvb := HVB.out
     by_cases hi : i < vs.length
     ·have hi' : (i : Int) < (vs.length : Int) := by omega
      obtain ⟨b2, o2, rfl, hb2, f0⟩ := (HSd.out.ext (show Ext w w3 by exact extA)).num_at rfl hi
      rw [show vs[i]! = vs[i] by simp [hi]] at hvb
      generalize vs[i] = y at *
      by_cases h1 : y = 1
      ·have h1b : (y != 1) = false := by simpa using h1
       have hv : vb = false := by rw [← hvb]; simp [h1]
       subst hv
       clear h1 hvb HVB
       go_wp2_with fail
       go_meet
       case rel => exact ⟨rfl, Ext.refl _⟩
      ·have h1b : (y != 1) = true := by simpa using h1
       by_cases h2 : y = 2
       ·have h2b : (y != 2) = false := by simpa using h2
        have hv : vb = false := by rw [← hvb]; simp [h2]
        subst hv
        clear h1 h2 hvb HVB
        go_wp2_with fail
        go_meet
        case rel => exact ⟨rfl, Ext.refl _⟩
       ·have h2b : (y != 2) = true := by simpa using h2
        have hv : vb = true := by rw [← hvb]; simp [h1, h2, hi]
        subst hv
        clear h1 h2 hvb HVB
        go_wp2_with fail
        go_meet
        case rel => exact ⟨rfl, Ext.refl _⟩
     ·have hige : ¬ (i : Int) < (vs.length : Int) := by omega
      have hv : vb = false := by rw [← hvb]; simp [hi]
      subst hv
      clear hvb HVB
      go_wp2_with fail
      go_meet
      case rel => exact ⟨rfl, Ext.refl _⟩
    case rest =>
     obtain ⟨rfl, HW⟩ := hcut
     obtain ⟨w4, rfl⟩ : ∃ w4 : World, w4 = wc := ⟨_, rfl⟩
     have H4 := Lib.hid HW.out
     clear HW HVB
     (apply Row.use (w := w4) (g := w.heap.size); (focus (exact rowA)); intro q4_0 f4_0 l4_0 R4_0; (try simp only [lSet] at q4_0 R4_0); apply Row.use (w := w4) (g := w.heap.size + 1); (focus (exact rowA)); intro q4_1 f4_1 l4_1 R4_1; (try simp only [lSet] at q4_1 R4_1))
     cases vb
     ·have hres := HRES.out
      rw [if_neg (by simp)] at hres
      have HRES2 := Lib.hid hres
      clear HRES hres
      go_upto_region 11 with fail
      go_cut [54] (fun s54 wx => s54 = .bool lt ∧ Aside (Ext w4 wx))
      case first =>
       by_cases hz : i = 0
       ·have hv : lt = false := by rw [← HLT.out, hz]; exact late_zero taps p
        subst hv
        subst hz
        go_wp2_with fail
        go_quiet (fail)
        go_wp2_with fail
        go_meet
        case rel => exact ⟨rfl, (show Ext w4 _ by exact extA)⟩
       ·have h0 : 0 < i := by omega
        have hid : decide (0 < i) = true := by simpa using h0
        have hw1 : IntKind.i64.wrap ((i : Int) - 1) = ((i - 1 : Nat) : Int) := by rw [IntWalk.i64_in _ (by omega)]; omega
        have hk1 : ((i - 1 : Nat) : Int) < (taps.length : Int) := by omega
        have hk2 : i - 1 < taps.length := by omega
        obtain ⟨b2, o2, rfl, hb2, -, -, -, f3, -⟩ := (HRd.out.ext (show Ext w w4 by exact extA)).tap_at rfl hk2
        have hv := late_take taps p i h0 hit
        rw [HLT.out] at hv
        generalize (taps[i - 1]).time = y at *
        by_cases hy : p.time < y
        ·have hyd : decide (p.time < y) = true := by simpa using hy
         rw [hyd] at hv
         subst hv
         clear hy
         go_wp2_with fail
         go_quiet (fail)
         go_wp2_with fail
         go_meet
         case rel => exact ⟨rfl, (show Ext w4 _ by exact extA)⟩
        ·have hyd : decide (p.time < y) = false := by simpa using hy
         rw [hyd] at hv
         subst hv
         clear hy
         go_wp2_with fail
         go_quiet (fail)
         go_wp2_with fail
         go_meet
         case rel => exact ⟨rfl, (show Ext w4 _ by exact extA)⟩
      case rest =>
       obtain ⟨rfl, HW⟩ := hcut
       obtain ⟨w5, rfl⟩ : ∃ w5 : World, w5 = wc := ⟨_, rfl⟩
       have H5 := Lib.hid HW.out
       clear HW HLT
       (apply Row.use (w := w5) (g := w.heap.size); (focus (exact rowA)); intro q5_0 f5_0 l5_0 R5_0; (try simp only [lSet] at q5_0 R5_0); apply Row.use (w := w5) (g := w.heap.size + 1); (focus (exact rowA)); intro q5_1 f5_1 l5_1 R5_1; (try simp only [lSet] at q5_1 R5_1))
       cases lt
       ·have hres := HRES2.out
        rw [if_neg (by simp)] at hres
        subst hres
        clear HRES2
        go_wp2_with fail
        refine (HRD.out _ (by exact extA)).mono ?_
        rintro e w6 ⟨s6, rfl, h6, hr6⟩
        have H6 := Lib.hid h6
        have HR6 := Lib.hid hr6
        clear h6 hr6
        (apply Row.use (w := w6) (g := w.heap.size); (focus (exact rowA)); intro q6_0 f6_0 l6_0 R6_0; (try simp only [lSet] at q6_0 R6_0); apply Row.use (w := w6) (g := w.heap.size + 1); (focus (exact rowA)); intro q6_1 f6_1 l6_1 R6_1; (try simp only [lSet] at q6_1 R6_1))
        go_wp2_with fail
        obtain ⟨tb, tof, rfl, htb, g0, g1, g2, g3, g4, g5⟩ := (HTR.out.ext (show Ext w w6 by exact extA)).tk_at rfl hk
        generalize htq : tks[k] = t at *
        have HTQ := Lib.hid htq
        clear htq
        obtain ⟨t0, t1, t2, t3, t4, t5⟩ := t
        simp only at g0 g1 g2 g3 g4 g5 HRWt
        have HKp := Lib.hid (fun (w' : World) (h : Ext w6 w') => (show (∀ o, w'.cell? ⟨w.heap.size, o, none⟩ = (#[.slice (some ⟨tb, tof, none⟩) tks.length c0, .slice A taps.length c, .slice A2 vs.length c2] : Array Value)[o]?) ∧ (∀ o, w'.cell? ⟨w.heap.size + 1, o, none⟩ = (#[.int .i64 p.ticket, .int .i64 p.gate, .int .i64 p.seq, .int .i64 p.time, .int .i64 p.zone] : Array Value)[o]?) ∧ w'.cell? ⟨tb, tof + k * 6, none⟩ = some (.int .i64 t0) ∧ w'.cell? ⟨tb, tof + k * 6 + 1, none⟩ = some (.int .i64 t1) ∧ w'.cell? ⟨tb, tof + k * 6 + 2, none⟩ = some (.int .i64 t2) ∧ w'.cell? ⟨tb, tof + k * 6 + 3, none⟩ = some (.int .i64 t3) ∧ w'.cell? ⟨tb, tof + k * 6 + 4, none⟩ = some (.int .i64 t4) ∧ w'.cell? ⟨tb, tof + k * 6 + 5, none⟩ = some (.int .i64 t5) from ⟨(Row.ext h R6_0.out).2.1, (Row.ext h R6_1.out).2.1, (h.cells _ _ htb).trans g0, (h.cells _ _ htb).trans g1, (h.cells _ _ htb).trans g2, (h.cells _ _ htb).trans g3, (h.cells _ _ htb).trans g4, (h.cells _ _ htb).trans g5⟩))
        refine T_begin (fun w' => (∀ o, w'.cell? ⟨w.heap.size, o, none⟩ = (#[.slice (some ⟨tb, tof, none⟩) tks.length c0, .slice A taps.length c, .slice A2 vs.length c2] : Array Value)[o]?) ∧ (∀ o, w'.cell? ⟨w.heap.size + 1, o, none⟩ = (#[.int .i64 p.ticket, .int .i64 p.gate, .int .i64 p.seq, .int .i64 p.time, .int .i64 p.zone] : Array Value)[o]?) ∧ w'.cell? ⟨tb, tof + k * 6, none⟩ = some (.int .i64 t0) ∧ w'.cell? ⟨tb, tof + k * 6 + 1, none⟩ = some (.int .i64 t1) ∧ w'.cell? ⟨tb, tof + k * 6 + 2, none⟩ = some (.int .i64 t2) ∧ w'.cell? ⟨tb, tof + k * 6 + 3, none⟩ = some (.int .i64 t3) ∧ w'.cell? ⟨tb, tof + k * 6 + 4, none⟩ = some (.int .i64 t4) ∧ w'.cell? ⟨tb, tof + k * 6 + 5, none⟩ = some (.int .i64 t5)) 12 (by kernel_rfl) (HKp.out _ ((Ext.refl _).drew)) (fun hS => ?_)
        simp only [List.length_cons, List.length_nil]
        (refine tkS 0 hS ?_; (try simp only [Act.put, lSet]); refine tkS 1 hS ?_; (try simp only [Act.put, lSet]); refine tkS 2 hS ?_; (try simp only [Act.put, lSet]); refine tkS 3 hS ?_; (try simp only [Act.put, lSet]); refine tkS 4 hS ?_; (try simp only [Act.put, lSet]); refine tkS 5 hS ?_; (try simp only [Act.put, lSet]); refine tkS 6 hS ?_; (try simp only [Act.put, lSet]); refine tkS 7 hS ?_; (try simp only [Act.put, lSet]))
        clear hS
        refine T_only (i := 8) rfl (by kernel_rfl) rfl (fun K hK => ?_)
        go_simp
        refine (HRWt.out _ _ _ (by simp) (HR6.out.ext (by exact extA))).mono ?_
        rintro e w7 ⟨rfl, h7⟩
        have H7 := Lib.hid h7
        clear h7
        go_wp2_with fail
        have hS := HKp.out w7 (by exact extA)
        refine hK.out _ _ (.inr hS) ?_
        clear hK
        (try simp only [Act.put, lSet])
        (refine tkS 9 hS ?_; (try simp only [Act.put, lSet]); refine tkS 10 hS ?_; (try simp only [Act.put, lSet]))
        refine T_only (i := 11) rfl (by kernel_rfl) rfl (fun K hK => ?_)
        go_simp
        refine hK.out _ _ (.inr hS) ?_
        clear hK hS
        (try simp only [Act.put, lSet])
        refine T_only (i := 12) rfl (by kernel_rfl) rfl (fun K hK => ?_)
        go_simp
        refine hK.out _ _ (.inl (by kernel_rfl)) ?_
        clear hK
        (try simp only [Act.put, lSet])
        refine T_done (by kernel_rfl) ?_ _
        go_wp2_with fail
        go_ret2
        exact ⟨by rw [HTQ.out]; rfl, (show Ext w _ by exact extA)⟩
       ·have hres := HRES2.out
        rw [if_pos rfl] at hres
        subst hres
        clear HRES2
        go_wp2_with fail
        go_ret2
        exact ⟨rfl, (show Ext w _ by exact extA)⟩
     ·have hres := HRES.out
      rw [if_pos rfl] at hres
      subst hres
      clear HRES
      go_wp2_with fail
      go_ret2
      exact ⟨rfl, (show Ext w _ by exact extA)⟩
   ·simp only [if_true] at hres
    subst hres
    clear HRD HRWt
    go_enter Tryz.func114, Tryz.ntmps114
    go_wp2_with fail
    (refine (HCK.out _).mono ?_; rintro e w1 ⟨rfl, h1⟩; have H1 := Lib.hid h1; have hz1 := h1.size; clear h1; (try simp only [World.size_alloc, size_set, World.heap_drewN, size_drew] at hz1); apply Row.use (w := w1) (g := w.heap.size); (focus (exact rowA)); intro q1_0 f1_0 l1_0 R1_0; (try simp only [lSet] at q1_0 R1_0); apply Row.use (w := w1) (g := w.heap.size + 1); (focus (exact rowA)); intro q1_1 f1_1 l1_1 R1_1; (try simp only [lSet] at q1_1 R1_1))
    go_wp2_with fail
    (refine (HF.out _ (by exact extA)).mono ?_; rintro e w2 ⟨rfl, h2⟩; have H2 := Lib.hid h2; have hz2 := h2.size; clear h2; (try simp only [World.size_alloc, size_set, World.heap_drewN, size_drew] at hz2); apply Row.use (w := w2) (g := w.heap.size); (focus (exact rowA)); intro q2_0 f2_0 l2_0 R2_0; (try simp only [lSet] at q2_0 R2_0); apply Row.use (w := w2) (g := w.heap.size + 1); (focus (exact rowA)); intro q2_1 f2_1 l2_1 R2_1; (try simp only [lSet] at q2_1 R2_1))
    go_wp2_with fail
    (refine (HC.out _ (w.heap.size + 1) (by exact extA) R2_1.out).mono ?_; rintro e w3 ⟨rfl, h3⟩; have H3 := Lib.hid h3; have hz3 := h3.size; clear h3; (try simp only [World.size_alloc, size_set, World.heap_drewN, size_drew] at hz3); apply Row.use (w := w3) (g := w.heap.size); (focus (exact rowA)); intro q3_0 f3_0 l3_0 R3_0; (try simp only [lSet] at q3_0 R3_0); apply Row.use (w := w3) (g := w.heap.size + 1); (focus (exact rowA)); intro q3_1 f3_1 l3_1 R3_1; (try simp only [lSet] at q3_1 R3_1))
    go_wp2_with fail
    go_ret2
    exact ⟨rfl, (show Ext w _ by exact extA)⟩
 ·rw [if_pos hq0] at hres
  have hqb : (q != 0) = true := by simpa using hq0
  subst hres
  clear hq0 hix HC HRD HRW HF
  go_enter Tryz.func114, Tryz.ntmps114
  go_wp2_with fail
  (refine (HCK.out _).mono ?_; rintro e w1 ⟨rfl, h1⟩; have H1 := Lib.hid h1; have hz1 := h1.size; clear h1; (try simp only [World.size_alloc, size_set, World.heap_drewN, size_drew] at hz1); apply Row.use (w := w1) (g := w.heap.size); (focus (exact rowA)); intro q1_0 f1_0 l1_0 R1_0; (try simp only [lSet] at q1_0 R1_0); apply Row.use (w := w1) (g := w.heap.size + 1); (focus (exact rowA)); intro q1_1 f1_1 l1_1 R1_1; (try simp only [lSet] at q1_1 R1_1))
  go_wp2_with fail
  go_ret2
  exact ⟨rfl, (show Ext w _ by exact extA)⟩
end Go.Proofs.YteojjbhadgkfgaaGreat

/- ledger.Check. -/
namespace Go.Proofs.YteojjbhadgkfgaaGreat
set_option linter.unusedSimpArgs false
set_option linter.unusedVariables false
set_option maxRecDepth 100000
open Go Go.RowKit Lb

theorem time_ok {p : Tp} (h : ckTap p = 0) : 0 ≤ p.time ∧ p.time ≤ 9999 := by
 unfold ckTap at h
 cases hh : within p.time 0 9999 with
 | true => simpa [within] using hh
 | false => simp [hh] at h
theorem zones_in {t : Tk} (h : ckTicket t = 0) : 0 ≤ t.zones ∧ t.zones < 16 := by
 unfold ckTicket at h
 cases hw : within t.zones 1 15 with
 | true => simp [within] at hw; omega
 | false => simp [hw] at h
theorem tickets_mem : ∀ {l : List Tk} {prev : Option Int}, ckTickets prev l = 0 → ∀ t ∈ l, ckTicket t = 0
 | [], _, _ => by simp
 | x :: l, prev, h => by
  rw [ckTickets_cons] at h
  by_cases h1 : ckTicket x = 0
  ·rw [if_neg (by simpa using h1)] at h
   by_cases h2 : noRise prev x.id = true
   ·rw [if_pos h2] at h; simp at h
   ·rw [if_neg h2] at h
    intro t ht
    rcases List.mem_cons.1 ht with rfl | ht
    ·exact h1
    ·exact tickets_mem h t ht
  ·rw [if_pos h1] at h; exact absurd h h1
theorem tapAt_zero {tks : List Tk} {taps : List Tp} {vs : List Int} {i : Nat} {p : Tp} (h : (tapAt tks taps vs i p).1 = 0) : (tapAt tks taps vs i p).2 ≠ 0 := by
 unfold tapAt at h ⊢
 by_cases h1 : ckTap p = 0
 ·simp only [h1, ne_eq, not_true_eq_false, if_false] at h ⊢
  cases ht : ticketOf tks p.ticket with
  | none => simp
  | some t =>
   simp only [ht] at h ⊢
   split
   ·simp
   ·rename_i h2
    rw [if_neg h2] at h
    split
    ·simp
    ·rename_i h3
     rw [if_neg h3] at h
     split
     ·simp
     ·rename_i h4
      rw [if_neg h4] at h
      have := judge_cases t (lastTime (ridesTo taps vs p.ticket i)) (ridesTo taps vs p.ticket i).length p
      omega
 ·simp [h1]
theorem ckTapAt_tap {tks : List Tk} {pre : List Tp} {pv : List Int} {p : Tp} {v : Int} (h : ckTapAt tks pre pv p v = 0) : ckTap p = 0 := by
 unfold ckTapAt at h
 by_cases h1 : ckTap p = 0
 ·exact h1
 ·rw [if_pos h1] at h; exact absurd h h1
theorem ckTaps_step (tks : List Tk) (taps : List Tp) (vs : List Int) (k : Nat) (h1 : k < taps.length) (h2 : k < vs.length) :
  ckTaps tks (taps.take k) (vs.take k) (taps.drop k) (vs.drop k) = if ckTapAt tks (taps.take k) (vs.take k) taps[k] vs[k] ≠ 0 then ckTapAt tks (taps.take k) (vs.take k) taps[k] vs[k] else ckTaps tks (taps.take (k + 1)) (vs.take (k + 1)) (taps.drop (k + 1)) (vs.drop (k + 1)) := by
 rw [List.drop_eq_getElem_cons h1, List.drop_eq_getElem_cons h2, List.take_succ_eq_append_getElem h1, List.take_succ_eq_append_getElem h2]
 rfl

set_option maxHeartbeats 16000000 in
theorem ledger_Check (tks : List Tk) (taps : List Tp) (vs : List Int) (s0 s1 s2 : Value) (w : World) (hr0 : RdL 6 tkc w s0 tks) (hr1 : RdL 5 tpc w s1 taps) (hr2 : RdL 1 inc w s2 vs) :
  Calls Tryz.prog 69 #[.agg #[s0, s1, s2]] w fun e w' => e = .returned (.int .i64 (ckLedger ⟨tks, taps, vs⟩)) ∧ Ext w w' := by
 have HTK := Lib.hid (fun (w' : World) (h : Ext w w') => ledger_tickets tks s0 w' (hr0.ext h))
 have HTP := Lib.hid (fun (i : Nat) (p : Tp) (w' : World) (h : Ext w w') (hit : i ≤ taps.length) (hlen : taps.length = vs.length) (htk : ∀ t ∈ tks, 0 ≤ t.zones ∧ t.zones < 16) (htm : ∀ x ∈ taps.take i, 0 ≤ x.time ∧ x.time ≤ 9999) => ledger_tap tks taps vs s0 s1 s2 i p w' hit hlen htk htm (hr0.ext h) (hr1.ext h) (hr2.ext h))
 have HRd := Lib.hid hr1
 have HSd := Lib.hid hr2
 obtain ⟨A0, c0, rfl, hmc0, hmm0⟩ := hr0.form
 obtain ⟨A, c, rfl, hmc, hmm⟩ := hr1.form
 obtain ⟨A2, c2, rfl, hmc2, hmm2⟩ := hr2.form
 have hm : taps.length ≤ 9223372036854775807 := by unfold maxLen at hmm; omega
 have hm0 : tks.length ≤ 9223372036854775807 := by unfold maxLen at hmm0; omega
 have hm2 : vs.length ≤ 9223372036854775807 := by unfold maxLen at hmm2; omega
 have hres : ckLedger ⟨tks, taps, vs⟩ = if 12 < tks.length ∨ 60 < taps.length ∨ taps.length ≠ vs.length then 2 else if ckTickets none tks ≠ 0 then ckTickets none tks else ckTaps tks [] [] taps vs := rfl
 generalize ckLedger ⟨tks, taps, vs⟩ = res at *
 clear hr0 hr1 hr2 hmm0 hmm hmm2 hmc hmc2 hmc0
 by_cases h12 : 12 < tks.length
 ·have hd : decide ((12 : Int) < (tks.length : Int)) = true := decide_eq_true (by omega)
  rw [if_pos (.inl h12)] at hres
  subst hres
  clear h12 HTK HTP
  go_enter Tryz.func69, Tryz.ntmps69
  go_wp2_with fail
  go_ret
  exact ⟨rfl, (show Ext w _ by exact extA)⟩
 have hd : decide ((12 : Int) < (tks.length : Int)) = false := decide_eq_false (by omega)
 by_cases h60 : 60 < taps.length
 ·have hd2 : decide ((60 : Int) < (taps.length : Int)) = true := decide_eq_true (by omega)
  rw [if_pos (.inr (.inl h60))] at hres
  subst hres
  clear HTK HTP
  go_enter Tryz.func69, Tryz.ntmps69
  go_wp2_with fail
  go_ret
  exact ⟨rfl, (show Ext w _ by exact extA)⟩
 have hd2 : decide ((60 : Int) < (taps.length : Int)) = false := decide_eq_false (by omega)
 by_cases hl : taps.length = vs.length
 case neg =>
  have hd3 : ((taps.length : Int) != (vs.length : Int)) = true := by
   have : (taps.length : Int) ≠ (vs.length : Int) := by omega
   simpa using this
  rw [if_pos (.inr (.inr hl))] at hres
  subst hres
  clear HTK HTP hl
  go_enter Tryz.func69, Tryz.ntmps69
  go_wp2_with fail
  go_ret
  exact ⟨rfl, (show Ext w _ by exact extA)⟩
 have hd3 : ((taps.length : Int) != (vs.length : Int)) = false := by
  have : (taps.length : Int) = (vs.length : Int) := by omega
  simpa using this
 rw [if_neg (by omega)] at hres
 have HL := Lib.hid hl
 clear hl
 by_cases ht : ckTickets none tks = 0
 case neg =>
  have hqb : (ckTickets none tks != 0) = true := by simpa using ht
  rw [if_pos ht] at hres
  subst hres
  generalize ckTickets none tks = q at *
  clear HTP ht
  go_enter Tryz.func69, Tryz.ntmps69
  go_wp2_with fail
  (refine (HTK.out _ (by exact extA)).mono ?_; rintro e w1 ⟨rfl, h1⟩; have H1 := Lib.hid h1; have hz1 := h1.size; clear h1; (try simp only [World.size_alloc, size_set, World.heap_drewN, size_drew] at hz1); apply Row.use (w := w1) (g := w.heap.size); (focus (exact rowA)); intro q1_0 f1_0 l1_0 R1_0; (try simp only [lSet] at q1_0 R1_0))
  go_wp2_with fail
  go_ret
  exact ⟨rfl, (show Ext w _ by exact extA)⟩
 rw [if_neg (by simpa using ht)] at hres
 have htz : ∀ t ∈ tks, 0 ≤ t.zones ∧ t.zones < 16 := fun t h => zones_in (tickets_mem ht t h)
 have HTZ := Lib.hid htz
 have HRES := Lib.hid hres
 rw [ht] at HTK
 clear htz hres ht
 go_enter Tryz.func69, Tryz.ntmps69
 go_wp2_with fail
 (refine (HTK.out _ (by exact extA)).mono ?_; rintro e w1 ⟨rfl, h1⟩; have H1 := Lib.hid h1; have hz1 := h1.size; clear h1; (try simp only [World.size_alloc, size_set, World.heap_drewN, size_drew] at hz1); apply Row.use (w := w1) (g := w.heap.size); (focus (exact rowA)); intro q1_0 f1_0 l1_0 R1_0; (try simp only [lSet] at q1_0 R1_0))
 go_wp2_with fail
 go_loopg [4, 5, 6, 7, 36] taps.length (fun gg _ _ _ _ s36 wr => ∃ k : Nat, k ≤ taps.length ∧ taps.length - k ≤ gg ∧ s36 = .int .i64 k ∧ Aside (Ext w wr ∧ Row wr w.heap.size #[.slice A0 tks.length c0, .slice A taps.length c, .slice A2 vs.length c2]) ∧ Aside (ckTaps tks (taps.take k) (vs.take k) (taps.drop k) (vs.drop k) = res ∧ ∀ x ∈ taps.take k, 0 ≤ x.time ∧ x.time ≤ 9999))
 case atStart => exact ⟨0, by omega, by omega, rfl, ⟨(show Ext w _ by exact extA), by exact rowA⟩, by simpa using HRES.out.symm, by simp⟩
 case round =>
  obtain ⟨k, hk, hg, rfl, HV, HA⟩ := hrel
  have HE := Lib.hid HV.out.1
  have HR0 := Lib.hid HV.out.2
  obtain ⟨hA, hT⟩ := HA.out
  clear HV HA
  (apply Row.use (w := wr) (g := w.heap.size); (focus (exact rowA)); intro qr_0 fr_0 lr_0 Rr_0; (try simp only [lSet] at qr_0 Rr_0))
  by_cases hlt : k < taps.length
  ·have hlt' : (k : Int) < (taps.length : Int) := by omega
   have hkv : k < vs.length := by have := HL.out; omega
   have hkv' : (k : Int) < (vs.length : Int) := by omega
   obtain ⟨b, o, rfl, hb, d0, d1, d2, d3, d4⟩ := (HRd.out.ext HE.out).tap_at rfl hlt
   have hc := ckTapAt_of (tks := tks) hkv HL.out
   rw [ckTaps_step tks taps vs k hlt hkv] at hA
   have hz := @tapAt_zero tks taps vs k taps[k]
   have hnx : ckTapAt tks (taps.take k) (vs.take k) taps[k] vs[k] = 0 → ∀ x ∈ taps.take (k + 1), 0 ≤ x.time ∧ x.time ≤ 9999 := by
    intro h x hx
    rw [List.take_succ_eq_append_getElem hlt] at hx
    rcases List.mem_append.1 hx with hx | hx
    ·exact hT x hx
    ·rw [List.mem_singleton.1 hx]
     exact time_ok (ckTapAt_tap h)
   have HCALL := Lib.hid (fun (w' : World) (h : Ext w w') => HTP.out k taps[k] w' h hk HL.out HTZ.out hT)
   obtain ⟨vb, vo, hA2, hvb, f0⟩ : ∃ vb vo, A2 = some ⟨vb, vo, none⟩ ∧ vb < wr.heap.size ∧ wr.cell? ⟨vb, vo + k, none⟩ = some (.int .i64 vs[k]) := (HSd.out.ext HE.out).num_at rfl hkv
   subst hA2
   have hvc : ∀ W, Ext wr W → W.cell? ⟨vb, vo + k, none⟩ = some (.int .i64 vs[k]) := fun W h => (h.cells _ _ hvb).trans f0
   have HVC := Lib.hid hvc
   clear hvc f0 hT
   generalize ckTapAt tks (taps.take k) (vs.take k) taps[k] vs[k] = ca at *
   generalize tapAt tks taps vs k taps[k] = va at *
   generalize taps[k] = p at *
   generalize vs[k] = y at *
   obtain ⟨v, e⟩ := va
   unfold tpc at HCALL
   simp only at hc hz HCALL
   by_cases hv0 : v = 0
   ·have hvb0 : (v == 0) = true := by simpa using hv0
    have he := hz hv0
    rw [if_pos hv0] at hc
    rw [if_pos (by rw [hc]; exact he), hc] at hA
    subst hA
    clear hc hz he hv0 hnx
    go_wp2_with fail
    (refine (HCALL.out _ (by exact extA)).mono ?_; rintro e w2 ⟨rfl, h2⟩; have H2 := Lib.hid h2; have hz2 := h2.size; clear h2; (try simp only [World.size_alloc, size_set, World.heap_drewN, size_drew] at hz2); apply Row.use (w := w2) (g := w.heap.size); (focus (exact rowA)); intro q2_0 f2_0 l2_0 R2_0; (try simp only [lSet] at q2_0 R2_0))
    go_wp2_with fail
    go_ret
    exact ⟨rfl, (show Ext w _ by exact extA)⟩
   ·have hvb0 : (v == 0) = false := by simpa using hv0
    rw [if_neg hv0] at hc
    by_cases hvy : v = y
    ·have hvy1 : (v != y) = false := by simpa using hvy
     rw [if_neg (by simpa using hvy)] at hc
     rw [if_neg (by simpa using hc)] at hA
     have HA2 := Lib.hid hA
     have HNX := Lib.hid (hnx hc)
     clear hc hz hv0 hvy hnx hA
     go_wp2_with fail
     (refine (HCALL.out _ (by exact extA)).mono ?_; rintro e w2 ⟨rfl, h2⟩; have H2 := Lib.hid h2; have hz2 := h2.size; clear h2; (try simp only [World.size_alloc, size_set, World.heap_drewN, size_drew] at hz2); apply Row.use (w := w2) (g := w.heap.size); (focus (exact rowA)); intro q2_0 f2_0 l2_0 R2_0; (try simp only [lSet] at q2_0 R2_0))
     have f1 := HVC.out w2 (by exact extA)
     go_wp2_with fail
     go_roundg (taps.length - (k + 1))
     case measure => omega
     case rel => exact ⟨k + 1, by omega, by omega, by go_num, ⟨(show Ext w _ by exact extA), R2_0.out⟩, HA2.out, HNX.out⟩
    ·have hvy1 : (v != y) = true := by simpa using hvy
     rw [if_pos hvy] at hc
     rw [if_pos (by rw [hc]; decide), hc] at hA
     subst hA
     clear hc hz hv0 hvy hnx
     go_wp2_with fail
     (refine (HCALL.out _ (by exact extA)).mono ?_; rintro e w2 ⟨rfl, h2⟩; have H2 := Lib.hid h2; have hz2 := h2.size; clear h2; (try simp only [World.size_alloc, size_set, World.heap_drewN, size_drew] at hz2); apply Row.use (w := w2) (g := w.heap.size); (focus (exact rowA)); intro q2_0 f2_0 l2_0 R2_0; (try simp only [lSet] at q2_0 R2_0))
     have f1 := HVC.out w2 (by exact extA)
     go_wp2_with fail
     go_ret
     exact ⟨rfl, (show Ext w _ by exact extA)⟩
  ·have hge : ¬ (k : Int) < (taps.length : Int) := by omega
   have hkl : k = taps.length := by omega
   rw [hkl, List.drop_length] at hA
   have hr0 : res = 0 := by rw [← hA]; cases (vs.drop taps.length) <;> rfl
   subst hr0
   clear hA hkl
   go_wp2_with fail
   go_ret
   exact ⟨rfl, HE.out⟩
end Go.Proofs.YteojjbhadgkfgaaGreat

/- Ledgers: rides of all taps; a number that is there, by the document; counts of taps. -/
namespace Go.Proofs.YteojjbhadgkfgaaGreat
set_option linter.unusedSimpArgs false
set_option linter.unusedVariables false
set_option maxRecDepth 100000
open Go Go.RowKit Lb

end Go.Proofs.YteojjbhadgkfgaaGreat

/- CheckLedger, the document's own. -/
namespace Go.Proofs.YteojjbhadgkfgaaGreat
set_option linter.unusedSimpArgs false
set_option linter.unusedVariables false
set_option maxRecDepth 100000
open Go Go.RowKit Lb

end Go.Proofs.YteojjbhadgkfgaaGreat

/- ledger.Own. -/
namespace Go.Proofs.YteojjbhadgkfgaaGreat
set_option linter.unusedSimpArgs false
set_option linter.unusedVariables false
set_option maxRecDepth 100000
open Go Go.RowKit Lb

/-- A ledger in rows of the call's own, each another one. -/
structure OwnLd (base : Nat) (w : World) (t0 t1 t2 : Value) (l : Ld) : Prop where
 tk : OwnL 34 6 tkc base w t0 l.tickets
 tp : OwnL 57 5 tpc base w t1 l.taps
 vd : OwnL 3 1 inc base w t2 l.verdicts
 d01 : ∀ q, t0.ownBlock = some q → t1.ownBlock ≠ some q
 d02 : ∀ q, t0.ownBlock = some q → t2.ownBlock ≠ some q
 d12 : ∀ q, t1.ownBlock = some q → t2.ownBlock ≠ some q
theorem OwnLd.rest {base base2 : Nat} {w w' : World} {t0 t1 t2 : Value} {l : Ld} (h : OwnLd base w t0 t1 t2 l) (h0 : OwnL 34 6 tkc base2 w' t0 l.tickets) (h1 : OwnL 57 5 tpc base2 w' t1 l.taps) (h2 : OwnL 3 1 inc base2 w' t2 l.verdicts) : OwnLd base2 w' t0 t1 t2 l := ⟨h0, h1, h2, h.d01, h.d02, h.d12⟩
theorem OwnLd.ext {base : Nat} {w w' : World} {t0 t1 t2 : Value} {l : Ld} (h : OwnLd base w t0 t1 t2 l) (he : Ext w w') : OwnLd base w' t0 t1 t2 l := h.rest (h.tk.ext he) (h.tp.ext he) (h.vd.ext he)
theorem OwnLd.alloc {base : Nat} {w : World} {t0 t1 t2 : Value} {l : Ld} (h : OwnLd base w t0 t1 t2 l) (o : Obj) : OwnLd base (w.alloc o) t0 t1 t2 l := h.ext ((Ext.refl w).alloc o)
theorem OwnLd.lower {base b2 : Nat} {w : World} {t0 t1 t2 : Value} {l : Ld} (h : OwnLd base w t0 t1 t2 l) (hb : b2 ≤ base) : OwnLd b2 w t0 t1 t2 l := h.rest (h.tk.lower hb) (h.tp.lower hb) (h.vd.lower hb)
theorem OwnLd.nil {base : Nat} {w : World} : OwnLd base w (.slice none 0 0) (.slice none 0 0) (.slice none 0 0) ld0 := ⟨OwnL.nil, OwnL.nil, OwnL.nil, fun q h => (by simp [Value.ownBlock] at h), fun q h => (by simp [Value.ownBlock] at h), fun q h => (by simp [Value.ownBlock] at h)⟩
theorem OwnLd.setC {base : Nat} {w : World} {t0 t1 t2 : Value} {l : Ld} {a : Addr} {u : Value} (ha : a.block < base) (h : OwnLd base w t0 t1 t2 l) : OwnLd base (w.setCell a u) t0 t1 t2 l := h.rest (h.tk.set ha u) (h.tp.set ha u) (h.vd.set ha u)
theorem OwnLd.put {base : Nat} {w : World} {t0 t1 t2 : Value} {l : Ld} {a : Addr} (h : OwnLd base w t0 t1 t2 l) (h0 : t0.ownBlock ≠ some a.block) (h1 : t1.ownBlock ≠ some a.block) (h2 : t2.ownBlock ≠ some a.block) (u : Value) : OwnLd base (w.setCell a u) t0 t1 t2 l := h.rest (h.tk.put h0 u) (h.tp.put h1 u) (h.vd.put h2 u)

/-- its rows fit into memory -/
def fitsL (l : Ld) : Prop := l.tickets.length * 48 ≤ 140737488355328 ∧ l.taps.length * 40 ≤ 140737488355328 ∧ l.verdicts.length * 8 ≤ 140737488355328

set_option maxHeartbeats 8000000 in
theorem ledger_Own (l : Ld) (s0 s1 s2 : Value) (w : World) (hr0 : RdL 6 tkc w s0 l.tickets) (hr1 : RdL 5 tpc w s1 l.taps) (hr2 : RdL 1 inc w s2 l.verdicts) (hz : fitsL l) :
  Calls Tryz.prog 143 #[.agg #[s0, s1, s2]] w fun e w' => ∃ t0 t1 t2, e = .returned (.agg #[t0, t1, t2]) ∧ Ext w w' ∧ OwnLd w.heap.size w' t0 t1 t2 l := by
 have HC0 := Lib.hid (fun (w' : World) (h : Ext w w') => Clone_tk l.tickets s0 w' (hr0.ext h) hz.1)
 have HC1 := Lib.hid (fun (w' : World) (h : Ext w w') => Clone_tp l.taps s1 w' (hr1.ext h) hz.2.1)
 have HC2 := Lib.hid (fun (w' : World) (h : Ext w w') => Clone_it l.verdicts s2 w' (hr2.ext h) hz.2.2)
 obtain ⟨A0, c0, rfl, -, -⟩ := hr0.form
 obtain ⟨A, c, rfl, -, -⟩ := hr1.form
 obtain ⟨A2, c2, rfl, -, -⟩ := hr2.form
 clear hr0 hr1 hr2
 go_enter Tryz.func143, Tryz.ntmps143
 go_upto_region 1 with fail
 (apply wp_gen2 (w0 := w) (g0 := w.heap.size) (g1 := w.heap.size + 1); (focus (exact rowA)); (focus (exact rowA)); (focus (exact extA)); intro W HW hzW Ra_0 Ra_1; (try simp only [lSet, World.size_alloc, size_set, World.heap_drewN, size_drew] at hzW Ra_0 Ra_1); have la_0 := Ra_0.out.size; have la_1 := Ra_1.out.size)
 have HK := Lib.hid (fun (w' : World) (h : Ext W w') => (Row.ext h Ra_0.out).2.1)
 (refine T_begin (fun w' => Ext W w') 10 (by kernel_rfl) ((Ext.refl _).drew) (fun hS => ?_); simp only [List.length_cons, List.length_nil])
 (refine tkA 0 HK hS ?_; (try simp only [Act.put, lSet]); refine tkA 1 HK hS ?_; (try simp only [Act.put, lSet]); refine tkA 3 HK hS ?_; (try simp only [Act.put, lSet]); refine tkA 4 HK hS ?_; (try simp only [Act.put, lSet]); refine tkA 6 HK hS ?_; (try simp only [Act.put, lSet]); refine tkA 7 HK hS ?_; (try simp only [Act.put, lSet]))
 (refine T_only (i := 2) rfl (by kernel_rfl) rfl (fun K hK => ?_); go_simp)
 refine (HC0.out _ (by exact extA)).mono ?_
 rintro e w1 ⟨v1, rfl, h1, ho1⟩
 obtain ⟨B1, d1, rfl⟩ := ho1.form
 have hz1 := h1.size
 have H1 := Lib.hid h1
 (try simp only [World.size_alloc, size_set, World.heap_drewN, size_drew] at hz1 ho1)
 have HO1 := Lib.hid ho1
 clear h1 ho1 hS
 go_wp2_with fail
 have hS : Ext W w1 := by exact extA
 refine hK.out _ _ (.inr hS) ?_
 clear hK
 (try simp only [Act.put, lSet])
 (refine T_only (i := 5) rfl (by kernel_rfl) rfl (fun K hK => ?_); go_simp)
 refine (HC1.out _ (by exact extA)).mono ?_
 rintro e w2 ⟨v2, rfl, h2, ho2⟩
 obtain ⟨B2, d2, rfl⟩ := ho2.form
 have hz2 := h2.size
 have H2 := Lib.hid h2
 have HO2 := Lib.hid ho2
 clear h2 ho2 hS
 go_wp2_with fail
 have hS : Ext W w2 := by exact extA
 refine hK.out _ _ (.inr hS) ?_
 clear hK
 (try simp only [Act.put, lSet])
 (refine T_only (i := 8) rfl (by kernel_rfl) rfl (fun K hK => ?_); go_simp)
 refine (HC2.out _ (by exact extA)).mono ?_
 rintro e w3 ⟨v3, rfl, h3, ho3⟩
 obtain ⟨B3, d3, rfl⟩ := ho3.form
 have hz3 := h3.size
 have H3 := Lib.hid h3
 have HO3 := Lib.hid ho3
 clear h3 ho3 hS
 go_wp2_with fail
 have hS : Ext W w3 := by exact extA
 refine hK.out _ _ (.inr hS) ?_
 clear hK
 (try simp only [Act.put, lSet])
 ((refine T_only (i := 9) rfl (by kernel_rfl) rfl (fun K hK => ?_); go_simp; refine hK.out _ _ (.inr hS) ?_; clear hK; (try simp only [Act.put, lSet])))
 (apply Row.use (w := w3) (g := w.heap.size + 1); (focus (exact rowA)); intro q3_0 f3_0 l3_0 R3_0; (try simp only [lSet] at q3_0 R3_0))
 (refine T_only (i := 10) rfl (by kernel_rfl) rfl (fun K hK => ?_); go_simp; refine hK.out _ _ (.inl (by kernel_rfl)) ?_; clear hK; (try simp only [Act.put, lSet]); refine T_done (by kernel_rfl) ?_ _)
 go_wp2_with fail
 refine bodyPost_ret (v := .agg #[.slice B1 l.tickets.length d1, .slice B2 l.taps.length d2, .slice B3 l.verdicts.length d3]) (by simp [results, Tryz.results143, go_sem, *]) rfl ⟨_, _, _, rfl, (show Ext w _ by exact extA), ?_⟩
 have k1 : OwnL 34 6 tkc W.heap.size w3 (.slice B1 l.tickets.length d1) l.tickets := by (refine OwnL.lower (base := W.heap.size) ?_ (by omega); repeat (first | (with_reducible assumption) | (with_reducible exact Hid.out ‹Hid (OwnL _ _ _ _ _ _ _)›) | (with_reducible apply OwnL.setC; focus (simp <;> omega)) | (with_reducible refine OwnL.put ?_ (by assumption) _) | (with_reducible apply OwnL.alloc) | (with_reducible apply OwnL.drew) | (with_reducible apply OwnL.drewN) | (with_reducible refine OwnL.ext ?_ (Hid.out ‹Hid (Ext _ _)›))))
 have k2 : OwnL 57 5 tpc W.heap.size w3 (.slice B2 l.taps.length d2) l.taps := by (refine OwnL.lower (base := w1.heap.size) ?_ (by omega); repeat (first | (with_reducible assumption) | (with_reducible exact Hid.out ‹Hid (OwnL _ _ _ _ _ _ _)›) | (with_reducible apply OwnL.setC; focus (simp <;> omega)) | (with_reducible refine OwnL.put ?_ (by assumption) _) | (with_reducible apply OwnL.alloc) | (with_reducible apply OwnL.drew) | (with_reducible apply OwnL.drewN) | (with_reducible refine OwnL.ext ?_ (Hid.out ‹Hid (Ext _ _)›))))
 have k3 : OwnL 3 1 inc W.heap.size w3 (.slice B3 l.verdicts.length d3) l.verdicts := by (refine OwnL.lower (base := w2.heap.size) ?_ (by omega); repeat (first | (with_reducible assumption) | (with_reducible exact Hid.out ‹Hid (OwnL _ _ _ _ _ _ _)›) | (with_reducible apply OwnL.setC; focus (simp <;> omega)) | (with_reducible refine OwnL.put ?_ (by assumption) _) | (with_reducible apply OwnL.alloc) | (with_reducible apply OwnL.drew) | (with_reducible apply OwnL.drewN) | (with_reducible refine OwnL.ext ?_ (Hid.out ‹Hid (Ext _ _)›))))
 have k : OwnLd W.heap.size w3 (.slice B1 l.tickets.length d1) (.slice B2 l.taps.length d2) (.slice B3 l.verdicts.length d3) l := by
  refine ⟨k1, k2, k3, fun q a b => ?_, fun q a b => ?_, fun q a b => ?_⟩
  ·have := HO1.out.lt q a; have := HO2.out.lt q b; omega
  ·have := HO1.out.lt q a; have := HO3.out.lt q b; omega
  ·have := HO2.out.lt q a; have := HO3.out.lt q b; omega
 clear k1 k2 k3
 refine OwnLd.lower (base := W.heap.size) ?_ (by omega)
 repeat (first | exact k | (apply OwnLd.setC; focus (simp <;> omega)))
end Go.Proofs.YteojjbhadgkfgaaGreat

/- The reference's AtGate; the audit's two predicates and counts. -/
namespace Go.Proofs.YteojjbhadgkfgaaGreat
set_option linter.unusedSimpArgs false
set_option linter.unusedVariables false
set_option maxRecDepth 100000
open Go Go.RowKit Lb

end Go.Proofs.YteojjbhadgkfgaaGreat

/- audit.Gate, Rest, Left, Between; LeftOf, the document's own. -/
namespace Go.Proofs.YteojjbhadgkfgaaGreat
set_option linter.unusedSimpArgs false
set_option linter.unusedVariables false
set_option maxRecDepth 100000
open Go Go.RowKit Lb

theorem right_len {l : Ld} (h : ckLedger l = 0) : l.taps.length = l.verdicts.length := (right_iff.1 h).2.2.1
end Go.Proofs.YteojjbhadgkfgaaGreat

/- audit.Rest, Left; LeftOf, the document's own. -/
namespace Go.Proofs.YteojjbhadgkfgaaGreat
set_option linter.unusedSimpArgs false
set_option linter.unusedVariables false
set_option maxRecDepth 100000
open Go Go.RowKit Lb

end Go.Proofs.YteojjbhadgkfgaaGreat
