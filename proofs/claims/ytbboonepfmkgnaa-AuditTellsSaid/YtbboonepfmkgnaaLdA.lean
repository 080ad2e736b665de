/- Ledgers: where a ticket is; what is wrong with tickets. -/
import Derived.Test.YtbboonepfmkgnaaIxTick
import Derived.Test.YtbboonepfmkgnaaRuleC
namespace Go.Proofs.Ytbboonepfmkgnaa
set_option linter.unusedSimpArgs false
set_option linter.unusedVariables false
set_option maxRecDepth 100000
open Go Go.RowKit Lb

theorem RdL.tk_at {w : World} {v : Value} {l : List Tk} (h : RdL 6 tkc w v l) {A : Option Addr} {n c : Nat} (hv : v = .slice A n c) {k : Nat} (hk : k < l.length) : ∃ b o, A = some ⟨b, o, none⟩ ∧ b < w.heap.size ∧
    w.cell? ⟨b, o + k * 6, none⟩ = some (.int .i64 l[k].id) ∧ w.cell? ⟨b, o + k * 6 + 1, none⟩ = some (.int .i64 l[k].kind) ∧ w.cell? ⟨b, o + k * 6 + 2, none⟩ = some (.int .i64 l[k].frm) ∧ w.cell? ⟨b, o + k * 6 + 3, none⟩ = some (.int .i64 l[k].til) ∧ w.cell? ⟨b, o + k * 6 + 4, none⟩ = some (.int .i64 l[k].zones) ∧ w.cell? ⟨b, o + k * 6 + 5, none⟩ = some (.int .i64 l[k].rides) := by
  obtain ⟨b, o, c', hv', hb, hc⟩ := h.at_ hk
  rw [hv] at hv'
  injection hv' with ha
  exact ⟨b, o, ha, hb, hc 0 _ rfl, hc 1 _ rfl, hc 2 _ rfl, hc 3 _ rfl, hc 4 _ rfl, hc 5 _ rfl⟩

theorem find_one (x : Tk) (id : Int) (g : Nat) (w : World) (hr : Row w g #[.int .i64 id]) :
    Calls Try.prog 78 #[.agg (tkc x), .pointer (some ⟨g, 0, none⟩)] w fun e w' => e = .returned (.bool (x.id == id)) ∧ Ext w w' := by
  obtain ⟨x0, x1, x2, x3, x4, x5⟩ := x
  unfold tkc
  apply Row.use hr; intro q f l R
  clear hr
  go_enter Try.func78, Try.ntmps78
  go_wp2
  all_goals
    go_ret
    refine ⟨ret_bool ?_, ?_⟩
    · simp_all
    · repeat (first | (with_reducible exact Ext.refl _) | (with_reducible refine Ext.alloc ?_ _) | (with_reducible apply Ext.setC; focus (simp <;> omega)) | (with_reducible refine Ext.drew ?_) | (with_reducible refine Ext.drewN ?_ _) | (with_reducible refine Ext.trans ?_ (Hid.out ‹Hid (Ext _ _)›)))

set_option maxHeartbeats 4000000 in
theorem ledger_Find (l : List Tk) (id : Int) (v : Value) (w : World) (hr : RdL 6 tkc w v l) :
    Calls Try.prog 46 #[v, .int .i64 id] w fun e w' => e = .returned (.int .i64 (ixBy (fun t => t.id == id) l)) ∧ Ext w w' := by
  have HC := Lib.hid (fun (w' : World) (b : Nat) (h : Ext w w') (hb : Row w' b #[.int .i64 id]) => IndexFunc_tk (fun t => t.id == id) 78 #[.pointer (some ⟨b, 0, none⟩)] (fun args w => by simp [go_sem]) l v w' (hr.ext h) (fun W x hE => find_one x id b W (hb.ext hE)))
  obtain ⟨A, c, rfl, -, -⟩ := hr.form
  generalize ixBy (fun t : Tk => t.id == id) l = r at *
  clear hr
  go_enter Try.func46, Try.ntmps46
  go_wp2_with fail
  refine (HC.out _ _ (by repeat (first | (with_reducible exact Ext.refl _) | (with_reducible refine Ext.alloc ?_ _) | (with_reducible apply Ext.setC; focus (simp <;> omega)) | (with_reducible refine Ext.drew ?_) | (with_reducible refine Ext.drewN ?_ _) | (with_reducible refine Ext.trans ?_ (Hid.out ‹Hid (Ext _ _)›)))) (Row.newAt rfl)).mono ?_
  rintro e w1 ⟨rfl, h1⟩
  have H1 := Lib.hid h1
  clear h1
  go_wp2_with fail
  go_ret
  refine ⟨rfl, ?_⟩
  repeat (first | (with_reducible exact Ext.refl _) | (with_reducible refine Ext.alloc ?_ _) | (with_reducible apply Ext.setC; focus (simp <;> omega)) | (with_reducible refine Ext.drew ?_) | (with_reducible refine Ext.drewN ?_ _) | (with_reducible refine Ext.trans ?_ (Hid.out ‹Hid (Ext _ _)›)))

theorem ixBy_cons {α : Type} (p : α → Bool) (l : List α) (k : Nat) (h : k < l.length) (hn : ∀ j (hj : j < l.length), j < k → p l[j] = false) (hp : p l[k] = true) : ixBy p l = k := by
  unfold ixBy
  have : l.findIdx? p = some k := List.findIdx?_eq_some_iff_getElem.2 ⟨h, hp, fun j hj => by simpa using hn j (by omega) hj⟩
  rw [this]
theorem ixBy_none {α : Type} (p : α → Bool) (l : List α) (hn : ∀ j (hj : j < l.length), p l[j] = false) : ixBy p l = -1 := by
  unfold ixBy
  have : l.findIdx? p = none := by
    rw [List.findIdx?_eq_none_iff]
    intro x hx
    obtain ⟨j, hj, rfl⟩ := List.mem_iff_getElem.1 hx
    exact hn j hj
  rw [this]

set_option maxHeartbeats 4000000 in
theorem ref_TicketAt (l : List Tk) (id : Int) (v : Value) (w : World) (hr : RdL 6 tkc w v l) :
    Calls Try.prog 21 #[v, .int .i64 id] w fun e w' => e = .returned (.int .i64 (ixBy (fun t => t.id == id) l)) ∧ Ext w w' := by
  obtain ⟨A, c, rfl, hmc, hmm⟩ := hr.form
  have hm : l.length ≤ 9223372036854775807 := by unfold maxLen at hmm; omega
  have HRd := Lib.hid hr
  generalize hR : ixBy (fun t : Tk => t.id == id) l = r
  have HR := Lib.hid hR
  clear hr hmc hmm hR
  go_enter Try.func21, Try.ntmps21
  go_wp2_with fail
  go_loopg [5] l.length (fun gg s5 wr => ∃ k : Nat, k ≤ l.length ∧ l.length - k ≤ gg ∧ s5 = .int .i64 k ∧ Aside (Ext w wr) ∧ Aside (∀ j (hj : j < l.length), j < k → (l[j].id == id) = false))
  case atStart => exact ⟨0, by omega, by omega, rfl, Ext.refl _, fun j _ hj => by omega⟩
  case round =>
    obtain ⟨k, hk, hg, rfl, HE, HA⟩ := hrel
    have HE2 := Lib.hid HE.out
    have HA2 := Lib.hid HA.out
    clear HE HA
    by_cases hlt : k < l.length
    · have hlt' : (k : Int) < (l.length : Int) := by omega
      obtain ⟨b, o, rfl, hb, c0, -, -, -, -, -⟩ := (HRd.out.ext HE2.out).tk_at rfl hlt
      by_cases hx : l[k].id = id
      · have hxb : (l[k].id == id) = true := by simpa using hx
        have hQ := ixBy_cons (fun t : Tk => t.id == id) l k hlt (fun j hj h => HA2.out j hj h) hxb
        rw [HR.out] at hQ
        subst hQ
        clear hx HA2
        generalize l[k].id = x at *
        go_wp2_with fail
        (try (go_quiet (fail); go_wp2_with fail))
        go_ret
        exact ⟨rfl, (show Ext w _ by repeat (first | (with_reducible exact Ext.refl _) | (with_reducible refine Ext.alloc ?_ _) | (with_reducible apply Ext.setC; focus (simp <;> omega)) | (with_reducible refine Ext.drew ?_) | (with_reducible refine Ext.drewN ?_ _) | (with_reducible refine Ext.trans ?_ (Hid.out ‹Hid (Ext _ _)›))))⟩
      · have hxb : (l[k].id == id) = false := by simpa using hx
        have HA3 := Lib.hid (show ∀ j (hj : j < l.length), j < k + 1 → (l[j].id == id) = false from fun j hj h => by
          by_cases hjk : j = k
          · subst hjk; exact hxb
          · exact HA2.out j hj (by omega))
        clear HA2 hx
        generalize l[k].id = x at *
        go_wp2_with fail
        (try (go_quiet (fail); go_wp2_with fail))
        go_roundg (l.length - (k + 1))
        case measure => omega
        case rel => exact ⟨k + 1, by omega, by omega, by go_num, (show Ext w _ by repeat (first | (with_reducible exact Ext.refl _) | (with_reducible refine Ext.alloc ?_ _) | (with_reducible apply Ext.setC; focus (simp <;> omega)) | (with_reducible refine Ext.drew ?_) | (with_reducible refine Ext.drewN ?_ _) | (with_reducible refine Ext.trans ?_ (Hid.out ‹Hid (Ext _ _)›)))), HA3.out⟩
    · have hge : ¬ (k : Int) < (l.length : Int) := by omega
      have hQ := ixBy_none (fun t : Tk => t.id == id) l (fun j hj => HA2.out j hj (by omega))
      rw [HR.out] at hQ
      subst hQ
      clear HA2
      go_wp2_with fail
      go_ret
      exact ⟨rfl, HE2.out⟩
/-- the number ahead of place k -/
def prevK (l : List Tk) (k : Nat) : Option Int := if k = 0 then none else (l[k - 1]?).map (·.id)
theorem prevK_succ (l : List Tk) (k : Nat) (h : k < l.length) : prevK l (k + 1) = some l[k].id := by simp [prevK, h]
theorem ckTickets_cons (prev : Option Int) (t : Tk) (l : List Tk) : ckTickets prev (t :: l) = if ckTicket t ≠ 0 then ckTicket t else if noRise prev t.id = true then 4 else ckTickets (some t.id) l := rfl

set_option maxHeartbeats 8000000 in
theorem ledger_tickets (l : List Tk) (v : Value) (w : World) (hr : RdL 6 tkc w v l) :
    Calls Try.prog 55 #[v] w fun e w' => e = .returned (.int .i64 (ckTickets none l)) ∧ Ext w w' := by
  obtain ⟨A, c, rfl, hmc, hmm⟩ := hr.form
  have hm : l.length ≤ 9223372036854775807 := by unfold maxLen at hmm; omega
  have HRd := Lib.hid hr
  generalize hR : ckTickets none l = r
  have HR := Lib.hid hR
  clear hr hmc hmm hR
  go_enter Try.func55, Try.ntmps55
  go_wp2_with fail
  go_loopg [3, 4, 5, 8] l.length (fun gg _ _ _ s8 wr => ∃ k : Nat, k ≤ l.length ∧ l.length - k ≤ gg ∧ s8 = .int .i64 k ∧ Aside (Ext w wr) ∧ Aside (ckTickets (prevK l k) (l.drop k) = r))
  case atStart => exact ⟨0, by omega, by omega, rfl, Ext.refl _, HR.out⟩
  case round =>
    obtain ⟨k, hk, hg, rfl, HE, HA⟩ := hrel
    have HE2 := Lib.hid HE.out
    have hA := HA.out
    clear HE HA
    by_cases hlt : k < l.length
    · have hlt' : (k : Int) < (l.length : Int) := by omega
      obtain ⟨b, o, rfl, hb, c0, c1, c2', c3, c4, c5⟩ := (HRd.out.ext HE2.out).tk_at rfl hlt
      rw [List.drop_eq_getElem_cons hlt, ckTickets_cons] at hA
      have HRC := Lib.hid (fun w => ticket_Check l[k] w)
      have hpv : 0 < k → ∃ y : Int, prevK l k = some y ∧ ∀ W, Ext wr W → W.cell? ⟨b, o + (k - 1) * 6, none⟩ = some (.int .i64 y) := by
        intro h0
        have hk1 : k - 1 < l.length := by omega
        refine ⟨l[k - 1].id, by unfold prevK; rw [if_neg (by omega), List.getElem?_eq_getElem hk1]; rfl, fun W hW => ?_⟩
        obtain ⟨b', o', hAA, _, d0, _⟩ := ((HRd.out.ext HE2.out).ext hW).tk_at rfl hk1
        injection hAA with hAA
        injection hAA with e1 e2
        subst e1 e2
        exact d0
      have HPV := Lib.hid hpv
      have hk0 : k = 0 → prevK l k = none := fun h => by subst h; rfl
      rw [← prevK_succ l k hlt] at hA
      clear hpv
      generalize hp : l[k] = p at *
      clear hp
      obtain ⟨x0, x1, x2, x3, x4, x5⟩ := p
      simp only at c0 c1 c2' c3 c4 c5 hA
      unfold tkc at HRC
      generalize ckTicket ⟨x0, x1, x2, x3, x4, x5⟩ = q at HRC hA
      by_cases hq0 : q = 0
      · rw [if_neg (by simpa using hq0)] at hA
        subst hq0
        by_cases hz : k = 0
        · rw [hk0 hz, if_neg (by simp [noRise])] at hA
          subst hz
          simp only [Nat.zero_mul, Nat.add_zero] at c0 c1 c2' c3 c4 c5
          have HA2 := Lib.hid hA
          clear hA hk0 HPV
          go_wp2_with fail
          (refine (HRC.out _).mono ?_; rintro e w1 ⟨rfl, h1⟩; have H1 := Lib.hid h1; have hz1 := h1.size; clear h1; (try simp only [World.size_alloc, size_set, World.heap_drewN, size_drew] at hz1); apply Row.use (w := w1) (g := wr.heap.size); (focus (repeat (first | (with_reducible exact Hid.out ‹Hid (Row _ _ _)›) | (with_reducible exact Row.newAt rfl) | (with_reducible apply Row.newAt; (simp; done)) | (with_reducible apply Row.set_) | (with_reducible apply Row.far; focus (simp <;> omega)) | (with_reducible apply Row.alloc) | (with_reducible apply Row.drew) | (with_reducible apply Row.drewN) | (with_reducible apply Row.ext (Hid.out ‹Hid (Ext _ _)›))))); intro q1_0 f1_0 l1_0 R1_0; (try simp only [List.setIfInBounds_toArray, List.set_cons_zero, List.set_cons_succ] at q1_0 R1_0))
          go_wp2_with fail
          go_quiet (fail)
          go_wp2_with fail
          go_roundg (l.length - (0 + 1))
          case measure => omega
          case rel => exact ⟨0 + 1, by omega, by omega, by go_num, (show Ext w _ by repeat (first | (with_reducible exact Ext.refl _) | (with_reducible refine Ext.alloc ?_ _) | (with_reducible apply Ext.setC; focus (simp <;> omega)) | (with_reducible refine Ext.drew ?_) | (with_reducible refine Ext.drewN ?_ _) | (with_reducible refine Ext.trans ?_ (Hid.out ‹Hid (Ext _ _)›)))), HA2.out⟩
        · obtain ⟨y, hy, hyc⟩ := HPV.out (by omega)
          have hkn : 0 < k := by omega
          have hkd : decide (0 < k) = true := by simpa using hkn
          have hw1 : IntKind.i64.wrap ((k : Int) - 1) = ((k - 1 : Nat) : Int) := by rw [IntWalk.i64_in _ (by omega)]; omega
          have hk1 : ((k - 1 : Nat) : Int) < (l.length : Int) := by omega
          have hk2 : k - 1 < l.length := by omega
          rw [hy] at hA
          have HYC := Lib.hid hyc
          clear hy hyc HPV hk0
          by_cases e3 : x0 ≤ y
          · have e3b : decide (x0 ≤ y) = true := by simpa using e3
            rw [if_pos (by simpa [noRise] using e3)] at hA
            subst hA
            clear e3
            go_wp2_with fail
            (refine (HRC.out _).mono ?_; rintro e w1 ⟨rfl, h1⟩; have H1 := Lib.hid h1; have hz1 := h1.size; clear h1; (try simp only [World.size_alloc, size_set, World.heap_drewN, size_drew] at hz1); apply Row.use (w := w1) (g := wr.heap.size); (focus (repeat (first | (with_reducible exact Hid.out ‹Hid (Row _ _ _)›) | (with_reducible exact Row.newAt rfl) | (with_reducible apply Row.newAt; (simp; done)) | (with_reducible apply Row.set_) | (with_reducible apply Row.far; focus (simp <;> omega)) | (with_reducible apply Row.alloc) | (with_reducible apply Row.drew) | (with_reducible apply Row.drewN) | (with_reducible apply Row.ext (Hid.out ‹Hid (Ext _ _)›))))); intro q1_0 f1_0 l1_0 R1_0; (try simp only [List.setIfInBounds_toArray, List.set_cons_zero, List.set_cons_succ] at q1_0 R1_0))
            have f2 := HYC.out w1 (by repeat (first | (with_reducible exact Ext.refl _) | (with_reducible refine Ext.alloc ?_ _) | (with_reducible apply Ext.setC; focus (simp <;> omega)) | (with_reducible refine Ext.drew ?_) | (with_reducible refine Ext.drewN ?_ _) | (with_reducible refine Ext.trans ?_ (Hid.out ‹Hid (Ext _ _)›))))
            go_wp2_with fail
            go_quiet (fail)
            go_wp2_with fail
            go_ret
            exact ⟨rfl, (show Ext w _ by repeat (first | (with_reducible exact Ext.refl _) | (with_reducible refine Ext.alloc ?_ _) | (with_reducible apply Ext.setC; focus (simp <;> omega)) | (with_reducible refine Ext.drew ?_) | (with_reducible refine Ext.drewN ?_ _) | (with_reducible refine Ext.trans ?_ (Hid.out ‹Hid (Ext _ _)›))))⟩
          · have e3b : decide (x0 ≤ y) = false := by simpa using e3
            rw [if_neg (by simpa [noRise] using e3)] at hA
            have HA2 := Lib.hid hA
            clear hA e3
            go_wp2_with fail
            (refine (HRC.out _).mono ?_; rintro e w1 ⟨rfl, h1⟩; have H1 := Lib.hid h1; have hz1 := h1.size; clear h1; (try simp only [World.size_alloc, size_set, World.heap_drewN, size_drew] at hz1); apply Row.use (w := w1) (g := wr.heap.size); (focus (repeat (first | (with_reducible exact Hid.out ‹Hid (Row _ _ _)›) | (with_reducible exact Row.newAt rfl) | (with_reducible apply Row.newAt; (simp; done)) | (with_reducible apply Row.set_) | (with_reducible apply Row.far; focus (simp <;> omega)) | (with_reducible apply Row.alloc) | (with_reducible apply Row.drew) | (with_reducible apply Row.drewN) | (with_reducible apply Row.ext (Hid.out ‹Hid (Ext _ _)›))))); intro q1_0 f1_0 l1_0 R1_0; (try simp only [List.setIfInBounds_toArray, List.set_cons_zero, List.set_cons_succ] at q1_0 R1_0))
            have f2 := HYC.out w1 (by repeat (first | (with_reducible exact Ext.refl _) | (with_reducible refine Ext.alloc ?_ _) | (with_reducible apply Ext.setC; focus (simp <;> omega)) | (with_reducible refine Ext.drew ?_) | (with_reducible refine Ext.drewN ?_ _) | (with_reducible refine Ext.trans ?_ (Hid.out ‹Hid (Ext _ _)›))))
            go_wp2_with fail
            go_quiet (fail)
            go_wp2_with fail
            go_roundg (l.length - (k + 1))
            case measure => omega
            case rel => exact ⟨k + 1, by omega, by omega, by go_num, (show Ext w _ by repeat (first | (with_reducible exact Ext.refl _) | (with_reducible refine Ext.alloc ?_ _) | (with_reducible apply Ext.setC; focus (simp <;> omega)) | (with_reducible refine Ext.drew ?_) | (with_reducible refine Ext.drewN ?_ _) | (with_reducible refine Ext.trans ?_ (Hid.out ‹Hid (Ext _ _)›)))), HA2.out⟩
      · have hqb : (q != 0) = true := by simpa using hq0
        rw [if_pos hq0] at hA
        subst hA
        clear hq0 hk0 HPV
        go_wp2_with fail
        (refine (HRC.out _).mono ?_; rintro e w1 ⟨rfl, h1⟩; have H1 := Lib.hid h1; have hz1 := h1.size; clear h1; (try simp only [World.size_alloc, size_set, World.heap_drewN, size_drew] at hz1); apply Row.use (w := w1) (g := wr.heap.size); (focus (repeat (first | (with_reducible exact Hid.out ‹Hid (Row _ _ _)›) | (with_reducible exact Row.newAt rfl) | (with_reducible apply Row.newAt; (simp; done)) | (with_reducible apply Row.set_) | (with_reducible apply Row.far; focus (simp <;> omega)) | (with_reducible apply Row.alloc) | (with_reducible apply Row.drew) | (with_reducible apply Row.drewN) | (with_reducible apply Row.ext (Hid.out ‹Hid (Ext _ _)›))))); intro q1_0 f1_0 l1_0 R1_0; (try simp only [List.setIfInBounds_toArray, List.set_cons_zero, List.set_cons_succ] at q1_0 R1_0))
        go_wp2_with fail
        go_ret
        exact ⟨rfl, (show Ext w _ by repeat (first | (with_reducible exact Ext.refl _) | (with_reducible refine Ext.alloc ?_ _) | (with_reducible apply Ext.setC; focus (simp <;> omega)) | (with_reducible refine Ext.drew ?_) | (with_reducible refine Ext.drewN ?_ _) | (with_reducible refine Ext.trans ?_ (Hid.out ‹Hid (Ext _ _)›))))⟩
    · have hge : ¬ (k : Int) < (l.length : Int) := by omega
      have hkl : k = l.length := by omega
      rw [hkl, List.drop_length] at hA
      have hr0 : r = 0 := hA.symm
      subst hr0
      clear hA hkl
      go_wp2_with fail
      go_ret
      exact ⟨rfl, HE2.out⟩
end Go.Proofs.Ytbboonepfmkgnaa
