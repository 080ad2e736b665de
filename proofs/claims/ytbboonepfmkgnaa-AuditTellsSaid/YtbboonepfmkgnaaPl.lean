/- Ledgers: what a tap is behind others, what a right ledger is, what comes of a tap and of a ticket: the plain side. -/
import Derived.Test.YtbboonepfmkgnaaSpec
namespace Lb

/-- the first error -/
def eachE {α : Type} (f : α → Int) : List α → Int
  | [] => 0
  | x :: l => if f x ≠ 0 then f x else eachE f l
theorem eachE_cons {α : Type} (f : α → Int) (x : α) (l : List α) : eachE f (x :: l) = if f x ≠ 0 then f x else eachE f l := rfl
theorem eachE_nil {α : Type} (f : α → Int) : eachE f [] = 0 := rfl
theorem eachE_ok {α : Type} {f : α → Int} {l : List α} : eachE f l = 0 ↔ ∀ x ∈ l, f x = 0 := by
  induction l with
  | nil => simp [eachE]
  | cons a l ih =>
    rw [eachE_cons]
    by_cases ha : f a = 0
    · rw [if_neg (by simpa using ha), ih]
      simp [ha]
    · rw [if_pos ha]
      simp [ha]
theorem eachE_append {α : Type} (f : α → Int) (a b : List α) : eachE f (a ++ b) = if eachE f a ≠ 0 then eachE f a else eachE f b := by
  induction a with
  | nil => simp [eachE]
  | cons x a ih =>
    simp only [List.cons_append, eachE_cons, ih]
    by_cases hx : f x = 0 <;> simp [hx]

def sameNo (p x : Tp) : Bool := x.gate == p.gate && x.seq == p.seq
def ticketOf (tks : List Tk) (id : Int) : Option Tk := tks.find? (fun t => t.id == id)
/-- is the last one later? -/
def lateBy (taps : List Tp) (p : Tp) : Bool := match taps.getLast? with
  | none => false
  | some x => decide (p.time < x.time)
/-- what the judge says of a tap behind others -/
def judgeIn (t : Tk) (taps : List Tp) (vs : List Int) (p : Tp) : Int × Int :=
  judge t (lastTime (ridesOf taps vs p.ticket)) (ridesOf taps vs p.ticket).length p
/-- what a tap is behind others; else verdict 0, and why -/
def tapV (tks : List Tk) (taps : List Tp) (vs : List Int) (p : Tp) : Int × Int :=
  if ckTap p ≠ 0 then (0, ckTap p)
  else match ticketOf tks p.ticket with
    | none => (0, 5)
    | some t => if taps.any (sameNo p) then (0, 6) else if lateBy taps p then (0, 4) else judgeIn t taps vs p
/-- what is wrong with a tap of a ledger and its verdict -/
def ckTapAt (tks : List Tk) (taps : List Tp) (vs : List Int) (p : Tp) (v : Int) : Int :=
  if ckTap p ≠ 0 then ckTap p
  else match ticketOf tks p.ticket with
    | none => 5
    | some t => if taps.any (sameNo p) then 6 else if v ≠ 1 ∧ v ≠ 2 then 7 else if lateBy taps p then 4 else if (judgeIn t taps vs p).1 ≠ v then 4 else 0
/-- tap by tap; pre, pv: those ahead -/
def ckTaps (tks : List Tk) : List Tp → List Int → List Tp → List Int → Int
  | pre, pv, p :: l, v :: vl => if ckTapAt tks pre pv p v ≠ 0 then ckTapAt tks pre pv p v else ckTaps tks (pre ++ [p]) (pv ++ [v]) l vl
  | _, _, _, _ => 0
def ckLedger (l : Ld) : Int :=
  if 12 < l.tickets.length ∨ 60 < l.taps.length ∨ l.taps.length ≠ l.verdicts.length then 2
  else if ckTickets none l.tickets ≠ 0 then ckTickets none l.tickets
  else ckTaps l.tickets [] [] l.taps l.verdicts
def Right (l : Ld) : Prop := ckLedger l = 0

/-- a tap comes to a ledger that is right: the ledger, its verdict, why not -/
def enterL (l : Ld) (p : Tp) : Ld × Int × Int :=
  if (tapV l.tickets l.taps l.verdicts p).2 ≠ 0 then (ld0, (tapV l.tickets l.taps l.verdicts p).1, (tapV l.tickets l.taps l.verdicts p).2)
  else if l.taps.length = 60 then (ld0, 0, 2)
  else (⟨l.tickets, l.taps ++ [p], l.verdicts ++ [(tapV l.tickets l.taps l.verdicts p).1]⟩, (tapV l.tickets l.taps l.verdicts p).1, 0)
def enterAll (l : Ld) (p : Tp) : Ld × Int × Int := if ckLedger l ≠ 0 then (ld0, 0, ckLedger l) else enterL l p

def insTk (t : Tk) : List Tk → List Tk
  | [] => [t]
  | x :: l => if x.id < t.id then x :: insTk t l else t :: x :: l
def sellL (l : Ld) (t : Tk) : Ld × Int :=
  if ckTicket t ≠ 0 then (ld0, ckTicket t)
  else if l.tickets.any (fun x => x.id == t.id) then (ld0, 6)
  else if l.tickets.length = 12 then (ld0, 2)
  else (⟨insTk t l.tickets, l.taps, l.verdicts⟩, 0)
def sellAll (l : Ld) (t : Tk) : Ld × Int := if ckLedger l ≠ 0 then (ld0, ckLedger l) else sellL l t
def manyL (l : Ld) (id : Int) : Int := (ridesOf l.taps l.verdicts id).length
def ridesAll (l : Ld) (id : Int) : Int × Int :=
  if ckLedger l ≠ 0 then (0, ckLedger l) else if ticketOf l.tickets id = none then (0, 5) else (manyL l id, 0)

/- laws of these -/
theorem judge_cases (t : Tk) (last : Option Int) (r : Int) (p : Tp) : ((judge t last r p).1 = 1 ∧ (judge t last r p).2 = 0) ∨ ((judge t last r p).1 = 2 ∧ (judge t last r p).2 = 0) ∨ ((judge t last r p).1 = 3 ∧ (judge t last r p).2 ≠ 0) := by
  unfold judge
  by_cases h1 : place t p.time p.zone = 0
  · simp only [h1, ne_eq, not_true_eq_false, if_false]
    split
    · simp
    · split <;> simp
  · simp [h1]
theorem tapV_ok {tks : List Tk} {taps : List Tp} {vs : List Int} {p : Tp} (h : (tapV tks taps vs p).2 = 0) :
    ckTap p = 0 ∧ ∃ t, ticketOf tks p.ticket = some t ∧ taps.any (sameNo p) = false ∧ lateBy taps p = false ∧ tapV tks taps vs p = judgeIn t taps vs p ∧ ((tapV tks taps vs p).1 = 1 ∨ (tapV tks taps vs p).1 = 2) := by
  unfold tapV at h ⊢
  by_cases h1 : ckTap p = 0
  · simp only [h1, ne_eq, not_true_eq_false, if_false] at h ⊢
    cases ht : ticketOf tks p.ticket with
    | none => simp [ht] at h
    | some t =>
      simp only [ht] at h ⊢
      cases ha : taps.any (sameNo p) with
      | true => simp [ha] at h
      | false =>
        cases hl : lateBy taps p with
        | true => simp [ha, hl] at h
        | false =>
          simp only [ha, hl, Bool.false_eq_true, if_false] at h ⊢
          refine ⟨trivial, t, rfl, by trivial, by trivial, rfl, ?_⟩
          have := judge_cases t (lastTime (ridesOf taps vs p.ticket)) (ridesOf taps vs p.ticket).length p
          unfold judgeIn at h ⊢
          omega
  · simp [h1] at h
theorem ckTapAt_of_tapV {tks : List Tk} {taps : List Tp} {vs : List Int} {p : Tp} (h : (tapV tks taps vs p).2 = 0) : ckTapAt tks taps vs p (tapV tks taps vs p).1 = 0 := by
  obtain ⟨h1, t, h2, h3, h4, h5, h6⟩ := tapV_ok h
  unfold ckTapAt
  rw [h5] at h6 ⊢
  simp only [h1, h2, h3, h4, ne_eq, not_true_eq_false, if_false, Bool.false_eq_true]
  rw [if_neg (by omega)]
theorem tapV_of_ckTapAt {tks : List Tk} {taps : List Tp} {vs : List Int} {p : Tp} {v : Int} (h : ckTapAt tks taps vs p v = 0) : tapV tks taps vs p = (v, 0) ∧ (v = 1 ∨ v = 2) := by
  unfold ckTapAt at h
  unfold tapV
  by_cases h1 : ckTap p = 0
  · simp only [h1, ne_eq, not_true_eq_false, if_false] at h ⊢
    cases ht : ticketOf tks p.ticket with
    | none => simp [ht] at h
    | some t =>
      simp only [ht] at h ⊢
      cases ha : taps.any (sameNo p) with
      | true => simp [ha] at h
      | false =>
        by_cases hv : v ≠ 1 ∧ v ≠ 2
        · simp [ha, hv] at h
        · cases hl : lateBy taps p with
          | true => simp only [ha, hl, Bool.false_eq_true, if_false, if_neg hv] at h; simp at h
          | false =>
            simp only [ha, hl, Bool.false_eq_true, if_false, if_neg hv] at h ⊢
            by_cases hj : (judgeIn t taps vs p).1 = v
            · have := judge_cases t (lastTime (ridesOf taps vs p.ticket)) (ridesOf taps vs p.ticket).length p
              have hv2 : v = 1 ∨ v = 2 := by omega
              refine ⟨?_, hv2⟩
              unfold judgeIn at hj ⊢
              have h2 : (judge t (lastTime (ridesOf taps vs p.ticket)) (↑(ridesOf taps vs p.ticket).length) p).2 = 0 := by omega
              rw [← hj, ← h2]
            · simp [hj] at h
  · simp [h1] at h
theorem ckTaps_snoc (tks : List Tk) (p : Tp) (v : Int) : ∀ (l : List Tp) (vl : List Int) (pre : List Tp) (pv : List Int), l.length = vl.length →
    ckTaps tks pre pv (l ++ [p]) (vl ++ [v]) = if ckTaps tks pre pv l vl ≠ 0 then ckTaps tks pre pv l vl else ckTapAt tks (pre ++ l) (pv ++ vl) p v
  | [], [], pre, pv, _ => by
    by_cases hc : ckTapAt tks pre pv p v = 0 <;> simp [ckTaps, hc]
  | x :: l, y :: vl, pre, pv, h => by
    have ih := ckTaps_snoc tks p v l vl (pre ++ [x]) (pv ++ [y]) (by simpa using h)
    by_cases hc : ckTapAt tks pre pv x y = 0
    · simp only [List.cons_append, ckTaps, hc, ne_eq, not_true_eq_false, if_false, ih]
      simp
    · simp [List.cons_append, ckTaps, hc]
  | [], _ :: _, _, _, h => by simp at h
  | _ :: _, [], _, _, h => by simp at h
theorem right_iff {l : Ld} : Right l ↔ l.tickets.length ≤ 12 ∧ l.taps.length ≤ 60 ∧ l.taps.length = l.verdicts.length ∧ ckTickets none l.tickets = 0 ∧ ckTaps l.tickets [] [] l.taps l.verdicts = 0 := by
  unfold Right ckLedger
  by_cases h1 : 12 < l.tickets.length ∨ 60 < l.taps.length ∨ l.taps.length ≠ l.verdicts.length
  · rw [if_pos h1]
    constructor
    · intro h; simp at h
    · intro h; omega
  · rw [if_neg h1]
    by_cases h2 : ckTickets none l.tickets = 0
    · rw [if_neg (by simpa using h2)]
      constructor
      · intro h; exact ⟨by omega, by omega, by omega, h2, h⟩
      · intro h; exact h.2.2.2.2
    · rw [if_pos h2]
      constructor
      · intro h; exact absurd h h2
      · intro h; exact absurd h.2.2.2.1 h2
/-- a tap that is let in leaves the ledger right -/
theorem right_snoc {tks : List Tk} {taps : List Tp} {vs : List Int} {p : Tp} (h : Right ⟨tks, taps, vs⟩) (hl : taps.length < 60) (hv : (tapV tks taps vs p).2 = 0) : Right ⟨tks, taps ++ [p], vs ++ [(tapV tks taps vs p).1]⟩ := by
  obtain ⟨h1, h2, h3, h4, h5⟩ := right_iff.1 h
  simp only at h1 h2 h3 h4 h5
  refine right_iff.2 ⟨h1, by simp; omega, by simp; omega, h4, ?_⟩
  simp only
  rw [ckTaps_snoc tks _ _ _ _ _ _ h3, if_neg (by simpa using h5)]
  simpa using ckTapAt_of_tapV hv
/-- each beginning of a right ledger is one, and its next tap leads on -/
theorem right_init {tks : List Tk} {taps : List Tp} {vs : List Int} {p : Tp} {v : Int} (h : Right ⟨tks, taps ++ [p], vs ++ [v]⟩) : Right ⟨tks, taps, vs⟩ ∧ tapV tks taps vs p = (v, 0) ∧ (v = 1 ∨ v = 2) := by
  obtain ⟨h1, h2, h3, h4, h5⟩ := right_iff.1 h
  simp only [List.length_append, List.length_singleton] at h1 h2 h3 h4 h5
  rw [ckTaps_snoc tks _ _ _ _ _ _ (by omega)] at h5
  by_cases hc : ckTaps tks [] [] taps vs = 0
  · rw [if_neg (by simpa using hc)] at h5
    obtain ⟨h6, h7⟩ := tapV_of_ckTapAt h5
    simp only [List.nil_append] at h6
    exact ⟨right_iff.2 ⟨h1, by simp only; omega, by simp only; omega, h4, hc⟩, h6, h7⟩
  · rw [if_pos hc] at h5
    exact absurd h5 hc
theorem enter_right {l a : Ld} {p : Tp} {v : Int} (h : Right l) (he : enterL l p = (a, v, 0)) : Right a ∧ a = ⟨l.tickets, l.taps ++ [p], l.verdicts ++ [v]⟩ ∧ l.taps.length < 60 ∧ tapV l.tickets l.taps l.verdicts p = (v, 0) ∧ (v = 1 ∨ v = 2) := by
  unfold enterL at he
  have h60 := (right_iff.1 h).2.1
  by_cases h1 : (tapV l.tickets l.taps l.verdicts p).2 = 0
  · rw [if_neg (by simpa using h1)] at he
    by_cases h2 : l.taps.length = 60
    · rw [if_pos h2] at he; simp at he
    · rw [if_neg h2] at he
      simp only [Prod.mk.injEq, and_true] at he
      obtain ⟨rfl, hv⟩ := he
      have hr := right_snoc (tks := l.tickets) (taps := l.taps) (vs := l.verdicts) h (by omega) h1
      obtain ⟨-, t, -, -, -, -, h6⟩ := tapV_ok h1
      refine ⟨hr, by rw [hv], by omega, ?_, by omega⟩
      rw [← hv, ← h1]
  · rw [if_pos h1] at he
    simp only [Prod.mk.injEq] at he
    exact absurd he.2.2 h1
end Lb
