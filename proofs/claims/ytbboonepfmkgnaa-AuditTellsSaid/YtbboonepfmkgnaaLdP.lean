/- Ledgers: rides of beginnings; what comes of a tap at a place: the plain side. -/
import Derived.Test.YtbboonepfmkgnaaPl
namespace Lb
set_option linter.unusedVariables false
set_option maxRecDepth 100000
set_option linter.unusedSimpArgs false

/-- the rides among the first k taps -/
def ridesTo (taps : List Tp) (vs : List Int) (id : Int) (k : Nat) : List Tp := ridesOf (taps.take k) (vs.take k) id
theorem ridesTo_zero (taps : List Tp) (vs : List Int) (id : Int) : ridesTo taps vs id 0 = [] := by simp [ridesTo, ridesOf]
theorem ridesTo_succ (taps : List Tp) (vs : List Int) (id : Int) (k : Nat) (h1 : k < taps.length) (h2 : k < vs.length) :
    ridesTo taps vs id (k + 1) = if taps[k].ticket == id && vs[k] == 1 then ridesTo taps vs id k ++ [taps[k]] else ridesTo taps vs id k := by
  unfold ridesTo ridesOf
  rw [List.take_succ_eq_append_getElem h1, List.take_succ_eq_append_getElem h2, List.zip_append (by simp; omega)]
  simp only [List.zip_cons_cons, List.zip_nil_right, List.filter_append, List.map_append, List.filter_cons, List.filter_nil, isRide]
  split
  · rename_i h
    simp only [Bool.and_eq_true, beq_iff_eq] at h
    simp [h]
  · rename_i h
    simp only [Bool.and_eq_true, beq_iff_eq, not_and] at h
    simpa using h
theorem ridesTo_all (taps : List Tp) (vs : List Int) (id : Int) (k : Nat) (h1 : taps.length ≤ k) (h2 : vs.length ≤ k) : ridesTo taps vs id k = ridesOf taps vs id := by
  unfold ridesTo
  rw [List.take_of_length_le h1, List.take_of_length_le h2]
theorem ridesTo_mem {taps : List Tp} {vs : List Int} {id : Int} {k : Nat} {x : Tp} (h : x ∈ ridesTo taps vs id k) : x ∈ taps.take k := by
  unfold ridesTo ridesOf at h
  obtain ⟨y, hy, rfl⟩ := List.mem_map.1 h
  exact (List.of_mem_zip (List.mem_filter.1 hy).1).1
theorem ridesTo_len (taps : List Tp) (vs : List Int) (id : Int) (k : Nat) : (ridesTo taps vs id k).length ≤ k := by
  unfold ridesTo ridesOf
  rw [List.length_map]
  refine Nat.le_trans (List.length_filter_le _ _) ?_
  rw [List.length_zip]
  simp
  omega
/-- the last ride alone -/
def lastRide (l : List Tp) : List Tp := l.getLast?.toList
theorem lastRide_snoc (l : List Tp) (p : Tp) : lastRide (l ++ [p]) = [p] := by simp [lastRide]
theorem lastTime_last (l : List Tp) : lastTime (lastRide l) = lastTime l := by
  unfold lastTime lastRide
  cases l.getLast? <;> simp
theorem lastRide_mem {l : List Tp} {x : Tp} (h : x ∈ lastRide l) : x ∈ l := by
  unfold lastRide at h
  rw [Option.mem_toList] at h
  exact List.mem_of_getLast? h
/-- a tap at a place i of a ledger -/
def tapAt (tks : List Tk) (taps : List Tp) (vs : List Int) (i : Nat) (p : Tp) : Int × Int :=
  if ckTap p ≠ 0 then (0, ckTap p)
  else match ticketOf tks p.ticket with
    | none => (0, 5)
    | some t => if (taps.take i).any (sameNo p) then (0, 6)
      else if i < vs.length ∧ vs[i]! ≠ 1 ∧ vs[i]! ≠ 2 then (0, 7)
      else if lateBy (taps.take i) p then (0, 4)
      else judge t (lastTime (ridesTo taps vs p.ticket i)) (ridesTo taps vs p.ticket i).length p
/-- what Check makes of that -/
theorem ckTapAt_of {tks : List Tk} {taps : List Tp} {vs : List Int} {i : Nat} (hi : i < vs.length) (hlen : taps.length = vs.length) :
    ckTapAt tks (taps.take i) (vs.take i) (taps[i]'(by omega)) vs[i] = if (tapAt tks taps vs i (taps[i]'(by omega))).1 = 0 then (tapAt tks taps vs i (taps[i]'(by omega))).2 else if (tapAt tks taps vs i (taps[i]'(by omega))).1 ≠ vs[i] then 4 else 0 := by
  generalize hp : taps[i]'(by omega) = p
  have hv : vs[i]! = vs[i] := by simp [hi]
  unfold ckTapAt tapAt
  by_cases h1 : ckTap p = 0
  · simp only [h1, ne_eq, not_true_eq_false, if_false]
    cases ht : ticketOf tks p.ticket with
    | none => simp
    | some t =>
      simp only [hv, hi, true_and]
      cases h2 : (taps.take i).any (sameNo p) with
      | true => simp
      | false =>
        simp only [Bool.false_eq_true, if_false]
        by_cases h3 : vs[i] ≠ 1 ∧ vs[i] ≠ 2
        · rw [if_pos h3, if_pos h3]
          simp
        · rw [if_neg h3, if_neg h3]
          cases h4 : lateBy (taps.take i) p with
          | true => simp
          | false =>
            simp only [Bool.false_eq_true, if_false]
            have hj := judge_cases t (lastTime (ridesTo taps vs p.ticket i)) (ridesTo taps vs p.ticket i).length p
            rw [if_neg (show ¬ (judge t (lastTime (ridesTo taps vs p.ticket i)) (ridesTo taps vs p.ticket i).length p).1 = 0 by omega)]
            rfl
  · simp [h1]
end Lb
