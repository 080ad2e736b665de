/- Gates that are alone: the plain side. -/
import Derived.Test.YthollackhkiofaaPl
import Derived.Test.YthollackhkiofaaDn
namespace Lb
set_option linter.unusedVariables false
set_option maxRecDepth 100000
set_option linter.unusedSimpArgs false
set_option linter.unnecessarySimpa false

def follows : Option Tp → Tp → Bool
  | none, _ => true
  | some x, p => decide (x.time ≤ p.time) && p.seq == x.seq + 1
def ckAlone (id zone : Int) : Option Tp → List Tp → Int
  | _, [] => 0
  | prev, p :: l => if ckTap p ≠ 0 then ckTap p else if p.gate ≠ id ∨ p.zone ≠ zone ∨ follows prev p = false then 4 else ckAlone id zone (some p) l
theorem ckAlone_cons (id zone : Int) (prev : Option Tp) (p : Tp) (l : List Tp) : ckAlone id zone prev (p :: l) = if ckTap p ≠ 0 then ckTap p else if p.gate ≠ id ∨ p.zone ≠ zone ∨ follows prev p = false then 4 else ckAlone id zone (some p) l := rfl
def lastOk (l : List Tp) (seq : Int) : Bool := match l.getLast? with
  | none => true
  | some x => x.seq == seq
/-- what is wrong with what a gate let through alone -/
def aloneE (g : Gt) : Int := if ckAlone g.id g.zone none g.alone ≠ 0 then ckAlone g.id g.zone none g.alone else if lastOk g.alone g.seq = false then 4 else 0
def ckGate (g : Gt) : Int :=
  if within g.id 0 2 = false ∨ within g.seq 0 99 = false then 3
  else if isZone g.zone = false then 9
  else if 12 < g.alone.length then 2
  else if aloneE g ≠ 0 then aloneE g
  else if ckDn g.denied ≠ 0 then ckDn g.denied
  else if within g.left 0 9 = false ∨ within g.untl 0 10099 = false then 3 else 0
def early (l : List Tp) (time : Int) : Bool := match l.getLast? with
  | none => false
  | some x => decide (time < x.time)
def twiceG (g : Gt) (id : Int) : Bool := g.alone.any (fun p => p.ticket == id)
/-- what is wrong with a ticket at a gate -/
def tapE (g : Gt) (t : Tk) (time : Int) : Int :=
  if within time 0 9999 = false then 3
  else if early g.alone time = true then 4
  else if g.denied.ids.contains t.id = true then 11
  else if g.untl < time then 8
  else if place t time g.zone ≠ 0 then place t time g.zone
  else if g.left = 0 ∨ t.kind ≠ 2 ∧ twiceG g t.id = true then 10
  else if g.alone.length = 12 ∨ g.seq = 99 then 2 else 0
def tapOf (g : Gt) (t : Tk) (time : Int) : Tp := ⟨t.id, g.id, g.seq + 1, time, g.zone⟩
def tapped (g : Gt) (t : Tk) (time : Int) : Gt := ⟨g.id, g.zone, g.seq + 1, g.alone ++ [tapOf g t time], g.denied, g.left - 1, g.untl⟩
def tapG (g : Gt) (t : Tk) (time : Int) : Gt × Tp × Int := if tapE g t time ≠ 0 then (gt0, tp0, tapE g t time) else (tapped g t time, tapOf g t time, 0)
def tapAll (g : Gt) (t : Tk) (time : Int) : Gt × Tp × Int := if ckGate g ≠ 0 then (gt0, tp0, ckGate g) else if ckTicket t ≠ 0 then (gt0, tp0, ckTicket t) else tapG g t time
def synced (g : Gt) (d : Dn) (time : Int) : Gt := ⟨g.id, g.zone, g.seq, [], pickD g.denied d, 9, time + 100⟩
def syncE (g : Gt) (d : Dn) (time : Int) : Int := if ckGate g ≠ 0 then ckGate g else if ckDn d ≠ 0 then ckDn d else if within time 0 9999 = false then 3 else 0
def syncAll (g : Gt) (d : Dn) (time : Int) : Gt × List Tp × Int := if syncE g d time ≠ 0 then (gt0, [], syncE g d time) else (synced g d time, g.alone, 0)

theorem ckTap_ok {p : Tp} : ckTap p = 0 ↔ within p.ticket 1 9999 = true ∧ within p.gate 0 2 = true ∧ within p.seq 1 99 = true ∧ within p.time 0 9999 = true ∧ isZone p.zone = true := by
  unfold ckTap
  cases h1 : within p.ticket 1 9999 <;> cases h2 : within p.gate 0 2 <;> cases h3 : within p.seq 1 99 <;> cases h4 : within p.time 0 9999 <;> cases h5 : isZone p.zone <;> simp
theorem ckAlone_snoc (id zone : Int) (p : Tp) : ∀ (l : List Tp) (prev : Option Tp), ckAlone id zone prev (l ++ [p]) = if ckAlone id zone prev l ≠ 0 then ckAlone id zone prev l else if ckTap p ≠ 0 then ckTap p else if p.gate ≠ id ∨ p.zone ≠ zone ∨ follows ((l.getLast?).or prev) p = false then 4 else 0
  | [], prev => by
    show (if ckTap p ≠ 0 then ckTap p else if p.gate ≠ id ∨ p.zone ≠ zone ∨ follows prev p = false then 4 else 0) = (if (0 : Int) ≠ 0 then 0 else if ckTap p ≠ 0 then ckTap p else if p.gate ≠ id ∨ p.zone ≠ zone ∨ follows prev p = false then 4 else 0)
    rw [if_neg (show ¬ ((0 : Int) ≠ 0) by decide)]
  | x :: l, prev => by
    have ih := ckAlone_snoc id zone p l (some x)
    have hgl : ((x :: l).getLast?).or prev = (l.getLast?).or (some x) := by
      cases l with
      | nil => rfl
      | cons y l => rw [List.getLast?_cons_cons]; cases hl : (y :: l).getLast? with
        | none => simp at hl
        | some z => rfl
    rw [List.cons_append, ckAlone_cons, ckAlone_cons, ih, hgl]
    by_cases h1 : ckTap x = 0
    · by_cases h2 : x.gate ≠ id ∨ x.zone ≠ zone ∨ follows prev x = false
      · simp only [h1, ne_eq, not_true_eq_false, if_false, if_pos h2]
        rfl
      · simp only [h1, ne_eq, not_true_eq_false, if_false, if_neg h2]
    · simp only [h1, ne_eq, not_false_eq_true, if_true]
theorem alone_mem {id zone : Int} : ∀ {l : List Tp} {prev : Option Tp}, ckAlone id zone prev l = 0 → ∀ p ∈ l, ckTap p = 0 ∧ p.gate = id ∧ p.zone = zone
  | [], _, _ => by simp
  | x :: l, prev, h => by
    rw [ckAlone_cons] at h
    by_cases h1 : ckTap x = 0
    · rw [if_neg (by simpa using h1)] at h
      by_cases h2 : x.gate ≠ id ∨ x.zone ≠ zone ∨ follows prev x = false
      · rw [if_pos h2] at h; simp at h
      · rw [if_neg h2] at h
        intro p hp
        rcases List.mem_cons.1 hp with rfl | hp
        · exact ⟨h1, Classical.byContradiction fun e => h2 (.inl e), Classical.byContradiction fun e => h2 (.inr (.inl e))⟩
        · exact alone_mem h p hp
    · rw [if_pos h1] at h; exact absurd h h1
structure RightG (g : Gt) : Prop where
  id : within g.id 0 2 = true
  seq : within g.seq 0 99 = true
  zone : isZone g.zone = true
  len : g.alone.length ≤ 12
  alone : ckAlone g.id g.zone none g.alone = 0
  last : lastOk g.alone g.seq = true
  denied : ckDn g.denied = 0
  left : within g.left 0 9 = true
  untl : within g.untl 0 10099 = true
theorem ckGate_ok {g : Gt} : ckGate g = 0 ↔ RightG g := by
  unfold ckGate aloneE
  constructor
  · intro h
    by_cases h1 : within g.id 0 2 = false ∨ within g.seq 0 99 = false
    · rw [if_pos h1] at h; simp at h
    rw [if_neg h1] at h
    by_cases h2 : isZone g.zone = false
    · rw [if_pos h2] at h; simp at h
    rw [if_neg h2] at h
    by_cases h3 : 12 < g.alone.length
    · rw [if_pos h3] at h; simp at h
    rw [if_neg h3] at h
    by_cases h4' : ckAlone g.id g.zone none g.alone ≠ 0
    · rw [if_pos h4'] at h
      rw [if_pos h4'] at h
      exact absurd h h4'
    have h4 := Classical.byContradiction h4'
    by_cases h5 : lastOk g.alone g.seq = false
    · rw [if_neg h4', if_pos h5] at h
      simp at h
    rw [if_neg h4', if_neg h5, if_neg (by decide)] at h
    by_cases h6' : ckDn g.denied ≠ 0
    · rw [if_pos h6'] at h; exact absurd h h6'
    rw [if_neg h6'] at h
    have h6 := Classical.byContradiction h6'
    by_cases h7 : within g.left 0 9 = false ∨ within g.untl 0 10099 = false
    · rw [if_pos h7] at h; simp at h
    simp only [not_or, Bool.not_eq_false] at h1 h2 h5 h7
    exact ⟨h1.1, h1.2, h2, by omega, h4, h5, h6, h7.1, h7.2⟩
  · rintro ⟨h1, h2, h3, h4, h5, h6, h7, h8, h9⟩
    have : ¬ 12 < g.alone.length := by omega
    simp [h1, h2, h3, this, h5, h6, h7, h8, h9]
theorem tapped_right {g : Gt} {t : Tk} {time : Int} (hg : ckGate g = 0) (ht : ckTicket t = 0) (h : tapE g t time = 0) : ckGate (tapped g t time) = 0 ∧ 0 < g.left ∧ time ≤ g.untl ∧ within time 0 9999 = true ∧ g.denied.ids.contains t.id = false ∧ (t.kind ≠ 2 → twiceG g t.id = false) ∧ g.alone.length ≠ 12 ∧ g.seq ≠ 99 := by
  have r := ckGate_ok.1 hg
  unfold tapE at h
  by_cases h1 : within time 0 9999 = false
  · rw [if_pos h1] at h; simp at h
  rw [if_neg h1] at h
  by_cases h2 : early g.alone time = true
  · rw [if_pos h2] at h; simp at h
  rw [if_neg h2] at h
  by_cases h3 : g.denied.ids.contains t.id = true
  · rw [if_pos h3] at h; simp at h
  rw [if_neg h3] at h
  by_cases h4 : g.untl < time
  · rw [if_pos h4] at h; simp at h
  rw [if_neg h4] at h
  by_cases h5' : place t time g.zone ≠ 0
  · rw [if_pos h5'] at h; exact absurd h h5'
  have h5 : place t time g.zone = 0 := Classical.byContradiction h5'
  rw [if_neg h5'] at h
  by_cases h6 : g.left = 0 ∨ t.kind ≠ 2 ∧ twiceG g t.id = true
  · rw [if_pos h6] at h; simp at h
  rw [if_neg h6] at h
  by_cases h7 : g.alone.length = 12 ∨ g.seq = 99
  · rw [if_pos h7] at h; simp at h
  have b1 := r.id
  have b2 := r.seq
  have b3 := r.left
  have h1' : within time 0 9999 = true := by simpa using h1
  simp [within] at b1 b2 b3
  have hid : within t.id 1 9999 = true := by
    unfold ckTicket at ht
    cases hw : within t.id 1 9999 with
    | true => rfl
    | false => simp [hw] at ht
  have hleft : 0 < g.left := by omega
  refine ⟨ckGate_ok.2 ⟨r.id, ?_, r.zone, ?_, ?_, ?_, r.denied, ?_, r.untl⟩, hleft, by omega, h1', by simpa using h3, fun hk => ?_, by omega, by omega⟩
  · show within (g.seq + 1) 0 99 = true
    simp only [within, Bool.and_eq_true, decide_eq_true_eq]; omega
  · have := r.len; simp [tapped]; omega
  · show ckAlone g.id g.zone none (g.alone ++ [tapOf g t time]) = 0
    rw [ckAlone_snoc, if_neg (by simpa using r.alone)]
    have hp : ckTap (tapOf g t time) = 0 := ckTap_ok.2 ⟨hid, r.id, (show within (g.seq + 1) 1 99 = true by simp only [within, Bool.and_eq_true, decide_eq_true_eq]; omega), h1', r.zone⟩
    rw [if_neg (by simpa using hp), if_neg]
    simp only [tapOf, ne_eq, not_true_eq_false, false_or, Option.or_none, Bool.not_eq_false]
    unfold early at h2
    have hl := r.last
    unfold lastOk at hl
    cases hgl : g.alone.getLast? with
    | none => rfl
    | some x =>
      simp only [hgl] at h2 hl
      simp only [beq_iff_eq, decide_eq_true_eq] at hl h2
      simp [follows]
      omega
  · simp [lastOk, tapped, tapOf]
  · show within (g.left - 1) 0 9 = true
    simp only [within, Bool.and_eq_true, decide_eq_true_eq]; omega
  · cases htw : twiceG g t.id with
    | false => rfl
    | true => exact absurd (.inr ⟨hk, htw⟩) h6
theorem synced_right {g : Gt} {d : Dn} {time : Int} (hg : ckGate g = 0) (hd : ckDn d = 0) (ht : within time 0 9999 = true) : ckGate (synced g d time) = 0 := by
  have r := ckGate_ok.1 hg
  refine ckGate_ok.2 ⟨r.id, r.seq, r.zone, by simp [synced], rfl, rfl, ?_, by simp [synced, within], ?_⟩
  · unfold synced pickD; simp only; split
    · exact hd
    · exact r.denied
  · simp [within] at ht
    show within (time + 100) 0 10099 = true
    simp only [within, Bool.and_eq_true, decide_eq_true_eq]; omega
end Lb
