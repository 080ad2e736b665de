/- Ms: parts of the proofs, laid together. -/
import Derived.Test.YteojjbhadgkfgaaGreatMl
import Derived.Test.YteojjbhadgkfgaaGreatMw
import Derived.Test.YteojjbhadgkfgaaGreatMg
import Derived.Test.YteojjbhadgkfgaaGreatMf
import Derived.Test.YteojjbhadgkfgaaGreatMc
import Derived.Test.YteojjbhadgkfgaaGreatMr
import Derived.Test.YteojjbhadgkfgaaGreatMo
import Derived.Test.YteojjbhadgkfgaaGreatMa
import Derived.Test.YteojjbhadgkfgaaGreatMb
import Derived.Test.YteojjbhadgkfgaaGreatMk
/- Stations: the plain side: what is wrong with one, what comes of a sale, of a tap, of a gate's telling, of an act. -/
namespace Go.Proofs.YteojjbhadgkfgaaGreat
open Lb
set_option linter.unusedVariables false
set_option maxRecDepth 100000
set_option linter.unusedSimpArgs false

def newG (i : Int) (z : Int) : Gt := ⟨i, z, 0, [], dn0, 9, 100⟩
def newS : St := ⟨ld0, dn0, [newG 0 1, newG 1 2, newG 2 4], [⟨0, 0, true⟩, ⟨0, 0, true⟩, ⟨0, 0, true⟩]⟩
def knownP (i : Int) (g : Gt) (p : Tp) : Bool := p.gate == i && decide (g.seq - g.alone.length < p.seq)
def atG (taps : List Tp) (ver i : Int) (g : Gt) : Int :=
 if ckGate g ≠ 0 then ckGate g else if g.id ≠ i ∨ ver < g.denied.version then 4 else if taps.any (knownP i g) = true then 6 else 0
def ckGates (taps : List Tp) (ver : Int) : Nat → List Gt → Int
 | _, [] => 0
 | i, g :: l => if atG taps ver i g ≠ 0 then atG taps ver i g else ckGates taps ver (i + 1) l
theorem ckGates_cons (taps : List Tp) (ver : Int) (i : Nat) (g : Gt) (l : List Gt) : ckGates taps ver i (g :: l) = if atG taps ver i g ≠ 0 then atG taps ver i g else ckGates taps ver (i + 1) l := rfl
theorem ckGates_ok {taps : List Tp} {ver : Int} : ∀ {l : List Gt} {i : Nat}, ckGates taps ver i l = 0 ↔ ∀ k (h : k < l.length), atG taps ver ((i + k : Nat) : Int) l[k] = 0
 | [], i => by simp [ckGates]
 | g :: l, i => by
  rw [ckGates_cons]
  by_cases h : atG taps ver i g = 0
  ·rw [if_neg (by simpa using h), ckGates_ok]
   constructor
   ·intro hk k hl
    cases k with
    | zero => exact h
    | succ k => have := hk k (by simpa using hl); simpa [Nat.add_assoc, Nat.add_comm 1 k] using this
   ·intro hk k hl
    have := hk (k + 1) (by simpa using hl)
    simpa [Nat.add_assoc, Nat.add_comm 1 k] using this
  ·rw [if_pos h]
   constructor
   ·intro h2; exact absurd h2 h
   ·intro hk; exact absurd (hk 0 (by simp)) h
def ckSt (s : St) : Int :=
 if ckLedger s.ledger ≠ 0 then ckLedger s.ledger
 else if ckDn s.denied ≠ 0 then ckDn s.denied
 else if s.gates.length ≠ 3 then 1
 else if ckGates s.ledger.taps s.denied.version 0 s.gates ≠ 0 then ckGates s.ledger.taps s.denied.version 0 s.gates
 else ckViews s.views
theorem ckSt_ok {s : St} : ckSt s = 0 ↔ ckLedger s.ledger = 0 ∧ ckDn s.denied = 0 ∧ s.gates.length = 3 ∧ ckGates s.ledger.taps s.denied.version 0 s.gates = 0 ∧ ckViews s.views = 0 := by
 unfold ckSt
 by_cases h1 : ckLedger s.ledger = 0
 ·rw [if_neg (by simpa using h1)]
  by_cases h2 : ckDn s.denied = 0
  ·rw [if_neg (by simpa using h2)]
   by_cases h3 : s.gates.length = 3
   ·rw [if_neg (by simpa using h3)]
    by_cases h4 : ckGates s.ledger.taps s.denied.version 0 s.gates = 0
    ·rw [if_neg (by simpa using h4)]; simp [h1, h2, h3, h4]
    ·rw [if_pos h4]; simp [h4]
   ·rw [if_pos h3]; simp [h3]
  ·rw [if_pos h2]; simp [h2]
 ·rw [if_pos h1]; simp [h1]
def led (s : St) : Bool := (whoV s.views).2
/-- a tap that is entered: the station, the verdict, why not -/
def onlineS (s : St) (t : Tk) (g : Gt) (n : Nat) (time : Int) : St × Int × Int :=
 if s.denied.ids.contains t.id = true then (s, 0, 11)
 else if within time 0 9999 = false then (s, 0, 3)
 else if g.seq = 99 then (s, 0, 2)
 else if (enterL s.ledger (tapOf g t time)).2.2 ≠ 0 then (s, (enterL s.ledger (tapOf g t time)).2.1, (enterL s.ledger (tapOf g t time)).2.2)
 else (⟨(enterL s.ledger (tapOf g t time)).1, s.denied, s.gates.set n ⟨g.id, g.zone, g.seq + 1, g.alone, g.denied, g.left, g.untl⟩, s.views⟩, (enterL s.ledger (tapOf g t time)).2.1, 0)
def aloneS (s : St) (t : Tk) (g : Gt) (n : Nat) (time : Int) : St × Int × Int :=
 if (tapG g t time).2.2 ≠ 0 then (s, 0, (tapG g t time).2.2) else (⟨s.ledger, s.denied, s.gates.set n (tapG g t time).1, s.views⟩, 0, 0)
def tapS (s : St) (id n time : Int) : St × Int × Int :=
 if within n 0 2 = false then (s, 0, 3)
 else match ticketOf s.ledger.tickets id with
  | none => (s, 0, 5)
  | some t => if led s = true ∧ (s.gates[n.toNat]!).alone.length = 0 then onlineS s t (s.gates[n.toNat]!) n.toNat time else aloneS s t (s.gates[n.toNat]!) n.toNat time
def denyS (d : Dn) : List Tp → Dn
 | [] => d
 | p :: l => denyS (if (denyD d p.ticket).2 = 0 then (denyD d p.ticket).1 else d) l
theorem denyS_cons (d : Dn) (p : Tp) (l : List Tp) : denyS d (p :: l) = denyS (if (denyD d p.ticket).2 = 0 then (denyD d p.ticket).1 else d) l := rfl
/-- a gate behind its telling -/
def toldG (g : Gt) (d : Dn) (time : Int) : Gt := ⟨g.id, g.zone, g.seq, [], d, 9, time + 100⟩
def syncS (s : St) (n time : Int) : St × List Tp × Int :=
 if within n 0 2 = false then (s, [], 3)
 else if led s = false then (s, [], 4)
 else if within time 0 9999 = false then (s, [], 3)
 else if (rawM s.ledger (s.gates[n.toNat]!).alone).2.2 ≠ 0 then (s, [], (rawM s.ledger (s.gates[n.toNat]!).alone).2.2)
 else (⟨(rawM s.ledger (s.gates[n.toNat]!).alone).1, denyS s.denied (rawM s.ledger (s.gates[n.toNat]!).alone).2.1, s.gates.set n.toNat (toldG (s.gates[n.toNat]!) (denyS s.denied (rawM s.ledger (s.gates[n.toNat]!).alone).2.1) time), s.views⟩, (rawM s.ledger (s.gates[n.toNat]!).alone).2.1, 0)
def sellS (s : St) (t : Tk) : St × Int :=
 if led s = false then (s, 4) else if (sellL s.ledger t).2 ≠ 0 then (s, (sellL s.ledger t).2) else (⟨(sellL s.ledger t).1, s.denied, s.gates, s.views⟩, 0)
/-- at a station that is right -/
def sellRaw (s : St) (t : Tk) : St × Int := if (sellS s t).2 ≠ 0 then (st0, (sellS s t).2) else sellS s t
def tapRaw (s : St) (id n time : Int) : St × Int × Int := if (tapS s id n time).2.2 ≠ 0 then (st0, (tapS s id n time).2) else tapS s id n time
def syncRaw (s : St) (n time : Int) : St × List Tp × Int := if (syncS s n time).2.2 ≠ 0 then (st0, (syncS s n time).2) else syncS s n time
def sellSt (s : St) (t : Tk) : St × Int := if ckSt s ≠ 0 then (st0, ckSt s) else sellRaw s t
def tapSt (s : St) (id n time : Int) : St × Int × Int := if ckSt s ≠ 0 then (st0, 0, ckSt s) else tapRaw s id n time
def syncSt (s : St) (n time : Int) : St × List Tp × Int := if ckSt s ≠ 0 then (st0, [], ckSt s) else syncRaw s n time

end Go.Proofs.YteojjbhadgkfgaaGreat

/- Stations: a right one stays right: plain laws. -/
namespace Go.Proofs.YteojjbhadgkfgaaGreat
open Lb
set_option linter.unusedVariables false
set_option maxRecDepth 100000
set_option linter.unusedSimpArgs false

theorem atG_ok {taps : List Tp} {ver i : Int} {g : Gt} : atG taps ver i g = 0 ↔ ckGate g = 0 ∧ g.id = i ∧ g.denied.version ≤ ver ∧ ∀ p ∈ taps, p.gate = i → p.seq ≤ g.seq - g.alone.length := by
 unfold atG
 by_cases h1 : ckGate g = 0
 ·rw [if_neg (by simpa using h1)]
  by_cases h2 : g.id ≠ i ∨ ver < g.denied.version
  ·rw [if_pos h2]
   constructor
   ·intro h; simp at h
   ·rintro ⟨-, a, b, -⟩
    rcases h2 with h2 | h2
    ·exact absurd a h2
    ·omega
  ·rw [if_neg h2]
   have h2a : g.id = i := Classical.byContradiction fun e => h2 (.inl e)
   have h2b : ¬ ver < g.denied.version := fun e => h2 (.inr e)
   by_cases h3 : taps.any (knownP i g) = true
   ·rw [if_pos h3]
    constructor
    ·intro h; simp at h
    ·rintro ⟨-, -, -, h⟩
     obtain ⟨p, hp, hk⟩ := List.any_eq_true.1 h3
     simp [knownP] at hk
     have := h p hp hk.1
     omega
   ·rw [if_neg h3]
    refine ⟨fun _ => ⟨h1, h2a, by omega, fun p hp hpi => ?_⟩, fun _ => rfl⟩
    apply Classical.byContradiction
    intro hc
    exact h3 (List.any_eq_true.2 ⟨p, hp, by simp [knownP, hpi]; omega⟩)
 ·rw [if_pos h1]
  exact ⟨fun h => absurd h h1, fun h => absurd h.1 h1⟩
/-- what a right station is -/
structure RightS (s : St) : Prop where
 ledger : ckLedger s.ledger = 0
 denied : ckDn s.denied = 0
 len : s.gates.length = 3
 gates : ∀ k (h : k < s.gates.length), ckGate s.gates[k] = 0 ∧ s.gates[k].id = k ∧ s.gates[k].denied.version ≤ s.denied.version ∧ ∀ p ∈ s.ledger.taps, p.gate = k → p.seq ≤ s.gates[k].seq - s.gates[k].alone.length
 views : ckViews s.views = 0
theorem rightS_iff {s : St} : ckSt s = 0 ↔ RightS s := by
 rw [ckSt_ok, ckGates_ok]
 constructor
 ·rintro ⟨a, b, c, d, e⟩
  exact ⟨a, b, c, fun k h => by have := atG_ok.1 (d k h); simpa using this, e⟩
 ·rintro ⟨a, b, c, d, e⟩
  exact ⟨a, b, c, fun k h => atG_ok.2 (by have := d k h; simpa using this), e⟩
theorem bang_get {l : List Gt} {k : Nat} (h : k < l.length) : l[k]! = l[k] := by simp [h]
/-- a gate is put in another's place -/
theorem RightS.set {s : St} (r : RightS s) {l : Ld} {d : Dn} {n : Nat} {g : Gt} {vs : List Vw} (hl : ckLedger l = 0) (hd : ckDn d = 0) (hv : ckViews vs = 0) (hn : n < s.gates.length) (hg : ckGate g = 0) (hi : g.id = n) (hgv : g.denied.version ≤ d.version) (hdv : s.denied.version ≤ d.version)
  (hgt : ∀ p ∈ l.taps, p.gate = (n : Int) → p.seq ≤ g.seq - g.alone.length) (ho : ∀ p ∈ l.taps, p.gate ≠ (n : Int) → p ∈ s.ledger.taps) : RightS ⟨l, d, s.gates.set n g, vs⟩ := by
 refine ⟨hl, hd, by simpa using r.len, fun k hk => ?_, hv⟩
 have hk' : k < s.gates.length := by simpa using hk
 by_cases hkn : n = k
 ·subst hkn
  simp only [List.getElem_set_self]
  exact ⟨hg, hi, hgv, hgt⟩
 ·simp only [List.getElem_set_ne hkn]
  obtain ⟨a, b, c, e⟩ := r.gates k hk'
  refine ⟨a, b, Int.le_trans c hdv, fun p hp hpk => e p (ho p hp ?_) hpk⟩
  rw [hpk]
  exact fun h => hkn (by omega)
theorem RightS.with {s : St} (r : RightS s) {l : Ld} {d : Dn} {vs : List Vw} (hl : ckLedger l = 0) (ht : l.taps = s.ledger.taps) (hd : ckDn d = 0) (hdv : s.denied.version ≤ d.version) (hv : ckViews vs = 0) : RightS ⟨l, d, s.gates, vs⟩ := by
 refine ⟨hl, hd, r.len, fun k hk => ?_, hv⟩
 obtain ⟨a, b, c, e⟩ := r.gates k hk
 exact ⟨a, b, Int.le_trans c hdv, by simpa [ht] using e⟩
theorem within_nat {n a : Int} (h : within n 0 2 = true) : 0 ≤ n ∧ n ≤ 2 ∧ ((n.toNat : Nat) : Int) = n := by
 simp [within] at h; omega
theorem tapS_right {s : St} {id n time : Int} (r : RightS s) : RightS (tapS s id n time).1 := by
 unfold tapS
 split
 ·exact r
 ·rename_i hn
  have hw : within n 0 2 = true := by simpa using hn
  obtain ⟨hn0, hn2, hnn⟩ := within_nat (a := 0) hw
  have hlt : n.toNat < s.gates.length := by rw [r.len]; omega
  cases htk : ticketOf s.ledger.tickets id with
  | none => exact r
  | some t =>
   simp only
   rw [bang_get hlt]
   obtain ⟨ga, gb, gc, gd⟩ := r.gates n.toNat hlt
   have rg := ckGate_ok.1 ga
   have htm := ticketOf_mem htk
   split
   ·rename_i hc
    unfold onlineS
    split; · exact r
    split; · exact r
    split; · exact r
    split; · exact r
    rename_i h1 h2 h3 h4
    have h40 : (enterL s.ledger (tapOf s.gates[n.toNat] t time)).2.2 = 0 := by simpa using h4
    obtain ⟨e1, e2, e3⟩ := enterL_ok r.ledger h40
    have hal : s.gates[n.toNat].alone = [] := List.length_eq_zero_iff.1 hc.2
    refine r.set e1 r.denied r.views hlt (ckGate_ok.2 ⟨rg.id, ?_, rg.zone, rg.len, rg.alone, ?_, rg.denied, rg.left, rg.untl⟩) gb gc (Int.le_refl _) ?_ ?_
    ·have := rg.seq
     simp [within] at this ⊢
     omega
    ·simp only; rw [hal]; rfl
    ·intro p hp hpg
     rw [e2] at hp
     simp only
     rw [hal]
     rcases List.mem_append.1 hp with hp | hp
     ·have := gd p hp hpg
      rw [hal] at this
      simp at this ⊢
      omega
     ·obtain rfl := List.mem_singleton.1 hp
      simp [tapOf]
    ·intro p hp hpg
     rw [e2] at hp
     rcases List.mem_append.1 hp with hp | hp
     ·exact hp
     ·obtain rfl := List.mem_singleton.1 hp
      exact absurd gb hpg
   ·unfold aloneS
    split
    ·exact r
    ·rename_i h
     have h0 : (tapG s.gates[n.toNat] t time).2.2 = 0 := by simpa using h
     have h1 : tapE s.gates[n.toNat] t time = 0 := by
      apply Classical.byContradiction
      intro he
      unfold tapG at h0
      rw [if_pos he] at h0
      exact he h0
     have h2 : tapG s.gates[n.toNat] t time = (tapped s.gates[n.toNat] t time, tapOf s.gates[n.toNat] t time, 0) := by
      unfold tapG; rw [if_neg (by simpa using h1)]
     rw [h2]
     have htr : ckTicket t = 0 := tickets_mem (right_iff.1 r.ledger).2.2.2.1 t htm.1
     refine r.set r.ledger r.denied r.views hlt (tapped_right ga htr h1).1 gb gc (Int.le_refl _) ?_ (fun p hp _ => hp)
     intro p hp hpg
     have := gd p hp hpg
     simp [tapped] at this ⊢
     omega
theorem denyS_ok : ∀ (l : List Tp) {d : Dn}, ckDn d = 0 → ckDn (denyS d l) = 0 ∧ d.version ≤ (denyS d l).version ∧ ∀ x ∈ d.ids, x ∈ (denyS d l).ids
 | [], d, h => ⟨h, Int.le_refl _, fun x hx => hx⟩
 | p :: l, d, h => by
  rw [denyS_cons]
  by_cases h0 : (denyD d p.ticket).2 = 0
  ·rw [if_pos h0]
   obtain ⟨a, b, c⟩ := denyS_ok l (denyD_right h h0)
   obtain ⟨-, -, -, -, e⟩ := denyD_ok h0
   rw [e] at a b c ⊢
   simp only at a b c ⊢
   exact ⟨a, by omega, fun x hx => c x ((mem_insI _ _ _).2 (.inr hx))⟩
  ·rw [if_neg h0]
   exact denyS_ok l h
end Go.Proofs.YteojjbhadgkfgaaGreat

/- Stations: what a gate tells is in order: plain laws. -/
namespace Go.Proofs.YteojjbhadgkfgaaGreat
open Lb
set_option linter.unusedVariables false
set_option maxRecDepth 100000
set_option linter.unusedSimpArgs false

end Go.Proofs.YteojjbhadgkfgaaGreat

/- Stations: what comes of a gate's telling: plain laws. -/
namespace Go.Proofs.YteojjbhadgkfgaaGreat
open Lb
set_option linter.unusedVariables false
set_option maxRecDepth 100000
set_option linter.unusedSimpArgs false

end Go.Proofs.YteojjbhadgkfgaaGreat

/- Stations: what a tap, a sale and a gate's telling give: plain laws. -/
namespace Go.Proofs.YteojjbhadgkfgaaGreat
open Lb
set_option linter.unusedVariables false
set_option maxRecDepth 100000
set_option linter.unusedSimpArgs false

theorem tapS_ok {s : St} {id n time : Int} (r : RightS s) (h : (tapS s id n time).2.2 = 0) : within n 0 2 = true ∧ ∃ t, ticketOf s.ledger.tickets id = some t ∧
  ((led s = true ∧ (s.gates[n.toNat]!).alone.length = 0 ∧ s.denied.ids.contains t.id = false ∧ (enterL s.ledger (tapOf (s.gates[n.toNat]!) t time)).2.2 = 0 ∧
   tapS s id n time = (⟨(enterL s.ledger (tapOf (s.gates[n.toNat]!) t time)).1, s.denied, s.gates.set n.toNat ⟨(s.gates[n.toNat]!).id, (s.gates[n.toNat]!).zone, (s.gates[n.toNat]!).seq + 1, (s.gates[n.toNat]!).alone, (s.gates[n.toNat]!).denied, (s.gates[n.toNat]!).left, (s.gates[n.toNat]!).untl⟩, s.views⟩, (enterL s.ledger (tapOf (s.gates[n.toNat]!) t time)).2.1, 0)) ∨
   (¬ (led s = true ∧ (s.gates[n.toNat]!).alone.length = 0) ∧ tapE (s.gates[n.toNat]!) t time = 0 ∧ tapS s id n time = (⟨s.ledger, s.denied, s.gates.set n.toNat (tapped (s.gates[n.toNat]!) t time), s.views⟩, 0, 0))) := by
 unfold tapS at h ⊢
 split at h
 ·simp at h
 rename_i h1
 rw [if_neg h1]
 cases ht : ticketOf s.ledger.tickets id with
 | none => simp [ht] at h
 | some t =>
  simp only [ht] at h ⊢
  refine ⟨by simpa using h1, t, rfl, ?_⟩
  by_cases hl : led s = true ∧ (s.gates[n.toNat]!).alone.length = 0
  ·rw [if_pos hl] at h ⊢
   unfold onlineS at h ⊢
   split at h
   ·simp at h
   split at h
   ·simp at h
   split at h
   ·simp at h
   split at h
   ·rename_i h4; exact absurd h h4
   rename_i a b c d
   rw [if_neg a, if_neg b, if_neg c, if_neg d]
   exact .inl ⟨hl.1, hl.2, by simpa using a, by simpa using d, rfl⟩
  ·rw [if_neg hl] at h ⊢
   unfold aloneS at h ⊢
   split at h
   ·rename_i h4; exact absurd h h4
   rename_i d
   rw [if_neg d]
   by_cases he : tapE (s.gates[n.toNat]!) t time = 0
   ·refine .inr ⟨hl, he, ?_⟩
    unfold tapG
    rw [if_neg (by simpa using he)]
   ·exact absurd (by unfold tapG; rw [if_pos he]; exact he) d
theorem tapV_err {tks : List Tk} {taps : List Tp} {vs : List Int} {p : Tp} (h : (tapV tks taps vs p).2 ≠ 0) : (tapV tks taps vs p).1 = 0 ∨ (tapV tks taps vs p).1 = 3 := by
 unfold tapV at h ⊢
 split
 ·exact .inl rfl
 rename_i h1
 rw [if_neg h1] at h
 cases ht : ticketOf tks p.ticket with
 | none => exact .inl rfl
 | some t =>
  simp only [ht] at h ⊢
  split
  ·exact .inl rfl
  rename_i h2
  rw [if_neg h2] at h
  split
  ·exact .inl rfl
  rename_i h3
  rw [if_neg h3] at h
  have := judge_cases t (lastTime (ridesOf taps vs p.ticket)) (ridesOf taps vs p.ticket).length p
  unfold judgeIn at h ⊢
  omega
theorem enterL_err3 {l : Ld} {p : Tp} (h : (enterL l p).2.2 ≠ 0) : (enterL l p).2.1 = 0 ∨ (enterL l p).2.1 = 3 := by
 unfold enterL at h ⊢
 split
 ·rename_i h1; exact tapV_err h1
 rename_i h1
 rw [if_neg h1] at h
 split
 ·exact .inl rfl
 rename_i h2
 rw [if_neg h2] at h
 exact absurd rfl h
theorem enterL_verdict {l : Ld} {p : Tp} (h : (enterL l p).2.2 = 0) : (enterL l p).2.1 = 1 ∨ (enterL l p).2.1 = 2 := by
 unfold enterL at h ⊢
 split at h
 ·rename_i h1; exact absurd h h1
 rename_i h1
 rw [if_neg h1]
 split at h
 ·simp at h
 rename_i h2
 rw [if_neg h2]
 exact (tapV_ok (by simpa using h1)).2.choose_spec.2.2.2.2
theorem tapS_err {s : St} {id n time : Int} (h : (tapS s id n time).2.2 ≠ 0) : (tapS s id n time).2.1 = 0 ∨ (tapS s id n time).2.1 = 3 := by
 unfold tapS at h ⊢
 split
 ·exact .inl rfl
 rename_i h1
 rw [if_neg h1] at h
 cases ht : ticketOf s.ledger.tickets id with
 | none => exact .inl rfl
 | some t =>
  simp only [ht] at h ⊢
  split
  ·rename_i hl
   rw [if_pos hl] at h
   unfold onlineS at h ⊢
   split
   ·exact .inl rfl
   rename_i a
   rw [if_neg a] at h
   split
   ·exact .inl rfl
   rename_i b
   rw [if_neg b] at h
   split
   ·exact .inl rfl
   rename_i c
   rw [if_neg c] at h
   split
   ·rename_i d; exact enterL_err3 d
   ·rename_i d; rw [if_neg d] at h; exact absurd rfl h
  ·unfold aloneS
   split
   ·exact .inl rfl
   ·exact .inl rfl
theorem tapSt_of {s : St} (r : RightS s) (id n time : Int) : tapSt s id n time = ((if (tapS s id n time).2.2 ≠ 0 then st0 else (tapS s id n time).1), (tapS s id n time).2.1, (tapS s id n time).2.2) := by
 unfold tapSt tapRaw
 rw [if_neg (by simpa using rightS_iff.2 r)]
 by_cases h : (tapS s id n time).2.2 = 0
 ·rw [if_neg (by simpa using h), if_neg (by simpa using h)]
 ·rw [if_pos h, if_pos h]
/-- what a tap that is let through leaves -/
theorem safe_ok {s : St} {id g time : Int} (h : (tapSt s id g time).2.2 = 0) : RightS s ∧ RightS (tapSt s id g time).1 ∧ within g 0 2 = true ∧ 0 < s.ledger.tickets.length ∧ (tapSt s id g time).1.gates.length = 3 ∧
  (∀ (hg : g.toNat < (tapSt s id g time).1.gates.length) (hs : g.toNat < s.gates.length), ((tapSt s id g time).1.gates[g.toNat]).seq = (s.gates[g.toNat]).seq + 1) ∧
  (tapSt s id g time).1.denied = s.denied ∧ (tapSt s id g time).1.views = s.views ∧
  (∀ i, i ≠ g.toNat → ∀ (hg : i < (tapSt s id g time).1.gates.length) (hs : i < s.gates.length), (tapSt s id g time).1.gates[i] = s.gates[i]) ∧
  ((tapSt s id g time).2.1 = 0 → ∃ t, ticketOf s.ledger.tickets id = some t ∧ (tapSt s id g time).1.ledger = s.ledger ∧ ∀ (hg : g.toNat < (tapSt s id g time).1.gates.length) (hs : g.toNat < s.gates.length), (tapAll s.gates[g.toNat] t time).2.2 = 0 ∧ (tapAll s.gates[g.toNat] t time).1 = (tapSt s id g time).1.gates[g.toNat]) ∧
  ((tapSt s id g time).2.1 ≠ 0 → (tapSt s id g time).1.ledger.taps.length = s.ledger.taps.length + 1 ∧ s.denied.ids.contains id = false ∧ ∀ (hg : g.toNat < (tapSt s id g time).1.gates.length), ((tapSt s id g time).1.gates[g.toNat]).alone.length = 0) := by
 have hc : ckSt s = 0 := by
  by_cases hc : ckSt s = 0
  ·exact hc
  ·unfold tapSt at h; rw [if_pos hc] at h; exact absurd h hc
 have r := rightS_iff.1 hc
 have hrt := tapS_right (id := id) (n := g) (time := time) r
 rw [tapSt_of r] at h ⊢
 simp only at h ⊢
 rw [if_neg (by simpa using h)]
 obtain ⟨hw, t, ht, hcase⟩ := tapS_ok r h
 obtain ⟨hn0, hn2, hnn⟩ := within_nat (a := 0) hw
 have hlt : g.toNat < s.gates.length := by rw [r.len]; omega
 have hpos : 0 < s.ledger.tickets.length := List.length_pos_of_mem (ticketOf_mem ht).1
 have htr : ckTicket t = 0 := tickets_mem (right_iff.1 r.ledger).2.2.2.1 _ (ticketOf_mem ht).1
 rw [bang_get hlt] at hcase
 rcases hcase with ⟨hl, ha, hd, he, hq⟩ | ⟨hn, he, hq⟩
 ·rw [hq] at hrt ⊢
  have hv := enterL_verdict he
  refine ⟨r, hrt, hw, hpos, by simp [r.len], fun _ _ => by simp, rfl, rfl, fun i hi _ _ => by simp [Ne.symm hi], fun h0 => by simp only at h0; omega, fun _ => ⟨?_, ?_, fun _ => by simpa using ha⟩⟩
  ·simp only; rw [(enterL_ok r.ledger he).2.1]; simp
  ·rw [← (ticketOf_mem ht).2]; exact hd
 ·rw [hq] at hrt ⊢
  refine ⟨r, hrt, hw, hpos, by simp [r.len], fun _ _ => by simp [tapped], rfl, rfl, fun i hi _ _ => by simp [Ne.symm hi], fun _ => ⟨t, ht, rfl, fun _ hs => ?_⟩, fun h0 => absurd rfl h0⟩
  have : tapAll s.gates[g.toNat] t time = (tapped s.gates[g.toNat] t time, tapOf s.gates[g.toNat] t time, 0) := by
   unfold tapAll tapG
   rw [if_neg (by simpa using (r.gates _ hlt).1), if_neg (by simpa using htr), if_neg (by simpa using he)]
  rw [this]
  simp
theorem safe_err {s : St} {id g time : Int} (h : (tapSt s id g time).2.2 ≠ 0) : (tapSt s id g time).1 = st0 ∧ ((tapSt s id g time).2.1 = 0 ∨ (tapSt s id g time).2.1 = 3) := by
 by_cases hc : ckSt s = 0
 ·have r := rightS_iff.1 hc
  rw [tapSt_of r] at h ⊢
  simp only at h ⊢
  rw [if_pos h]
  exact ⟨rfl, tapS_err h⟩
 ·unfold tapSt
  rw [if_pos hc]
  exact ⟨rfl, .inl rfl⟩
end Go.Proofs.YteojjbhadgkfgaaGreat

/- Stations: how one reads, and one that is a call's own. -/
namespace Go.Proofs.YteojjbhadgkfgaaGreat
set_option linter.unusedSimpArgs false
set_option linter.unusedVariables false
set_option maxRecDepth 100000
open Go Go.RowKit Lb

/-- a gate as it lies in a row -/
structure Gy where
 g : Gt
 sa : Value
 si : Value
instance : Inhabited Gy := ⟨⟨gt0, .slice none 0 0, .slice none 0 0⟩⟩
def gyc (y : Gy) : Array Value := gta y.g y.sa y.si
theorem gyc_size (y : Gy) : (gyc y).size = 8 := rfl
/-- a station's slices -/
structure Sv where
 s0 : Value
 s1 : Value
 s2 : Value
 si : Value
 sg : Value
 sv : Value
def sta (s : St) (x : Sv) : Array Value := #[x.s0, x.s1, x.s2, .int .i64 s.denied.version, x.si, x.sg, x.sv]
def GyR (w : World) (y : Gy) : Prop := RdL 5 tpc w y.sa y.g.alone ∧ RdL 1 inc w y.si y.g.denied.ids
def GyO (base : Nat) (w : World) (y : Gy) : Prop := OwnL 57 5 tpc base w y.sa y.g.alone ∧ OwnL 3 1 inc base w y.si y.g.denied.ids
/-- gates, as they read -/
def RdG (w : World) (v : Value) (gl : List Gt) : Prop := ∃ ys : List Gy, gl = ys.map (·.g) ∧ RdL 8 gyc w v ys ∧ ∀ y ∈ ys, GyR w y
/-- gates of one's own -/
def OwnG (base : Nat) (w : World) (v : Value) (gl : List Gt) : Prop := ∃ ys : List Gy, gl = ys.map (·.g) ∧ OwnL 52 8 gyc base w v ys ∧ ∀ y ∈ ys, GyO base w y
theorem RdG.ext {w w' : World} {v : Value} {gl : List Gt} (h : RdG w v gl) (he : Ext w w') : RdG w' v gl := by
 obtain ⟨ys, h1, h2, h3⟩ := h
 exact ⟨ys, h1, h2.ext he, fun y hy => ⟨(h3 y hy).1.ext he, (h3 y hy).2.ext he⟩⟩
theorem RdG.form {w : World} {v : Value} {gl : List Gt} (h : RdG w v gl) : ∃ A c, v = .slice A gl.length c ∧ gl.length ≤ c ∧ c ≤ maxLen := by
 obtain ⟨ys, rfl, h2, -⟩ := h
 obtain ⟨A, c, a, b, d⟩ := h2.form
 exact ⟨A, c, by simpa using a, by simpa using b, d⟩
theorem RdG.nil {w : World} : RdG w (.slice none 0 0) [] := ⟨[], rfl, RdL.nil, fun y h => by cases h⟩
theorem RdG.at_ {w : World} {v : Value} {gl : List Gt} (h : RdG w v gl) {A : Option Addr} {n c : Nat} (hv : v = .slice A n c) {k : Nat} (hk : k < gl.length) : ∃ b o sa si, A = some ⟨b, o, none⟩ ∧ b < w.heap.size ∧
  RdL 5 tpc w sa gl[k].alone ∧ RdL 1 inc w si gl[k].denied.ids ∧
  w.cell? ⟨b, o + k * 8, none⟩ = some (.int .i64 gl[k].id) ∧ w.cell? ⟨b, o + k * 8 + 1, none⟩ = some (.int .i64 gl[k].zone) ∧ w.cell? ⟨b, o + k * 8 + 2, none⟩ = some (.int .i64 gl[k].seq) ∧ w.cell? ⟨b, o + k * 8 + 3, none⟩ = some sa ∧
  w.cell? ⟨b, o + k * 8 + 4, none⟩ = some (.int .i64 gl[k].denied.version) ∧ w.cell? ⟨b, o + k * 8 + 5, none⟩ = some si ∧ w.cell? ⟨b, o + k * 8 + 6, none⟩ = some (.int .i64 gl[k].left) ∧ w.cell? ⟨b, o + k * 8 + 7, none⟩ = some (.int .i64 gl[k].untl) := by
 subst hv
 obtain ⟨ys, rfl, h2, h3⟩ := h
 have hk' : k < ys.length := by simpa using hk
 obtain ⟨b, o, c', hv, hb, hc⟩ := h2.at_ hk'
 injection hv with hA
 have hy := h3 ys[k] (List.getElem_mem hk')
 simp only [List.getElem_map]
 exact ⟨b, o, ys[k].sa, ys[k].si, hA, hb, hy.1, hy.2, hc 0 _ rfl, hc 1 _ rfl, hc 2 _ rfl, hc 3 _ rfl, hc 4 _ rfl, hc 5 _ rfl, hc 6 _ rfl, hc 7 _ rfl⟩
theorem OwnG.rd {base : Nat} {w : World} {v : Value} {gl : List Gt} (h : OwnG base w v gl) : RdG w v gl := by
 obtain ⟨ys, h1, h2, h3⟩ := h
 exact ⟨ys, h1, h2.rd gyc_size, fun y hy => ⟨(h3 y hy).1.rd tpc_size, (h3 y hy).2.rd inc_size⟩⟩
theorem OwnG.ext {base : Nat} {w w' : World} {v : Value} {gl : List Gt} (h : OwnG base w v gl) (he : Ext w w') : OwnG base w' v gl := by
 obtain ⟨ys, h1, h2, h3⟩ := h
 exact ⟨ys, h1, h2.ext he, fun y hy => ⟨(h3 y hy).1.ext he, (h3 y hy).2.ext he⟩⟩
theorem OwnG.lower {base b2 : Nat} {w : World} {v : Value} {gl : List Gt} (h : OwnG base w v gl) (hb : b2 ≤ base) : OwnG b2 w v gl := by
 obtain ⟨ys, h1, h2, h3⟩ := h
 exact ⟨ys, h1, h2.lower hb, fun y hy => ⟨(h3 y hy).1.lower hb, (h3 y hy).2.lower hb⟩⟩
theorem OwnG.nil {base : Nat} {w : World} : OwnG base w (.slice none 0 0) [] := ⟨[], rfl, OwnL.nil, fun y h => by cases h⟩
theorem OwnG.form {base : Nat} {w : World} {v : Value} {gl : List Gt} (h : OwnG base w v gl) : ∃ A c, v = .slice A gl.length c := by
 obtain ⟨ys, rfl, h2, -⟩ := h
 obtain ⟨A, c, a⟩ := h2.form
 exact ⟨A, c, by simpa using a⟩
theorem OwnG.rowS {base : Nat} {w : World} {v : Value} {gl : List Gt} (h : OwnG base w v gl) : RowS base 52 8 w v := by
 obtain ⟨ys, -, h2, -⟩ := h
 exact h2.rowS
/-- a station, as it reads -/
structure RdS (w : World) (x : Sv) (s : St) : Prop where
 tk : RdL 6 tkc w x.s0 s.ledger.tickets
 tp : RdL 5 tpc w x.s1 s.ledger.taps
 vd : RdL 1 inc w x.s2 s.ledger.verdicts
 dn : RdL 1 inc w x.si s.denied.ids
 gt : RdG w x.sg s.gates
 vw : RdL 3 vwc w x.sv s.views
theorem RdS.ext {w w' : World} {x : Sv} {s : St} (h : RdS w x s) (he : Ext w w') : RdS w' x s := ⟨h.tk.ext he, h.tp.ext he, h.vd.ext he, h.dn.ext he, h.gt.ext he, h.vw.ext he⟩
/-- a station of one's own -/
structure OwnS (base : Nat) (w : World) (x : Sv) (s : St) : Prop where
 tk : OwnL 34 6 tkc base w x.s0 s.ledger.tickets
 tp : OwnL 57 5 tpc base w x.s1 s.ledger.taps
 vd : OwnL 3 1 inc base w x.s2 s.ledger.verdicts
 dn : OwnL 3 1 inc base w x.si s.denied.ids
 gt : OwnG base w x.sg s.gates
 vw : OwnL 110 3 vwc base w x.sv s.views
theorem OwnS.ext {base : Nat} {w w' : World} {x : Sv} {s : St} (h : OwnS base w x s) (he : Ext w w') : OwnS base w' x s := ⟨h.tk.ext he, h.tp.ext he, h.vd.ext he, h.dn.ext he, h.gt.ext he, h.vw.ext he⟩
theorem OwnS.lower {base b2 : Nat} {w : World} {x : Sv} {s : St} (h : OwnS base w x s) (hb : b2 ≤ base) : OwnS b2 w x s := ⟨h.tk.lower hb, h.tp.lower hb, h.vd.lower hb, h.dn.lower hb, h.gt.lower hb, h.vw.lower hb⟩
theorem OwnS.rd {base : Nat} {w : World} {x : Sv} {s : St} (h : OwnS base w x s) : RdS w x s := ⟨h.tk.rd tkc_size, h.tp.rd tpc_size, h.vd.rd inc_size, h.dn.rd inc_size, h.gt.rd, h.vw.rd vwc_size⟩
def sv0 : Sv := ⟨.slice none 0 0, .slice none 0 0, .slice none 0 0, .slice none 0 0, .slice none 0 0, .slice none 0 0⟩
theorem OwnS.nil {base : Nat} {w : World} : OwnS base w sv0 st0 := ⟨OwnL.nil, OwnL.nil, OwnL.nil, OwnL.nil, OwnG.nil, OwnL.nil⟩
end Go.Proofs.YteojjbhadgkfgaaGreat

/- Stations of one's own: what outlives writes to boxes and to the gates' row. -/
namespace Go.Proofs.YteojjbhadgkfgaaGreat
set_option linter.unusedSimpArgs false
set_option linter.unusedVariables false
set_option maxRecDepth 100000
open Go Go.RowKit Lb

/-- the types of a station's rows but for the gates' -/
def spK : List TypeId := [34, 57, 3, 110]
section
variable {α : Type} {enc : α → Array Value} {e : TypeId} {k base : Nat} {w w' : World} {v : Value} {l : List α} {own : Nat → Prop} {x : Sv} {s : St} {y : Gy} {gl : List Gt}
theorem OwnL.bx (h : OwnL e k enc base w v l) : ∀ q, v.ownBlock = some q → ∃ cs, Bx w q e cs := by
 intro q hq
 rcases h.2 with ⟨rfl, h0⟩ | ⟨g, cap, cur, rfl, hb, hg, -⟩
 ·cases hq
 ·cases hq; exact ⟨cur, hg⟩
theorem OwnL.keepT (h : OwnL e k enc base w v l) (hf : Fr own w w') (ht : ∀ q, own q → ∃ e2 cs, Bx w q e2 cs ∧ e2 ≠ e) : OwnL e k enc base w' v l :=
 hf.own h (fun q hq ho => by obtain ⟨e2, cs, hb, hn⟩ := ht q ho; exact h.rowS.box hb (fun he => hn he.symm) hq)
theorem offK {e0 : TypeId} (h : ∀ q, own q → ∃ e2 cs, Bx w q e2 cs ∧ e2 ∉ spK) (he : e0 ∈ spK) : ∀ q, own q → ∃ e2 cs, Bx w q e2 cs ∧ e2 ≠ e0 := by
 intro q hq
 obtain ⟨e2, cs, hb, hn⟩ := h q hq
 exact ⟨e2, cs, hb, fun hx => hn (hx ▸ he)⟩
theorem GyO.keep (h : GyO base w y) (hf : Fr own w w') (hn : ∀ q, own q → ∃ e2 cs, Bx w q e2 cs ∧ e2 ∉ spK) : GyO base w' y := ⟨h.1.keepT hf (offK hn (by decide)), h.2.keepT hf (offK hn (by decide))⟩
theorem GyO.ext (h : GyO base w y) (he : Ext w w') : GyO base w' y := ⟨h.1.ext he, h.2.ext he⟩
theorem OwnS.keepG {sg' : Value} {gl' : List Gt} (h : OwnS base w x s) (hf : Fr own w w') (hn : ∀ q, own q → ∃ e2 cs, Bx w q e2 cs ∧ e2 ∉ spK) (hg : OwnG base w' sg' gl') : OwnS base w' ⟨x.s0, x.s1, x.s2, x.si, sg', x.sv⟩ ⟨s.ledger, s.denied, gl', s.views⟩ :=
 ⟨h.tk.keepT hf (offK hn (by decide)), h.tp.keepT hf (offK hn (by decide)), h.vd.keepT hf (offK hn (by decide)), h.dn.keepT hf (offK hn (by decide)), hg, h.vw.keepT hf (offK hn (by decide))⟩
theorem OwnG.keep (h : OwnG base w v gl) (hf : Fr own w w') (hn : ∀ q, own q → ∃ e2 cs, Bx w q e2 cs ∧ e2 ∉ spK) (hg : ∀ q, own q → ∃ e2 cs, Bx w q e2 cs ∧ e2 ≠ 52) : OwnG base w' v gl := by
 obtain ⟨ys, h1, h2, h3⟩ := h
 exact ⟨ys, h1, h2.keepT hf hg, fun y hy => (h3 y hy).keep hf hn⟩
/-- only boxes were written -/
theorem OwnS.keep (h : OwnS base w x s) (hf : Fr own w w') (hn : ∀ q, own q → ∃ e2 cs, Bx w q e2 cs ∧ e2 ∉ spT) : OwnS base w' x s := by
 have h1 : ∀ q, own q → ∃ e2 cs, Bx w q e2 cs ∧ e2 ∉ spK := fun q hq => by
  obtain ⟨e2, cs, hb, hx⟩ := hn q hq
  exact ⟨e2, cs, hb, fun hy => hx (by simp only [spK, List.mem_cons, List.not_mem_nil, or_false] at hy; rcases hy with rfl | rfl | rfl | rfl <;> decide)⟩
 have h2 : ∀ q, own q → ∃ e2 cs, Bx w q e2 cs ∧ e2 ≠ 52 := fun q hq => by
  obtain ⟨e2, cs, hb, hx⟩ := hn q hq
  exact ⟨e2, cs, hb, fun hy => hx (by rw [hy]; decide)⟩
 exact h.keepG hf h1 (h.gt.keep hf h1 h2)
/-- one more gate is appended, or a gate is written in place: the gates' rows -/
theorem OwnG.of {v' : Value} {ys : List Gy} (hr : OwnL 52 8 gyc base w' v' ys) (hy : ∀ y ∈ ys, GyO base w' y) : OwnG base w' v' (ys.map (·.g)) := ⟨ys, rfl, hr, hy⟩
theorem OwnG.setC {a : Addr} {u : Value} (ha : a.block < base) (h : OwnG base w v gl) : OwnG base (w.setCell a u) v gl := by
 obtain ⟨ys, h1, h2, h3⟩ := h
 exact ⟨ys, h1, h2.setC ha, fun y hy => ⟨(h3 y hy).1.setC ha, (h3 y hy).2.setC ha⟩⟩
theorem OwnS.setC {a : Addr} {u : Value} (ha : a.block < base) (h : OwnS base w x s) : OwnS base (w.setCell a u) x s := ⟨h.tk.setC ha, h.tp.setC ha, h.vd.setC ha, h.dn.setC ha, h.gt.setC ha, h.vw.setC ha⟩
theorem row_fr {A : Option Addr} {n c : Nat} (hg : w.grownBy w' (Value.slice A n c).ownBlock) : Fr (fun q => (Value.slice A n c).ownBlock = some q) w w' := (Fr.refl _ _).grown hg (fun q e => .inr e)
end
/-- a gate's cells, one each -/
theorem gate_oneC (g : Gt) (A1 A2 : Option Addr) (n1 c1 n2 c2 : Nat) : ∀ u ∈ encs gyc [⟨g, .slice A1 n1 c1, .slice A2 n2 c2⟩], u.oneCell' = true := by
 intro u hu
 simp [encs, gyc, gta] at hu
 (rcases hu with rfl | rfl | rfl | rfl | rfl | rfl | rfl | rfl) <;> rfl
end Go.Proofs.YteojjbhadgkfgaaGreat

/- The reference's NewStation. -/
namespace Go.Proofs.YteojjbhadgkfgaaGreat
set_option linter.unusedSimpArgs false
set_option linter.unusedVariables false
set_option maxRecDepth 100000
open Go Go.RowKit Lb

def newY : List Gy := [⟨newG 0 1, .slice none 0 0, .slice none 0 0⟩, ⟨newG 1 2, .slice none 0 0, .slice none 0 0⟩, ⟨newG 2 4, .slice none 0 0, .slice none 0 0⟩]
theorem own_lit {α : Type} {e : TypeId} {k base g n : Nat} {enc : α → Array Value} {w : World} {l : List α} {cs : Array Value} (hg : g = w.heap.size) (hb : base ≤ w.heap.size) (hn : n = l.length) (hm : n ≤ maxLen) (hc : cs.toList = encs enc l) (hk : cs.size = n * k) : OwnL e k enc base (w.alloc (.cells cs e)) (.slice (some ⟨g, 0, none⟩) n n) l := by
 subst hg hn
 refine ⟨by rw [← hc]; simpa using hk, .inr ⟨w.heap.size, l.length, cs, rfl, hb, heap_alloc_new w _, Nat.le_refl _, hm, hk, ?_⟩⟩
 rw [← hc, ← hk]
 exact List.take_of_length_le (by simp)
theorem newY_own {base : Nat} {w : World} : ∀ y ∈ newY, GyO base w y := by
 intro y hy
 simp only [newY, List.mem_cons, List.not_mem_nil, or_false] at hy
 rcases hy with rfl | rfl | rfl <;> exact ⟨OwnL.nil, OwnL.nil⟩

set_option maxHeartbeats 8000000 in
theorem ref_NewStation (w : World) :
  Calls Tryz.prog 21 #[] w fun e w' => ∃ x, e = .returned (.agg (sta newS x)) ∧ Ext w w' ∧ OwnS w.heap.size w' x newS := by
 go_enter Tryz.func21, Tryz.ntmps21
 go_wp2_with fail
 refine bodyPost_ret (v := .agg #[.slice none 0 0, .slice none 0 0, .slice none 0 0, .int .i64 0, .slice none 0 0, .slice (some ⟨w.heap.size + 1 + 1, 0, none⟩) 3 3, .slice (some ⟨w.heap.size + 1 + 1 + 1, 0, none⟩) 3 3]) (by simp [results, Tryz.results21, go_sem, *]) rfl ⟨⟨.slice none 0 0, .slice none 0 0, .slice none 0 0, .slice none 0 0, .slice (some ⟨w.heap.size + 1 + 1, 0, none⟩) 3 3, .slice (some ⟨w.heap.size + 1 + 1 + 1, 0, none⟩) 3 3⟩, rfl, (show Ext w _ by exact extA), ⟨OwnL.nil, OwnL.nil, OwnL.nil, OwnL.nil, ⟨newY, rfl, OwnL.alloc _ (own_lit (by simp) (by simp; omega) rfl (by unfold maxLen; omega) rfl rfl), newY_own⟩, own_lit (by simp) (by simp; omega) rfl (by unfold maxLen; omega) rfl rfl⟩⟩
theorem new_encs : encs gvc newGates = encs gyc newY := rfl
theorem station_New_own (w : World) :
  Calls Tryz.prog 20 #[] w fun e w' => ∃ x, e = .returned (.agg (sta newS x)) ∧ Ext w w' ∧ OwnS w.heap.size w' x newS := by
 refine (station_New w).mono ?_
 rintro e w' ⟨gs, vs, rfl, h, og, ov⟩
 have hg : OwnL 52 8 gyc w.heap.size w' gs newY := by
  unfold OwnL at og ⊢
  rw [new_encs] at og
  exact og
 exact ⟨⟨.slice none 0 0, .slice none 0 0, .slice none 0 0, .slice none 0 0, gs, vs⟩, rfl, h, ⟨OwnL.nil, OwnL.nil, OwnL.nil, OwnL.nil, ⟨newY, rfl, hg, newY_own⟩, ov⟩⟩
end Go.Proofs.YteojjbhadgkfgaaGreat

/- Drawn regions: three that may come up; boxes and rows over many stores. -/
namespace Go.Proofs.YteojjbhadgkfgaaGreat
open Go Go.RowKit Lb
set_option linter.unusedSimpArgs false
set_option linter.unusedVariables false
set_option maxRecDepth 100000

section
variable {P : Program} {l : List Oper} {Q : Exit → Act → World → Prop} {md : Region.Mode} {S : World → Prop}
/-- Numbers i, j and k may come up. -/
theorem T_three {n i j k : Nat} {oi oj ok : Oper} {fuel : Nat} {listed : Array Bool} {a : Act} {w : World} (hi : l[i]? = some oi) (hj : l[j]? = some oj) (hk : l[k]? = some ok) (hr : Region.ready md l.toArray listed = [i, j, k]) (hwi : oi.guard = none) (hwj : oj.guard = none) (hwk : ok.guard = none)
  (h1 : ∀ K : Act → World → Prop, Hid (∀ a w, ((listed.setIfInBounds i true).getD n false = true ∨ S w) → wpAnyT P md l.toArray (NoPanic Q) S n fuel (listed.setIfInBounds i true) a w → K a w) → Oper.wp P oi a w K (NoPanic Q))
  (h2 : ∀ K : Act → World → Prop, Hid (∀ a w, ((listed.setIfInBounds j true).getD n false = true ∨ S w) → wpAnyT P md l.toArray (NoPanic Q) S n fuel (listed.setIfInBounds j true) a w → K a w) → Oper.wp P oj a w K (NoPanic Q))
  (h3 : ∀ K : Act → World → Prop, Hid (∀ a w, ((listed.setIfInBounds k true).getD n false = true ∨ S w) → wpAnyT P md l.toArray (NoPanic Q) S n fuel (listed.setIfInBounds k true) a w → K a w) → Oper.wp P ok a w K (NoPanic Q)) :
  wpAnyT P md l.toArray (NoPanic Q) S n (fuel + 1) listed a w := by
 refine ⟨fun h0 => (by rw [hr] at h0; cases h0), fun z hz => ?_⟩
 rw [hr] at hz
 rcases List.mem_cons.1 hz with rfl | hz
 ·have hi' : l.toArray[z]? = some oi := by simpa using hi
  refine wpOp_step hi' fun K hK => ?_
  rw [if_pos (by simp [Region.wanted, hwi])]
  exact h1 K (Lib.hid fun a w h1 h2 => hK a w ⟨h1, h2⟩)
 ·rcases List.mem_cons.1 hz with rfl | hz
  ·have hj' : l.toArray[z]? = some oj := by simpa using hj
   refine wpOp_step hj' fun K hK => ?_
   rw [if_pos (by simp [Region.wanted, hwj])]
   exact h2 K (Lib.hid fun a w h1 h2 => hK a w ⟨h1, h2⟩)
  ·rw [List.mem_singleton] at hz
   subst hz
   have hk' : l.toArray[z]? = some ok := by simpa using hk
   refine wpOp_step hk' fun K hK => ?_
   rw [if_pos (by simp [Region.wanted, hwk])]
   exact h3 K (Lib.hid fun a w h1 h2 => hK a w ⟨h1, h2⟩)
end
theorem rowC {w : World} {g : Nat} {cs cs' : Array Value} (r : Row w g cs') (e : cs' = cs) : Row w g cs := e ▸ r
end Go.Proofs.YteojjbhadgkfgaaGreat

/- station.at, station.Check. -/
namespace Go.Proofs.YteojjbhadgkfgaaGreat
set_option linter.unusedSimpArgs false
set_option linter.unusedVariables false
set_option maxRecDepth 100000
open Go Go.RowKit Lb

set_option maxHeartbeats 4000000 in
theorem at_one (x : Tp) (i : Int) (g : Gt) (sa si : Value) (pi pg : Nat) (w : World) (hr : ckGate g = 0) (ha : ∃ A c, sa = .slice A g.alone.length c) (h1 : Row w pi #[.int .i64 i]) (h2 : Row w pg (gta g sa si)) :
  Calls Tryz.prog 115 #[.agg (tpc x), .pointer (some ⟨pi, 0, none⟩), .pointer (some ⟨pg, 0, none⟩)] w fun e w' => e = .returned (.bool (knownP i g x)) ∧ Ext w w' := by
 obtain ⟨A, c, rfl⟩ := ha
 have r := ckGate_ok.1 hr
 have hb := r.seq
 have hl := r.len
 simp [within] at hb
 clear r hr
 obtain ⟨g0, g1, g2, al, g4, g5, g6⟩ := g
 obtain ⟨x0, x1, x2, x3, x4⟩ := x
 simp only at hb hl
 have hw : IntKind.i64.wrap (g2 - (al.length : Int)) = g2 - (al.length : Int) := IntWalk.i64_in _ (by omega)
 unfold gta at h2
 unfold tpc knownP
 simp only
 apply Row.use h1; intro q1 f1 l1 R1
 apply Row.use h2; intro q2 f2 l2 R2
 clear h1 h2 hl
 by_cases h : x1 = i
 ·have hb2 : (x1 == i) = true := by simpa using h
  rw [hb2, Bool.true_and]
  generalize hd : decide (g2 - (al.length : Int) < x2) = d
  have HD := Lib.hid hd
  clear hd
  go_enter Tryz.func115, Tryz.ntmps115
  go_wp2
  all_goals
   go_ret
   exact ⟨ret_bool (by rw [← HD.out] <;> simp_all), (show Ext w _ by exact extA)⟩
 ·have hb2 : (x1 == i) = false := by simpa using h
  rw [hb2, Bool.false_and]
  go_enter Tryz.func115, Tryz.ntmps115
  go_wp2
  all_goals
   go_ret
   exact ⟨ret_bool (by simp_all), (show Ext w _ by exact extA)⟩

set_option maxHeartbeats 8000000 in
theorem station_at (s : St) (x : Sv) (i : Nat) (w : World) (hr : RdS w x s) (hi : i < s.gates.length) :
  Calls Tryz.prog 71 #[.agg (sta s x), .int .i64 i] w fun e w' => e = .returned (.int .i64 (atG s.ledger.taps s.denied.version i s.gates[i])) ∧ Ext w w' := by
 obtain ⟨⟨tks, taps, vs⟩, ⟨ver, ids⟩, gts, vws⟩ := s
 obtain ⟨s0, s1, s2, si, sg, sv⟩ := x
 obtain ⟨h0, h1, h2, h3, h4, h5⟩ := hr
 simp only at h0 h1 h2 h3 h4 h5 hi
 obtain ⟨A, c, rfl, hc, hm⟩ := h4.form
 have hic : (i : Int) < (c : Int) := by omega
 have hil : (i : Int) < (gts.length : Int) := by omega
 obtain ⟨b, o, sa, sd, rfl, hb, ra, rd, c0, c1, c2, c3, c4, c5, c6, c7⟩ := h4.at_ rfl hi
 obtain ⟨A1, n1, rfl, -, -⟩ := h1.form
 have HT := Lib.hid h1
 simp only
 generalize gts[i] = g at *
 have HG := Lib.hid (fun (w' : World) (h : Ext w w') => gate_Check g sa sd w' (ra.ext h) (rd.ext h))
 have HC := Lib.hid (fun (hk : ckGate g = 0) (pi pg : Nat) (w' : World) (h : Ext w w') (hp : Row w' pi #[.int .i64 i]) (hg : Row w' pg (gta g sa sd)) => ContainsFunc_tpx (knownP i g) 115 #[.pointer (some ⟨pi, 0, none⟩), .pointer (some ⟨pg, 0, none⟩)] (fun args w => by simp [go_sem]) taps _ w' (h1.ext h) (fun W x hE => at_one x i g sa sd pi pg W hk (by obtain ⟨A, c, e, -, -⟩ := ra.form; exact ⟨A, c, e⟩) (hp.ext hE) (hg.ext hE)))
 obtain ⟨A2, n2, rfl, -, -⟩ := ra.form
 obtain ⟨A3, n3, rfl, -, -⟩ := rd.form
 unfold atG
 generalize hck : ckGate g = ck at *
 have HCK := Lib.hid hck
 generalize hkn : taps.any (knownP i g) = z at *
 clear h0 h1 h2 h3 h4 h5 ra rd hck hkn hc hm hi
 obtain ⟨g0, g1, g2, al, ⟨gv, gi⟩, g6, g7⟩ := g
 simp only at c0 c1 c2 c3 c4 c5 c6 c7
 generalize hr : (if ck ≠ 0 then ck else if g0 ≠ (i : Int) ∨ ver < gv then 4 else if z = true then 6 else 0) = r
 have HR := Lib.hid hr
 clear hr
 unfold gta at HG HC
 unfold sta
 simp only at HG HC ⊢
 go_enter Tryz.func71, Tryz.ntmps71
 go_wp2_with fail
 (refine (HG.out _ (by exact extA)).mono ?_; rintro e w1 ⟨rfl, h1⟩; have H1 := Lib.hid h1; have hz1 := h1.size; clear h1; (try simp only [World.size_alloc, size_set, World.heap_drewN, size_drew] at hz1); apply Row.use (w := w1) (g := w.heap.size); (focus (exact rowA)); intro q1_0 f1_0 l1_0 R1_0; (try simp only [lSet] at q1_0 R1_0); apply Row.use (w := w1) (g := w.heap.size + 1); (focus (exact rowA)); intro q1_1 f1_1 l1_1 R1_1; (try simp only [lSet] at q1_1 R1_1); apply Row.use (w := w1) (g := w.heap.size + 1 + 1); (focus (exact rowA)); intro q1_2 f1_2 l1_2 R1_2; (try simp only [lSet] at q1_2 R1_2))
 by_cases h0 : ck = 0
 ·subst h0
  by_cases hid : g0 = (i : Int)
  ·subst hid
   by_cases hv : ver < gv
   ·have HQ := Lib.hid (show 4 = r by rw [← HR.out]; simp [hv])
    go_wp2_with fail
    go_ret
    exact ⟨ret_int HQ.out, (show Ext w _ by exact extA)⟩
   ·have HQ := Lib.hid (show (if z = true then (6 : Int) else 0) = r by rw [← HR.out]; simp [hv])
    go_wp2_with fail
    refine (HC.out (by trivial) _ _ _ (by exact extA) (by exact rowA) (by exact rowA)).mono ?_
    (rintro e w2 ⟨rfl, h2⟩; have H2 := Lib.hid h2; have hz2 := h2.size; clear h2; (try simp only [World.size_alloc, size_set, World.heap_drewN, size_drew] at hz2); apply Row.use (w := w2) (g := w.heap.size); (focus (exact rowA)); intro q2_0 f2_0 l2_0 R2_0; (try simp only [lSet] at q2_0 R2_0))
    cases z
    ·go_wp2_with fail
     go_ret
     exact ⟨ret_int HQ.out, (show Ext w _ by exact extA)⟩
    ·go_wp2_with fail
     go_ret
     exact ⟨ret_int HQ.out, (show Ext w _ by exact extA)⟩
  ·have HQ := Lib.hid (show 4 = r by rw [← HR.out]; simp [hid])
   have hid' : (g0 == (i : Int)) = false := by simpa using hid
   go_wp2_with fail
   go_ret
   exact ⟨ret_int HQ.out, (show Ext w _ by exact extA)⟩
 ·have HQ := Lib.hid (show ck = r by rw [← HR.out, if_pos h0])
  have h0' : (ck == 0) = false := by simpa using h0
  go_wp2_with fail
  go_ret
  exact ⟨ret_int HQ.out, (show Ext w _ by exact extA)⟩
end Go.Proofs.YteojjbhadgkfgaaGreat

/- station.Check. -/
namespace Go.Proofs.YteojjbhadgkfgaaGreat
set_option linter.unusedSimpArgs false
set_option linter.unusedVariables false
set_option maxRecDepth 100000
open Go Go.RowKit Lb

set_option maxHeartbeats 8000000 in
theorem station_Check (s : St) (x : Sv) (w : World) (hr : RdS w x s) :
  Calls Tryz.prog 22 #[.agg (sta s x)] w fun e w' => e = .returned (.int .i64 (ckSt s)) ∧ Ext w w' := by
 have K1 := Lib.hid (fun (w' : World) (h : Ext w w') => ledger_Check s.ledger.tickets s.ledger.taps s.ledger.verdicts x.s0 x.s1 x.s2 w' (hr.tk.ext h) (hr.tp.ext h) (hr.vd.ext h))
 have K2 := Lib.hid (fun (w' : World) (h : Ext w w') => denied_Check s.denied x.si w' (hr.dn.ext h))
 have KA := Lib.hid (fun (i : Nat) (g : Gt) (hg : s.gates[i]? = some g) (w' : World) (h : Ext w w') => (List.getElem?_eq_some_iff.1 hg).2 ▸ station_at s x i w' (hr.ext h) (List.getElem?_eq_some_iff.1 hg).1)
 have KV := Lib.hid (fun (w' : World) (h : Ext w w') => lead_Check s.views x.sv w' (hr.vw.ext h))
 obtain ⟨⟨tks, taps, vs⟩, ⟨ver, ids⟩, gts, vws⟩ := s
 obtain ⟨s0, s1, s2, si, sg, sv⟩ := x
 obtain ⟨h0, h1, h2, h3, h4, h5⟩ := hr
 simp only at h0 h1 h2 h3 h4 h5 K1 K2 KA KV
 obtain ⟨A0, c0, rfl, -, -⟩ := h0.form
 obtain ⟨A1, c1, rfl, -, -⟩ := h1.form
 obtain ⟨A2, c2, rfl, -, -⟩ := h2.form
 obtain ⟨A3, c3, rfl, -, -⟩ := h3.form
 obtain ⟨A4, c4, rfl, -, -⟩ := h4.form
 obtain ⟨A5, c5, rfl, -, -⟩ := h5.form
 clear h0 h1 h2 h3 h4 h5
 unfold ckSt
 simp only
 generalize ckLedger ⟨tks, taps, vs⟩ = e1 at *
 generalize ckDn ⟨ver, ids⟩ = e2 at *
 generalize ckViews vws = e3 at *
 generalize hg : ckGates taps ver 0 gts = e4
 have HG := Lib.hid hg
 clear hg
 generalize hm : gts.length = m at *
 have HM := Lib.hid hm
 clear hm
 generalize hr : (if e1 ≠ 0 then e1 else if e2 ≠ 0 then e2 else if m ≠ 3 then 1 else if e4 ≠ 0 then e4 else e3) = r
 have HR := Lib.hid hr
 clear hr
 unfold sta at KA ⊢
 simp only at KA ⊢
 go_enter Tryz.func22, Tryz.ntmps22
 go_wp2_with fail
 (refine (K1.out _ (by exact extA)).mono ?_; rintro e w1 ⟨rfl, h1⟩; have H1 := Lib.hid h1; have hz1 := h1.size; clear h1; (try simp only [World.size_alloc, size_set, World.heap_drewN, size_drew] at hz1); apply Row.use (w := w1) (g := w.heap.size); (focus (exact rowA)); intro q1_0 f1_0 l1_0 R1_0; (try simp only [lSet] at q1_0 R1_0))
 by_cases n1 : e1 = 0
 ·subst n1
  go_wp2_with fail
  (refine (K2.out _ (by exact extA)).mono ?_; rintro e w2 ⟨rfl, h2⟩; have H2 := Lib.hid h2; have hz2 := h2.size; clear h2; (try simp only [World.size_alloc, size_set, World.heap_drewN, size_drew] at hz2); apply Row.use (w := w2) (g := w.heap.size); (focus (exact rowA)); intro q2_0 f2_0 l2_0 R2_0; (try simp only [lSet] at q2_0 R2_0))
  by_cases n2 : e2 = 0
  ·subst n2
   by_cases n3 : m = 3
   ·have HQ := Lib.hid (show (if e4 ≠ 0 then e4 else e3) = r by rw [← HR.out]; simp [n3])
    subst n3
    have HW := Lib.hid (And.intro trivial ((show Ext w w2 by exact extA)))
    clear q1_0 f1_0 l1_0 R1_0 H1 hz1
    go_wp2_with fail
    go_loopg [5, 6, 26] 3 (fun gg _ _ s26 wr => ∃ k : Nat, k ≤ 3 ∧ 3 - k ≤ gg ∧ s26 = .int .i64 k ∧ Aside (Ext w2 wr ∧ ckGates taps ver k (gts.drop k) = e4))
    case atStart => exact ⟨0, by omega, by omega, rfl, Ext.refl _, HG.out⟩
    case round =>
     obtain ⟨k, hk, hg, rfl, HA⟩ := hrel
     have HE := Lib.hid HA.out.1
     have HC := Lib.hid HA.out.2
     clear HA
     (apply Row.use (w := wr) (g := w.heap.size); (focus (exact rowA)); intro qr_0 fr_0 lr_0 Rr_0; (try simp only [lSet] at qr_0 Rr_0))
     by_cases hlt : k < 3
     ·have hkl : k < gts.length := by rw [HM.out]; exact hlt
      have hlt' : (k : Int) < 3 := by omega
      have hc := HC.out
      rw [List.drop_eq_getElem_cons hkl, ckGates_cons] at hc
      have HK := Lib.hid (KA.out k _ (List.getElem?_eq_getElem hkl) wr (HW.out.2.trans HE.out))
      generalize atG taps ver k gts[k] = a at *
      have HH := Lib.hid hc
      clear hc hkl
      by_cases ha : a = 0
      ·subst ha
       have HD := Lib.hid (show ckGates taps ver (k + 1) (gts.drop (k + 1)) = e4 by simpa using HH.out)
       go_wp2_with fail
       refine HK.out.mono ?_
       (rintro e w3 ⟨rfl, h3⟩; have H3 := Lib.hid h3; have hz3 := h3.size; clear h3; (try simp only [World.size_alloc, size_set, World.heap_drewN, size_drew] at hz3); apply Row.use (w := w3) (g := w.heap.size); (focus (exact rowA)); intro q3_0 f3_0 l3_0 R3_0; (try simp only [lSet] at q3_0 R3_0))
       go_wp2_with fail
       go_roundg (3 - (k + 1))
       case measure => omega
       case rel => exact ⟨k + 1, by omega, by omega, by go_num, (show Ext w2 _ by exact extA), HD.out⟩
      ·have ha' : (a == 0) = false := by simpa using ha
       have HF := Lib.hid (show a = r by have := HH.out; rw [if_pos ha] at this; rw [← HQ.out, ← this, if_pos ha])
       go_wp2_with fail
       refine HK.out.mono ?_
       (rintro e w3 ⟨rfl, h3⟩; have H3 := Lib.hid h3; have hz3 := h3.size; clear h3; (try simp only [World.size_alloc, size_set, World.heap_drewN, size_drew] at hz3); apply Row.use (w := w3) (g := w.heap.size); (focus (exact rowA)); intro q3_0 f3_0 l3_0 R3_0; (try simp only [lSet] at q3_0 R3_0))
       go_wp2_with fail
       go_ret
       exact ⟨ret_int HF.out, HW.out.2.trans (show Ext w2 _ by exact extA)⟩
     ·have hge : ¬ (k : Int) < 3 := by omega
      have HF := Lib.hid (show e3 = r by
       have hd : gts.drop k = [] := List.drop_eq_nil_of_le (by rw [HM.out]; omega)
       have := HC.out
       rw [hd] at this
       rw [← HQ.out, ← this]
       simp [ckGates])
      go_wp2_with fail
      refine (KV.out _ (HW.out.2.trans HE.out)).mono ?_
      (rintro e w3 ⟨rfl, h3⟩; have H3 := Lib.hid h3; have hz3 := h3.size; clear h3; (try simp only [World.size_alloc, size_set, World.heap_drewN, size_drew] at hz3); apply Row.use (w := w3) (g := w.heap.size); (focus (exact rowA)); intro q3_0 f3_0 l3_0 R3_0; (try simp only [lSet] at q3_0 R3_0))
      go_wp2_with fail
      go_ret
      exact ⟨ret_int HF.out, HW.out.2.trans (show Ext w2 _ by exact extA)⟩
   ·have HQ := Lib.hid (show 1 = r by rw [← HR.out]; simp [n3])
    have n3' : ((m : Int) == 3) = false := by simpa using (by omega : ¬ (m : Int) = 3)
    go_wp2_with fail
    go_ret
    exact ⟨ret_int HQ.out, (show Ext w _ by exact extA)⟩
  ·have HQ := Lib.hid (show e2 = r by rw [← HR.out]; simp [n2])
   have n2' : (e2 == 0) = false := by simpa using n2
   go_wp2_with fail
   go_ret
   exact ⟨ret_int HQ.out, (show Ext w _ by exact extA)⟩
 ·have HQ := Lib.hid (show e1 = r by rw [← HR.out]; simp [n1])
  have n1' : (e1 == 0) = false := by simpa using n1
  go_wp2_with fail
  go_ret
  exact ⟨ret_int HQ.out, (show Ext w _ by exact extA)⟩
end Go.Proofs.YteojjbhadgkfgaaGreat

/- station.Own. -/
namespace Go.Proofs.YteojjbhadgkfgaaGreat
set_option linter.unusedSimpArgs false
set_option linter.unusedVariables false
set_option maxRecDepth 100000
open Go Go.RowKit Lb

def zSt : Array Value := #[.slice none 0 0, .slice none 0 0, .slice none 0 0, .int .i64 0, .slice none 0 0, .slice none 0 0, .slice none 0 0]
def bldSt : Value → Value → Value → Value
 | .agg ⟨[a, b, c]⟩, .agg ⟨[d, e]⟩, v => .agg #[a, b, c, d, e, .slice none 0 0, v]
 | _, _, _ => undef
def JO (l : Ld) (d : Dn) (vws : List Vw) (Y : World) (a0 : Act) (bs : List Bool) (a : Act) (w : World) : Prop :=
 ∃ v1 v2 v3 v4 b, a = ((((a0.put (some 8) v1).put (some 11) v2).put (some 14) v3).put (some 15) v4).put (some 3) b ∧ Ext Y w ∧
  (bs[0]? = some true → ∃ t0 t1 t2, v1 = .agg #[t0, t1, t2] ∧ OwnL 34 6 tkc Y.heap.size w t0 l.tickets ∧ OwnL 57 5 tpc Y.heap.size w t1 l.taps ∧ OwnL 3 1 inc Y.heap.size w t2 l.verdicts) ∧
  (bs[1]? = some true → ∃ t, v2 = .agg #[.int .i64 d.version, t] ∧ OwnL 3 1 inc Y.heap.size w t d.ids) ∧
  (bs[2]? = some true → OwnL 110 3 vwc Y.heap.size w v3 vws) ∧
  (bs[3]? = some true → v4 = bldSt v1 v2 v3 ∧ bs[0]? = some true ∧ bs[1]? = some true ∧ bs[2]? = some true) ∧
  (bs[4]? = some true → ∃ p, b = .pointer (some ⟨p, 0, none⟩) ∧ Y.heap.size ≤ p ∧ Bx w p 32 zSt)

theorem ckTks_len {l : Ld} (h : ckLedger l = 0) : l.tickets.length ≤ 12 ∧ l.taps.length ≤ 60 ∧ l.taps.length = l.verdicts.length := by
 unfold ckLedger at h
 by_cases hc : 12 < l.tickets.length ∨ 60 < l.taps.length ∨ l.taps.length ≠ l.verdicts.length
 ·rw [if_pos hc] at h; simp at h
 ·omega
theorem right_fits {l : Ld} (h : ckLedger l = 0) : fitsL l := by
 obtain ⟨a, b, c⟩ := ckTks_len h
 exact ⟨by omega, by omega, by omega⟩

set_option maxHeartbeats 16000000 in
theorem station_Own (s : St) (x : Sv) (w : World) (hr : RdS w x s) (rs : RightS s) :
  Calls Tryz.prog 90 #[.agg (sta s x)] w fun e w' => ∃ x', e = .returned (.agg (sta s x')) ∧ Ext w w' ∧ OwnS w.heap.size w' x' s := by
 have hv3 : s.views.length = 3 := ((rightV_iff _).1 rs.views).1
 have K1 := Lib.hid (fun (w' : World) (h : Ext w w') => ledger_Own s.ledger x.s0 x.s1 x.s2 w' (hr.tk.ext h) (hr.tp.ext h) (hr.vd.ext h) (right_fits rs.ledger))
 have K2 := Lib.hid (fun (w' : World) (h : Ext w w') => denied_Own s.denied x.si w' (hr.dn.ext h) (by have := ((ckDn_ok _).1 rs.denied).2.1; omega))
 have K3 := Lib.hid (fun (w' : World) (h : Ext w w') => Clone_vw s.views x.sv w' (hr.vw.ext h) (by omega))
 have KG := Lib.hid (fun (k : Nat) (g : Gt) (hg : s.gates[k]? = some g) => (by
  obtain ⟨hk, rfl⟩ := List.getElem?_eq_some_iff.1 hg
  have r := ckGate_ok.1 (rs.gates k hk).1
  exact ⟨by have := r.len; omega, by have := ((ckDn_ok _).1 r.denied).2.1; omega⟩ : g.alone.length ≤ 100 ∧ g.denied.ids.length ≤ 100))
 have HN := Lib.hid rs.len
 have HG := Lib.hid hr.gt
 obtain ⟨⟨tks, taps, vs⟩, ⟨ver, ids⟩, gts, vws⟩ := s
 obtain ⟨s0, s1, s2, si, sg, sv⟩ := x
 obtain ⟨h0, h1, h2, h3, h4, h5⟩ := hr
 simp only at h0 h1 h2 h3 h4 h5 K1 K2 K3 KG HN HG hv3
 obtain ⟨A0, c0, rfl, -, -⟩ := h0.form
 obtain ⟨A1, c1, rfl, -, -⟩ := h1.form
 obtain ⟨A2, c2, rfl, -, -⟩ := h2.form
 obtain ⟨A3, c3, rfl, -, -⟩ := h3.form
 obtain ⟨A4, c4, rfl, hc4, hm4⟩ := h4.form
 obtain ⟨A5, c5, rfl, -, -⟩ := h5.form
 have HV3 := Lib.hid hv3
 have HC4 := Lib.hid hc4
 clear h0 h1 h2 h3 h4 h5 rs hv3 hc4 hm4
 unfold sta
 go_enter Tryz.func90, Tryz.ntmps90
 go_upto_region 1 with fail
 (apply wp_gen2 (w0 := w) (g0 := w.heap.size) (g1 := w.heap.size + 1); (focus (exact rowA)); (focus (exact rowA)); (focus (exact extA)); intro Y HY hzY Ra_0 Ra_1; (try simp only [lSet, World.size_alloc, size_set, World.heap_drewN, size_drew] at hzY Ra_0 Ra_1); have la_0 := Ra_0.out.size; have la_1 := Ra_1.out.size)
 have hwy : Ext w Y := by exact extA
 have HWY := Lib.hid (And.intro trivial hwy)
 have HK := Lib.hid (fun (w' : World) (h : Ext Y w') => (Row.ext h Ra_0.out).2.1)
 (refine T_begin (fun w' => Ext Y w') 11 (by kernel_rfl) ((Ext.refl _).drew) (fun hS => ?_); simp only [List.length_cons, List.length_nil])
 (refine tkA 0 HK hS ?_; (try simp only [Act.put, lSet]); refine tkA 1 HK hS ?_; (try simp only [Act.put, lSet]); refine tkA 3 HK hS ?_; (try simp only [Act.put, lSet]); refine tkA 4 HK hS ?_; (try simp only [Act.put, lSet]); refine tkA 6 HK hS ?_; (try simp only [Act.put, lSet]); refine tkA 7 HK hS ?_; (try simp only [Act.put, lSet]))
 refine T_phaseA 5 [2, 5, 8, 9, 10] (fun p bs => p != 3 || (bs[0]? == some true && bs[1]? == some true && bs[2]? == some true)) rfl (by kernel_rfl) (by kernel_rfl) (JO ⟨tks, taps, vs⟩ ⟨ver, ids⟩ vws Y) ?hq0 ?hS ?hj ?hf
 case hq0 => exact ⟨undef, undef, undef, undef, undef, rfl, hS, fun h => by simp at h, fun h => by simp at h, fun h => by simp at h, fun h => by simp at h, fun h => by simp at h⟩
 case hS => rintro bs a w' - ⟨_, _, _, _, _, -, h, -⟩; exact h
 case hj =>
  intro p i bs a W o hnum hbl hbp hdep hJ ho K hK
  obtain ⟨v1, v2, v3, v4, b, rfl, hE, h1, h2, h3, h4, h5⟩ := hJ
  have hEs := hE.size
  rcases p with _ | _ | _ | _ | _ | p
  ·have e1 := Option.some.inj hnum
   subst e1
   have e2 := Option.some.inj ho
   subst e2
   simp only [Act.put, lSet]
   go_simp
   refine (K1.out _ (hwy.trans hE)).mono ?_
   rintro e w5 ⟨t0, t1, t2, rfl, hx, o⟩
   have HX := Lib.hid (hK.out _ _ ⟨.agg #[t0, t1, t2], v2, v3, v4, b, rfl, hE.trans hx, fun _ => ⟨t0, t1, t2, rfl, o.tk.lower hEs, o.tp.lower hEs, o.vd.lower hEs⟩, fun h => (by obtain ⟨t, e, ot⟩ := h2 (by rwa [List.getElem?_set_ne (by decide)] at h); exact ⟨t, e, ot.ext hx⟩), fun h => (h3 (by rwa [List.getElem?_set_ne (by decide)] at h)).ext hx, fun h => absurd ((h4 (by rwa [List.getElem?_set_ne (by decide)] at h)).2.1) (by rw [hbp]; simp), fun h => (by obtain ⟨p, e, hp, ob⟩ := h5 (by rwa [List.getElem?_set_ne (by decide)] at h); exact ⟨p, e, hp, ob.ext hx⟩)⟩)
   clear hx o h1 h2 h3 h4 h5 hK
   go_wp2_with fail
   exact HX.out
  ·have e1 := Option.some.inj hnum
   subst e1
   have e2 := Option.some.inj ho
   subst e2
   simp only [Act.put, lSet]
   go_simp
   refine (K2.out _ (hwy.trans hE)).mono ?_
   rintro e w5 ⟨t, rfl, hx, o⟩
   have HX := Lib.hid (hK.out _ _ ⟨v1, .agg #[.int .i64 ver, t], v3, v4, b, rfl, hE.trans hx, fun h => (by obtain ⟨t0, t1, t2, e, p0, p1, p2⟩ := h1 (by rwa [List.getElem?_set_ne (by decide)] at h); exact ⟨t0, t1, t2, e, p0.ext hx, p1.ext hx, p2.ext hx⟩), fun _ => ⟨t, rfl, o.lower hEs⟩, fun h => (h3 (by rwa [List.getElem?_set_ne (by decide)] at h)).ext hx, fun h => absurd ((h4 (by rwa [List.getElem?_set_ne (by decide)] at h)).2.2.1) (by rw [hbp]; simp), fun h => (by obtain ⟨p, e, hp, ob⟩ := h5 (by rwa [List.getElem?_set_ne (by decide)] at h); exact ⟨p, e, hp, ob.ext hx⟩)⟩)
   clear hx o h1 h2 h3 h4 h5 hK
   go_wp2_with fail
   exact HX.out
  ·have e1 := Option.some.inj hnum
   subst e1
   have e2 := Option.some.inj ho
   subst e2
   simp only [Act.put, lSet]
   go_simp
   refine (K3.out _ (hwy.trans hE)).mono ?_
   rintro e w5 ⟨t, rfl, hx, o⟩
   have HX := Lib.hid (hK.out _ _ ⟨v1, v2, t, v4, b, rfl, hE.trans hx, fun h => (by obtain ⟨t0, t1, t2, e, p0, p1, p2⟩ := h1 (by rwa [List.getElem?_set_ne (by decide)] at h); exact ⟨t0, t1, t2, e, p0.ext hx, p1.ext hx, p2.ext hx⟩), fun h => (by obtain ⟨t, e, ot⟩ := h2 (by rwa [List.getElem?_set_ne (by decide)] at h); exact ⟨t, e, ot.ext hx⟩), fun _ => o.lower hEs, fun h => absurd ((h4 (by rwa [List.getElem?_set_ne (by decide)] at h)).2.2.2) (by rw [hbp]; simp), fun h => (by obtain ⟨p, e, hp, ob⟩ := h5 (by rwa [List.getElem?_set_ne (by decide)] at h); exact ⟨p, e, hp, ob.ext hx⟩)⟩)
   clear hx o h1 h2 h3 h4 h5 hK
   go_wp2_with fail
   exact HX.out
  ·have e1 := Option.some.inj hnum
   subst e1
   have e2 := Option.some.inj ho
   subst e2
   have hd : bs[0]? = some true ∧ bs[1]? = some true ∧ bs[2]? = some true := by simpa [and_assoc] using hdep
   obtain ⟨t0, t1, t2, rfl, o0, o1, o2⟩ := h1 hd.1
   obtain ⟨t, rfl, o3⟩ := h2 hd.2.1
   have o5 := h3 hd.2.2
   obtain ⟨B5, d5, rfl⟩ := o5.form
   simp only [Act.put, lSet]
   go_simp
   exact hK.out _ _ ⟨.agg #[t0, t1, t2], .agg #[.int .i64 ver, t], .slice B5 vws.length d5, .agg #[t0, t1, t2, .int .i64 ver, t, .slice none 0 0, .slice B5 vws.length d5], b, rfl, hE, fun _ => ⟨t0, t1, t2, rfl, o0, o1, o2⟩, fun _ => ⟨t, rfl, o3⟩, fun _ => o5, fun _ => ⟨rfl, by rw [List.getElem?_set_ne (by decide)]; exact hd.1, by rw [List.getElem?_set_ne (by decide)]; exact hd.2.1, by rw [List.getElem?_set_ne (by decide)]; exact hd.2.2⟩, fun h => h5 (by rwa [List.getElem?_set_ne (by decide)] at h)⟩
  ·have e1 := Option.some.inj hnum
   subst e1
   have e2 := Option.some.inj ho
   subst e2
   simp only [Act.put, lSet]
   go_simp
   have hx := (Ext.refl W).alloc (.cells zSt 32)
   exact hK.out _ _ ⟨v1, v2, v3, v4, .pointer (some ⟨W.heap.size, 0, none⟩), rfl, hE.alloc _, fun h => (by obtain ⟨t0, t1, t2, e, p0, p1, p2⟩ := h1 (by rwa [List.getElem?_set_ne (by decide)] at h); exact ⟨t0, t1, t2, e, p0.ext hx, p1.ext hx, p2.ext hx⟩), fun h => (by obtain ⟨t, e, ot⟩ := h2 (by rwa [List.getElem?_set_ne (by decide)] at h); exact ⟨t, e, ot.ext hx⟩), fun h => (h3 (by rwa [List.getElem?_set_ne (by decide)] at h)).ext hx, fun h => (by obtain ⟨e, k0, k1, k2⟩ := h4 (by rwa [List.getElem?_set_ne (by decide)] at h); exact ⟨e, by rwa [List.getElem?_set_ne (by decide)], by rwa [List.getElem?_set_ne (by decide)], by rwa [List.getElem?_set_ne (by decide)]⟩), fun _ => ⟨W.heap.size, rfl, hEs, Bx.new⟩⟩
  ·cases hnum
 case hf =>
  rintro a Z ⟨v1, v2, v3, v4, b, rfl, hE, h1, h2, h3, h4, h5⟩
  obtain ⟨t0, t1, t2, rfl, o0, o1, o2⟩ := h1 rfl
  obtain ⟨ti, rfl, o3⟩ := h2 rfl
  have o5 := h3 rfl
  obtain ⟨p, rfl, hp, xp⟩ := h5 rfl
  obtain ⟨rfl, -⟩ := h4 rfl
  clear h1 h2 h3 h4 h5
  simp only [bldSt]
  simp only [Act.put, lSet]
  obtain ⟨B0, d0, rfl⟩ := o0.form
  obtain ⟨B1, d1, rfl⟩ := o1.form
  obtain ⟨B2, d2, rfl⟩ := o2.form
  obtain ⟨B3, d3, rfl⟩ := o3.form
  obtain ⟨B5, d5, rfl⟩ := o5.form
  have HXP := Lib.hid xp
  have r1 := Lib.hid xp.row
  have HE := Lib.hid hE
  have hEs := hE.size
  have hS := hE
  unfold zSt at r1
  have q1 := r1.out.2.1
  have f1 := r1.out.2.2
  have l1 := r1.out.1
  clear xp hE
  ((refine T_only (i := 11) rfl (by kernel_rfl) rfl (fun K hK => ?_); go_simp; refine hK.out _ _ (.inl (by kernel_rfl)) ?_; clear hK; (try simp only [Act.put, lSet])))
  refine T_done (by kernel_rfl) ?_ _
  obtain ⟨V, hV⟩ : ∃ V : World, V = (((((((Z.setCell ⟨p, 0, none⟩ (.slice B0 tks.length d0)).setCell ⟨p, 1, none⟩ (.slice B1 taps.length d1)).setCell ⟨p, 2, none⟩ (.slice B2 vs.length d2)).setCell ⟨p, 3, none⟩ (.int .i64 ver)).setCell ⟨p, 4, none⟩ (.slice B3 ids.length d3)).setCell ⟨p, 5, none⟩ (.slice none 0 0)).setCell ⟨p, 6, none⟩ (.slice B5 vws.length d5)) := ⟨_, rfl⟩
  rw [← hV]
  have hfr : Fr (fun q => q = p) Z V := by
   rw [hV]
   exact Fr.setC rfl (Fr.setC rfl (Fr.setC rfl (Fr.setC rfl (Fr.setC rfl (Fr.setC rfl (Fr.setC rfl (Fr.refl _ _)))))))
  have y1 : Bx V p 32 #[.slice B0 tks.length d0, .slice B1 taps.length d1, .slice B2 vs.length d2, .int .i64 ver, .slice B3 ids.length d3, .slice none 0 0, .slice B5 vws.length d5] := by
   rw [hV]
   exact ((((((HXP.out.set (i := 0)).set (i := 1)).set (i := 2)).set (i := 3)).set (i := 4)).set (i := 5)).set (i := 6)
  have hap : ∀ {α : Type} {e : TypeId} {k : Nat} {enc : α → Array Value} {v : Value} {m : List α}, OwnL e k enc Y.heap.size Z v m → e ≠ 32 → OwnL e k enc Y.heap.size V v m := by
   intro α e k enc v m h a
   refine hfr.own h ?_
   rintro q hq rfl
   exact h.rowS.box HXP.out a hq
  have hYV : Ext Y V := HE.out.fr hfr (by rintro q rfl; exact hp)
  have hb2 : w.heap.size + 1 + 1 ≤ Y.heap.size := by have := hzY; omega
  have HS := Lib.hid (show OwnS (w.heap.size + 1 + 1) V ⟨.slice B0 tks.length d0, .slice B1 taps.length d1, .slice B2 vs.length d2, .slice B3 ids.length d3, .slice none 0 0, .slice B5 vws.length d5⟩ ⟨⟨tks, taps, vs⟩, ⟨ver, ids⟩, gts.take 0, vws⟩ from
   ⟨(hap o0 (by decide)).lower hb2, (hap o1 (by decide)).lower hb2, (hap o2 (by decide)).lower hb2, (hap o3 (by decide)).lower hb2, OwnG.nil, (hap o5 (by decide)).lower hb2⟩)
  have HP := Lib.hid y1
  have HYV := Lib.hid hYV
  have lp := y1.lt
  have Ry := Lib.hid y1.row
  clear hap y1 hfr o0 o1 o2 o3 o5 hV hYV HXP r1 q1 f1 l1 HE hS hEs HK
  (apply Row.use (w := V) (g := w.heap.size); (focus (exact rowA)); intro qv_0 fv_0 lv_0 Rv_0; (try simp only [lSet] at qv_0 Rv_0); apply Row.use (w := V) (g := w.heap.size + 1); (focus (exact rowA)); intro qv_1 fv_1 lv_1 Rv_1; (try simp only [lSet] at qv_1 Rv_1); apply Row.use (w := V) (g := p); (focus (exact rowA)); intro qv_2 fv_2 lv_2 Rv_2; (try simp only [lSet] at qv_2 Rv_2))
  clear Ry
  have HWV := Lib.hid (HWY.out.2.trans HYV.out)
  have R1V := Lib.hid (Row.ext HYV.out Ra_1.out)
  have hne1 : w.heap.size + 1 < p := by have := hzY; omega
  clear HYV HWY hwy hzY hb2
  obtain ⟨i0, ji, ji0, ji1, ji2⟩ := info_parts info_gt
  obtain ⟨sz, hsz⟩ : ∃ z : Array Value, z = zSt := ⟨_, rfl⟩
  go_wp2_with fail
  go_loopg [5, 19] gts.length (fun gg _ s19 wr => ∃ (k : Nat) (A : Option Addr) (c : Nat), k ≤ gts.length ∧ gts.length - k ≤ gg ∧ s19 = .int .i64 k ∧ Aside (Ext w wr ∧ Row wr (w.heap.size + 1) zSt ∧ Bx wr p 32 #[.slice B0 tks.length d0, .slice B1 taps.length d1, .slice B2 vs.length d2, .int .i64 ver, .slice B3 ids.length d3, .slice A k c, .slice B5 vws.length d5] ∧
   OwnS (w.heap.size + 1 + 1) wr ⟨.slice B0 tks.length d0, .slice B1 taps.length d1, .slice B2 vs.length d2, .slice B3 ids.length d3, .slice A k c, .slice B5 vws.length d5⟩ ⟨⟨tks, taps, vs⟩, ⟨ver, ids⟩, gts.take k, vws⟩))
  case atStart => exact ⟨0, none, 0, Nat.zero_le _, by omega, rfl, HWV.out, R1V.out, HP.out, HS.out⟩
  case round =>
   obtain ⟨k, A, c, hk, hg, rfl, HA⟩ := hrel
   obtain ⟨he, h1, h2, h3⟩ := HA.out
   have HE := Lib.hid he
   have R1 := Lib.hid h1
   have HB := Lib.hid h2
   have R2 := Lib.hid h2.row
   have HS := Lib.hid h3
   have hsr := he.size
   clear HA he h1 h2 h3
   unfold zSt at R1
   (apply Row.use (w := wr) (g := w.heap.size + 1); (focus (exact rowA)); intro qr_0 fr_0 lr_0 Rr_0; (try simp only [lSet] at qr_0 Rr_0); apply Row.use (w := wr) (g := p); (focus (exact rowA)); intro qr_1 fr_1 lr_1 Rr_1; (try simp only [lSet] at qr_1 Rr_1))
   by_cases hlt : k < gts.length
   ·have hlt' : (k : Int) < (gts.length : Int) := by omega
    have hk3 : k ≤ 2 := by have := HN.out; omega
    have hcc := HC4.out
    have hkc : (k : Int) < (c4 : Int) := by omega
    obtain ⟨b, o, sa, sd, rfl, hb, ra, rd, g0, g1, g2, g3, g4, g5, g6, g7⟩ := (HG.out.ext HE.out).at_ rfl hlt
    have HL := Lib.hid (KG.out k _ (List.getElem?_eq_getElem hlt))
    have HT := Lib.hid (show gts.take (k + 1) = gts.take k ++ [gts[k]] by rw [List.take_add_one, List.getElem?_eq_getElem hlt]; rfl)
    generalize gts[k] = g at *
    have HO := Lib.hid (fun (w' : World) (h : Ext wr w') => gate_Own g sa sd w' (ra.ext h) (rd.ext h) HL.out.1 HL.out.2)
    obtain ⟨A8, c8, rfl, -, -⟩ := ra.form
    obtain ⟨A9, c9, rfl, -, -⟩ := rd.form
    obtain ⟨x0, x1, x2, al, ⟨gv, gi⟩, x6, x7⟩ := g
    simp only at g0 g1 g2 g3 g4 g5 g6 g7
    unfold gta at HO
    simp only at HO
    clear ra rd HL hcc
    go_upto_region 5 with fail
    (apply wp_gen2 (w0 := wr) (g0 := wr.heap.size) (g1 := p); (focus (exact rowA)); (focus (exact rowA)); (focus (exact extA)); intro X HX hzX Rx_0 Rx_1; (try simp only [lSet, World.size_alloc, size_set, World.heap_drewN, size_drew] at hzX Rx_0 Rx_1); have lx_0 := Rx_0.out.size; have lx_1 := Rx_1.out.size)
    have HK := Lib.hid (fun (w' : World) (h : Ext X w') => And.intro (Row.ext h Rx_0.out).2.1 ((Row.ext h Rx_1.out).2.1))
    (refine T_begin (fun w' => Ext X w') 5 (by kernel_rfl) ((Ext.refl _).drew) (fun hS => ?_); simp only [List.length_cons, List.length_nil])
    (refine tkA 0 HK hS ?_; (try simp only [Act.put, lSet]); refine tkA 1 HK hS ?_; (try simp only [Act.put, lSet]); refine tkA 2 HK hS ?_; (try simp only [Act.put, lSet]))
    (refine T_only (i := 3) rfl (by kernel_rfl) rfl (fun K hK => ?_); go_simp)
    refine (HO.out _ (by exact extA)).mono ?_
    rintro e w6 ⟨sa', si', rfl, hx, o1, o2, -⟩
    obtain ⟨B8, e8, rfl⟩ := o1.form
    obtain ⟨B9, e9, rfl⟩ := o2.form
    have H6 := Lib.hid hx
    have hz6 := hx.size
    have O1 := Lib.hid o1
    have O2 := Lib.hid o2
    clear hx o1 o2 hS
    (try simp only [size_drew] at hz6)
    go_wp2_with fail
    have hS : Ext X w6 := by exact extA
    refine hK.out _ _ (.inr hS) ?_
    clear hK
    (try simp only [Act.put, lSet])
    refine T_only (i := 4) rfl (by kernel_rfl) rfl (fun K hK => ?_)
    go_simp
    refine hK.out _ _ (.inr (hS.alloc _)) ?_
    clear hK
    (try simp only [Act.put, lSet])
    refine T_only (i := 5) rfl (by kernel_rfl) rfl (fun K hK => ?_)
    obtain ⟨ys, hys, hrow, hin⟩ := HS.out.gt
    obtain ⟨A', c', hkl⟩ := hrow.form
    injection hkl with _ hkl _
    have h6 : Ext wr (w6.alloc (.cells #[.int .i64 x0, .int .i64 x1, .int .i64 x2, .slice B8 al.length e8, .int .i64 gv, .slice B9 gi.length e9, .int .i64 x6, .int .i64 x7] 52)) := by exact extA
    have hrow6 := hrow.ext h6
    have hlen : k < gts.length := hlt
    have hgl := HN.out
    refine wp_append_rd (enc := gyc) (k := 8) _ (.tmp 24) (.tmp 27) 29 rfl (w.heap.size + 1 + 1) 52 i0 (.agg #[.int .i64 0, .int .i64 0, .int .i64 0, .slice none 0 0, .int .i64 0, .slice none 0 0, .int .i64 0, .int .i64 0]) 96 Tryz.underlying29 ji ji0 ji1 ji2 rfl (by decide) gyc_size (.slice A k c) ys rfl hrow6 (.slice (some ⟨w6.heap.size, 0, none⟩) 1 1) [⟨⟨x0, x1, x2, al, ⟨gv, gi⟩, x6, x7⟩, .slice B8 al.length e8, .slice B9 gi.length e9⟩] rfl (RdL.lit (enc := gyc) ⟨⟨x0, x1, x2, al, ⟨gv, gi⟩, x6, x7⟩, .slice B8 al.length e8, .slice B9 gi.length e9⟩ rfl rfl) (gate_oneC _ _ _ _ _ _ _) (by unfold maxLen; simp only [List.length_singleton]; omega) (by simp only [List.length_singleton]; omega) (by have := h6.size; have := HE.out.size; have := R1.out.1; omega) ?_
    intro v' w7 ho hg7 hn7
    have hfr := row_fr hg7
    have hoff : ∀ q, (Value.slice A k c).ownBlock = some q → ∃ e2 cs, Bx (w6.alloc (.cells #[.int .i64 x0, .int .i64 x1, .int .i64 x2, .slice B8 al.length e8, .int .i64 gv, .slice B9 gi.length e9, .int .i64 x6, .int .i64 x7] 52)) q e2 cs ∧ e2 ∉ spK := fun q hq => by
     obtain ⟨cs, hb⟩ := hrow6.bx q hq
     exact ⟨_, cs, hb, by decide⟩
    have hlow := fun q hq => (hrow6.lt q hq).1
    obtain ⟨A7, c7, rfl⟩ := ho.form
    have hl7 : (ys ++ [(⟨⟨x0, x1, x2, al, ⟨gv, gi⟩, x6, x7⟩, .slice B8 al.length e8, .slice B9 gi.length e9⟩ : Gy)]).length = k + 1 := by rw [List.length_append, ← hkl]; rfl
    rw [hl7] at ho ⊢
    have hin7 : ∀ y ∈ ys ++ [(⟨⟨x0, x1, x2, al, ⟨gv, gi⟩, x6, x7⟩, .slice B8 al.length e8, .slice B9 gi.length e9⟩ : Gy)], GyO (w.heap.size + 1 + 1) w7 y := by
     intro y hy
     rcases List.mem_append.1 hy with hy | hy
     ·exact ((hin y hy).ext h6).keep hfr hoff
     ·obtain rfl := List.mem_singleton.1 hy
      refine GyO.keep (w := w6.alloc _) ⟨(O1.out.alloc _).lower ?_, (O2.out.alloc _).lower ?_⟩ hfr hoff
      all_goals (have h1 := hsr; have h2 := R1.out.1; (try simp only [size_drew]); have h3 := lx_0; omega)
    have hS7 := (HS.out.ext h6).keepG hfr hoff (OwnG.of ho hin7)
    have hgs : (ys ++ [(⟨⟨x0, x1, x2, al, ⟨gv, gi⟩, x6, x7⟩, .slice B8 al.length e8, .slice B9 gi.length e9⟩ : Gy)]).map (·.g) = gts.take (k + 1) := by
     rw [HT.out, List.map_append, ← hys]; rfl
    rw [hgs] at hS7
    have hE7 : Ext wr w7 ∨ True := .inr trivial
    have hW7 : Ext w w7 := Ext.grown (HE.out.trans h6) hg7 (fun q hq => by have := hlow q hq; omega)
    have hB7 := (HB.out.ext h6).fr hfr (fun hq => by obtain ⟨e2, cs, hb, hn⟩ := hoff p hq; have h := HB.out.ext h6; unfold Bx at h hb; rw [h] at hb; obtain ⟨h1, h2⟩ := hrow6.bx p hq; unfold Bx at h2; rw [h] at h2; simp at h2)
    have hR7 := hfr.row (fun hq => by have := hlow _ hq; omega) (Row.ext h6 R1.out)
    have HS7 := Lib.hid hS7
    have HW7 := Lib.hid hW7
    have HB7 := Lib.hid hB7
    have HR7 := Lib.hid hR7
    have Rp7 := Lib.hid hB7.row
    have qp := hB7.row.2.1
    have fp := hB7.row.2.2
    have lp7 := hB7.lt
    clear hS7 hW7 hB7 hR7 hgs hin7 hl7 hlow hoff hfr hE7 ho hg7 hn7 h6 hrow6 hrow hin hys hkl hS hgl hlen
    refine hK.out _ _ (.inl (by kernel_rfl)) ?_
    clear hK
    (try simp only [Act.put, lSet])
    ((refine T_only (i := 6) rfl (by kernel_rfl) rfl (fun K hK => ?_); go_simp; refine hK.out _ _ (.inl (by kernel_rfl)) ?_; clear hK; (try simp only [Act.put, lSet])))
    (refine T_only (i := 7) rfl (by kernel_rfl) rfl (fun K hK => ?_); go_simp; refine hK.out _ _ (.inl (by kernel_rfl)) ?_; clear hK; (try simp only [Act.put, lSet]); refine T_done (by kernel_rfl) ?_ _)
    go_wp2_with fail
    go_roundg (gts.length - (k + 1))
    case measure => omega
    case rel =>
     refine ⟨k + 1, A7, c7, by omega, by omega, by go_num, HW7.out.setCell (show w.heap.size ≤ p by omega) _, Row.far (p := ⟨p, 5, none⟩) (show w.heap.size + 1 ≠ p by omega) HR7.out, HB7.out.set (i := 5), ?_⟩
     exact HS7.out.keep (Fr.setC (a := ⟨p, 5, none⟩) (own := fun q => q = p) rfl (Fr.refl _ _)) (by rintro q rfl; exact ⟨_, _, HB7.out, by decide⟩)
   ·have hge : ¬ (k : Int) < (gts.length : Int) := by omega
    obtain rfl : k = gts.length := by omega
    have HQ := Lib.hid (show OwnS (w.heap.size + 1 + 1) wr ⟨.slice B0 tks.length d0, .slice B1 taps.length d1, .slice B2 vs.length d2, .slice B3 ids.length d3, .slice A gts.length c, .slice B5 vws.length d5⟩ ⟨⟨tks, taps, vs⟩, ⟨ver, ids⟩, gts, vws⟩ from by have := HS.out; rwa [List.take_length] at this)
    go_wp2_with fail
    refine bodyPost_ret (v := .agg #[.slice B0 tks.length d0, .slice B1 taps.length d1, .slice B2 vs.length d2, .int .i64 ver, .slice B3 ids.length d3, .slice A gts.length c, .slice B5 vws.length d5]) (by simp [results, Tryz.results90, go_sem, *]) rfl ⟨⟨.slice B0 tks.length d0, .slice B1 taps.length d1, .slice B2 vs.length d2, .slice B3 ids.length d3, .slice A gts.length c, .slice B5 vws.length d5⟩, rfl, ?_, ?_⟩
    ·repeat (refine Ext.setCell ?_ (by simp) _)
     exact HE.out
    ·refine OwnS.lower (base := w.heap.size + 1 + 1) ?_ (by omega)
     repeat (refine OwnS.setC (by simp) ?_)
     exact HQ.out
end Go.Proofs.YteojjbhadgkfgaaGreat

/- A station's keeper: does somebody lead? -/
namespace Go.Proofs.YteojjbhadgkfgaaGreat
set_option linter.unusedSimpArgs false
set_option linter.unusedVariables false
set_option maxRecDepth 100000
open Go Go.RowKit Lb

/-- a keeper: its box, its station -/
structure Kp (base : Nat) (w : World) (p : Nat) (y : Sv) (s : St) : Prop where
 box : Bx w p 133 (sta s y)
 ge : base ≤ p
 own : OwnS base w y s
theorem Kp.ext {base p : Nat} {w w' : World} {y : Sv} {s : St} (h : Kp base w p y s) (he : Ext w w') : Kp base w' p y s := ⟨h.box.ext he, h.ge, h.own.ext he⟩
theorem any_has (l : List Int) (n : Int) : l.any (fun x => n == x) = l.contains n := by rw [List.contains_eq_any_beq]

set_option maxHeartbeats 4000000 in
theorem keeper_led (s : St) (y : Sv) (p : Nat) (w : World) (hp : Row w p (sta s y)) (hr : RdL 3 vwc w y.sv s.views) (hv : ckViews s.views = 0) :
  Calls Tryz.prog 100 #[.pointer (some ⟨p, 0, none⟩)] w fun e w' => e = .returned (.bool (led s)) ∧ Ext w w' := by
 have K1 := Lib.hid (fun (w' : World) (h : Ext w w') => lead_Who s.views y.sv w' (hr.ext h) hv)
 obtain ⟨A, c, hA, -, -⟩ := hr.form
 unfold led
 generalize whoV s.views = r at *
 obtain ⟨r1, r2⟩ := r
 unfold sta at hp
 apply Row.use hp; intro q f l R
 rw [hA] at K1 q R
 clear hp hr hv hA
 go_enter Tryz.func100, Tryz.ntmps100
 go_wp2_with fail
 (refine (K1.out _ (by exact extA)).mono ?_; rintro e w1 ⟨rfl, h1⟩; have H1 := Lib.hid h1; have hz1 := h1.size; clear h1; (try simp only [World.size_alloc, size_set, World.heap_drewN, size_drew] at hz1))
 go_wp2_with fail
 go_ret
 exact ⟨rfl, (show Ext w _ by exact extA)⟩
theorem Kp.ledger {base p b2 : Nat} {w : World} {y : Sv} {s : St} {D0 D1 D2 : Value} {L : Ld} (hk : Kp base w p y s) (ho : OwnLd b2 w D0 D1 D2 L) (hb : base ≤ b2) :
  Kp base (((w.setCell ⟨p, 0, none⟩ D0).setCell ⟨p, 1, none⟩ D1).setCell ⟨p, 2, none⟩ D2) p ⟨D0, D1, D2, y.si, y.sg, y.sv⟩ ⟨L, s.denied, s.gates, s.views⟩ := by
 have hf : Fr (fun q => q = p) w (((w.setCell ⟨p, 0, none⟩ D0).setCell ⟨p, 1, none⟩ D1).setCell ⟨p, 2, none⟩ D2) := Fr.setC rfl (Fr.setC rfl (Fr.setC rfl (Fr.refl _ _)))
 have hp : ∀ q, (fun q => q = p) q → ∃ e2 cs, Bx w q e2 cs ∧ e2 ∉ spT := by rintro q rfl; exact ⟨_, _, hk.box, by decide⟩
 have hk2 : ∀ q, (fun q => q = p) q → ∃ e2 cs, Bx w q e2 cs ∧ e2 ∉ spK := by rintro q rfl; exact ⟨_, _, hk.box, by decide⟩
 have h := hk.own.keep hf hp
 exact ⟨((hk.box.set (i := 0)).set (i := 1)).set (i := 2), hk.ge, ⟨(ho.tk.keepT hf (offK hk2 (by decide))).lower hb, (ho.tp.keepT hf (offK hk2 (by decide))).lower hb, (ho.vd.keepT hf (offK hk2 (by decide))).lower hb, h.dn, h.gt, h.vw⟩⟩
theorem Kp.denied {base p b2 : Nat} {w : World} {y : Sv} {s : St} {D : Value} {d : Dn} (hk : Kp base w p y s) (ho : OwnL 3 1 inc b2 w D d.ids) (hb : base ≤ b2) :
  Kp base ((w.setCell ⟨p, 3, none⟩ (.int .i64 d.version)).setCell ⟨p, 4, none⟩ D) p ⟨y.s0, y.s1, y.s2, D, y.sg, y.sv⟩ ⟨s.ledger, d, s.gates, s.views⟩ := by
 have hf : Fr (fun q => q = p) w ((w.setCell ⟨p, 3, none⟩ (.int .i64 d.version)).setCell ⟨p, 4, none⟩ D) := Fr.setC rfl (Fr.setC rfl (Fr.refl _ _))
 have hp : ∀ q, (fun q => q = p) q → ∃ e2 cs, Bx w q e2 cs ∧ e2 ∉ spT := by rintro q rfl; exact ⟨_, _, hk.box, by decide⟩
 have hk2 : ∀ q, (fun q => q = p) q → ∃ e2 cs, Bx w q e2 cs ∧ e2 ∉ spK := by rintro q rfl; exact ⟨_, _, hk.box, by decide⟩
 have h := hk.own.keep hf hp
 exact ⟨(hk.box.set (i := 3)).set (i := 4), hk.ge, ⟨h.tk, h.tp, h.vd, (ho.keepT hf (offK hk2 (by decide))).lower hb, h.gt, h.vw⟩⟩
/-- the gates' row is written, one gate -/
theorem Kp.gates {base p gb m c n : Nat} {w w' : World} {y : Sv} {s : St} (f : Gy → Gy) (hk : Kp base w p y s) (hsg : y.sg = .slice (some ⟨gb, 0, none⟩) m c) (hn : n < s.gates.length) (hf : Fr (fun q => q = gb) w w')
  (hput : ∀ ys : List Gy, OwnL 52 8 gyc base w (.slice (some ⟨gb, 0, none⟩) m c) ys → ∀ h : n < ys.length, OwnL 52 8 gyc base w' (.slice (some ⟨gb, 0, none⟩) m c) (ys.set n (f ys[n])))
  (hgy : ∀ x, x.g = s.gates[n] → GyO base w x → GyO base w' (f x)) (g : Gt) (hg : ∀ x, x.g = s.gates[n] → (f x).g = g) : Kp base w' p y ⟨s.ledger, s.denied, s.gates.set n g, s.views⟩ := by
 obtain ⟨ys, hys, hrow, hin⟩ := hk.own.gt
 rw [hsg] at hrow
 have hn' : n < ys.length := by rw [hys] at hn; simpa using hn
 have hgg : ys[n].g = s.gates[n] := by simp [hys]
 obtain ⟨cs, hbx⟩ := hrow.bx gb rfl
 have hk2 : ∀ q, (fun q => q = gb) q → ∃ e2 cs, Bx w q e2 cs ∧ e2 ∉ spK := by rintro q rfl; exact ⟨_, _, hbx, by decide⟩
 have hne : ¬ (fun q => q = gb) p := by
  intro h
  have h2 := hk.box
  have h3 : p = gb := h
  rw [h3] at h2
  unfold Bx at h2 hbx
  rw [h2] at hbx
  simp at hbx
 have hset : (ys.set n (f ys[n])).map (·.g) = s.gates.set n g := by rw [List.map_set, hg _ hgg, ← hys]
 have hG : OwnG base w' y.sg (s.gates.set n g) := by
  rw [hsg, ← hset]
  refine OwnG.of (hput ys hrow hn') (fun x hx => ?_)
  rcases List.mem_or_eq_of_mem_set hx with hx | rfl
  ·exact (hin x hx).keep hf hk2
  ·exact hgy _ hgg (hin _ (List.getElem_mem hn'))
 exact ⟨hk.box.fr hf hne, hk.ge, hk.own.keepG hf hk2 hG⟩
theorem Kp.seq {base p gb m c n : Nat} {w : World} {y : Sv} {s : St} (hk : Kp base w p y s) (hsg : y.sg = .slice (some ⟨gb, 0, none⟩) m c) (hn : n < s.gates.length) (z : Int) :
  Kp base (w.setCell ⟨gb, n * 8 + 2, none⟩ (.int .i64 z)) p y ⟨s.ledger, s.denied, s.gates.set n ⟨s.gates[n].id, s.gates[n].zone, z, s.gates[n].alone, s.gates[n].denied, s.gates[n].left, s.gates[n].untl⟩, s.views⟩ := by
 have hrb := hk.own.gt
 refine hk.gates (fun x => ⟨⟨x.g.id, x.g.zone, z, x.g.alone, x.g.denied, x.g.left, x.g.untl⟩, x.sa, x.si⟩) hsg hn (Fr.setC (a := ⟨gb, n * 8 + 2, none⟩) rfl (Fr.refl _ _)) (fun ys h hl => OwnL.put_field gyc_size h n 2 hl (by decide) _ _ rfl) (fun x hx h => ?_) _ (fun x hx => by rw [hx])
 obtain ⟨ys, -, hrow, -⟩ := hk.own.gt
 rw [hsg] at hrow
 obtain ⟨cs, hbx⟩ := hrow.bx gb rfl
 exact h.keep (y := x) (Fr.setC (a := ⟨gb, n * 8 + 2, none⟩) (own := fun q => q = gb) rfl (Fr.refl _ _)) (by rintro q rfl; exact ⟨_, _, hbx, by decide⟩)
end Go.Proofs.YteojjbhadgkfgaaGreat

/- station.with: a keeper of the station's own, handed to a function value. -/
namespace Go.Proofs.YteojjbhadgkfgaaGreat
set_option linter.unusedSimpArgs false
set_option linter.unusedVariables false
set_option maxRecDepth 100000
open Go Go.RowKit Lb

theorem Bx.newAt {w : World} {p : Nat} {e : TypeId} {cs : Array Value} (hg : p = w.heap.size) : Bx (w.alloc (.cells cs e)) p e cs := by subst hg; exact Bx.new
set_option maxHeartbeats 16000000 in
theorem station_with (fg : Nat) (lb : Array Value) (eg : ∀ args w, (callFunc fg args).run Tryz.prog w = .ok (.enter fg args) w) (s : St) (x : Sv) (w : World) (hr : RdS w x s) (rs : RightS s) (s' : St) (ec : Int) (vb : Nat → Prop) (hvb : ∀ q, vb q → q < w.heap.size) (P : World → Prop)
  (hP : ∀ W W' q cs, Bx W q 32 cs → w.heap.size ≤ q → Fr (fun z => z = q) W W' → P W → P W')
  (hdo : ∀ (b : Nat) (W : World) (p : Nat) (y : Sv), Ext w W → w.heap.size + 1 < b → Kp b W p y s → Calls Tryz.prog fg (#[.pointer (some ⟨p, 0, none⟩)] ++ lb) W fun e W' => e = .returned (.int .i64 ec) ∧ Fr (fun q => b ≤ q ∨ vb q) W W' ∧ P W' ∧ ∃ y', Kp b W' p y' s') :
  Calls Tryz.prog 98 #[.agg (sta s x), .func (.func fg) #[] lb] w fun e w' => ∃ x', e = .returned (.tuple #[.agg (sta (if ec ≠ 0 then st0 else s') x'), .int .i64 ec]) ∧ Fr (fun q => w.heap.size ≤ q ∨ vb q) w w' ∧ P w' ∧ OwnS w.heap.size w' x' (if ec ≠ 0 then st0 else s') := by
 have KO := Lib.hid (fun (w' : World) (h : Ext w w') => station_Own s x w' (hr.ext h) rs)
 have HD := Lib.hid hdo
 have HPP := Lib.hid hP
 have HVB := Lib.hid hvb
 obtain ⟨A0, c0, e0, -, -⟩ := hr.tk.form
 obtain ⟨A1, c1, e1, -, -⟩ := hr.tp.form
 obtain ⟨A2, c2, e2, -, -⟩ := hr.vd.form
 obtain ⟨A3, c3, e3, -, -⟩ := hr.dn.form
 obtain ⟨A4, c4, e4, -, -⟩ := hr.gt.form
 obtain ⟨A5, c5, e5, -, -⟩ := hr.vw.form
 obtain ⟨s0, s1, s2, si, sg, sv⟩ := x
 simp only at e0 e1 e2 e3 e4 e5
 subst e0 e1 e2 e3 e4 e5
 clear hr rs hdo hP hvb
 obtain ⟨rs', hrs⟩ : ∃ z, z = (if ec ≠ 0 then st0 else s') := ⟨_, rfl⟩
 rw [← hrs]
 have HRS := Lib.hid hrs
 clear hrs
 unfold sta at KO ⊢
 simp only at KO ⊢
 go_enter Tryz.func98, Tryz.ntmps98
 go_wp2_with fail
 refine (KO.out _ (by exact extA)).mono ?_
 rintro e w1 ⟨⟨t0, t1, t2, ti, tg, tv⟩, rfl, h1, ho⟩
 (try simp only [World.size_alloc] at ho)
 obtain ⟨B0, d0, e0⟩ := ho.tk.form
 obtain ⟨B1, d1, e1⟩ := ho.tp.form
 obtain ⟨B2, d2, e2⟩ := ho.vd.form
 obtain ⟨B3, d3, e3⟩ := ho.dn.form
 obtain ⟨B4, d4, e4⟩ := ho.gt.form
 obtain ⟨B5, d5, e5⟩ := ho.vw.form
 simp only at e0 e1 e2 e3 e4 e5
 subst e0 e1 e2 e3 e4 e5
 have H1 := Lib.hid h1
 have hz1 := h1.size
 have HO := Lib.hid ho
 clear h1 ho
 (try simp only [World.size_alloc] at hz1)
 (apply Row.use (w := w1) (g := w.heap.size + 1); (focus (exact rowA)); intro q1_0 f1_0 l1_0 R1_0; (try simp only [lSet] at q1_0 R1_0))
 have hE1 : Ext w w1 := by exact extA
 have HE1 := Lib.hid (And.intro trivial hE1)
 have HB1 := Lib.hid (show Bx w1 (w.heap.size + 1) 32 #[.slice none 0 0, .slice none 0 0, .slice none 0 0, .int .i64 0, .slice none 0 0, .slice none 0 0, .slice none 0 0] from Bx.ext (Bx.newAt (by simp)) H1.out)
 clear hE1
 have HKP := Lib.hid (show Kp (w.heap.size + 1 + 1) (w1.alloc (.cells #[.slice B0 s.ledger.tickets.length d0, .slice B1 s.ledger.taps.length d1, .slice B2 s.ledger.verdicts.length d2, .int .i64 s.denied.version, .slice B3 s.denied.ids.length d3, .slice B4 s.gates.length d4, .slice B5 s.views.length d5] 133)) w1.heap.size ⟨.slice B0 s.ledger.tickets.length d0, .slice B1 s.ledger.taps.length d1, .slice B2 s.ledger.verdicts.length d2, .slice B3 s.denied.ids.length d3, .slice B4 s.gates.length d4, .slice B5 s.views.length d5⟩ s from ⟨Bx.new, hz1, HO.out.ext ((Ext.refl _).alloc _)⟩)
 have HPL := Lib.hid (Lib.hid trivial)
 by_cases h4 : ec = 0
 ·subst h4
  have hrs := HRS.out
  rw [if_neg (by simp)] at hrs
  subst hrs
  go_wp2_with (go_at_fn fg; refine (HD.out _ _ _ _ (HE1.out.2.alloc _) (by omega) HKP.out).mono ?_; rintro e w2 ⟨rfl, hf2, hp2, y', hk2⟩; have hb2 := (HB1.out.alloc (.cells #[.slice B0 s.ledger.tickets.length d0, .slice B1 s.ledger.taps.length d1, .slice B2 s.ledger.verdicts.length d2, .int .i64 s.denied.version, .slice B3 s.denied.ids.length d3, .slice B4 s.gates.length d4, .slice B5 s.views.length d5] 133)).fr hf2 (by rintro (h | h); omega; have := HVB.out _ h; omega); have hrq := hb2.row.2.1; have hrf := hb2.row.2.2; have hrl := hb2.lt; have HB2 := Lib.hid hb2; have HF2 := Lib.hid hf2; have HP2 := Lib.hid hp2; have HK2 := Lib.hid hk2; clear hb2 hf2 hp2; obtain ⟨C0, j0, e0⟩ := hk2.own.tk.form; obtain ⟨C1, j1, e1⟩ := hk2.own.tp.form; obtain ⟨C2, j2, e2⟩ := hk2.own.vd.form; obtain ⟨C3, j3, e3⟩ := hk2.own.dn.form; obtain ⟨C4, j4, e4⟩ := hk2.own.gt.form; obtain ⟨C5, j5, e5⟩ := hk2.own.vw.form; obtain ⟨y0, y1, y2, yi, yg, yv⟩ := y'; simp only at e0 e1 e2 e3 e4 e5; subst e0 e1 e2 e3 e4 e5; have RK := Lib.hid hk2.box.row; unfold sta at RK; simp only at RK; have qk := RK.out.2.1; have fk := RK.out.2.2; have lk := RK.out.1; clear hk2)
  refine bodyPost_ret (v := .tuple #[.agg #[.slice C0 rs'.ledger.tickets.length j0, .slice C1 rs'.ledger.taps.length j1, .slice C2 rs'.ledger.verdicts.length j2, .int .i64 rs'.denied.version, .slice C3 rs'.denied.ids.length j3, .slice C4 rs'.gates.length j4, .slice C5 rs'.views.length j5], .int .i64 0]) (by simp [results, Tryz.results98, go_sem, *]) rfl ⟨⟨.slice C0 rs'.ledger.tickets.length j0, .slice C1 rs'.ledger.taps.length j1, .slice C2 rs'.ledger.verdicts.length j2, .slice C3 rs'.denied.ids.length j3, .slice C4 rs'.gates.length j4, .slice C5 rs'.views.length j5⟩, rfl, ?_, ?_, ?_⟩
  ·exact Fr.setC (.inl (by simp)) (Fr.setC (.inl (by simp)) (Fr.setC (.inl (by simp)) (Fr.setC (.inl (by simp)) (Fr.setC (.inl (by simp)) (Fr.setC (.inl (by simp)) (Fr.setC (.inl (by simp)) (Fr.trans (Fr.ofExt (HE1.out.2.alloc _)) (HF2.out.weaken (fun q h => h.imp (fun h => by omega) id)))))))))
  ·exact HPP.out w2 _ (w.heap.size + 1) _ HB2.out (by omega) (Fr.setC rfl (Fr.setC rfl (Fr.setC rfl (Fr.setC rfl (Fr.setC rfl (Fr.setC rfl (Fr.setC rfl (Fr.refl _ _)))))))) HP2.out
  ·exact (HK2.out.own.keep (own := fun z => z = w.heap.size + 1) (Fr.setC rfl (Fr.setC rfl (Fr.setC rfl (Fr.setC rfl (Fr.setC rfl (Fr.setC rfl (Fr.setC rfl (Fr.refl _ _)))))))) (by rintro q rfl; exact ⟨_, _, HB2.out, by decide⟩)).lower (by omega)
 ·have hrs := HRS.out
  rw [if_pos h4] at hrs
  subst hrs
  have h4b : (ec == 0) = false := by simpa using h4
  clear HRS
  go_wp2_with (go_at_fn fg; refine (HD.out _ _ _ _ (HE1.out.2.alloc _) (by omega) HKP.out).mono ?_; rintro e w2 ⟨rfl, hf2, hp2, y', hk2⟩; have hb2 := (HB1.out.alloc (.cells #[.slice B0 s.ledger.tickets.length d0, .slice B1 s.ledger.taps.length d1, .slice B2 s.ledger.verdicts.length d2, .int .i64 s.denied.version, .slice B3 s.denied.ids.length d3, .slice B4 s.gates.length d4, .slice B5 s.views.length d5] 133)).fr hf2 (by rintro (h | h); omega; have := HVB.out _ h; omega); have hrq := hb2.row.2.1; have hrf := hb2.row.2.2; have hrl := hb2.lt; have HB2 := Lib.hid hb2; have HF2 := Lib.hid hf2; have HP2 := Lib.hid hp2; have HK2 := Lib.hid hk2; clear hb2 hf2 hp2; clear hk2)
  refine bodyPost_ret (v := .tuple #[.agg #[.slice none 0 0, .slice none 0 0, .slice none 0 0, .int .i64 0, .slice none 0 0, .slice none 0 0, .slice none 0 0], .int .i64 ec]) (by simp [results, Tryz.results98, go_sem, *]) rfl ⟨sv0, rfl, ?_, ?_, OwnS.nil⟩
  ·exact Fr.setC (.inl (by simp)) (Fr.setC (.inl (by simp)) (Fr.setC (.inl (by simp)) (Fr.setC (.inl (by simp)) (Fr.setC (.inl (by simp)) (Fr.setC (.inl (by simp)) (Fr.setC (.inl (by simp)) (Fr.trans (Fr.ofExt (HE1.out.2.alloc _)) (HF2.out.weaken (fun q h => h.imp (fun h => by omega) id)))))))))
  ·exact HPP.out w2 _ (w.heap.size + 1) _ HB2.out (by omega) (Fr.setC rfl (Fr.setC rfl (Fr.setC rfl (Fr.setC rfl (Fr.setC rfl (Fr.setC rfl (Fr.setC rfl (Fr.refl _ _)))))))) HP2.out
end Go.Proofs.YteojjbhadgkfgaaGreat

/- hall. -/
namespace Go.Proofs.YteojjbhadgkfgaaGreat
set_option linter.unusedSimpArgs false
set_option linter.unusedVariables false
set_option maxRecDepth 100000
open Go Go.RowKit Lb

def hallV : List Vw := [⟨1, 0, true⟩, ⟨1, 0, true⟩, ⟨1, 0, true⟩]
def hallS : St := ⟨⟨[single 1], [], []⟩, dn0, [newG 0 1, newG 1 2, newG 2 4], hallV⟩
set_option maxHeartbeats 8000000 in
theorem law_hall (w : World) :
  Calls Tryz.prog 67 #[] w fun e w' => ∃ x, e = .returned (.agg (sta hallS x)) ∧ Ext w w' ∧ OwnS w.heap.size w' x hallS := by
 go_enter Tryz.func67, Tryz.ntmps67
 go_wp2_with fail
 refine (ref_NewStation _).mono ?_
 rintro e w1 ⟨⟨t0, t1, t2, ti, tg, tv⟩, rfl, h1, ho⟩
 obtain ⟨B0, d0, e0⟩ := ho.tk.form
 obtain ⟨B1, d1, e1⟩ := ho.tp.form
 obtain ⟨B2, d2, e2⟩ := ho.vd.form
 obtain ⟨B3, d3, e3⟩ := ho.dn.form
 obtain ⟨B4, d4, e4⟩ := ho.gt.form
 obtain ⟨B5, d5, e5⟩ := ho.vw.form
 simp only at e0 e1 e2 e3 e4 e5
 subst e0 e1 e2 e3 e4 e5
 have H1 := Lib.hid h1
 have hz1 := h1.size
 have HO := Lib.hid ho
 clear h1 ho
 (try simp only [World.size_alloc] at hz1 HO)
 unfold sta
 simp only [newS, ld0, dn0, List.length_cons, List.length_nil]
 simp only [newS, ld0, dn0, List.length_cons, List.length_nil] at HO
 (apply Row.use (w := w1) (g := w.heap.size); (focus (exact rowA)); intro q1_0 f1_0 l1_0 R1_0; (try simp only [lSet] at q1_0 R1_0))
 have HB0 := Lib.hid (show Bx w1 w.heap.size 32 #[.slice none 0 0, .slice none 0 0, .slice none 0 0, .int .i64 0, .slice none 0 0, .slice none 0 0, .slice none 0 0] from Bx.ext (Bx.newAt rfl) H1.out)
 go_wp2_with fail
 refine (law_single 1 _).mono ?_
 rintro e w2 ⟨rfl, h2⟩
 have HV2 := Lib.hid (show OwnL 110 3 vwc (w.heap.size + 1) w2 (.slice (some ⟨w1.heap.size + 1, 0, none⟩) 3 3) hallV by
  refine OwnL.ext (w := _) ?_ h2
  exact own_lit (by simp) (by simp; omega) rfl (by unfold maxLen; omega) rfl rfl)
 have HB1 := Lib.hid (show Bx w2 w1.heap.size 32 _ from Bx.ext (Bx.alloc (Bx.newAt rfl) _) h2)
 have H2 := Lib.hid h2
 have hz2 := h2.size
 have HE := Lib.hid (And.intro trivial (show Ext w1 w2 from (((Ext.refl _).alloc _).alloc _).trans h2))
 clear h2
 (try simp only [World.size_alloc] at hz2)
 rw [show tkc (single 1) = #[.int .i64 1, .int .i64 1, .int .i64 10, .int .i64 500, .int .i64 15, .int .i64 0] from rfl]
 (apply Row.use (w := w2) (g := w.heap.size); (focus (exact rowA)); intro q2_0 f2_0 l2_0 R2_0; (try simp only [lSet] at q2_0 R2_0); apply Row.use (w := w2) (g := w1.heap.size); (focus (exact rowA)); intro q2_1 f2_1 l2_1 R2_1; (try simp only [lSet] at q2_1 R2_1))
 go_wp2_with fail
 have HF := Lib.hid (show OwnS (w.heap.size + 1) w2 ⟨.slice none 0 0, .slice B1 0 d1, .slice B2 0 d2, .slice B3 0 d3, .slice B4 3 d4, .slice (some ⟨w1.heap.size + 1, 0, none⟩) 3 3⟩ ⟨⟨[], [], []⟩, dn0, [newG 0 1, newG 1 2, newG 2 4], hallV⟩ from
  ⟨OwnL.nil, HO.out.tp.ext HE.out.2, HO.out.vd.ext HE.out.2, HO.out.dn.ext HE.out.2, HO.out.gt.ext HE.out.2, HV2.out⟩)
 have hk := HF.out.keep (own := fun q => q = w.heap.size ∨ q = w1.heap.size) (w' := ((((((((w2.setCell ⟨w1.heap.size, 0, none⟩ (.slice (some ⟨w2.heap.size, 0, none⟩) 1 1)).setCell ⟨w.heap.size, 0, none⟩ (.slice (some ⟨w2.heap.size, 0, none⟩) 1 1)).setCell ⟨w.heap.size, 1, none⟩ (.slice B1 0 d1)).setCell ⟨w.heap.size, 2, none⟩ (.slice B2 0 d2)).setCell ⟨w.heap.size, 3, none⟩ (.int .i64 0)).setCell ⟨w.heap.size, 4, none⟩ (.slice B3 0 d3)).setCell ⟨w.heap.size, 5, none⟩ (.slice B4 3 d4)).setCell ⟨w.heap.size, 6, none⟩ (.slice (some ⟨w1.heap.size + 1, 0, none⟩) 3 3))) (by
   repeat (refine Fr.setC (by first | exact .inl rfl | exact .inr rfl) ?_)
   exact Fr.refl _ _) (by
  rintro q (rfl | rfl)
  ·exact ⟨_, _, (HB0.out.ext HE.out.2), by decide⟩
  ·exact ⟨_, _, HB1.out, by decide⟩)
 have hlit : OwnL 34 6 tkc (w.heap.size + 1) (((((((((w2.setCell ⟨w1.heap.size, 0, none⟩ (.slice (some ⟨w2.heap.size, 0, none⟩) 1 1)).setCell ⟨w.heap.size, 0, none⟩ (.slice (some ⟨w2.heap.size, 0, none⟩) 1 1)).setCell ⟨w.heap.size, 1, none⟩ (.slice B1 0 d1)).setCell ⟨w.heap.size, 2, none⟩ (.slice B2 0 d2)).setCell ⟨w.heap.size, 3, none⟩ (.int .i64 0)).setCell ⟨w.heap.size, 4, none⟩ (.slice B3 0 d3)).setCell ⟨w.heap.size, 5, none⟩ (.slice B4 3 d4)).setCell ⟨w.heap.size, 6, none⟩ (.slice (some ⟨w1.heap.size + 1, 0, none⟩) 3 3)).alloc (.cells #[.int .i64 1, .int .i64 1, .int .i64 10, .int .i64 500, .int .i64 15, .int .i64 0] 34)) (.slice (some ⟨w2.heap.size, 0, none⟩) 1 1) [single 1] := own_lit (by simp only [size_set]) (by simp only [size_set]; omega) rfl (by unfold maxLen; omega) rfl rfl
 have hfin : OwnS (w.heap.size + 1) (((((((((w2.setCell ⟨w1.heap.size, 0, none⟩ (.slice (some ⟨w2.heap.size, 0, none⟩) 1 1)).setCell ⟨w.heap.size, 0, none⟩ (.slice (some ⟨w2.heap.size, 0, none⟩) 1 1)).setCell ⟨w.heap.size, 1, none⟩ (.slice B1 0 d1)).setCell ⟨w.heap.size, 2, none⟩ (.slice B2 0 d2)).setCell ⟨w.heap.size, 3, none⟩ (.int .i64 0)).setCell ⟨w.heap.size, 4, none⟩ (.slice B3 0 d3)).setCell ⟨w.heap.size, 5, none⟩ (.slice B4 3 d4)).setCell ⟨w.heap.size, 6, none⟩ (.slice (some ⟨w1.heap.size + 1, 0, none⟩) 3 3)).alloc (.cells #[.int .i64 1, .int .i64 1, .int .i64 10, .int .i64 500, .int .i64 15, .int .i64 0] 34)) ⟨.slice (some ⟨w2.heap.size, 0, none⟩) 1 1, .slice B1 0 d1, .slice B2 0 d2, .slice B3 0 d3, .slice B4 3 d4, .slice (some ⟨w1.heap.size + 1, 0, none⟩) 3 3⟩ hallS := ⟨hlit, hk.tp.alloc _, hk.vd.alloc _, hk.dn.alloc _, hk.gt.ext ((Ext.refl _).alloc _), hk.vw.alloc _⟩
 exact bodyPost_ret (v := .agg #[.slice (some ⟨w2.heap.size, 0, none⟩) 1 1, .slice B1 0 d1, .slice B2 0 d2, .int .i64 0, .slice B3 0 d3, .slice B4 3 d4, .slice (some ⟨w1.heap.size + 1, 0, none⟩) 3 3]) (by simp [results, Tryz.results67, go_sem, *]) rfl ⟨⟨.slice (some ⟨w2.heap.size, 0, none⟩) 1 1, .slice B1 0 d1, .slice B2 0 d2, .slice B3 0 d3, .slice B4 3 d4, .slice (some ⟨w1.heap.size + 1, 0, none⟩) 3 3⟩, rfl, (show Ext w _ by exact extA), hfin.lower (Nat.le_succ _)⟩
end Go.Proofs.YteojjbhadgkfgaaGreat

/- How the arguments of the statements read, VII: stations, acts. -/
namespace Go.Proofs.YteojjbhadgkfgaaGreat
set_option linter.unusedSimpArgs false
set_option linter.unusedVariables false
set_option maxRecDepth 100000
open Go Go.RowKit Go.Joins Go.ChangeShapes Go.WideShapes Go.Deep Lb

section
theorem rdl_ofP {α : Type} [Inhabited α] {en : α → Array Value} {k : Nat} {Q : α → Prop} {w : World} {a : Addr} {vl vc : Nat} (hk : ∀ x, (en x).size = k) (hk0 : 0 < k) (hl : vl ≤ vc) (hm : vc ≤ maxLen)
  (hcell : ∀ i, i < vl → ∃ x : α, Q x ∧ ∀ j u, (en x)[j]? = some u → w.cell? (a.add (i * k + j)) = some u) : ∃ l : List α, RdL k en w (.slice (some a) vl vc) l ∧ ∀ x ∈ l, Q x := by
 let g : Nat → α := fun i => if h : i < vl then (hcell i h).choose else default
 have hg : ∀ i, i < vl → Q (g i) ∧ ∀ j u, (en (g i))[j]? = some u → w.cell? (a.add (i * k + j)) = some u := by
  intro i h
  have := (hcell i h).choose_spec
  simpa [g, h] using this
 refine ⟨(List.range vl).map g, ⟨some a, vc, by simp, by simpa using hl, hm, fun hn => ?_⟩, fun x hx => ?_⟩
 ·simp only [List.length_map, List.length_range] at hn ⊢
  have hz : 0 < (en (g 0)).size := by rw [hk]; exact hk0
  have h00 := (hg 0 hn).2 0 _ (Array.getElem?_eq_getElem hz)
  have hsp := World.cell?_spot h00
  have hlt := World.block_lt_of_cell? w _ h00
  obtain ⟨b, o, sp⟩ := a
  simp [Addr.add] at hsp hlt
  subst hsp
  refine ⟨b, o, rfl, hlt, fun j hj i u hu => ?_⟩
  have hgj : ((List.range vl).map g)[j]! = g j := by simp [hj]
  rw [hgj] at hu
  have := (hg j hj).2 i u hu
  simp only [Addr.add] at this
  split at this
  ·rename_i h0
   rw [show o + j * k + i = o by omega]; exact this
  ·rw [show o + j * k + i = o + (j * k + i) by omega]; exact this
 ·obtain ⟨i, hi, rfl⟩ := List.mem_map.1 hx
  exact (hg i (List.mem_range.1 hi)).1
end

section
variable {H : Type} {enc : TypeId × Value → H} {w : World} {b0 base : Nat} {spare : Nat → Bool} {held : Bool} {r : Reach}
theorem trod_ld {n : Nat} {v0 v1 v2 : Value} {y : DataW H × List MemPlace} (h : DataW.trod enc Tryz.prog w base spare held n 26 [v0, v1, v2] = some y) : ∃ l : Ld, RdL 6 tkc w v0 l.tickets ∧ RdL 5 tpc w v1 l.taps ∧ RdL 1 inc w v2 l.verdicts := by
 obtain ⟨n, -, hf⟩ := trod_fields Tryz.underlying26 h
 obtain ⟨y0, h0⟩ := hf 0 _ rfl
 obtain ⟨y1, h1⟩ := hf 1 _ rfl
 obtain ⟨y2, h2⟩ := hf 2 _ rfl
 change DataW.trod enc Tryz.prog w base spare held n 22 (([v0, v1, v2].drop 0).take (Tryz.prog.cellsOf 22)) = some y0 at h0
 change DataW.trod enc Tryz.prog w base spare held n 23 (([v0, v1, v2].drop 1).take (Tryz.prog.cellsOf 23)) = some y1 at h1
 change DataW.trod enc Tryz.prog w base spare held n 24 (([v0, v1, v2].drop 2).take (Tryz.prog.cellsOf 24)) = some y2 at h2
 rw [show Tryz.prog.cellsOf 22 = 1 from by kernel_rfl] at h0
 rw [show Tryz.prog.cellsOf 23 = 1 from by kernel_rfl] at h1
 rw [show Tryz.prog.cellsOf 24 = 1 from by kernel_rfl] at h2
 obtain ⟨l0, e0⟩ := trod_tks (v := v0) h0
 obtain ⟨l1, e1⟩ := trod_taps (v := v1) h1
 obtain ⟨l2, e2⟩ := trod_ints (v := v2) h2
 exact ⟨⟨l0, l1, l2⟩, e0, e1, e2⟩
theorem trod_gts {n : Nat} {v : Value} {y : DataW H × List MemPlace} (h : DataW.trod enc Tryz.prog w base spare held n 29 [v] = some y) : ∃ gl : List Gt, RdG w v gl := by
 rcases open_slice Tryz.underlying29 h with ⟨h0, -⟩ | ⟨a, len, cap, m, n', D, Pl, hcs, hb, hl, hm, hmm, -, hi⟩
 ·injection h0 with h0 _
  subst h0
  exact ⟨[], RdG.nil⟩
 ·injection hcs with hcs _
  subst hcs
  have hlm : len ≤ m := by rw [hmm]; split <;> omega
  have h1 : Tryz.prog.cellsOf 52 = 8 := by kernel_rfl
  obtain ⟨ys, hys, hq⟩ := rdl_ofP (w := w) (a := a) (en := gyc) (Q := fun y => GyR w y) gyc_size (by decide) hl hm (fun i hil => by
   obtain ⟨cs', hc, ht'⟩ := hi i (by omega)
   rw [h1] at hc
   obtain ⟨_, hcl, hat⟩ := World.cells?_some hc
   match cs', hcl with
   | [c0, c1, c2, c3, c4, c5, c6, c7], _ =>
    obtain ⟨g, hg, r1, r2⟩ := trod_gt (v0 := c0) (v1 := c1) (v2 := c2) (v3 := c3) (v4 := c4) (v5 := c5) (v6 := c6) (v7 := c7) ht'
    refine ⟨⟨g, c3, c5⟩, ⟨r1, r2⟩, fun j u hu => ?_⟩
    have hj : j < 8 := by
     have := (Array.getElem?_eq_some_iff.1 hu).1
     simpa [gyc_size] using this
    have hat := hat j hj
    have hu2 : [c0, c1, c2, c3, c4, c5, c6, c7][j]? = some u := by
     have : gyc ⟨g, c3, c5⟩ = [c0, c1, c2, c3, c4, c5, c6, c7].toArray := hg.symm
     rw [this] at hu
     simpa using hu
    rw [hu2] at hat
    rw [← Go.Deep.add_add]
    exact hat)
  exact ⟨ys.map (·.g), ys, rfl, hys, hq⟩
/-- a station -/
theorem open_st {v : Value} {d : DataW H} {p : List MemPlace} (hv : Value.okWide Tryz.prog w r b0 32 v) (h : DataW.Trod enc Tryz.prog w base spare held 32 v d p) : ∃ (s : St) (x : Sv), v = .agg (sta s x) ∧ RdS w x s := by
 obtain ⟨cs, rfl, hsz⟩ := okWide_struct Tryz.underlying32 hv
 obtain ⟨l⟩ := cs
 match l, hsz.trans (show Tryz.prog.cellsOf 32 = 7 from by kernel_rfl) with
 | [v0, v1, v2, v3, v4, v5, v6], _ =>
  obtain ⟨fuel, hf0⟩ := h
  obtain ⟨n, -, hf⟩ := trod_fields Tryz.underlying32 hf0
  obtain ⟨y0, h0⟩ := hf 0 _ rfl
  obtain ⟨y1, h1⟩ := hf 1 _ rfl
  obtain ⟨y2, h2⟩ := hf 2 _ rfl
  obtain ⟨y3, h3⟩ := hf 3 _ rfl
  change DataW.trod enc Tryz.prog w base spare held n 26 (([v0, v1, v2, v3, v4, v5, v6].drop 0).take (Tryz.prog.cellsOf 26)) = some y0 at h0
  change DataW.trod enc Tryz.prog w base spare held n 28 (([v0, v1, v2, v3, v4, v5, v6].drop 3).take (Tryz.prog.cellsOf 28)) = some y1 at h1
  change DataW.trod enc Tryz.prog w base spare held n 29 (([v0, v1, v2, v3, v4, v5, v6].drop 5).take (Tryz.prog.cellsOf 29)) = some y2 at h2
  change DataW.trod enc Tryz.prog w base spare held n 30 (([v0, v1, v2, v3, v4, v5, v6].drop 6).take (Tryz.prog.cellsOf 30)) = some y3 at h3
  rw [show Tryz.prog.cellsOf 26 = 3 from by kernel_rfl] at h0
  rw [show Tryz.prog.cellsOf 28 = 2 from by kernel_rfl] at h1
  rw [show Tryz.prog.cellsOf 29 = 1 from by kernel_rfl] at h2
  rw [show Tryz.prog.cellsOf 30 = 1 from by kernel_rfl] at h3
  obtain ⟨L, a0, a1, a2⟩ := trod_ld (v0 := v0) (v1 := v1) (v2 := v2) h0
  obtain ⟨dd, rfl, hd⟩ := trod_dn (v0 := v3) (v1 := v4) h1
  obtain ⟨gl, hg⟩ := trod_gts (v := v5) h2
  obtain ⟨vl, hvw⟩ := trod_views (v := v6) h3
  exact ⟨⟨L, dd, gl, vl⟩, ⟨v0, v1, v2, v4, v5, v6⟩, rfl, ⟨a0, a1, a2, hd, hg, hvw⟩⟩
end
end Go.Proofs.YteojjbhadgkfgaaGreat
