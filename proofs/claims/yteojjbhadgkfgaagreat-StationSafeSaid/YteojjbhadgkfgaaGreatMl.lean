/- Ml: parts of the proofs, laid together. -/
import Derived.BigRegion
import Derived.Deep.RegionHeld3
import Derived.Test.YteojjbhadgkfgaaGreatMa
import Derived.Test.YteojjbhadgkfgaaGreatMk
import Derived.Test.YteojjbhadgkfgaaGreatMe
import Derived.Test.YteojjbhadgkfgaaGreatMc
/- Gates that are alone: the plain side. -/
namespace Lb
set_option linter.unusedVariables false
set_option maxRecDepth 100000
set_option linter.unusedSimpArgs false
set_option linter.unnecessarySimpa false

def follows : Option Tp → Tp → Bool
 | none, _ => true
 | some x, p => decide (x.time ≤ p.time) && p.seq == x.seq + 1
def ckAlone (id zone : Int) : Option Tp → List Tp → Int
 | _, [] => 0
 | prev, p :: l => if ckTap p ≠ 0 then ckTap p else if p.gate ≠ id ∨ p.zone ≠ zone ∨ follows prev p = false then 4 else ckAlone id zone (some p) l
theorem ckAlone_cons (id zone : Int) (prev : Option Tp) (p : Tp) (l : List Tp) : ckAlone id zone prev (p :: l) = if ckTap p ≠ 0 then ckTap p else if p.gate ≠ id ∨ p.zone ≠ zone ∨ follows prev p = false then 4 else ckAlone id zone (some p) l := rfl
def lastOk (l : List Tp) (seq : Int) : Bool := match l.getLast? with
 | none => true
 | some x => x.seq == seq
/-- what is wrong with what a gate let through alone -/
def aloneE (g : Gt) : Int := if ckAlone g.id g.zone none g.alone ≠ 0 then ckAlone g.id g.zone none g.alone else if lastOk g.alone g.seq = false then 4 else 0
def ckGate (g : Gt) : Int :=
 if within g.id 0 2 = false ∨ within g.seq 0 99 = false then 3
 else if isZone g.zone = false then 9
 else if 12 < g.alone.length then 2
 else if aloneE g ≠ 0 then aloneE g
 else if ckDn g.denied ≠ 0 then ckDn g.denied
 else if within g.left 0 9 = false ∨ within g.untl 0 10099 = false then 3 else 0
def early (l : List Tp) (time : Int) : Bool := match l.getLast? with
 | none => false
 | some x => decide (time < x.time)
def twiceG (g : Gt) (id : Int) : Bool := g.alone.any (fun p => p.ticket == id)
/-- what is wrong with a ticket at a gate -/
def tapE (g : Gt) (t : Tk) (time : Int) : Int :=
 if within time 0 9999 = false then 3
 else if early g.alone time = true then 4
 else if g.denied.ids.contains t.id = true then 11
 else if g.untl < time then 8
 else if place t time g.zone ≠ 0 then place t time g.zone
 else if g.left = 0 ∨ t.kind ≠ 2 ∧ twiceG g t.id = true then 10
 else if g.alone.length = 12 ∨ g.seq = 99 then 2 else 0
def tapOf (g : Gt) (t : Tk) (time : Int) : Tp := ⟨t.id, g.id, g.seq + 1, time, g.zone⟩
def tapped (g : Gt) (t : Tk) (time : Int) : Gt := ⟨g.id, g.zone, g.seq + 1, g.alone ++ [tapOf g t time], g.denied, g.left - 1, g.untl⟩
def tapG (g : Gt) (t : Tk) (time : Int) : Gt × Tp × Int := if tapE g t time ≠ 0 then (gt0, tp0, tapE g t time) else (tapped g t time, tapOf g t time, 0)
def tapAll (g : Gt) (t : Tk) (time : Int) : Gt × Tp × Int := if ckGate g ≠ 0 then (gt0, tp0, ckGate g) else if ckTicket t ≠ 0 then (gt0, tp0, ckTicket t) else tapG g t time
def synced (g : Gt) (d : Dn) (time : Int) : Gt := ⟨g.id, g.zone, g.seq, [], pickD g.denied d, 9, time + 100⟩
def syncE (g : Gt) (d : Dn) (time : Int) : Int := if ckGate g ≠ 0 then ckGate g else if ckDn d ≠ 0 then ckDn d else if within time 0 9999 = false then 3 else 0
def syncAll (g : Gt) (d : Dn) (time : Int) : Gt × List Tp × Int := if syncE g d time ≠ 0 then (gt0, [], syncE g d time) else (synced g d time, g.alone, 0)

theorem ckTap_ok {p : Tp} : ckTap p = 0 ↔ within p.ticket 1 9999 = true ∧ within p.gate 0 2 = true ∧ within p.seq 1 99 = true ∧ within p.time 0 9999 = true ∧ isZone p.zone = true := by
 unfold ckTap
 cases h1 : within p.ticket 1 9999 <;> cases h2 : within p.gate 0 2 <;> cases h3 : within p.seq 1 99 <;> cases h4 : within p.time 0 9999 <;> cases h5 : isZone p.zone <;> simp
theorem ckAlone_snoc (id zone : Int) (p : Tp) : ∀ (l : List Tp) (prev : Option Tp), ckAlone id zone prev (l ++ [p]) = if ckAlone id zone prev l ≠ 0 then ckAlone id zone prev l else if ckTap p ≠ 0 then ckTap p else if p.gate ≠ id ∨ p.zone ≠ zone ∨ follows ((l.getLast?).or prev) p = false then 4 else 0
 | [], prev => by
  show (if ckTap p ≠ 0 then ckTap p else if p.gate ≠ id ∨ p.zone ≠ zone ∨ follows prev p = false then 4 else 0) = (if (0 : Int) ≠ 0 then 0 else if ckTap p ≠ 0 then ckTap p else if p.gate ≠ id ∨ p.zone ≠ zone ∨ follows prev p = false then 4 else 0)
  rw [if_neg (show ¬ ((0 : Int) ≠ 0) by decide)]
 | x :: l, prev => by
  have ih := ckAlone_snoc id zone p l (some x)
  have hgl : ((x :: l).getLast?).or prev = (l.getLast?).or (some x) := by
   cases l with
   | nil => rfl
   | cons y l => rw [List.getLast?_cons_cons]; cases hl : (y :: l).getLast? with
    | none => simp at hl
    | some z => rfl
  rw [List.cons_append, ckAlone_cons, ckAlone_cons, ih, hgl]
  by_cases h1 : ckTap x = 0
  ·by_cases h2 : x.gate ≠ id ∨ x.zone ≠ zone ∨ follows prev x = false
   ·simp only [h1, ne_eq, not_true_eq_false, if_false, if_pos h2]
    rfl
   ·simp only [h1, ne_eq, not_true_eq_false, if_false, if_neg h2]
  ·simp only [h1, ne_eq, not_false_eq_true, if_true]
structure RightG (g : Gt) : Prop where
 id : within g.id 0 2 = true
 seq : within g.seq 0 99 = true
 zone : isZone g.zone = true
 len : g.alone.length ≤ 12
 alone : ckAlone g.id g.zone none g.alone = 0
 last : lastOk g.alone g.seq = true
 denied : ckDn g.denied = 0
 left : within g.left 0 9 = true
 untl : within g.untl 0 10099 = true
theorem ckGate_ok {g : Gt} : ckGate g = 0 ↔ RightG g := by
 unfold ckGate aloneE
 constructor
 ·intro h
  by_cases h1 : within g.id 0 2 = false ∨ within g.seq 0 99 = false
  ·rw [if_pos h1] at h; simp at h
  rw [if_neg h1] at h
  by_cases h2 : isZone g.zone = false
  ·rw [if_pos h2] at h; simp at h
  rw [if_neg h2] at h
  by_cases h3 : 12 < g.alone.length
  ·rw [if_pos h3] at h; simp at h
  rw [if_neg h3] at h
  by_cases h4' : ckAlone g.id g.zone none g.alone ≠ 0
  ·rw [if_pos h4'] at h
   rw [if_pos h4'] at h
   exact absurd h h4'
  have h4 := Classical.byContradiction h4'
  by_cases h5 : lastOk g.alone g.seq = false
  ·rw [if_neg h4', if_pos h5] at h
   simp at h
  rw [if_neg h4', if_neg h5, if_neg (by decide)] at h
  by_cases h6' : ckDn g.denied ≠ 0
  ·rw [if_pos h6'] at h; exact absurd h h6'
  rw [if_neg h6'] at h
  have h6 := Classical.byContradiction h6'
  by_cases h7 : within g.left 0 9 = false ∨ within g.untl 0 10099 = false
  ·rw [if_pos h7] at h; simp at h
  simp only [not_or, Bool.not_eq_false] at h1 h2 h5 h7
  exact ⟨h1.1, h1.2, h2, by omega, h4, h5, h6, h7.1, h7.2⟩
 ·rintro ⟨h1, h2, h3, h4, h5, h6, h7, h8, h9⟩
  have : ¬ 12 < g.alone.length := by omega
  simp [h1, h2, h3, this, h5, h6, h7, h8, h9]
theorem tapped_right {g : Gt} {t : Tk} {time : Int} (hg : ckGate g = 0) (ht : ckTicket t = 0) (h : tapE g t time = 0) : ckGate (tapped g t time) = 0 ∧ 0 < g.left ∧ time ≤ g.untl ∧ within time 0 9999 = true ∧ g.denied.ids.contains t.id = false ∧ (t.kind ≠ 2 → twiceG g t.id = false) ∧ g.alone.length ≠ 12 ∧ g.seq ≠ 99 := by
 have r := ckGate_ok.1 hg
 unfold tapE at h
 by_cases h1 : within time 0 9999 = false
 ·rw [if_pos h1] at h; simp at h
 rw [if_neg h1] at h
 by_cases h2 : early g.alone time = true
 ·rw [if_pos h2] at h; simp at h
 rw [if_neg h2] at h
 by_cases h3 : g.denied.ids.contains t.id = true
 ·rw [if_pos h3] at h; simp at h
 rw [if_neg h3] at h
 by_cases h4 : g.untl < time
 ·rw [if_pos h4] at h; simp at h
 rw [if_neg h4] at h
 by_cases h5' : place t time g.zone ≠ 0
 ·rw [if_pos h5'] at h; exact absurd h h5'
 have h5 : place t time g.zone = 0 := Classical.byContradiction h5'
 rw [if_neg h5'] at h
 by_cases h6 : g.left = 0 ∨ t.kind ≠ 2 ∧ twiceG g t.id = true
 ·rw [if_pos h6] at h; simp at h
 rw [if_neg h6] at h
 by_cases h7 : g.alone.length = 12 ∨ g.seq = 99
 ·rw [if_pos h7] at h; simp at h
 have b1 := r.id
 have b2 := r.seq
 have b3 := r.left
 have h1' : within time 0 9999 = true := by simpa using h1
 simp [within] at b1 b2 b3
 have hid : within t.id 1 9999 = true := by
  unfold ckTicket at ht
  cases hw : within t.id 1 9999 with
  | true => rfl
  | false => simp [hw] at ht
 have hleft : 0 < g.left := by omega
 refine ⟨ckGate_ok.2 ⟨r.id, ?_, r.zone, ?_, ?_, ?_, r.denied, ?_, r.untl⟩, hleft, by omega, h1', by simpa using h3, fun hk => ?_, by omega, by omega⟩
 ·show within (g.seq + 1) 0 99 = true
  simp only [within, Bool.and_eq_true, decide_eq_true_eq]; omega
 ·have := r.len; simp [tapped]; omega
 ·show ckAlone g.id g.zone none (g.alone ++ [tapOf g t time]) = 0
  rw [ckAlone_snoc, if_neg (by simpa using r.alone)]
  have hp : ckTap (tapOf g t time) = 0 := ckTap_ok.2 ⟨hid, r.id, (show within (g.seq + 1) 1 99 = true by simp only [within, Bool.and_eq_true, decide_eq_true_eq]; omega), h1', r.zone⟩
  rw [if_neg (by simpa using hp), if_neg]
  simp only [tapOf, ne_eq, not_true_eq_false, false_or, Option.or_none, Bool.not_eq_false]
  unfold early at h2
  have hl := r.last
  unfold lastOk at hl
  cases hgl : g.alone.getLast? with
  | none => rfl
  | some x =>
   simp only [hgl] at h2 hl
   simp only [beq_iff_eq, decide_eq_true_eq] at hl h2
   simp [follows]
   omega
 ·simp [lastOk, tapped, tapOf]
 ·show within (g.left - 1) 0 9 = true
  simp only [within, Bool.and_eq_true, decide_eq_true_eq]; omega
 ·cases htw : twiceG g t.id with
  | false => rfl
  | true => exact absurd (.inr ⟨hk, htw⟩) h6
end Lb

/- gate: what is wrong with what was let through alone. -/
namespace Go.Proofs.YteojjbhadgkfgaaGreat
set_option linter.unusedSimpArgs false
set_option linter.unusedVariables false
set_option maxRecDepth 100000
open Go Go.RowKit Lb

def gta (g : Gt) (sa si : Value) : Array Value := #[.int .i64 g.id, .int .i64 g.zone, .int .i64 g.seq, sa, .int .i64 g.denied.version, si, .int .i64 g.left, .int .i64 g.untl]
def prevT (l : List Tp) (k : Nat) : Option Tp := if k = 0 then none else l[k - 1]?
theorem prevT_succ (l : List Tp) (k : Nat) (h : k < l.length) : prevT l (k + 1) = some l[k] := by simp [prevT, h]
theorem RdL.tp_at {w : World} {v : Value} {l : List Tp} (h : RdL 5 tpc w v l) {A : Option Addr} {n c : Nat} (hv : v = .slice A n c) {k : Nat} (hk : k < l.length) : ∃ b o, A = some ⟨b, o, none⟩ ∧ b < w.heap.size ∧
  w.cell? ⟨b, o + k * 5, none⟩ = some (.int .i64 l[k].ticket) ∧ w.cell? ⟨b, o + k * 5 + 1, none⟩ = some (.int .i64 l[k].gate) ∧ w.cell? ⟨b, o + k * 5 + 2, none⟩ = some (.int .i64 l[k].seq) ∧ w.cell? ⟨b, o + k * 5 + 3, none⟩ = some (.int .i64 l[k].time) ∧ w.cell? ⟨b, o + k * 5 + 4, none⟩ = some (.int .i64 l[k].zone) := by
 subst hv
 obtain ⟨b, o, c', hv, hb, hc⟩ := h.at_ hk
 injection hv with hA
 exact ⟨b, o, hA, hb, hc 0 _ rfl, hc 1 _ rfl, hc 2 _ rfl, hc 3 _ rfl, hc 4 _ rfl⟩
theorem gate_within (n a b : Int) (w : World) :
  Calls Tryz.prog 120 #[.int .i64 n, .int .i64 a, .int .i64 b] w fun e w' => e = .returned (.bool (within n a b)) ∧ w = w' := by
 go_enter Tryz.func120, Tryz.ntmps120
 go_wp2
 all_goals
  go_ret
  exact ⟨ret_bool (by simp [within, *] <;> omega), rfl⟩

set_option maxHeartbeats 8000000 in
theorem gate_alone (g : Gt) (sa si : Value) (w : World) (hr : RdL 5 tpc w sa g.alone) (hs : ∃ A n c, si = .slice A n c) :
  Calls Tryz.prog 123 #[.agg (gta g sa si)] w fun e w' => e = .returned (.int .i64 (aloneE g)) ∧ Ext w w' := by
 obtain ⟨A, c, rfl, hmc, hmm⟩ := hr.form
 obtain ⟨A2, n2, c2, rfl⟩ := hs
 obtain ⟨gid, zone, seq, l, ⟨ver, ids⟩, left, untl⟩ := g
 unfold aloneE gta
 simp only at hr hmc hmm ⊢
 have hm : l.length ≤ 9223372036854775807 := by unfold maxLen at hmm; omega
 generalize hR : ckAlone gid zone none l = r
 generalize hS : (if r ≠ 0 then r else if lastOk l seq = false then (4 : Int) else 0) = res
 have HRd := Lib.hid hr
 have HR := Lib.hid hR
 have HS := Lib.hid hS
 clear hr hmc hmm hR hS
 go_enter Tryz.func123, Tryz.ntmps123
 go_wp2_with fail
 go_loopg [2, 4, 5, 6, 13] l.length (fun gg _ _ _ _ s13 wr => ∃ k : Nat, k ≤ l.length ∧ l.length - k ≤ gg ∧ s13 = .int .i64 k ∧ Aside (Ext w wr ∧ Row wr w.heap.size #[.int .i64 gid, .int .i64 zone, .int .i64 seq, .slice A l.length c, .int .i64 ver, .slice A2 n2 c2, .int .i64 left, .int .i64 untl]) ∧ Aside (ckAlone gid zone (prevT l k) (l.drop k) = r ∧ ∀ x, prevT l k = some x → ckTap x = 0))
 case atStart => exact ⟨0, by omega, by omega, rfl, ⟨(Ext.refl _).alloc _, Row.newAt rfl⟩, HR.out, fun x h => by simp [prevT] at h⟩
 case round =>
  obtain ⟨k, hk, hg, rfl, HE, HA⟩ := hrel
  have hq := HE.out.2.2.1
  have hfz := HE.out.2.2.2
  have hlt2 := HE.out.2.1
  by_cases hlt : k < l.length
  ·have hlt' : (k : Int) < (l.length : Int) := by omega
   obtain ⟨b, o, rfl, hb, c0, c1, c2', c3, c4⟩ := (HRd.out.ext HE.out.1).tp_at rfl hlt
   obtain ⟨hA, hP⟩ := HA.out
   rw [List.drop_eq_getElem_cons hlt, ckAlone_cons] at hA
   have hn := prevT_succ l k hlt
   rw [← hn] at hA
   have HRC := Lib.hid (fun w => rule_Check l[k] w)
   have hpv : 0 < k → ∃ x, prevT l k = some x ∧ ∀ W, Ext wr W → W.cell? ⟨b, o + (k - 1) * 5 + 2, none⟩ = some (.int .i64 x.seq) ∧ W.cell? ⟨b, o + (k - 1) * 5 + 3, none⟩ = some (.int .i64 x.time) := by
    intro h0
    have hk1 : k - 1 < l.length := by omega
    refine ⟨l[k - 1], by unfold prevT; rw [if_neg (by omega), List.getElem?_eq_getElem hk1], fun W hW => ?_⟩
    obtain ⟨b', o', hAA, _, _, _, d2, d3, _⟩ := ((HRd.out.ext HE.out.1).ext hW).tp_at rfl hk1
    injection hAA with hAA
    injection hAA with e1 e2
    subst e1 e2
    exact ⟨d2, d3⟩
   have HPV := Lib.hid hpv
   have HE2 := Lib.hid HE.out.1
   have HRW := Lib.hid HE.out.2
   have hk0 : k = 0 → prevT l k = none := fun h => by subst h; rfl
   have hP2 := Lib.hid hP
   have HN := Lib.hid hn
   clear HE HA hP hpv hn
   generalize hp : l[k] = p at *
   clear hp
   obtain ⟨x0, x1, x2, x3, x4⟩ := p
   simp only at c0 c1 c2' c3 c4
   unfold tpc at HRC
   generalize hck : ckTap ⟨x0, x1, x2, x3, x4⟩ = q at HRC hA
   by_cases hq0 : q = 0
   ·rw [if_neg (by simpa using hq0)] at hA
    subst hq0
    have HCK := Lib.hid hck
    clear hck
    by_cases e1 : x1 = gid
    ·have e1b : (x1 != gid) = false := by simpa using e1
     by_cases e2 : x4 = zone
     ·have e2b : (x4 != zone) = false := by simpa using e2
      by_cases hz : k = 0
      ·rw [hk0 hz, if_neg (by simp [e1, e2, follows])] at hA
       subst hz
       simp only [Nat.zero_mul, Nat.add_zero] at c0 c1 c2' c3 c4
       have HA2 := Lib.hid hA
       clear hA hk0 e1 e2 hP2 HPV
       go_wp2_with fail
       (refine (HRC.out _).mono ?_; rintro e w1 ⟨rfl, h1⟩; have H1 := Lib.hid h1; have hz1 := h1.size; clear h1; (try simp only [World.size_alloc, size_set, World.heap_drewN, size_drew] at hz1); apply Row.use (w := w1) (g := w.heap.size); (focus (exact rowA)); intro q1_0 f1_0 l1_0 R1_0; (try simp only [lSet] at q1_0 R1_0); apply Row.use (w := w1) (g := wr.heap.size); (focus (exact rowA)); intro q1_1 f1_1 l1_1 R1_1; (try simp only [lSet] at q1_1 R1_1))
       go_wp2_with fail
       go_quiet (fail)
       go_wp2_with fail
       go_roundg (l.length - (0 + 1))
       case measure => omega
       case rel => exact ⟨0 + 1, by omega, by omega, by go_num, ⟨(show Ext w _ by exact extA), R1_0.out.drewN⟩, HA2.out, fun y hy => by rw [HN.out] at hy; injection hy with hy; subst hy; exact HCK.out⟩
      ·obtain ⟨y, hy, hyc⟩ := HPV.out (by omega)
       have hyk := hP2.out y hy
       have hys : y.seq ≤ 99 ∧ 1 ≤ y.seq := by
        have := (ckTap_ok.1 hyk).2.2.1
        simp [within] at this
        omega
       have hws : IntKind.i64.wrap (y.seq + 1) = y.seq + 1 := IntWalk.i64_in _ (by omega)
       have hkn : 0 < k := by omega
       have hkd : decide (0 < k) = true := by simpa using hkn
       have hw1 : IntKind.i64.wrap ((k : Int) - 1) = ((k - 1 : Nat) : Int) := by rw [IntWalk.i64_in _ (by omega)]; omega
       have hk1 : ((k - 1 : Nat) : Int) < (l.length : Int) := by omega
       have hk2 : k - 1 < l.length := by omega
       rw [hy] at hA
       have HYC := Lib.hid hyc
       clear hyk hy hyc HPV hP2 hk0
       obtain ⟨y0, y1, y2, y3, y4⟩ := y
       simp only at hys hws HYC
       by_cases e3 : y3 ≤ x3
       ·have e3b : decide (x3 < y3) = false := by simpa using e3
        by_cases e4 : x2 = y2 + 1
        ·have e4b : (x2 != y2 + 1) = false := by simpa using e4
         rw [if_neg (by simp [e1, e2, e3, e4, follows])] at hA
         have HA2 := Lib.hid hA
         clear hA e1 e2 e3 e4
         go_wp2_with fail
         (refine (HRC.out _).mono ?_; rintro e w1 ⟨rfl, h1⟩; have H1 := Lib.hid h1; have hz1 := h1.size; clear h1; (try simp only [World.size_alloc, size_set, World.heap_drewN, size_drew] at hz1); apply Row.use (w := w1) (g := w.heap.size); (focus (exact rowA)); intro q1_0 f1_0 l1_0 R1_0; (try simp only [lSet] at q1_0 R1_0); apply Row.use (w := w1) (g := wr.heap.size); (focus (exact rowA)); intro q1_1 f1_1 l1_1 R1_1; (try simp only [lSet] at q1_1 R1_1))
         obtain ⟨f2, f3⟩ := HYC.out w1 (by exact extA)
         go_wp2_with fail
         go_quiet (fail)
         go_wp2_with fail
         go_roundg (l.length - (k + 1))
         case measure => omega
         case rel => exact ⟨k + 1, by omega, by omega, by go_num, ⟨(show Ext w _ by exact extA), R1_0.out.drewN⟩, HA2.out, fun y hy => by rw [HN.out] at hy; injection hy with hy; subst hy; exact HCK.out⟩
        ·have e4b : (x2 != y2 + 1) = true := by simpa using e4
         have HQ := Lib.hid (show res = 4 by rw [if_pos (by simp [follows, e4])] at hA; rw [← HS.out, ← hA]; simp)
         clear hA e1 e2 e3 e4
         go_wp2_with fail
         (refine (HRC.out _).mono ?_; rintro e w1 ⟨rfl, h1⟩; have H1 := Lib.hid h1; have hz1 := h1.size; clear h1; (try simp only [World.size_alloc, size_set, World.heap_drewN, size_drew] at hz1); apply Row.use (w := w1) (g := w.heap.size); (focus (exact rowA)); intro q1_0 f1_0 l1_0 R1_0; (try simp only [lSet] at q1_0 R1_0); apply Row.use (w := w1) (g := wr.heap.size); (focus (exact rowA)); intro q1_1 f1_1 l1_1 R1_1; (try simp only [lSet] at q1_1 R1_1))
         obtain ⟨f2, f3⟩ := HYC.out w1 (by exact extA)
         go_wp2_with fail
         go_quiet (fail)
         go_wp2_with fail
         go_ret
         refine ⟨ret_int (by rw [HQ.out]), ?_⟩
         exact extA
       ·have e3b : decide (x3 < y3) = true := by simpa using e3
        have HQ := Lib.hid (show res = 4 by rw [if_pos (by simp [follows, e3])] at hA; rw [← HS.out, ← hA]; simp)
        clear hA e1 e2 e3
        go_wp2_with fail
        (refine (HRC.out _).mono ?_; rintro e w1 ⟨rfl, h1⟩; have H1 := Lib.hid h1; have hz1 := h1.size; clear h1; (try simp only [World.size_alloc, size_set, World.heap_drewN, size_drew] at hz1); apply Row.use (w := w1) (g := w.heap.size); (focus (exact rowA)); intro q1_0 f1_0 l1_0 R1_0; (try simp only [lSet] at q1_0 R1_0); apply Row.use (w := w1) (g := wr.heap.size); (focus (exact rowA)); intro q1_1 f1_1 l1_1 R1_1; (try simp only [lSet] at q1_1 R1_1))
        obtain ⟨f2, f3⟩ := HYC.out w1 (by exact extA)
        go_wp2_with fail
        go_quiet (fail)
        go_wp2_with fail
        go_ret
        refine ⟨ret_int (by rw [HQ.out]), ?_⟩
        exact extA
     ·have e2b : (x4 != zone) = true := by simpa using e2
      have HQ := Lib.hid (show res = 4 by rw [if_pos (by simp [e2])] at hA; rw [← HS.out, ← hA]; simp)
      clear hA e1 e2 hk0 hP2 HPV
      go_wp2_with fail
      (refine (HRC.out _).mono ?_; rintro e w1 ⟨rfl, h1⟩; have H1 := Lib.hid h1; have hz1 := h1.size; clear h1; (try simp only [World.size_alloc, size_set, World.heap_drewN, size_drew] at hz1); apply Row.use (w := w1) (g := w.heap.size); (focus (exact rowA)); intro q1_0 f1_0 l1_0 R1_0; (try simp only [lSet] at q1_0 R1_0); apply Row.use (w := w1) (g := wr.heap.size); (focus (exact rowA)); intro q1_1 f1_1 l1_1 R1_1; (try simp only [lSet] at q1_1 R1_1))
      go_wp2_with fail
      go_quiet (fail)
      go_wp2_with fail
      go_ret
      refine ⟨ret_int (by rw [HQ.out]), ?_⟩
      exact extA
    ·have e1b : (x1 != gid) = true := by simpa using e1
     have HQ := Lib.hid (show res = 4 by rw [if_pos (by simp [e1])] at hA; rw [← HS.out, ← hA]; simp)
     clear hA e1 hk0 hP2 HPV
     go_wp2_with fail
     (refine (HRC.out _).mono ?_; rintro e w1 ⟨rfl, h1⟩; have H1 := Lib.hid h1; have hz1 := h1.size; clear h1; (try simp only [World.size_alloc, size_set, World.heap_drewN, size_drew] at hz1); apply Row.use (w := w1) (g := w.heap.size); (focus (exact rowA)); intro q1_0 f1_0 l1_0 R1_0; (try simp only [lSet] at q1_0 R1_0); apply Row.use (w := w1) (g := wr.heap.size); (focus (exact rowA)); intro q1_1 f1_1 l1_1 R1_1; (try simp only [lSet] at q1_1 R1_1))
     go_wp2_with fail
     go_quiet (fail)
     go_wp2_with fail
     go_ret
     refine ⟨ret_int (by rw [HQ.out]), ?_⟩
     exact extA
   ·have hqb : (q != 0) = true := by simpa using hq0
    have HQ := Lib.hid (show res = q by rw [if_pos hq0] at hA; rw [← HS.out, ← hA, if_pos hq0])
    clear hA hq0 hck hk0 hP2 HPV
    go_wp2_with fail
    (refine (HRC.out _).mono ?_; rintro e w1 ⟨rfl, h1⟩; have H1 := Lib.hid h1; have hz1 := h1.size; clear h1; (try simp only [World.size_alloc, size_set, World.heap_drewN, size_drew] at hz1); apply Row.use (w := w1) (g := w.heap.size); (focus (exact rowA)); intro q1_0 f1_0 l1_0 R1_0; (try simp only [lSet] at q1_0 R1_0); apply Row.use (w := w1) (g := wr.heap.size); (focus (exact rowA)); intro q1_1 f1_1 l1_1 R1_1; (try simp only [lSet] at q1_1 R1_1))
    go_wp2_with fail
    go_ret
    refine ⟨ret_int (by rw [HQ.out]), ?_⟩
    exact extA
  ·have hkl : k = l.length := by omega
   have hge : ¬ (k : Int) < (l.length : Int) := by omega
   have hA := HA.out.1
   rw [hkl, List.drop_length] at hA
   simp only [ckAlone] at hA
   have HE2 := Lib.hid HE.out.1
   have HRW := Lib.hid HE.out.2
   have HZ := Lib.hid (show (if lastOk l seq = false then (4 : Int) else 0) = res by rw [← HS.out, ← hA]; simp)
   clear HE HA hA hkl
   by_cases hl0 : l = []
   ·have hz : l.length = 0 := by rw [hl0]; rfl
    have HQ := Lib.hid (show res = 0 by rw [← HZ.out, hl0]; rfl)
    have hn0 : decide (0 < l.length) = false := by rw [hz]; rfl
    clear hl0 HZ
    go_wp2_with fail
    go_quiet (fail)
    go_wp2_with fail
    go_ret
    refine ⟨ret_int (by rw [HQ.out]), ?_⟩
    exact extA
   ·have hlp : 0 < l.length := List.length_pos_iff.2 hl0
    have hn0 : decide (0 < l.length) = true := by simpa using hlp
    have hll : l.length - 1 < l.length := by omega
    obtain ⟨b, o, rfl, hb, c0, c1, c2', c3, c4⟩ := (HRd.out.ext HE2.out).tp_at rfl hll
    have hw1 : IntKind.i64.wrap ((l.length : Int) - 1) = ((l.length - 1 : Nat) : Int) := by rw [IntWalk.i64_in _ (by omega)]; omega
    have hk1 : ((l.length - 1 : Nat) : Int) < (l.length : Int) := by omega
    have hlast : lastOk l seq = (l[l.length - 1].seq == seq) := by
     unfold lastOk
     rw [List.getLast?_eq_getElem?, List.getElem?_eq_getElem hll]
    rw [hlast] at HZ
    clear c0 c1 c3 c4 hl0 hlast
    generalize l[l.length - 1].seq = y at *
    by_cases hy : y = seq
    ·have hyb : (y != seq) = false := by simpa using hy
     have HQ := Lib.hid (show res = 0 by rw [← HZ.out]; simp [hy])
     clear hy HZ
     go_wp2_with fail
     go_quiet (fail)
     go_wp2_with fail
     go_ret
     refine ⟨ret_int (by rw [HQ.out]), ?_⟩
     exact extA
    ·have hyb : (y != seq) = true := by simpa using hy
     have HQ := Lib.hid (show res = 4 by rw [← HZ.out]; simp [hy])
     clear hy HZ
     go_wp2_with fail
     go_quiet (fail)
     go_wp2_with fail
     go_ret
     refine ⟨ret_int (by rw [HQ.out]), ?_⟩
     exact extA
end Go.Proofs.YteojjbhadgkfgaaGreat

/- gate.Check. -/
namespace Go.Proofs.YteojjbhadgkfgaaGreat
set_option linter.unusedSimpArgs false
set_option linter.unusedVariables false
set_option maxRecDepth 100000
open Go Go.RowKit Lb

set_option maxHeartbeats 8000000 in
theorem gate_Check (g : Gt) (sa si : Value) (w : World) (hr : RdL 5 tpc w sa g.alone) (hs : RdL 1 inc w si g.denied.ids) :
  Calls Tryz.prog 76 #[.agg (gta g sa si)] w fun e w' => e = .returned (.int .i64 (ckGate g)) ∧ Ext w w' := by
 have HAL := Lib.hid (fun (w' : World) (h : Ext w w') => gate_alone g sa si w' (hr.ext h) (by obtain ⟨A, c, h, -, -⟩ := hs.form; exact ⟨_, _, _, h⟩))
 have HDN := Lib.hid (fun (w' : World) (h : Ext w w') => denied_Check g.denied si w' (hs.ext h))
 have HW1 := Lib.hid (fun w => gate_within g.id 0 2 w)
 have HW2 := Lib.hid (fun w => gate_within g.seq 0 99 w)
 have HW4 := Lib.hid (fun w => gate_within g.left 0 9 w)
 have HW5 := Lib.hid (fun w => gate_within g.untl 0 10099 w)
 have HZN := Lib.hid (fun w => rule_Zone g.zone w)
 have hE : ckGate g = if within g.id 0 2 = false ∨ within g.seq 0 99 = false then 3 else if isZone g.zone = false then 9 else if 12 < g.alone.length then 2 else if aloneE g ≠ 0 then aloneE g else if ckDn g.denied ≠ 0 then ckDn g.denied else if within g.left 0 9 = false ∨ within g.untl 0 10099 = false then 3 else 0 := rfl
 obtain ⟨A, c, rfl, hmc, hmm⟩ := hr.form
 obtain ⟨A2, c2, rfl, -, -⟩ := hs.form
 have hm : g.alone.length ≤ 9223372036854775807 := by unfold maxLen at hmm; omega
 unfold gta at HAL ⊢
 generalize within g.id 0 2 = z1 at *
 generalize within g.seq 0 99 = z2 at *
 generalize isZone g.zone = z3 at *
 generalize aloneE g = a at *
 generalize ckDn g.denied = d at *
 generalize within g.left 0 9 = z4 at *
 generalize within g.untl 0 10099 = z5 at *
 clear hr hs hmc hmm
 cases z1
 ·have HQ := Lib.hid (show ckGate g = 3 by rw [hE]; simp [*])
  clear hE
  go_enter Tryz.func76, Tryz.ntmps76
  go_wp2_with fail
  refine (HW1.out _).mono ?_
  rintro e w' ⟨rfl, rfl⟩
  go_wp2_with fail
  go_ret
  refine ⟨ret_int (by rw [HQ.out]), ?_⟩
  exact extA
 ·cases z2
  ·have HQ := Lib.hid (show ckGate g = 3 by rw [hE]; simp [*])
   clear hE
   go_enter Tryz.func76, Tryz.ntmps76
   go_wp2_with fail
   refine (HW1.out _).mono ?_
   rintro e w' ⟨rfl, rfl⟩
   go_wp2_with fail
   refine (HW2.out _).mono ?_
   rintro e w' ⟨rfl, rfl⟩
   go_wp2_with fail
   go_ret
   refine ⟨ret_int (by rw [HQ.out]), ?_⟩
   exact extA
  ·cases z3
   ·have HQ := Lib.hid (show ckGate g = 9 by rw [hE]; simp [*])
    clear hE
    go_enter Tryz.func76, Tryz.ntmps76
    go_wp2_with fail
    refine (HW1.out _).mono ?_
    rintro e w' ⟨rfl, rfl⟩
    go_wp2_with fail
    refine (HW2.out _).mono ?_
    rintro e w' ⟨rfl, rfl⟩
    go_wp2_with fail
    (refine (HZN.out _).mono ?_; rintro e w1 ⟨rfl, h1⟩; have H1 := Lib.hid h1; have hz1 := h1.size; clear h1; (try simp only [World.size_alloc, size_set, World.heap_drewN, size_drew] at hz1); apply Row.use (w := w1) (g := w.heap.size); (focus (exact rowA)); intro q1_0 f1_0 l1_0 R1_0; (try simp only [lSet] at q1_0 R1_0))
    go_wp2_with fail
    go_ret
    refine ⟨ret_int (by rw [HQ.out]), ?_⟩
    exact extA
   ·by_cases hl : 12 < g.alone.length
    ·have hl' : (12 : Int) < (g.alone.length : Int) := by omega
     have HQ := Lib.hid (show ckGate g = 2 by rw [hE]; simp [hl])
     clear hE hl
     go_enter Tryz.func76, Tryz.ntmps76
     go_wp2_with fail
     refine (HW1.out _).mono ?_
     rintro e w' ⟨rfl, rfl⟩
     go_wp2_with fail
     refine (HW2.out _).mono ?_
     rintro e w' ⟨rfl, rfl⟩
     go_wp2_with fail
     (refine (HZN.out _).mono ?_; rintro e w1 ⟨rfl, h1⟩; have H1 := Lib.hid h1; have hz1 := h1.size; clear h1; (try simp only [World.size_alloc, size_set, World.heap_drewN, size_drew] at hz1); apply Row.use (w := w1) (g := w.heap.size); (focus (exact rowA)); intro q1_0 f1_0 l1_0 R1_0; (try simp only [lSet] at q1_0 R1_0))
     go_wp2_with fail
     go_ret
     refine ⟨ret_int (by rw [HQ.out]), ?_⟩
     exact extA
    ·have hl' : ¬ (12 : Int) < (g.alone.length : Int) := by omega
     by_cases ha : a = 0
     ·by_cases hd : d = 0
      ·subst ha hd
       cases z4
       ·have HQ := Lib.hid (show ckGate g = 3 by rw [hE]; simp [hl])
        clear hE hl
        go_enter Tryz.func76, Tryz.ntmps76
        go_wp2_with fail
        refine (HW1.out _).mono ?_
        rintro e w' ⟨rfl, rfl⟩
        go_wp2_with fail
        refine (HW2.out _).mono ?_
        rintro e w' ⟨rfl, rfl⟩
        go_wp2_with fail
        (refine (HZN.out _).mono ?_; rintro e w1 ⟨rfl, h1⟩; have H1 := Lib.hid h1; have hz1 := h1.size; clear h1; (try simp only [World.size_alloc, size_set, World.heap_drewN, size_drew] at hz1); apply Row.use (w := w1) (g := w.heap.size); (focus (exact rowA)); intro q1_0 f1_0 l1_0 R1_0; (try simp only [lSet] at q1_0 R1_0))
        go_wp2_with fail
        (refine (HAL.out _ (by exact extA)).mono ?_; rintro e w2 ⟨rfl, h2⟩; have H2 := Lib.hid h2; have hz2 := h2.size; clear h2; (try simp only [World.size_alloc, size_set, World.heap_drewN, size_drew] at hz2); apply Row.use (w := w2) (g := w.heap.size); (focus (exact rowA)); intro q2_0 f2_0 l2_0 R2_0; (try simp only [lSet] at q2_0 R2_0))
        go_wp2_with fail
        (refine (HDN.out _ (by exact extA)).mono ?_; rintro e w3 ⟨rfl, h3⟩; have H3 := Lib.hid h3; have hz3 := h3.size; clear h3; (try simp only [World.size_alloc, size_set, World.heap_drewN, size_drew] at hz3); apply Row.use (w := w3) (g := w.heap.size); (focus (exact rowA)); intro q3_0 f3_0 l3_0 R3_0; (try simp only [lSet] at q3_0 R3_0))
        go_wp2_with fail
        refine (HW4.out _).mono ?_
        rintro e w' ⟨rfl, rfl⟩
        go_wp2_with fail
        go_ret
        refine ⟨ret_int (by rw [HQ.out]), ?_⟩
        exact extA
       ·cases z5
        ·have HQ := Lib.hid (show ckGate g = 3 by rw [hE]; simp [hl])
         clear hE hl
         go_enter Tryz.func76, Tryz.ntmps76
         go_wp2_with fail
         refine (HW1.out _).mono ?_
         rintro e w' ⟨rfl, rfl⟩
         go_wp2_with fail
         refine (HW2.out _).mono ?_
         rintro e w' ⟨rfl, rfl⟩
         go_wp2_with fail
         (refine (HZN.out _).mono ?_; rintro e w1 ⟨rfl, h1⟩; have H1 := Lib.hid h1; have hz1 := h1.size; clear h1; (try simp only [World.size_alloc, size_set, World.heap_drewN, size_drew] at hz1); apply Row.use (w := w1) (g := w.heap.size); (focus (exact rowA)); intro q1_0 f1_0 l1_0 R1_0; (try simp only [lSet] at q1_0 R1_0))
         go_wp2_with fail
         (refine (HAL.out _ (by exact extA)).mono ?_; rintro e w2 ⟨rfl, h2⟩; have H2 := Lib.hid h2; have hz2 := h2.size; clear h2; (try simp only [World.size_alloc, size_set, World.heap_drewN, size_drew] at hz2); apply Row.use (w := w2) (g := w.heap.size); (focus (exact rowA)); intro q2_0 f2_0 l2_0 R2_0; (try simp only [lSet] at q2_0 R2_0))
         go_wp2_with fail
         (refine (HDN.out _ (by exact extA)).mono ?_; rintro e w3 ⟨rfl, h3⟩; have H3 := Lib.hid h3; have hz3 := h3.size; clear h3; (try simp only [World.size_alloc, size_set, World.heap_drewN, size_drew] at hz3); apply Row.use (w := w3) (g := w.heap.size); (focus (exact rowA)); intro q3_0 f3_0 l3_0 R3_0; (try simp only [lSet] at q3_0 R3_0))
         go_wp2_with fail
         refine (HW4.out _).mono ?_
         rintro e w' ⟨rfl, rfl⟩
         go_wp2_with fail
         refine (HW5.out _).mono ?_
         rintro e w' ⟨rfl, rfl⟩
         go_wp2_with fail
         go_ret
         refine ⟨ret_int (by rw [HQ.out]), ?_⟩
         exact extA
        ·have HQ := Lib.hid (show ckGate g = 0 by rw [hE]; simp [hl])
         clear hE hl
         go_enter Tryz.func76, Tryz.ntmps76
         go_wp2_with fail
         refine (HW1.out _).mono ?_
         rintro e w' ⟨rfl, rfl⟩
         go_wp2_with fail
         refine (HW2.out _).mono ?_
         rintro e w' ⟨rfl, rfl⟩
         go_wp2_with fail
         (refine (HZN.out _).mono ?_; rintro e w1 ⟨rfl, h1⟩; have H1 := Lib.hid h1; have hz1 := h1.size; clear h1; (try simp only [World.size_alloc, size_set, World.heap_drewN, size_drew] at hz1); apply Row.use (w := w1) (g := w.heap.size); (focus (exact rowA)); intro q1_0 f1_0 l1_0 R1_0; (try simp only [lSet] at q1_0 R1_0))
         go_wp2_with fail
         (refine (HAL.out _ (by exact extA)).mono ?_; rintro e w2 ⟨rfl, h2⟩; have H2 := Lib.hid h2; have hz2 := h2.size; clear h2; (try simp only [World.size_alloc, size_set, World.heap_drewN, size_drew] at hz2); apply Row.use (w := w2) (g := w.heap.size); (focus (exact rowA)); intro q2_0 f2_0 l2_0 R2_0; (try simp only [lSet] at q2_0 R2_0))
         go_wp2_with fail
         (refine (HDN.out _ (by exact extA)).mono ?_; rintro e w3 ⟨rfl, h3⟩; have H3 := Lib.hid h3; have hz3 := h3.size; clear h3; (try simp only [World.size_alloc, size_set, World.heap_drewN, size_drew] at hz3); apply Row.use (w := w3) (g := w.heap.size); (focus (exact rowA)); intro q3_0 f3_0 l3_0 R3_0; (try simp only [lSet] at q3_0 R3_0))
         go_wp2_with fail
         refine (HW4.out _).mono ?_
         rintro e w' ⟨rfl, rfl⟩
         go_wp2_with fail
         refine (HW5.out _).mono ?_
         rintro e w' ⟨rfl, rfl⟩
         go_wp2_with fail
         go_ret
         refine ⟨ret_int (by rw [HQ.out]), ?_⟩
         exact extA
      ·subst ha
       have hdb : (d != 0) = true := by simpa using hd
       have HQ := Lib.hid (show ckGate g = d by rw [hE]; simp [hl, hd])
       clear hE hl hd
       go_enter Tryz.func76, Tryz.ntmps76
       go_wp2_with fail
       refine (HW1.out _).mono ?_
       rintro e w' ⟨rfl, rfl⟩
       go_wp2_with fail
       refine (HW2.out _).mono ?_
       rintro e w' ⟨rfl, rfl⟩
       go_wp2_with fail
       (refine (HZN.out _).mono ?_; rintro e w1 ⟨rfl, h1⟩; have H1 := Lib.hid h1; have hz1 := h1.size; clear h1; (try simp only [World.size_alloc, size_set, World.heap_drewN, size_drew] at hz1); apply Row.use (w := w1) (g := w.heap.size); (focus (exact rowA)); intro q1_0 f1_0 l1_0 R1_0; (try simp only [lSet] at q1_0 R1_0))
       go_wp2_with fail
       (refine (HAL.out _ (by exact extA)).mono ?_; rintro e w2 ⟨rfl, h2⟩; have H2 := Lib.hid h2; have hz2 := h2.size; clear h2; (try simp only [World.size_alloc, size_set, World.heap_drewN, size_drew] at hz2); apply Row.use (w := w2) (g := w.heap.size); (focus (exact rowA)); intro q2_0 f2_0 l2_0 R2_0; (try simp only [lSet] at q2_0 R2_0))
       go_wp2_with fail
       (refine (HDN.out _ (by exact extA)).mono ?_; rintro e w3 ⟨rfl, h3⟩; have H3 := Lib.hid h3; have hz3 := h3.size; clear h3; (try simp only [World.size_alloc, size_set, World.heap_drewN, size_drew] at hz3); apply Row.use (w := w3) (g := w.heap.size); (focus (exact rowA)); intro q3_0 f3_0 l3_0 R3_0; (try simp only [lSet] at q3_0 R3_0))
       go_wp2_with fail
       go_ret
       refine ⟨ret_int (by rw [HQ.out]), ?_⟩
       exact extA
     ·have hab : (a != 0) = true := by simpa using ha
      have HQ := Lib.hid (show ckGate g = a by rw [hE]; simp [hl, ha])
      clear hE hl ha
      go_enter Tryz.func76, Tryz.ntmps76
      go_wp2_with fail
      refine (HW1.out _).mono ?_
      rintro e w' ⟨rfl, rfl⟩
      go_wp2_with fail
      refine (HW2.out _).mono ?_
      rintro e w' ⟨rfl, rfl⟩
      go_wp2_with fail
      (refine (HZN.out _).mono ?_; rintro e w1 ⟨rfl, h1⟩; have H1 := Lib.hid h1; have hz1 := h1.size; clear h1; (try simp only [World.size_alloc, size_set, World.heap_drewN, size_drew] at hz1); apply Row.use (w := w1) (g := w.heap.size); (focus (exact rowA)); intro q1_0 f1_0 l1_0 R1_0; (try simp only [lSet] at q1_0 R1_0))
      go_wp2_with fail
      (refine (HAL.out _ (by exact extA)).mono ?_; rintro e w2 ⟨rfl, h2⟩; have H2 := Lib.hid h2; have hz2 := h2.size; clear h2; (try simp only [World.size_alloc, size_set, World.heap_drewN, size_drew] at hz2); apply Row.use (w := w2) (g := w.heap.size); (focus (exact rowA)); intro q2_0 f2_0 l2_0 R2_0; (try simp only [lSet] at q2_0 R2_0))
      go_wp2_with fail
      go_ret
      refine ⟨ret_int (by rw [HQ.out]), ?_⟩
      exact extA
end Go.Proofs.YteojjbhadgkfgaaGreat

/- gate.Own, early. -/
namespace Go.Proofs.YteojjbhadgkfgaaGreat
set_option linter.unusedSimpArgs false
set_option linter.unusedVariables false
set_option maxRecDepth 100000
open Go Go.RowKit Lb

set_option maxHeartbeats 8000000 in
theorem gate_Own (g : Gt) (sa si : Value) (w : World) (hr : RdL 5 tpc w sa g.alone) (hs : RdL 1 inc w si g.denied.ids) (ha : g.alone.length ≤ 100) (hd : g.denied.ids.length ≤ 100) :
  Calls Tryz.prog 125 #[.agg (gta g sa si)] w fun e w' => ∃ sa' si', e = .returned (.agg (gta g sa' si')) ∧ Ext w w' ∧ OwnL 57 5 tpc w.heap.size w' sa' g.alone ∧ OwnL 3 1 inc w.heap.size w' si' g.denied.ids ∧ (∀ q, sa'.ownBlock = some q → si'.ownBlock ≠ some q) := by
 have HC := Lib.hid (fun (w' : World) (h : Ext w w') => Clone_tp g.alone sa w' (hr.ext h) (by omega))
 have HD := Lib.hid (fun (w' : World) (h : Ext w w') => denied_Own g.denied si w' (hs.ext h) (by omega))
 obtain ⟨A, c, rfl, -, -⟩ := hr.form
 obtain ⟨A2, c2, rfl, -, -⟩ := hs.form
 unfold gta
 clear hr hs
 go_enter Tryz.func125, Tryz.ntmps125
 go_wp2_with fail
 go_region_with (first
  | (go_at_call 130; refine (HC.out _ (by exact extA)).mono ?_; rintro e wa ⟨va, rfl, ha, hoa⟩; obtain ⟨Aa, ca, rfl⟩ := hoa.form; have hza := ha.size; have HA := Lib.hid ha; (try simp only [World.size_alloc, size_set, World.heap_drewN, size_drew] at hza); (try simp only [World.size_alloc, size_set, World.heap_drewN, size_drew] at hoa); have HOA := Lib.hid hoa; clear ha hoa; (apply Row.use (w := wa) (g := w.heap.size); (focus (exact rowA)); intro qa_0 fa_0 la_0 Ra_0; (try simp only [lSet] at qa_0 Ra_0); apply Row.use (w := wa) (g := w.heap.size + 1); (focus (exact rowA)); intro qa_1 fa_1 la_1 Ra_1; (try simp only [lSet] at qa_1 Ra_1)))
  | (go_at_call 144; refine (HD.out _ (by exact extA)).mono ?_; rintro e wb ⟨vb, rfl, hb, hob⟩; obtain ⟨Ab, cb, rfl⟩ := hob.form; have hzb := hb.size; have HB := Lib.hid hb; (try simp only [World.size_alloc, size_set, World.heap_drewN, size_drew] at hzb); (try simp only [World.size_alloc, size_set, World.heap_drewN, size_drew] at hob); have HOB := Lib.hid hob; clear hb hob; (apply Row.use (w := wb) (g := w.heap.size); (focus (exact rowA)); intro qb_0 fb_0 lb_0 Rb_0; (try simp only [lSet] at qb_0 Rb_0); apply Row.use (w := wb) (g := w.heap.size + 1); (focus (exact rowA)); intro qb_1 fb_1 lb_1 Rb_1; (try simp only [lSet] at qb_1 Rb_1))))
 all_goals
  go_wp2_with fail
  refine bodyPost_ret (v := .agg #[.int .i64 g.id, .int .i64 g.zone, .int .i64 g.seq, .slice Aa g.alone.length ca, .int .i64 g.denied.version, .slice Ab g.denied.ids.length cb, .int .i64 g.left, .int .i64 g.untl]) (by simp [results, Tryz.results125, go_sem, *]) rfl ⟨_, _, rfl, ?_, ?_, ?_, ?_⟩
  ·exact extA
  ·first | ((refine OwnL.lower (base := w.heap.size + 1 + 1) ?_ (by omega); repeat (first | (with_reducible assumption) | (with_reducible exact Hid.out ‹Hid (OwnL _ _ _ _ _ _ _)›) | (with_reducible apply OwnL.setC; focus (simp <;> omega)) | (with_reducible refine OwnL.put ?_ (by assumption) _) | (with_reducible apply OwnL.alloc) | (with_reducible apply OwnL.drew) | (with_reducible apply OwnL.drewN) | (with_reducible refine OwnL.ext ?_ (Hid.out ‹Hid (Ext _ _)›)))); done) | ((refine OwnL.lower (base := wb.heap.size) ?_ (by omega); repeat (first | (with_reducible assumption) | (with_reducible exact Hid.out ‹Hid (OwnL _ _ _ _ _ _ _)›) | (with_reducible apply OwnL.setC; focus (simp <;> omega)) | (with_reducible refine OwnL.put ?_ (by assumption) _) | (with_reducible apply OwnL.alloc) | (with_reducible apply OwnL.drew) | (with_reducible apply OwnL.drewN) | (with_reducible refine OwnL.ext ?_ (Hid.out ‹Hid (Ext _ _)›)))); done)
  ·first | ((refine OwnL.lower (base := w.heap.size + 1 + 1) ?_ (by omega); repeat (first | (with_reducible assumption) | (with_reducible exact Hid.out ‹Hid (OwnL _ _ _ _ _ _ _)›) | (with_reducible apply OwnL.setC; focus (simp <;> omega)) | (with_reducible refine OwnL.put ?_ (by assumption) _) | (with_reducible apply OwnL.alloc) | (with_reducible apply OwnL.drew) | (with_reducible apply OwnL.drewN) | (with_reducible refine OwnL.ext ?_ (Hid.out ‹Hid (Ext _ _)›)))); done) | ((refine OwnL.lower (base := wa.heap.size) ?_ (by omega); repeat (first | (with_reducible assumption) | (with_reducible exact Hid.out ‹Hid (OwnL _ _ _ _ _ _ _)›) | (with_reducible apply OwnL.setC; focus (simp <;> omega)) | (with_reducible refine OwnL.put ?_ (by assumption) _) | (with_reducible apply OwnL.alloc) | (with_reducible apply OwnL.drew) | (with_reducible apply OwnL.drewN) | (with_reducible refine OwnL.ext ?_ (Hid.out ‹Hid (Ext _ _)›)))); done)
  ·intro q h1 h2
   have ha := HOA.out.lt q h1
   have hb := HOB.out.lt q h2
   omega

theorem early_nil (time : Int) : Lb.early [] time = false := rfl
theorem early_last {l : List Tp} (h : l.length - 1 < l.length) (time : Int) : Lb.early l time = decide (time < l[l.length - 1].time) := by
 unfold Lb.early
 rw [List.getLast?_eq_getElem?, List.getElem?_eq_getElem h]
set_option maxHeartbeats 4000000 in
theorem keeper_early (g : Gt) (sa si : Value) (time : Int) (b0 : Nat) (w : World) (hr : RdL 5 tpc w sa g.alone) (hg : Row w b0 (gta g sa si)) :
  Calls Tryz.prog 162 #[.pointer (some ⟨b0, 0, none⟩), .int .i64 time] w fun e w' => e = .returned (.bool (Lb.early g.alone time)) ∧ Ext w w' := by
 obtain ⟨A, c, rfl, hmc, hmm⟩ := hr.form
 have hm : g.alone.length ≤ 9223372036854775807 := by unfold maxLen at hmm; omega
 have hq := hg.2.1
 have hlt := hg.1
 unfold gta at hq
 have HR := Lib.hid hr
 clear hg hr hmc hmm
 by_cases hl0 : g.alone = []
 ·rw [hl0]
  have hz : g.alone.length = 0 := by rw [hl0]; rfl
  rw [early_nil]
  have hn0 : decide (0 < g.alone.length) = false := by rw [hz]; rfl
  clear hl0
  go_enter Tryz.func162, Tryz.ntmps162
  go_wp2_with fail
  try (go_quiet (fail); go_wp2_with fail)
  go_ret
  refine ⟨ret_bool (by simp), ?_⟩
  exact extA
 ·have hlp : 0 < g.alone.length := List.length_pos_iff.2 hl0
  have hn0 : decide (0 < g.alone.length) = true := by simpa using hlp
  have hll : g.alone.length - 1 < g.alone.length := by omega
  obtain ⟨b, o, rfl, hb, -, -, -, c3, -⟩ := HR.out.tp_at rfl hll
  have hw1 : IntKind.i64.wrap ((g.alone.length : Int) - 1) = ((g.alone.length - 1 : Nat) : Int) := by rw [IntWalk.i64_in _ (by omega)]; omega
  have hk1 : ((g.alone.length - 1 : Nat) : Int) < (g.alone.length : Int) := by omega
  rw [early_last hll]
  clear hl0
  generalize g.alone[g.alone.length - 1].time = y at *
  have hd : decide (time < y) = true ∨ decide (time < y) = false := by cases decide (time < y) <;> simp
  rcases hd with hd | hd
  all_goals
   rw [hd]
   go_enter Tryz.func162, Tryz.ntmps162
   go_wp2_with fail
   try (go_quiet (fail); go_wp2_with fail)
   go_ret
   refine ⟨ret_bool (by simp_all), ?_⟩
   exact extA
end Go.Proofs.YteojjbhadgkfgaaGreat

/- gate: spent; a ticket is tapped. -/
namespace Go.Proofs.YteojjbhadgkfgaaGreat
set_option linter.unusedSimpArgs false
set_option linter.unusedVariables false
set_option maxRecDepth 100000
open Go Go.RowKit Lb

theorem spent_one (x : Tp) (t : Tk) (g : Nat) (w : World) (hr : Row w g (tkc t)) :
  Calls Tryz.prog 181 #[.agg (tpc x), .pointer (some ⟨g, 0, none⟩)] w fun e w' => e = .returned (.bool (x.ticket == t.id)) ∧ Ext w w' := by
 obtain ⟨x0, x1, x2, x3, x4⟩ := x
 obtain ⟨t0, t1, t2, t3, t4, t5⟩ := t
 unfold tpc
 unfold tkc at hr
 apply Row.use hr; intro q f l R
 clear hr
 go_enter Tryz.func181, Tryz.ntmps181
 go_wp2
 all_goals
  go_ret
  refine ⟨ret_bool ?_, ?_⟩
  ·simp_all
  ·exact extA

set_option maxHeartbeats 4000000 in
theorem keeper_spent (g : Gt) (sa si : Value) (t : Tk) (b0 : Nat) (w : World) (hr : RdL 5 tpc w sa g.alone) (hg : Row w b0 (gta g sa si)) :
  Calls Tryz.prog 164 #[.pointer (some ⟨b0, 0, none⟩), .agg (tkc t)] w fun e w' => e = .returned (.bool (g.left == 0 || (t.kind != 2 && twiceG g t.id))) ∧ Ext w w' := by
 have HC := Lib.hid (fun (w' : World) (b : Nat) (h : Ext w w') (hb : Row w' b (tkc t)) => ContainsFunc_tpx (fun p => p.ticket == t.id) 181 #[.pointer (some ⟨b, 0, none⟩)] (fun args w => by simp [go_sem]) g.alone sa w' (hr.ext h) (fun W x hE => spent_one x t b W (hb.ext hE)))
 have htw : g.alone.any (fun p => p.ticket == t.id) = twiceG g t.id := rfl
 rw [htw] at HC
 generalize twiceG g t.id = z at HC ⊢
 obtain ⟨A, c, rfl, -, -⟩ := hr.form
 obtain ⟨t0, t1, t2, t3, t4, t5⟩ := t
 have hq := hg.2.1
 have hlt := hg.1
 have HG := Lib.hid hg
 unfold gta at hq HG
 unfold tkc at HC ⊢
 simp only
 have hlt1 : b0 < w.heap.size + 1 := by omega
 generalize g.left = left at *
 clear hr hg htw
 go_enter Tryz.func164, Tryz.ntmps164
 go_wp2_with fail
 refine (HC.out _ _ (by exact extA) (Row.newAt rfl)).mono ?_
 rintro e w1 ⟨rfl, h1⟩
 have H1 := Lib.hid h1
 clear h1
 (apply Row.use (w := w1) (g := b0); (focus (exact rowA)); intro q1_0 f1_0 l1_0 R1_0; (try simp only [lSet] at q1_0 R1_0); apply Row.use (w := w1) (g := w.heap.size); (focus (exact rowA)); intro q1_1 f1_1 l1_1 R1_1; (try simp only [lSet] at q1_1 R1_1))
 have hb1 : (left == 0) = true ∨ (left == 0) = false := by cases (left == 0) <;> simp
 have hb2 : (t1 != 2) = true ∨ (t1 != 2) = false := by cases (t1 != 2) <;> simp
 rcases hb1 with hb1 | hb1 <;> rcases hb2 with hb2 | hb2 <;> cases z
 all_goals
  go_wp2_with fail
  go_ret
  refine ⟨ret_bool (by simp_all), ?_⟩
  exact extA

theorem own_ne {v u : Value} {b n : Nat} (h : v.ownBlock = u.ownBlock ∨ v.ownBlock = some n) (hu : u.ownBlock ≠ some b) (hb : b < n) : v.ownBlock ≠ some b := by
 rcases h with h | h
 ·rw [h]; exact hu
 ·rw [h]; intro e; injection e with e; omega
theorem taps_one (l : List Tp) : ∀ u ∈ encs tpc l, u.oneCell' = true := by
 intro u hu
 obtain ⟨x, -, hx⟩ := List.mem_flatMap.1 hu
 simp [tpc] at hx
 (rcases hx with rfl | rfl | rfl | rfl | rfl) <;> rfl
theorem zones_ok' {t : Tk} (h : ckTicket t = 0) : 0 ≤ t.zones ∧ t.zones < 16 := by
 unfold ckTicket at h
 cases hw : within t.zones 1 15 with
 | true => simp [within] at hw; omega
 | false => simp [hw] at h
theorem gta_tapped (g : Gt) (t : Tk) (time : Int) (sa' si : Value) : gta (tapped g t time) sa' si = #[.int .i64 g.id, .int .i64 g.zone, .int .i64 (g.seq + 1), sa', .int .i64 g.denied.version, si, .int .i64 (g.left - 1), .int .i64 g.untl] := rfl

set_option maxHeartbeats 16000000 in
theorem keeper_tap (g : Gt) (sa si : Value) (t : Tk) (time : Int) (b0 base : Nat) (w : World) (hgr : ckGate g = 0) (htk : ckTicket t = 0) (hoa : OwnL 57 5 tpc base w sa g.alone) (hoi : OwnL 3 1 inc base w si g.denied.ids)
  (hdis : ∀ q, sa.ownBlock = some q → si.ownBlock ≠ some q) (hna : sa.ownBlock ≠ some b0) (hni : si.ownBlock ≠ some b0) (hb : base ≤ b0) (hg : Row w b0 (gta g sa si)) :
  Calls Tryz.prog 126 #[.pointer (some ⟨b0, 0, none⟩), .agg (tkc t), .int .i64 time] w fun e w' => e = .returned (.int .i64 (tapE g t time)) ∧ Below base w w' ∧
   (tapE g t time = 0 → ∃ sa', Row w' b0 (gta (tapped g t time) sa' si) ∧ OwnL 57 5 tpc base w' sa' (tapped g t time).alone ∧ OwnL 3 1 inc base w' si g.denied.ids) := by
 have r := ckGate_ok.1 hgr
 have hE : tapE g t time = if within time 0 9999 = false then 3 else if Lb.early g.alone time = true then 4 else if g.denied.ids.contains t.id = true then 11 else if g.untl < time then 8 else if place t time g.zone ≠ 0 then place t time g.zone else if g.left = 0 ∨ t.kind ≠ 2 ∧ twiceG g t.id = true then 10 else if g.alone.length = 12 ∨ g.seq = 99 then 2 else 0 := rfl
 have hz := zones_ok' htk
 have HW := Lib.hid (fun w => gate_within time 0 9999 w)
 have HEA := Lib.hid (fun (w' : World) (h : Ext w w') => keeper_early g sa si time b0 w' ((hoa.rd tpc_size).ext h) (hg.ext h))
 have HCO := Lib.hid (fun (w' : World) (h : Ext w w') => slices_Contains_int g.denied.ids t.id si w' ((hoi.rd inc_size).ext h))
 have HPL := Lib.hid (fun (w' : World) => rule_Place t time g.zone w' hz.1 hz.2 r.zone)
 have HSP := Lib.hid (fun (w' : World) (h : Ext w w') => keeper_spent g sa si t b0 w' ((hoa.rd tpc_size).ext h) (hg.ext h))
 have hany : g.denied.ids.any (fun x => t.id == x) = g.denied.ids.contains t.id := by rw [List.contains_eq_any_beq]
 rw [hany] at HCO
 have hspd : (g.left == 0 || (t.kind != 2 && twiceG g t.id)) = decide (g.left = 0 ∨ t.kind ≠ 2 ∧ twiceG g t.id = true) := by
  rw [Bool.eq_iff_iff]
  simp
 rw [hspd] at HSP
 generalize hz1 : within time 0 9999 = z1 at *
 generalize Lb.early g.alone time = z2 at *
 generalize g.denied.ids.contains t.id = z3 at *
 generalize place t time g.zone = pl at *
 generalize hz6 : decide (g.left = 0 ∨ t.kind ≠ 2 ∧ twiceG g t.id = true) = z6 at *
 have hE6 : (g.left = 0 ∨ t.kind ≠ 2 ∧ twiceG g t.id = true) ↔ z6 = true := by rw [← hz6, decide_eq_true_eq]
 have hbw : base ≤ w.heap.size := Nat.le_trans hb (Nat.le_of_lt hg.1)
 have b2 := r.seq
 have b3 := r.left
 have hlen := r.len
 simp only [within, Bool.and_eq_true, decide_eq_true_eq] at b2 b3
 have hq := hg.2.1
 have hlt := hg.1
 have hf := hg.2.2
 have HGR := Lib.hid hg
 have HOA := Lib.hid hoa
 have HOI := Lib.hid hoi
 obtain ⟨A, c, rfl⟩ := hoa.form
 obtain ⟨A2, c2, rfl⟩ := hoi.form
 obtain ⟨i0, ji, ji0, ji1, ji2⟩ := info_parts info_tp
 have hlt1 : b0 < w.heap.size + 1 := by omega
 rw [show tkc t = #[.int .i64 t.id, .int .i64 t.kind, .int .i64 t.frm, .int .i64 t.til, .int .i64 t.zones, .int .i64 t.rides] from rfl] at HSP HPL ⊢
 unfold gta at hq HGR
 clear hg hoa hoi hgr htk hspd hz hany r
 go_enter Tryz.func126, Tryz.ntmps126
 go_wp2_with fail
 refine (HW.out _).mono ?_
 rintro e w' ⟨rfl, rfl⟩
 cases z1
 ·have HQ := Lib.hid (show tapE g t time = 3 by rw [hE]; simp)
  clear hE hE6
  go_wp2_with fail
  go_ret
  refine ⟨ret_int (by rw [HQ.out]), Below.mono (show Ext w _ by exact extA) hbw, fun h => ?_⟩
  rw [HQ.out] at h
  simp at h
 ·go_wp2_with fail
  (refine (HEA.out _ (by exact extA)).mono ?_; rintro e w1 ⟨rfl, h1⟩; have H1 := Lib.hid h1; have hz1 := h1.size; clear h1; (try simp only [World.size_alloc, size_set, World.heap_drewN, size_drew] at hz1); apply Row.use (w := w1) (g := b0); (focus (exact rowA)); intro q1_0 f1_0 l1_0 R1_0; (try simp only [lSet] at q1_0 R1_0); apply Row.use (w := w1) (g := w.heap.size); (focus (exact rowA)); intro q1_1 f1_1 l1_1 R1_1; (try simp only [lSet] at q1_1 R1_1))
  cases z2
  rotate_left
  ·have HQ := Lib.hid (show tapE g t time = 4 by rw [hE]; simp)
   clear hE hE6
   go_wp2_with fail
   go_ret
   refine ⟨ret_int (by rw [HQ.out]), Below.mono (show Ext w _ by exact extA) hbw, fun h => ?_⟩
   rw [HQ.out] at h
   simp at h
  ·go_wp2_with fail
   go_quiet ((go_at_call 88; exact Calls.quiet_of_same ((HCO.out _ (by exact extA)).mono (fun e w' h => ⟨h.1, h.2.symm⟩))))
   cases z3
   rotate_left
   ·have HQ := Lib.hid (show tapE g t time = 11 by rw [hE]; simp)
    clear hE hE6
    go_wp2_with fail
    go_ret
    refine ⟨ret_int (by rw [HQ.out]), Below.mono (show Ext w _ by exact extA) hbw, fun h => ?_⟩
    rw [HQ.out] at h
    simp at h
   ·by_cases hu : g.untl < time
    ·have HQ := Lib.hid (show tapE g t time = 8 by rw [hE]; simp [hu])
     clear hE hE6
     go_wp2_with fail
     go_ret
     refine ⟨ret_int (by rw [HQ.out]), Below.mono (show Ext w _ by exact extA) hbw, fun h => ?_⟩
     rw [HQ.out] at h
     simp at h
    ·have hu2 : ¬ g.untl < time := hu
     go_wp2_with fail
     by_cases hp : pl = 0
     rotate_left
     ·have hpb : (pl != 0) = true := by simpa using hp
      have HQ := Lib.hid (show tapE g t time = pl by rw [hE, if_neg (by simp), if_neg (by simp), if_neg (by simp), if_neg (show ¬ g.untl < time by omega), if_pos hp])
      have HP0 := Lib.hid hp
      clear hE hE6 hp
      go_region_with ((go_at_call 163; (refine (HPL.out _).mono ?_; rintro e w2 ⟨rfl, h2⟩; have H2 := Lib.hid h2; have hz2 := h2.size; clear h2; (try simp only [World.size_alloc, size_set, World.heap_drewN, size_drew] at hz2); apply Row.use (w := w2) (g := b0); (focus (exact rowA)); intro q2_0 f2_0 l2_0 R2_0; (try simp only [lSet] at q2_0 R2_0); apply Row.use (w := w2) (g := w.heap.size); (focus (exact rowA)); intro q2_1 f2_1 l2_1 R2_1; (try simp only [lSet] at q2_1 R2_1))))
      all_goals
       go_wp2_with fail
       go_ret
       refine ⟨ret_int (by rw [HQ.out]), Below.mono (show Ext w _ by exact extA) hbw, fun h => ?_⟩
       rw [HQ.out] at h
       exact absurd h HP0.out
     ·subst hp
      go_region_with ((go_at_call 163; (refine (HPL.out _).mono ?_; rintro e w2 ⟨rfl, h2⟩; have H2 := Lib.hid h2; have hz2 := h2.size; clear h2; (try simp only [World.size_alloc, size_set, World.heap_drewN, size_drew] at hz2); apply Row.use (w := w2) (g := b0); (focus (exact rowA)); intro q2_0 f2_0 l2_0 R2_0; (try simp only [lSet] at q2_0 R2_0); apply Row.use (w := w2) (g := w.heap.size); (focus (exact rowA)); intro q2_1 f2_1 l2_1 R2_1; (try simp only [lSet] at q2_1 R2_1))))
      all_goals
       go_wp2_with fail
       (refine (HSP.out _ (by exact extA)).mono ?_; rintro e w3 ⟨rfl, h3⟩; have H3 := Lib.hid h3; have hz3 := h3.size; clear h3; (try simp only [World.size_alloc, size_set, World.heap_drewN, size_drew] at hz3); apply Row.use (w := w3) (g := b0); (focus (exact rowA)); intro q3_0 f3_0 l3_0 R3_0; (try simp only [lSet] at q3_0 R3_0); apply Row.use (w := w3) (g := w.heap.size); (focus (exact rowA)); intro q3_1 f3_1 l3_1 R3_1; (try simp only [lSet] at q3_1 R3_1))
       cases z6
       rotate_left
       ·have HQ := Lib.hid (show tapE g t time = 10 by rw [hE, if_neg (by simp), if_neg (by simp), if_neg (by simp), if_neg (show ¬ g.untl < time by omega), if_neg (by simp), if_pos (hE6.2 rfl)])
        clear hE hE6
        go_wp2_with fail
        go_ret
        refine ⟨ret_int (by rw [HQ.out]), Below.mono (show Ext w _ by exact extA) hbw, fun h => ?_⟩
        rw [HQ.out] at h
        simp at h
       ·have h6 : ¬ (g.left = 0 ∨ t.kind ≠ 2 ∧ twiceG g t.id = true) := fun h => by have := hE6.1 h; cases this
        have h6l : 0 < g.left := by
         have : g.left ≠ 0 := fun h => h6 (.inl h)
         omega
        by_cases hl : g.alone.length = 12
        ·have hlb : ((g.alone.length : Int) == 12) = true := by rw [hl]; rfl
         have HQ := Lib.hid (show tapE g t time = 2 by rw [hE, if_neg (by simp), if_neg (by simp), if_neg (by simp), if_neg (show ¬ g.untl < time by omega), if_neg (by simp), if_neg h6, if_pos (.inl hl)])
         clear hE hE6 h6
         go_wp2_with fail
         go_ret
         refine ⟨ret_int (by rw [HQ.out]), Below.mono (show Ext w _ by exact extA) hbw, fun h => ?_⟩
         rw [HQ.out] at h
         simp at h
        ·have hlb : ((g.alone.length : Int) == 12) = false := by rw [beq_eq_false_iff_ne]; omega
         by_cases hs : g.seq = 99
         ·have hsb : (g.seq == 99) = true := by rw [hs]; rfl
          have HQ := Lib.hid (show tapE g t time = 2 by rw [hE, if_neg (by simp), if_neg (by simp), if_neg (by simp), if_neg (show ¬ g.untl < time by omega), if_neg (by simp), if_neg h6, if_pos (.inr hs)])
          clear hE hE6 h6
          go_wp2_with fail
          go_ret
          refine ⟨ret_int (by rw [HQ.out]), Below.mono (show Ext w _ by exact extA) hbw, fun h => ?_⟩
          rw [HQ.out] at h
          simp at h
         ·have hsb : (g.seq == 99) = false := by rw [beq_eq_false_iff_ne]; omega
          have HQ := Lib.hid (show tapE g t time = 0 by rw [hE, if_neg (by simp), if_neg (by simp), if_neg (by simp), if_neg (show ¬ g.untl < time by omega), if_neg (by simp), if_neg h6, if_neg (by omega)])
          have hw1 : IntKind.i64.wrap (g.seq + 1) = g.seq + 1 := IntWalk.i64_in _ (by omega)
          have hw2 : IntKind.i64.wrap (g.left - 1) = g.left - 1 := IntWalk.i64_in _ (by omega)
          have hE3 : Ext w w3 := by exact extA
          have HE3 := Lib.hid hE3
          clear hE hE6 h6 hE3
          go_wp2_with fail
          have hr0 := ((R3_0.out.set_ (i := 2) (u := .int .i64 (g.seq + 1))).set_ (i := 6) (u := .int .i64 (g.left - 1)))
          have hr1 := Row.far (p := ⟨b0, 6, none⟩) (u := .int .i64 (g.left - 1)) (show w.heap.size ≠ b0 by omega) (Row.far (p := ⟨b0, 2, none⟩) (u := .int .i64 (g.seq + 1)) (show w.heap.size ≠ b0 by omega) R3_1.out)
          simp only [lSet] at hr0
          have HR0 := Lib.hid hr0
          have HR1 := Lib.hid hr1
          clear hr0 hr1
          have hoW := OwnL.put (a := ⟨b0, 6, none⟩) (OwnL.put (a := ⟨b0, 2, none⟩) (HOA.out.ext HE3.out) hna (.int .i64 (g.seq + 1))) hna (.int .i64 (g.left - 1))
          have hiW := OwnL.put (a := ⟨b0, 6, none⟩) (OwnL.put (a := ⟨b0, 2, none⟩) (HOI.out.ext HE3.out) hni (.int .i64 (g.seq + 1))) hni (.int .i64 (g.left - 1))
          have hBW := Below.setCell (p := ⟨b0, 6, none⟩) (Below.setCell (p := ⟨b0, 2, none⟩) (Below.mono HE3.out hbw) hb (.int .i64 (g.seq + 1))) hb (.int .i64 (g.left - 1))
          generalize (w3.setCell ⟨b0, 2, none⟩ (.int .i64 (g.seq + 1))).setCell ⟨b0, 6, none⟩ (.int .i64 (g.left - 1)) = W at *
          have hsz := Below.size hBW
          have HoW := Lib.hid hoW
          have HiW := Lib.hid hiW
          have HBW := Lib.hid hBW
          have hlW := HR0.out.1
          have hlW1 := HR1.out.1
          clear hoW hiW hBW
          refine T_begin (fun w' => (∀ o, w'.cell? ⟨b0, o, none⟩ = (#[.int .i64 g.id, .int .i64 g.zone, .int .i64 (g.seq + 1), .slice A g.alone.length c, .int .i64 g.denied.version, .slice A2 g.denied.ids.length c2, .int .i64 (g.left - 1), .int .i64 g.untl] : Array Value)[o]?) ∧ (∀ o, w'.cell? ⟨w.heap.size, o, none⟩ = (#[.int .i64 t.id, .int .i64 t.kind, .int .i64 t.frm, .int .i64 t.til, .int .i64 t.zones, .int .i64 t.rides] : Array Value)[o]?)) 30 (by kernel_rfl) ⟨fun o => HR0.out.2.1 o, fun o => HR1.out.2.1 o⟩ (fun hS => ?_)
          simp only [List.length_cons, List.length_nil]
          (refine tkS 0 hS ?_; (try simp only [Act.put, lSet]); refine tkS 1 hS ?_; (try simp only [Act.put, lSet]); refine tkS 2 hS ?_; (try simp only [Act.put, lSet]); refine tkS 3 hS ?_; (try simp only [Act.put, lSet]); refine tkS 4 hS ?_; (try simp only [Act.put, lSet]); refine tkS 5 hS ?_; (try simp only [Act.put, lSet]); refine tkS 6 hS ?_; (try simp only [Act.put, lSet]); refine tkS 7 hS ?_; (try simp only [Act.put, lSet]); refine tkS 8 hS ?_; (try simp only [Act.put, lSet]); refine tkS 9 hS ?_; (try simp only [Act.put, lSet]); refine tkS 10 hS ?_; (try simp only [Act.put, lSet]); refine tkS 11 hS ?_; (try simp only [Act.put, lSet]); refine tkS 12 hS ?_; (try simp only [Act.put, lSet]); refine tkS 13 hS ?_; (try simp only [Act.put, lSet]); refine tkS 14 hS ?_; (try simp only [Act.put, lSet]); refine tkS 15 hS ?_; (try simp only [Act.put, lSet]); refine tkS 16 hS ?_; (try simp only [Act.put, lSet]); refine tkS 17 hS ?_; (try simp only [Act.put, lSet]); refine tkS 18 hS ?_; (try simp only [Act.put, lSet]); refine tkS 19 hS ?_; (try simp only [Act.put, lSet]); refine tkS 20 hS ?_; (try simp only [Act.put, lSet]); refine tkS 21 hS ?_; (try simp only [Act.put, lSet]); refine tkS 22 hS ?_; (try simp only [Act.put, lSet]); refine tkS 23 hS ?_; (try simp only [Act.put, lSet]); refine tkS 24 hS ?_; (try simp only [Act.put, lSet]))
          refine T_only (i := 25) rfl (by kernel_rfl) rfl (fun K hK => ?_)
          go_simp
          refine hK.out _ _ (.inr ⟨fun o => HR0.out.drew.alloc.2.1 o, fun o => HR1.out.drew.alloc.2.1 o⟩) ?_
          clear hK hS
          (try simp only [Act.put, lSet])
          refine T_only (i := 26) rfl (by kernel_rfl) rfl (fun K hK => ?_)
          refine wp_append_rd (enc := tpc) (k := 5) _ (.tmp 91) (.tmp 111) 23 rfl base 57 i0 (.agg #[.int .i64 0, .int .i64 0, .int .i64 0, .int .i64 0, .int .i64 0]) 40 Tryz.underlying23 ji ji0 ji1 ji2 rfl (by decide) tpc_size (.slice A g.alone.length c) g.alone rfl (OwnL.alloc _ (OwnL.drew HoW.out)) (.slice (some ⟨W.heap.size, 0, none⟩) 1 1) [tapOf g t time] rfl (RdL.lit (enc := tpc) (tapOf g t time) rfl rfl) (taps_one _) (by unfold maxLen; simp; omega) (by simp; omega) (by simp; omega) ?_
          intro v' w' ho' hg' hn'
          obtain ⟨A', c', rfl⟩ := ho'.form
          have hr' := Row.grown (HR0.out.drew.alloc) hg' (fun h => hna h.symm)
          have hB' := Below.grown (Below.alloc (Below.drew HBW.out) (by simp; omega) _) hg' (by simp; omega) (fun q hq => (HOA.out.lt q hq).1)
          have hI' := OwnL.kept' (OwnL.alloc _ (OwnL.drew HiW.out)) hg' hdis
          have hr1' := Row.grown (HR1.out.drew.alloc) hg' (fun h => by have := (HOA.out.lt _ h.symm).2; omega)
          have hv' : (Value.slice A' (g.alone ++ [tapOf g t time]).length c').ownBlock ≠ some b0 := own_ne hn' hna (by simp; omega)
          have HR' := Lib.hid hr'
          have HR1' := Lib.hid hr1'
          have HB' := Lib.hid hB'
          have HO' := Lib.hid ho'
          have HI' := Lib.hid hI'
          have HV' := Lib.hid hv'
          have hq' := hr'.2.1
          have hf' := hr'.2.2
          have hlt' := hr'.1
          clear hr' hr1' hB' hI' hv' hg' hn' ho'
          refine hK.out _ _ (.inr ⟨fun o => HR'.out.2.1 o, fun o => HR1'.out.2.1 o⟩) ?_
          clear hK
          have hS := And.intro (fun o => HR'.out.2.1 o) (fun o => HR1'.out.2.1 o)
          (try simp only [Act.put, lSet])
          (refine tkS 27 hS ?_; (try simp only [Act.put, lSet]); refine tkS 28 hS ?_; (try simp only [Act.put, lSet]); refine tkS 29 hS ?_; (try simp only [Act.put, lSet]))
          clear hS
          refine T_only (i := 30) rfl (by kernel_rfl) rfl (fun K hK => ?_)
          go_simp
          refine hK.out _ _ (.inl (by kernel_rfl)) ?_
          clear hK
          refine T_done (by kernel_rfl) ?_ _
          all_goals
           go_wp2_with fail
           go_ret
           refine ⟨ret_int (by rw [HQ.out]), HB'.out.setCell hb _, fun _ => ⟨_, ?_, HO'.out.put HV'.out _, HI'.out.put hni _⟩⟩
           rw [gta_tapped]
           have := HR'.out.set_ (i := 3) (u := .slice A' (g.alone ++ [tapOf g t time]).length c')
           simpa using this
end Go.Proofs.YteojjbhadgkfgaaGreat

/- gate.Raw: a ticket that is right, at a gate that is. -/
namespace Go.Proofs.YteojjbhadgkfgaaGreat
set_option linter.unusedSimpArgs false
set_option linter.unusedVariables false
set_option maxRecDepth 100000
open Go Go.RowKit Lb

set_option maxHeartbeats 16000000 in
theorem gate_Raw (g : Gt) (sa si : Value) (t : Tk) (time : Int) (w : World) (hgr : ckGate g = 0) (htk : ckTicket t = 0) (hr : RdL 5 tpc w sa g.alone) (hs : RdL 1 inc w si g.denied.ids) :
  Calls Tryz.prog 79 #[.agg (gta g sa si), .agg (tkc t), .int .i64 time] w fun e w' => ∃ sa' si', e = .returned (.tuple #[.agg (gta (tapG g t time).1 sa' si'), .agg (tpc (tapG g t time).2.1), .int .i64 (tapG g t time).2.2]) ∧ Ext w w' ∧
   OwnL 57 5 tpc w.heap.size w' sa' (tapG g t time).1.alone ∧ OwnL 3 1 inc w.heap.size w' si' (tapG g t time).1.denied.ids := by
 have r := ckGate_ok.1 hgr
 have hl12 := r.len
 have hd12 := ((ckDn_ok g.denied).1 r.denied).2.1
 have HOwn := Lib.hid (fun (w' : World) (h : Ext w w') => gate_Own g sa si w' (hr.ext h) (hs.ext h) (by omega) (by omega))
 have HT := Lib.hid (fun (sa' si' : Value) (b0 base : Nat) (w' : World) => keeper_tap g sa' si' t time b0 base w' hgr htk)
 obtain ⟨A, c, rfl, -, -⟩ := hr.form
 obtain ⟨A2, c2, rfl, -, -⟩ := hs.form
 have hres : tapG g t time = if tapE g t time ≠ 0 then (gt0, tp0, tapE g t time) else (tapped g t time, tapOf g t time, 0) := rfl
 have hlast : (tapped g t time).alone[(tapped g t time).alone.length - 1]? = some (tapOf g t time) := by simp [tapped]
 have hlpos : 0 < (tapped g t time).alone.length := by simp [tapped]
 have hlm : (tapped g t time).alone.length ≤ 13 := by simp [tapped]; omega
 have hden : (tapped g t time).denied.ids = g.denied.ids := rfl
 generalize tapped g t time = G at *
 generalize tapOf g t time = X at *
 generalize tapE g t time = E at *
 rw [hres]
 clear hr hs hgr htk hres r hl12 hd12
 unfold gta at HOwn ⊢
 rw [show tkc t = #[.int .i64 t.id, .int .i64 t.kind, .int .i64 t.frm, .int .i64 t.til, .int .i64 t.zones, .int .i64 t.rides] from rfl] at HT ⊢
 rw [show tpc (if E ≠ 0 then (gt0, tp0, E) else (G, X, 0)).2.1 = #[.int .i64 (if E ≠ 0 then (gt0, tp0, E) else (G, X, 0)).2.1.ticket, .int .i64 (if E ≠ 0 then (gt0, tp0, E) else (G, X, 0)).2.1.gate, .int .i64 (if E ≠ 0 then (gt0, tp0, E) else (G, X, 0)).2.1.seq, .int .i64 (if E ≠ 0 then (gt0, tp0, E) else (G, X, 0)).2.1.time, .int .i64 (if E ≠ 0 then (gt0, tp0, E) else (G, X, 0)).2.1.zone] from rfl]
 go_enter Tryz.func79, Tryz.ntmps79
 go_wp2_with fail
 refine (HOwn.out _ (by exact extA)).mono ?_
 rintro e w1 ⟨sa1, si1, rfl, h1, ho1, hi1, hdis⟩
 obtain ⟨A1, c1, rfl⟩ := ho1.form
 obtain ⟨B1, d1, rfl⟩ := hi1.form
 have hz1 := h1.size
 have H1 := Lib.hid h1
 (try simp only [World.size_alloc, size_set, World.heap_drewN, size_drew] at hz1 ho1 hi1)
 have HO1 := Lib.hid ho1
 have HI1 := Lib.hid hi1
 have HD1 := Lib.hid hdis
 clear h1 ho1 hi1 hdis
 (apply Row.use (w := w1) (g := w.heap.size); (focus (exact rowA)); intro q1_0 f1_0 l1_0 R1_0; (try simp only [lSet] at q1_0 R1_0); apply Row.use (w := w1) (g := w.heap.size + 1); (focus (exact rowA)); intro q1_1 f1_1 l1_1 R1_1; (try simp only [lSet] at q1_1 R1_1); apply Row.use (w := w1) (g := w.heap.size + 1 + 1); (focus (exact rowA)); intro q1_2 f1_2 l1_2 R1_2; (try simp only [lSet] at q1_2 R1_2); apply Row.use (w := w1) (g := w.heap.size + 1 + 1 + 1); (focus (exact rowA)); intro q1_3 f1_3 l1_3 R1_3; (try simp only [lSet] at q1_3 R1_3))
 go_wp2_with fail
 have hna : (Value.slice A1 g.alone.length c1).ownBlock ≠ some w1.heap.size := fun h => by have := (HO1.out.lt _ h).2; omega
 have hni : (Value.slice B1 g.denied.ids.length d1).ownBlock ≠ some w1.heap.size := fun h => by have := (HI1.out.lt _ h).2; omega
 refine (HT.out (.slice A1 g.alone.length c1) (.slice B1 g.denied.ids.length d1) w1.heap.size (w.heap.size + 1 + 1 + 1 + 1) _ (HO1.out.alloc _) (HI1.out.alloc _) HD1.out hna hni (by omega) (Row.newAt rfl)).mono ?_
 rintro e w2 ⟨rfl, hB, hP⟩
 have hr0 : Row w2 w.heap.size _ := (Row.alloc R1_0.out).below hB (by omega)
 have hr1 : Row w2 (w.heap.size + 1) _ := (Row.alloc R1_1.out).below hB (by omega)
 have hr2 : Row w2 (w.heap.size + 1 + 1) _ := (Row.alloc R1_2.out).below hB (by omega)
 have hr3 : Row w2 (w.heap.size + 1 + 1 + 1) _ := (Row.alloc R1_3.out).below hB (by omega)
 have hB2 : Ext w w2 := by
  have : Ext w w1 := by exact extA
  exact Below.trans (this.alloc _) (Below.mono hB (by omega))
 have HE2 := Lib.hid hB2
 have hq0 := hr0.2.1
 have hq1 := hr1.2.1
 have hq2 := hr2.2.1
 have hq3 := hr3.2.1
 have hf2 := hr2.2.2
 have hf3 := hr3.2.2
 have hlt2 := hr3.1
 have HR2 := Lib.hid hr2
 have HR3 := Lib.hid hr3
 clear hB hB2 hr0 hr1 hr2 hr3
 by_cases h0 : E = 0
 ·subst h0
  obtain ⟨sa2, hrow2, ho2, hi2⟩ := hP rfl
  obtain ⟨A3, c3, rfl⟩ := ho2.form
  have hll : G.alone.length - 1 < G.alone.length := by omega
  obtain ⟨b, oo, rfl, hb, k0, k1, k2, k3, k4⟩ := (ho2.rd tpc_size).tp_at rfl hll
  rw [List.getElem?_eq_getElem hll] at hlast
  injection hlast with hlast
  rw [hlast] at k0 k1 k2 k3 k4
  have HO2 := Lib.hid ho2
  have HI2 := Lib.hid (show OwnL 3 1 inc _ _ _ G.denied.ids by rw [hden]; exact hi2)
  clear hden
  have hqb := hrow2.2.1
  have hltb := hrow2.1
  have HRB := Lib.hid hrow2
  unfold gta at hqb HRB
  clear hP hrow2 ho2 hi2 hlast
  have hw1 : IntKind.i64.wrap ((G.alone.length : Int) - 1) = ((G.alone.length - 1 : Nat) : Int) := by rw [IntWalk.i64_in _ (by omega)]; omega
  have hk1 : ((G.alone.length - 1 : Nat) : Int) < (G.alone.length : Int) := by omega
  have hk0 : (0 : Int) ≤ ((G.alone.length - 1 : Nat) : Int) := by omega
  simp only [ne_eq, not_true_eq_false, if_false]
  go_wp2_with fail
  have hbb := (HO2.out.lt b rfl).1
  have hb1 : w.heap.size + 1 + 1 ≠ b := by omega
  have hb2 : w.heap.size + 1 + 1 + 1 ≠ b := by omega
  refine T_begin (fun w' => (∀ o, w'.cell? ⟨w1.heap.size, o, none⟩ = (#[.int .i64 G.id, .int .i64 G.zone, .int .i64 G.seq, .slice (some ⟨b, oo, none⟩) G.alone.length c3, .int .i64 G.denied.version, .slice B1 g.denied.ids.length d1, .int .i64 G.left, .int .i64 G.untl] : Array Value)[o]?) ∧ w'.cell? ⟨b, oo + (G.alone.length - 1) * 5, none⟩ = some (.int .i64 X.ticket) ∧ w'.cell? ⟨b, oo + (G.alone.length - 1) * 5 + 1, none⟩ = some (.int .i64 X.gate) ∧ w'.cell? ⟨b, oo + (G.alone.length - 1) * 5 + 2, none⟩ = some (.int .i64 X.seq) ∧ w'.cell? ⟨b, oo + (G.alone.length - 1) * 5 + 3, none⟩ = some (.int .i64 X.time) ∧ w'.cell? ⟨b, oo + (G.alone.length - 1) * 5 + 4, none⟩ = some (.int .i64 X.zone)) 19 (by kernel_rfl) ⟨hqb, k0, k1, k2, k3, k4⟩ (fun hS => ?_)
  simp only [List.length_cons, List.length_nil]
  (refine tkS 0 hS ?_; (try simp only [Act.put, lSet]); refine tkS 1 hS ?_; (try simp only [Act.put, lSet]); refine tkS 2 hS ?_; (try simp only [Act.put, lSet]); refine tkS 3 hS ?_; (try simp only [Act.put, lSet]); refine tkS 4 hS ?_; (try simp only [Act.put, lSet]); refine tkS 5 hS ?_; (try simp only [Act.put, lSet]); refine tkS 6 hS ?_; (try simp only [Act.put, lSet]); refine tkS 7 hS ?_; (try simp only [Act.put, lSet]); refine tkS 8 hS ?_; (try simp only [Act.put, lSet]); refine tkS 9 hS ?_; (try simp only [Act.put, lSet]); refine tkS 10 hS ?_; (try simp only [Act.put, lSet]); refine tkS 11 hS ?_; (try simp only [Act.put, lSet]); refine tkS 12 hS ?_; (try simp only [Act.put, lSet]); refine tkS 13 hS ?_; (try simp only [Act.put, lSet]); refine tkS 14 hS ?_; (try simp only [Act.put, lSet]); refine tkS 15 hS ?_; (try simp only [Act.put, lSet]); refine tkS 16 hS ?_; (try simp only [Act.put, lSet]); refine tkS 17 hS ?_; (try simp only [Act.put, lSet]))
  clear hS
  refine T_only (i := 18) rfl (by kernel_rfl) rfl (fun K hK => ?_)
  go_simp
  refine hK.out _ _ (.inr ⟨(show Row _ w1.heap.size _ from ?_).2.1, ?_, ?_, ?_, ?_, ?_⟩) ?_
  ·exact rowA
  ·go_keep
  ·go_keep
  ·go_keep
  ·go_keep
  ·go_keep
  clear hK
  (try simp only [Act.put, lSet])
  refine T_only (i := 19) rfl (by kernel_rfl) rfl (fun K hK => ?_)
  go_simp
  refine hK.out _ _ (.inl (by kernel_rfl)) ?_
  clear hK
  (try simp only [Act.put, lSet])
  refine T_only (i := 20) rfl (by kernel_rfl) rfl (fun K hK => ?_)
  go_simp
  refine hK.out _ _ (.inl (by kernel_rfl)) ?_
  clear hK
  refine T_done (by kernel_rfl) ?_ _
  go_wp2_with fail
  refine bodyPost_ret (v := .tuple #[.agg #[.int .i64 G.id, .int .i64 G.zone, .int .i64 G.seq, .slice (some ⟨b, oo, none⟩) G.alone.length c3, .int .i64 G.denied.version, .slice B1 g.denied.ids.length d1, .int .i64 G.left, .int .i64 G.untl], .agg #[.int .i64 X.ticket, .int .i64 X.gate, .int .i64 X.seq, .int .i64 X.time, .int .i64 X.zone], .int .i64 0]) (by simp [results, Tryz.results79, go_sem, *]) rfl ⟨_, _, rfl, ?_, ?_, ?_⟩
  ·exact extA
  ·(refine OwnL.lower (base := w.heap.size + 1 + 1 + 1 + 1) ?_ (by omega); repeat (first | (with_reducible assumption) | (with_reducible exact Hid.out ‹Hid (OwnL _ _ _ _ _ _ _)›) | (with_reducible apply OwnL.setC; focus (simp <;> omega)) | (with_reducible refine OwnL.put ?_ (by assumption) _) | (with_reducible apply OwnL.alloc) | (with_reducible apply OwnL.drew) | (with_reducible apply OwnL.drewN) | (with_reducible refine OwnL.ext ?_ (Hid.out ‹Hid (Ext _ _)›))))
  ·(refine OwnL.lower (base := w.heap.size + 1 + 1 + 1 + 1) ?_ (by omega); repeat (first | (with_reducible assumption) | (with_reducible exact Hid.out ‹Hid (OwnL _ _ _ _ _ _ _)›) | (with_reducible apply OwnL.setC; focus (simp <;> omega)) | (with_reducible refine OwnL.put ?_ (by assumption) _) | (with_reducible apply OwnL.alloc) | (with_reducible apply OwnL.drew) | (with_reducible apply OwnL.drewN) | (with_reducible refine OwnL.ext ?_ (Hid.out ‹Hid (Ext _ _)›))))
 ·have hb0 : (E != 0) = true := by simpa using h0
  clear hP
  simp only [ne_eq, h0, not_false_eq_true, if_true]
  go_wp2_with fail
  refine bodyPost_ret (v := .tuple #[.agg #[.int .i64 0, .int .i64 0, .int .i64 0, .slice none 0 0, .int .i64 0, .slice none 0 0, .int .i64 0, .int .i64 0], .agg #[.int .i64 0, .int .i64 0, .int .i64 0, .int .i64 0, .int .i64 0], .int .i64 E]) (by simp [results, Tryz.results79, go_sem, *]) rfl ⟨_, _, rfl, ?_, OwnL.nil, OwnL.nil⟩
  exact extA
end Go.Proofs.YteojjbhadgkfgaaGreat

/- gate.Tap, Told, Sync. -/
namespace Go.Proofs.YteojjbhadgkfgaaGreat
set_option linter.unusedSimpArgs false
set_option linter.unusedVariables false
set_option maxRecDepth 100000
open Go Go.RowKit Lb

set_option maxHeartbeats 16000000 in
theorem gate_Tap (g : Gt) (sa si : Value) (t : Tk) (time : Int) (w : World) (hr : RdL 5 tpc w sa g.alone) (hs : RdL 1 inc w si g.denied.ids) :
  Calls Tryz.prog 29 #[.agg (gta g sa si), .agg (tkc t), .int .i64 time] w fun e w' => ∃ sa' si', e = .returned (.tuple #[.agg (gta (tapAll g t time).1 sa' si'), .agg (tpc (tapAll g t time).2.1), .int .i64 (tapAll g t time).2.2]) ∧ Ext w w' ∧
   OwnL 57 5 tpc w.heap.size w' sa' (tapAll g t time).1.alone ∧ OwnL 3 1 inc w.heap.size w' si' (tapAll g t time).1.denied.ids := by
 have HCG := Lib.hid (fun (w' : World) (h : Ext w w') => gate_Check g sa si w' (hr.ext h) (hs.ext h))
 have HCT := Lib.hid (fun (w' : World) => ticket_Check t w')
 have HRaw := Lib.hid (fun (w' : World) (h : Ext w w') (h1 : ckGate g = 0) (h2 : ckTicket t = 0) => gate_Raw g sa si t time w' h1 h2 (hr.ext h) (hs.ext h))
 obtain ⟨A, c, rfl, -, -⟩ := hr.form
 obtain ⟨A2, c2, rfl, -, -⟩ := hs.form
 have hres : tapAll g t time = if ckGate g ≠ 0 then (gt0, tp0, ckGate g) else if ckTicket t ≠ 0 then (gt0, tp0, ckTicket t) else tapG g t time := rfl
 generalize tapG g t time = X at *
 generalize ckGate g = cg at *
 generalize ckTicket t = ct at *
 rw [hres]
 clear hr hs hres
 unfold gta at HCG HRaw ⊢
 rw [show tkc t = #[.int .i64 t.id, .int .i64 t.kind, .int .i64 t.frm, .int .i64 t.til, .int .i64 t.zones, .int .i64 t.rides] from rfl] at HCT HRaw ⊢
 unfold tpc at HRaw ⊢
 by_cases hg : cg = 0
 ·subst hg
  by_cases ht : ct = 0
  ·subst ht
   simp only [ne_eq, not_true_eq_false, if_false]
   go_enter Tryz.func29, Tryz.ntmps29
   go_wp2_with fail
   (refine (HCG.out _ (by exact extA)).mono ?_; rintro e w1 ⟨rfl, h1⟩; have H1 := Lib.hid h1; have hz1 := h1.size; clear h1; (try simp only [World.size_alloc, size_set, World.heap_drewN, size_drew] at hz1); apply Row.use (w := w1) (g := w.heap.size); (focus (exact rowA)); intro q1_0 f1_0 l1_0 R1_0; (try simp only [lSet] at q1_0 R1_0); apply Row.use (w := w1) (g := w.heap.size + 1); (focus (exact rowA)); intro q1_1 f1_1 l1_1 R1_1; (try simp only [lSet] at q1_1 R1_1); apply Row.use (w := w1) (g := w.heap.size + 1 + 1); (focus (exact rowA)); intro q1_2 f1_2 l1_2 R1_2; (try simp only [lSet] at q1_2 R1_2); apply Row.use (w := w1) (g := w.heap.size + 1 + 1 + 1); (focus (exact rowA)); intro q1_3 f1_3 l1_3 R1_3; (try simp only [lSet] at q1_3 R1_3))
   go_wp2_with fail
   (refine (HCT.out _).mono ?_; rintro e w2 ⟨rfl, h2⟩; have H2 := Lib.hid h2; have hz2 := h2.size; clear h2; (try simp only [World.size_alloc, size_set, World.heap_drewN, size_drew] at hz2); apply Row.use (w := w2) (g := w.heap.size); (focus (exact rowA)); intro q2_0 f2_0 l2_0 R2_0; (try simp only [lSet] at q2_0 R2_0); apply Row.use (w := w2) (g := w.heap.size + 1); (focus (exact rowA)); intro q2_1 f2_1 l2_1 R2_1; (try simp only [lSet] at q2_1 R2_1); apply Row.use (w := w2) (g := w.heap.size + 1 + 1); (focus (exact rowA)); intro q2_2 f2_2 l2_2 R2_2; (try simp only [lSet] at q2_2 R2_2); apply Row.use (w := w2) (g := w.heap.size + 1 + 1 + 1); (focus (exact rowA)); intro q2_3 f2_3 l2_3 R2_3; (try simp only [lSet] at q2_3 R2_3))
   go_wp2_with fail
   refine (HRaw.out _ (by exact extA) (by simp) (by simp)).mono ?_
   rintro e w3 ⟨sa1, si1, rfl, h3, ho3, hi3⟩
   obtain ⟨A1, c1, rfl⟩ := ho3.form
   obtain ⟨B1, d1, rfl⟩ := hi3.form
   have hz3 := h3.size
   have H3 := Lib.hid h3
   have HO3 := Lib.hid ho3
   have HI3 := Lib.hid hi3
   clear h3 ho3 hi3
   (apply Row.use (w := w3) (g := w.heap.size + 1 + 1); (focus (exact rowA)); intro q3_0 f3_0 l3_0 R3_0; (try simp only [lSet] at q3_0 R3_0); apply Row.use (w := w3) (g := w.heap.size + 1 + 1 + 1); (focus (exact rowA)); intro q3_1 f3_1 l3_1 R3_1; (try simp only [lSet] at q3_1 R3_1))
   go_wp2_with fail
   refine bodyPost_ret (v := .tuple #[.agg #[.int .i64 X.1.id, .int .i64 X.1.zone, .int .i64 X.1.seq, .slice A1 X.1.alone.length c1, .int .i64 X.1.denied.version, .slice B1 X.1.denied.ids.length d1, .int .i64 X.1.left, .int .i64 X.1.untl], .agg #[.int .i64 X.2.1.ticket, .int .i64 X.2.1.gate, .int .i64 X.2.1.seq, .int .i64 X.2.1.time, .int .i64 X.2.1.zone], .int .i64 X.2.2]) (by simp [results, Tryz.results29, go_sem, *]) rfl ⟨_, _, rfl, ?_, ?_, ?_⟩
   ·exact extA
   ·(refine OwnL.lower (base := w2.heap.size) ?_ (by omega); repeat (first | (with_reducible assumption) | (with_reducible exact Hid.out ‹Hid (OwnL _ _ _ _ _ _ _)›) | (with_reducible apply OwnL.setC; focus (simp <;> omega)) | (with_reducible refine OwnL.put ?_ (by assumption) _) | (with_reducible apply OwnL.alloc) | (with_reducible apply OwnL.drew) | (with_reducible apply OwnL.drewN) | (with_reducible refine OwnL.ext ?_ (Hid.out ‹Hid (Ext _ _)›))))
   ·(refine OwnL.lower (base := w2.heap.size) ?_ (by omega); repeat (first | (with_reducible assumption) | (with_reducible exact Hid.out ‹Hid (OwnL _ _ _ _ _ _ _)›) | (with_reducible apply OwnL.setC; focus (simp <;> omega)) | (with_reducible refine OwnL.put ?_ (by assumption) _) | (with_reducible apply OwnL.alloc) | (with_reducible apply OwnL.drew) | (with_reducible apply OwnL.drewN) | (with_reducible refine OwnL.ext ?_ (Hid.out ‹Hid (Ext _ _)›))))
  ·have htb : (ct != 0) = true := by simpa using ht
   simp only [ne_eq, not_true_eq_false, if_false, ht, not_false_eq_true, if_true]
   go_enter Tryz.func29, Tryz.ntmps29
   go_wp2_with fail
   (refine (HCG.out _ (by exact extA)).mono ?_; rintro e w1 ⟨rfl, h1⟩; have H1 := Lib.hid h1; have hz1 := h1.size; clear h1; (try simp only [World.size_alloc, size_set, World.heap_drewN, size_drew] at hz1); apply Row.use (w := w1) (g := w.heap.size); (focus (exact rowA)); intro q1_0 f1_0 l1_0 R1_0; (try simp only [lSet] at q1_0 R1_0); apply Row.use (w := w1) (g := w.heap.size + 1); (focus (exact rowA)); intro q1_1 f1_1 l1_1 R1_1; (try simp only [lSet] at q1_1 R1_1); apply Row.use (w := w1) (g := w.heap.size + 1 + 1); (focus (exact rowA)); intro q1_2 f1_2 l1_2 R1_2; (try simp only [lSet] at q1_2 R1_2); apply Row.use (w := w1) (g := w.heap.size + 1 + 1 + 1); (focus (exact rowA)); intro q1_3 f1_3 l1_3 R1_3; (try simp only [lSet] at q1_3 R1_3))
   go_wp2_with fail
   (refine (HCT.out _).mono ?_; rintro e w2 ⟨rfl, h2⟩; have H2 := Lib.hid h2; have hz2 := h2.size; clear h2; (try simp only [World.size_alloc, size_set, World.heap_drewN, size_drew] at hz2); apply Row.use (w := w2) (g := w.heap.size); (focus (exact rowA)); intro q2_0 f2_0 l2_0 R2_0; (try simp only [lSet] at q2_0 R2_0); apply Row.use (w := w2) (g := w.heap.size + 1); (focus (exact rowA)); intro q2_1 f2_1 l2_1 R2_1; (try simp only [lSet] at q2_1 R2_1); apply Row.use (w := w2) (g := w.heap.size + 1 + 1); (focus (exact rowA)); intro q2_2 f2_2 l2_2 R2_2; (try simp only [lSet] at q2_2 R2_2); apply Row.use (w := w2) (g := w.heap.size + 1 + 1 + 1); (focus (exact rowA)); intro q2_3 f2_3 l2_3 R2_3; (try simp only [lSet] at q2_3 R2_3))
   go_wp2_with fail
   refine bodyPost_ret (v := .tuple #[.agg #[.int .i64 0, .int .i64 0, .int .i64 0, .slice none 0 0, .int .i64 0, .slice none 0 0, .int .i64 0, .int .i64 0], .agg #[.int .i64 0, .int .i64 0, .int .i64 0, .int .i64 0, .int .i64 0], .int .i64 ct]) (by simp [results, Tryz.results29, go_sem, *]) rfl ⟨_, _, rfl, ?_, OwnL.nil, OwnL.nil⟩
   exact extA
 ·have hgb : (cg != 0) = true := by simpa using hg
  have hgb2 : (cg == 0) = false := by simpa using hg
  simp only [ne_eq, hg, not_false_eq_true, if_true]
  go_enter Tryz.func29, Tryz.ntmps29
  go_wp2_with fail
  (refine (HCG.out _ (by exact extA)).mono ?_; rintro e w1 ⟨rfl, h1⟩; have H1 := Lib.hid h1; have hz1 := h1.size; clear h1; (try simp only [World.size_alloc, size_set, World.heap_drewN, size_drew] at hz1); apply Row.use (w := w1) (g := w.heap.size); (focus (exact rowA)); intro q1_0 f1_0 l1_0 R1_0; (try simp only [lSet] at q1_0 R1_0); apply Row.use (w := w1) (g := w.heap.size + 1); (focus (exact rowA)); intro q1_1 f1_1 l1_1 R1_1; (try simp only [lSet] at q1_1 R1_1); apply Row.use (w := w1) (g := w.heap.size + 1 + 1); (focus (exact rowA)); intro q1_2 f1_2 l1_2 R1_2; (try simp only [lSet] at q1_2 R1_2); apply Row.use (w := w1) (g := w.heap.size + 1 + 1 + 1); (focus (exact rowA)); intro q1_3 f1_3 l1_3 R1_3; (try simp only [lSet] at q1_3 R1_3))
  go_wp2_with fail
  refine bodyPost_ret (v := .tuple #[.agg #[.int .i64 0, .int .i64 0, .int .i64 0, .slice none 0 0, .int .i64 0, .slice none 0 0, .int .i64 0, .int .i64 0], .agg #[.int .i64 0, .int .i64 0, .int .i64 0, .int .i64 0, .int .i64 0], .int .i64 cg]) (by simp [results, Tryz.results29, go_sem, *]) rfl ⟨_, _, rfl, ?_, OwnL.nil, OwnL.nil⟩
  exact extA

set_option maxHeartbeats 16000000 in
theorem gate_Told (g : Gt) (sa si : Value) (d : Dn) (sd : Value) (time : Int) (w : World) (hgr : ckGate g = 0) (hd : ckDn d = 0) (ht : within time 0 9999 = true) (hr : RdL 5 tpc w sa g.alone) (hs : RdL 1 inc w si g.denied.ids) (hsd : RdL 1 inc w sd d.ids) :
  Calls Tryz.prog 121 #[.agg (gta g sa si), .agg #[.int .i64 d.version, sd], .int .i64 time] w fun e w' => ∃ sl si', e = .returned (.tuple #[.agg (gta (synced g d time) (.slice none 0 0) si'), sl]) ∧ Ext w w' ∧
   OwnL 57 5 tpc w.heap.size w' sl g.alone ∧ OwnL 3 1 inc w.heap.size w' si' (synced g d time).denied.ids := by
 have r := ckGate_ok.1 hgr
 have hl12 := r.len
 have hd12 := ((ckDn_ok g.denied).1 r.denied).2.1
 have hd13 := ((ckDn_ok d).1 hd).2.1
 have HOwn := Lib.hid (fun (w' : World) (h : Ext w w') => gate_Own g sa si w' (hr.ext h) (hs.ext h) (by omega) (by omega))
 have HP := Lib.hid (fun (w' : World) (h : Ext w w') => denied_Pick g.denied d si sd w' (hs.ext h) (hsd.ext h) (by omega) (by omega))
 obtain ⟨A, c, rfl, -, -⟩ := hr.form
 obtain ⟨A2, c2, rfl, -, -⟩ := hs.form
 obtain ⟨A3, c3, rfl, -, -⟩ := hsd.form
 have hw1 : IntKind.i64.wrap (time + 100) = time + 100 := IntWalk.i64_in _ (by simp [within] at ht; omega)
 have hsy : synced g d time = ⟨g.id, g.zone, g.seq, [], pickD g.denied d, 9, time + 100⟩ := rfl
 generalize pickD g.denied d = pk at *
 rw [hsy]
 clear hr hs hsd hgr hd r hl12 hd12 hd13 hsy ht
 unfold gta at HOwn ⊢
 simp only
 go_enter Tryz.func121, Tryz.ntmps121
 go_wp2_with fail
 refine (HOwn.out _ (by exact extA)).mono ?_
 rintro e w1 ⟨sa1, si1, rfl, h1, ho1, hi1, hdis⟩
 obtain ⟨A1, c1, rfl⟩ := ho1.form
 obtain ⟨B1, d1, rfl⟩ := hi1.form
 have hz1 := h1.size
 have H1 := Lib.hid h1
 (try simp only [World.size_alloc, size_set, World.heap_drewN, size_drew] at hz1 ho1 hi1)
 have HO1 := Lib.hid ho1
 clear h1 ho1 hi1 hdis
 (apply Row.use (w := w1) (g := w.heap.size); (focus (exact rowA)); intro q1_0 f1_0 l1_0 R1_0; (try simp only [lSet] at q1_0 R1_0); apply Row.use (w := w1) (g := w.heap.size + 1); (focus (exact rowA)); intro q1_1 f1_1 l1_1 R1_1; (try simp only [lSet] at q1_1 R1_1); apply Row.use (w := w1) (g := w.heap.size + 1 + 1); (focus (exact rowA)); intro q1_2 f1_2 l1_2 R1_2; (try simp only [lSet] at q1_2 R1_2))
 go_wp2_with fail
 refine (HP.out _ (by exact extA)).mono ?_
 rintro e w2 ⟨s2, rfl, h2, ho2⟩
 obtain ⟨B2, d2, rfl⟩ := ho2.form
 have hz2 := h2.size
 (try simp only [World.size_alloc, size_set, World.heap_drewN, size_drew] at ho2)
 have H2 := Lib.hid h2
 have HO2 := Lib.hid ho2
 clear h2 ho2
 (try simp only [World.size_alloc, size_set, World.heap_drewN, size_drew] at hz2)
 (apply Row.use (w := w2) (g := w.heap.size + 1 + 1); (focus (exact rowA)); intro q2_0 f2_0 l2_0 R2_0; (try simp only [lSet] at q2_0 R2_0); apply Row.use (w := w2) (g := w1.heap.size); (focus (exact rowA)); intro q2_1 f2_1 l2_1 R2_1; (try simp only [lSet] at q2_1 R2_1))
 have hna : (Value.slice A1 g.alone.length c1).ownBlock ≠ some w1.heap.size := fun h => by have := (HO1.out.lt _ h).2; omega
 have hnb : (Value.slice B2 pk.ids.length d2).ownBlock ≠ some w1.heap.size := fun h => by have := (HO2.out.lt _ h).1; omega
 go_wp2_with fail
 refine bodyPost_ret (v := .tuple #[.agg #[.int .i64 g.id, .int .i64 g.zone, .int .i64 g.seq, .slice none 0 0, .int .i64 pk.version, .slice B2 pk.ids.length d2, .int .i64 9, .int .i64 (time + 100)], .slice A1 g.alone.length c1]) (by simp [results, Tryz.results121, go_sem, *]) rfl ⟨_, _, rfl, ?_, ?_, ?_⟩
 ·exact extA
 ·(refine OwnL.lower (base := w.heap.size + 1 + 1 + 1) ?_ (by omega); repeat (first | (with_reducible assumption) | (with_reducible exact Hid.out ‹Hid (OwnL _ _ _ _ _ _ _)›) | (with_reducible apply OwnL.setC; focus (simp <;> omega)) | (with_reducible refine OwnL.put ?_ (by assumption) _) | (with_reducible apply OwnL.alloc) | (with_reducible apply OwnL.drew) | (with_reducible apply OwnL.drewN) | (with_reducible refine OwnL.ext ?_ (Hid.out ‹Hid (Ext _ _)›))))
 ·(refine OwnL.lower (base := w1.heap.size + 1) ?_ (by omega); repeat (first | (with_reducible assumption) | (with_reducible exact Hid.out ‹Hid (OwnL _ _ _ _ _ _ _)›) | (with_reducible apply OwnL.setC; focus (simp <;> omega)) | (with_reducible refine OwnL.put ?_ (by assumption) _) | (with_reducible apply OwnL.alloc) | (with_reducible apply OwnL.drew) | (with_reducible apply OwnL.drewN) | (with_reducible refine OwnL.ext ?_ (Hid.out ‹Hid (Ext _ _)›))))
end Go.Proofs.YteojjbhadgkfgaaGreat

/- gate.Sync. -/
namespace Go.Proofs.YteojjbhadgkfgaaGreat
set_option linter.unusedSimpArgs false
set_option linter.unusedVariables false
set_option maxRecDepth 100000
open Go Go.RowKit Lb

set_option maxHeartbeats 16000000 in
theorem gate_Sync (g : Gt) (sa si : Value) (d : Dn) (sd : Value) (time : Int) (w : World) (hr : RdL 5 tpc w sa g.alone) (hs : RdL 1 inc w si g.denied.ids) (hsd : RdL 1 inc w sd d.ids) :
  Calls Tryz.prog 75 #[.agg (gta g sa si), .agg #[.int .i64 d.version, sd], .int .i64 time] w fun e w' => ∃ sl si', e = .returned (.tuple #[.agg (gta (syncAll g d time).1 (.slice none 0 0) si'), sl, .int .i64 (syncAll g d time).2.2]) ∧ Ext w w' ∧
   OwnL 57 5 tpc w.heap.size w' sl (syncAll g d time).2.1 ∧ OwnL 3 1 inc w.heap.size w' si' (syncAll g d time).1.denied.ids := by
 have HCG := Lib.hid (fun (w' : World) (h : Ext w w') => gate_Check g sa si w' (hr.ext h) (hs.ext h))
 have HCD := Lib.hid (fun (w' : World) (h : Ext w w') => denied_Check d sd w' (hsd.ext h))
 have HW := Lib.hid (fun (w' : World) => gate_within time 0 9999 w')
 have HTold := Lib.hid (fun (w' : World) (h : Ext w w') (h1 : ckGate g = 0) (h2 : ckDn d = 0) (h3 : within time 0 9999 = true) => gate_Told g sa si d sd time w' h1 h2 h3 (hr.ext h) (hs.ext h) (hsd.ext h))
 obtain ⟨A, c, rfl, -, -⟩ := hr.form
 obtain ⟨A2, c2, rfl, -, -⟩ := hs.form
 obtain ⟨A3, c3, rfl, -, -⟩ := hsd.form
 have hE : syncE g d time = if ckGate g ≠ 0 then ckGate g else if ckDn d ≠ 0 then ckDn d else if within time 0 9999 = false then 3 else 0 := rfl
 have hres : syncAll g d time = if syncE g d time ≠ 0 then (gt0, [], syncE g d time) else (synced g d time, g.alone, 0) := rfl
 have hsy : (synced g d time).alone = [] := rfl
 generalize synced g d time = X at *
 rw [hres]
 rw [hE]
 generalize ckGate g = cg at *
 generalize ckDn d = cd at *
 generalize within time 0 9999 = z at *
 clear hr hs hsd hres hE
 unfold gta at HCG HTold ⊢
 by_cases hg : cg = 0
 ·subst hg
  by_cases ht : cd = 0
  ·subst ht
   cases z
   ·simp only [ne_eq, not_true_eq_false, if_false, if_true, (show ¬ ((3 : Int) = 0) by decide), not_false_eq_true]
    go_enter Tryz.func75, Tryz.ntmps75
    go_wp2_with fail
    (refine (HCG.out _ (by exact extA)).mono ?_; rintro e w1 ⟨rfl, h1⟩; have H1 := Lib.hid h1; have hz1 := h1.size; clear h1; (try simp only [World.size_alloc, size_set, World.heap_drewN, size_drew] at hz1); apply Row.use (w := w1) (g := w.heap.size); (focus (exact rowA)); intro q1_0 f1_0 l1_0 R1_0; (try simp only [lSet] at q1_0 R1_0); apply Row.use (w := w1) (g := w.heap.size + 1); (focus (exact rowA)); intro q1_1 f1_1 l1_1 R1_1; (try simp only [lSet] at q1_1 R1_1); apply Row.use (w := w1) (g := w.heap.size + 1 + 1); (focus (exact rowA)); intro q1_2 f1_2 l1_2 R1_2; (try simp only [lSet] at q1_2 R1_2))
    go_wp2_with fail
    (refine (HCD.out _ (by exact extA)).mono ?_; rintro e w2 ⟨rfl, h2⟩; have H2 := Lib.hid h2; have hz2 := h2.size; clear h2; (try simp only [World.size_alloc, size_set, World.heap_drewN, size_drew] at hz2); apply Row.use (w := w2) (g := w.heap.size); (focus (exact rowA)); intro q2_0 f2_0 l2_0 R2_0; (try simp only [lSet] at q2_0 R2_0); apply Row.use (w := w2) (g := w.heap.size + 1); (focus (exact rowA)); intro q2_1 f2_1 l2_1 R2_1; (try simp only [lSet] at q2_1 R2_1); apply Row.use (w := w2) (g := w.heap.size + 1 + 1); (focus (exact rowA)); intro q2_2 f2_2 l2_2 R2_2; (try simp only [lSet] at q2_2 R2_2))
    go_wp2_with fail
    refine (HW.out _).mono ?_
    rintro e w3 ⟨rfl, rfl⟩
    go_wp2_with fail
    refine bodyPost_ret (v := .tuple #[.agg #[.int .i64 0, .int .i64 0, .int .i64 0, .slice none 0 0, .int .i64 0, .slice none 0 0, .int .i64 0, .int .i64 0], .slice none 0 0, .int .i64 3]) (by simp [results, Tryz.results75, go_sem, *]) rfl ⟨_, _, rfl, ?_, OwnL.nil, OwnL.nil⟩
    exact extA
   ·simp only [ne_eq, not_true_eq_false, if_false, if_true, Bool.true_eq_false]
    go_enter Tryz.func75, Tryz.ntmps75
    go_wp2_with fail
    (refine (HCG.out _ (by exact extA)).mono ?_; rintro e w1 ⟨rfl, h1⟩; have H1 := Lib.hid h1; have hz1 := h1.size; clear h1; (try simp only [World.size_alloc, size_set, World.heap_drewN, size_drew] at hz1); apply Row.use (w := w1) (g := w.heap.size); (focus (exact rowA)); intro q1_0 f1_0 l1_0 R1_0; (try simp only [lSet] at q1_0 R1_0); apply Row.use (w := w1) (g := w.heap.size + 1); (focus (exact rowA)); intro q1_1 f1_1 l1_1 R1_1; (try simp only [lSet] at q1_1 R1_1); apply Row.use (w := w1) (g := w.heap.size + 1 + 1); (focus (exact rowA)); intro q1_2 f1_2 l1_2 R1_2; (try simp only [lSet] at q1_2 R1_2))
    go_wp2_with fail
    (refine (HCD.out _ (by exact extA)).mono ?_; rintro e w2 ⟨rfl, h2⟩; have H2 := Lib.hid h2; have hz2 := h2.size; clear h2; (try simp only [World.size_alloc, size_set, World.heap_drewN, size_drew] at hz2); apply Row.use (w := w2) (g := w.heap.size); (focus (exact rowA)); intro q2_0 f2_0 l2_0 R2_0; (try simp only [lSet] at q2_0 R2_0); apply Row.use (w := w2) (g := w.heap.size + 1); (focus (exact rowA)); intro q2_1 f2_1 l2_1 R2_1; (try simp only [lSet] at q2_1 R2_1); apply Row.use (w := w2) (g := w.heap.size + 1 + 1); (focus (exact rowA)); intro q2_2 f2_2 l2_2 R2_2; (try simp only [lSet] at q2_2 R2_2))
    go_wp2_with fail
    refine (HW.out _).mono ?_
    rintro e w3 ⟨rfl, rfl⟩
    go_wp2_with fail
    refine (HTold.out _ (by exact extA) (by simp) (by simp) (by simp)).mono ?_
    rintro e w4 ⟨sl, si4, rfl, h4, ho4, hi4⟩
    obtain ⟨A4, c4, rfl⟩ := ho4.form
    obtain ⟨B4, d4, rfl⟩ := hi4.form
    have hz4 := h4.size
    have H4 := Lib.hid h4
    have HO4 := Lib.hid ho4
    have HI4 := Lib.hid hi4
    clear h4 ho4 hi4
    (apply Row.use (w := w4) (g := w.heap.size + 1 + 1); (focus (exact rowA)); intro q4_0 f4_0 l4_0 R4_0; (try simp only [lSet] at q4_0 R4_0))
    go_wp2_with fail
    refine bodyPost_ret (v := .tuple #[.agg #[.int .i64 X.id, .int .i64 X.zone, .int .i64 X.seq, .slice none 0 0, .int .i64 X.denied.version, .slice B4 X.denied.ids.length d4, .int .i64 X.left, .int .i64 X.untl], .slice A4 g.alone.length c4, .int .i64 0]) (by simp [results, Tryz.results75, go_sem, *]) rfl ⟨_, _, rfl, ?_, ?_, ?_⟩
    ·exact extA
    ·(refine OwnL.lower (base := w2.heap.size) ?_ (by omega); repeat (first | (with_reducible assumption) | (with_reducible exact Hid.out ‹Hid (OwnL _ _ _ _ _ _ _)›) | (with_reducible apply OwnL.setC; focus (simp <;> omega)) | (with_reducible refine OwnL.put ?_ (by assumption) _) | (with_reducible apply OwnL.alloc) | (with_reducible apply OwnL.drew) | (with_reducible apply OwnL.drewN) | (with_reducible refine OwnL.ext ?_ (Hid.out ‹Hid (Ext _ _)›))))
    ·(refine OwnL.lower (base := w2.heap.size) ?_ (by omega); repeat (first | (with_reducible assumption) | (with_reducible exact Hid.out ‹Hid (OwnL _ _ _ _ _ _ _)›) | (with_reducible apply OwnL.setC; focus (simp <;> omega)) | (with_reducible refine OwnL.put ?_ (by assumption) _) | (with_reducible apply OwnL.alloc) | (with_reducible apply OwnL.drew) | (with_reducible apply OwnL.drewN) | (with_reducible refine OwnL.ext ?_ (Hid.out ‹Hid (Ext _ _)›))))
  ·have htb : (cd != 0) = true := by simpa using ht
   have htb2 : (cd == 0) = false := by simpa using ht
   simp only [ne_eq, not_true_eq_false, if_false, ht, not_false_eq_true, if_true]
   go_enter Tryz.func75, Tryz.ntmps75
   go_wp2_with fail
   (refine (HCG.out _ (by exact extA)).mono ?_; rintro e w1 ⟨rfl, h1⟩; have H1 := Lib.hid h1; have hz1 := h1.size; clear h1; (try simp only [World.size_alloc, size_set, World.heap_drewN, size_drew] at hz1); apply Row.use (w := w1) (g := w.heap.size); (focus (exact rowA)); intro q1_0 f1_0 l1_0 R1_0; (try simp only [lSet] at q1_0 R1_0); apply Row.use (w := w1) (g := w.heap.size + 1); (focus (exact rowA)); intro q1_1 f1_1 l1_1 R1_1; (try simp only [lSet] at q1_1 R1_1); apply Row.use (w := w1) (g := w.heap.size + 1 + 1); (focus (exact rowA)); intro q1_2 f1_2 l1_2 R1_2; (try simp only [lSet] at q1_2 R1_2))
   go_wp2_with fail
   (refine (HCD.out _ (by exact extA)).mono ?_; rintro e w2 ⟨rfl, h2⟩; have H2 := Lib.hid h2; have hz2 := h2.size; clear h2; (try simp only [World.size_alloc, size_set, World.heap_drewN, size_drew] at hz2); apply Row.use (w := w2) (g := w.heap.size); (focus (exact rowA)); intro q2_0 f2_0 l2_0 R2_0; (try simp only [lSet] at q2_0 R2_0); apply Row.use (w := w2) (g := w.heap.size + 1); (focus (exact rowA)); intro q2_1 f2_1 l2_1 R2_1; (try simp only [lSet] at q2_1 R2_1); apply Row.use (w := w2) (g := w.heap.size + 1 + 1); (focus (exact rowA)); intro q2_2 f2_2 l2_2 R2_2; (try simp only [lSet] at q2_2 R2_2))
   go_wp2_with fail
   refine bodyPost_ret (v := .tuple #[.agg #[.int .i64 0, .int .i64 0, .int .i64 0, .slice none 0 0, .int .i64 0, .slice none 0 0, .int .i64 0, .int .i64 0], .slice none 0 0, .int .i64 cd]) (by simp [results, Tryz.results75, go_sem, *]) rfl ⟨_, _, rfl, ?_, OwnL.nil, OwnL.nil⟩
   exact extA
 ·have hgb : (cg != 0) = true := by simpa using hg
  have hgb2 : (cg == 0) = false := by simpa using hg
  simp only [ne_eq, hg, not_false_eq_true, if_true]
  go_enter Tryz.func75, Tryz.ntmps75
  go_wp2_with fail
  (refine (HCG.out _ (by exact extA)).mono ?_; rintro e w1 ⟨rfl, h1⟩; have H1 := Lib.hid h1; have hz1 := h1.size; clear h1; (try simp only [World.size_alloc, size_set, World.heap_drewN, size_drew] at hz1); apply Row.use (w := w1) (g := w.heap.size); (focus (exact rowA)); intro q1_0 f1_0 l1_0 R1_0; (try simp only [lSet] at q1_0 R1_0); apply Row.use (w := w1) (g := w.heap.size + 1); (focus (exact rowA)); intro q1_1 f1_1 l1_1 R1_1; (try simp only [lSet] at q1_1 R1_1); apply Row.use (w := w1) (g := w.heap.size + 1 + 1); (focus (exact rowA)); intro q1_2 f1_2 l1_2 R1_2; (try simp only [lSet] at q1_2 R1_2))
  go_wp2_with fail
  refine bodyPost_ret (v := .tuple #[.agg #[.int .i64 0, .int .i64 0, .int .i64 0, .slice none 0 0, .int .i64 0, .slice none 0 0, .int .i64 0, .int .i64 0], .slice none 0 0, .int .i64 cg]) (by simp [results, Tryz.results75, go_sem, *]) rfl ⟨_, _, rfl, ?_, OwnL.nil, OwnL.nil⟩
  exact extA
end Go.Proofs.YteojjbhadgkfgaaGreat

/- The document's own check of a gate. -/
namespace Go.Proofs.YteojjbhadgkfgaaGreat
set_option linter.unusedSimpArgs false
set_option linter.unusedVariables false
set_option maxRecDepth 100000
open Go Go.RowKit Lb

end Go.Proofs.YteojjbhadgkfgaaGreat

/- Taps, gates side by side; a sync by the document. -/
namespace Go.Proofs.YteojjbhadgkfgaaGreat
set_option linter.unusedSimpArgs false
set_option linter.unusedVariables false
set_option maxRecDepth 100000
open Go Go.RowKit Lb

theorem eql_bd (a b a' b' : Int) (W : World) :
  (binOp .eql 50 (.agg #[.int .i64 a, .int .i64 b]) (.agg #[.int .i64 a', .int .i64 b'])).run Tryz.prog W = .ok (.bool (a == a' && b == b')) W := by
 have hst : Tryz.prog.stoodInHeld 50 = false := by kernel_rfl
 simp [go_sem, hst]
 repeat' split
 all_goals simp_all

theorem same_gt (a b : Gt) : (a.id == b.id && (a.zone == b.zone && (a.seq == b.seq && ((a.left == b.left && a.untl == b.untl) && (a.alone == b.alone && sameDn a.denied b.denied))))) = decide (a = b) := by
 obtain ⟨a1, a2, a3, a4, ⟨a5, a6⟩, a7, a8⟩ := a
 obtain ⟨b1, b2, b3, b4, ⟨b5, b6⟩, b7, b8⟩ := b
 unfold sameDn
 rw [Bool.eq_iff_iff]
 simp only [Bool.and_eq_true, beq_iff_eq, decide_eq_true_eq, Gt.mk.injEq, Dn.mk.injEq]
 constructor
 ·rintro ⟨rfl, rfl, rfl, ⟨rfl, rfl⟩, rfl, rfl, rfl⟩; simp
 ·rintro ⟨rfl, rfl, rfl, rfl, ⟨rfl, rfl⟩, rfl, rfl⟩; simp
set_option maxHeartbeats 16000000 in
theorem ref_SameGate (a b : Gt) (sa si ta ti : Value) (w : World) (hr : RdL 5 tpc w sa a.alone) (hs : RdL 1 inc w si a.denied.ids) (hr2 : RdL 5 tpc w ta b.alone) (hs2 : RdL 1 inc w ti b.denied.ids) :
  Calls Tryz.prog 28 #[.agg (gta a sa si), .agg (gta b ta ti)] w fun e w' => e = .returned (.bool (decide (a = b))) ∧ Ext w w' := by
 have HT := Lib.hid (fun (w' : World) (h : Ext w w') => ref_SameTaps a.alone b.alone sa ta w' (hr.ext h) (hr2.ext h))
 have HD := Lib.hid (fun (w' : World) (h : Ext w w') => ref_SameDenied a.denied b.denied si ti w' (hs.ext h) (hs2.ext h))
 have HB := eql_bd a.left a.untl b.left b.untl
 obtain ⟨A, c, rfl, -, -⟩ := hr.form
 obtain ⟨A2, c2, rfl, -, -⟩ := hs.form
 obtain ⟨B, d, rfl, -, -⟩ := hr2.form
 obtain ⟨B2, d2, rfl, -, -⟩ := hs2.form
 rw [← same_gt]
 generalize hz0 : (a.id == b.id) = z0
 generalize hz1 : (a.zone == b.zone) = z1
 generalize hz2 : (a.seq == b.seq) = z2
 generalize (a.left == b.left && a.untl == b.untl) = z3 at *
 generalize (a.alone == b.alone) = z4 at *
 generalize sameDn a.denied b.denied = z5 at *
 clear hr hs hr2 hs2
 unfold gta
 cases z0
 ·go_enter Tryz.func28, Tryz.ntmps28
  go_wp2_with fail
  go_ret
  refine ⟨ret_bool (by simp), ?_⟩
  exact extA
 cases z1
 ·go_enter Tryz.func28, Tryz.ntmps28
  go_wp2_with fail
  go_ret
  refine ⟨ret_bool (by simp), ?_⟩
  exact extA
 cases z2
 ·go_enter Tryz.func28, Tryz.ntmps28
  go_wp2_with fail
  go_ret
  refine ⟨ret_bool (by simp), ?_⟩
  exact extA
 cases z3
 ·go_enter Tryz.func28, Tryz.ntmps28
  go_wp2_with fail
  go_ret
  refine ⟨ret_bool (by simp), ?_⟩
  exact extA
 cases z4
 ·go_enter Tryz.func28, Tryz.ntmps28
  go_wp2_with fail
  refine (HT.out _ (by exact extA)).mono ?_
  rintro e w1 ⟨rfl, h1⟩
  have H1 := Lib.hid h1
  clear h1
  (apply Row.use (w := w1) (g := w.heap.size); (focus (exact rowA)); intro q1_0 f1_0 l1_0 R1_0; (try simp only [lSet] at q1_0 R1_0); apply Row.use (w := w1) (g := w.heap.size + 1); (focus (exact rowA)); intro q1_1 f1_1 l1_1 R1_1; (try simp only [lSet] at q1_1 R1_1))
  go_wp2_with fail
  go_ret
  refine ⟨ret_bool (by simp), ?_⟩
  exact extA
 go_enter Tryz.func28, Tryz.ntmps28
 go_wp2_with fail
 refine (HT.out _ (by exact extA)).mono ?_
 rintro e w1 ⟨rfl, h1⟩
 have H1 := Lib.hid h1
 clear h1
 (apply Row.use (w := w1) (g := w.heap.size); (focus (exact rowA)); intro q1_0 f1_0 l1_0 R1_0; (try simp only [lSet] at q1_0 R1_0); apply Row.use (w := w1) (g := w.heap.size + 1); (focus (exact rowA)); intro q1_1 f1_1 l1_1 R1_1; (try simp only [lSet] at q1_1 R1_1))
 go_wp2_with fail
 refine (HD.out _ (by exact extA)).mono ?_
 rintro e w2 ⟨rfl, h2⟩
 have H2 := Lib.hid h2
 clear h2
 go_wp2_with fail
 go_ret
 refine ⟨ret_bool (by simp), ?_⟩
 exact extA

def post0 : Gt := ⟨1, 2, 4, [], ⟨1, [7]⟩, 2, 90⟩
set_option maxHeartbeats 4000000 in
theorem law_post (w : World) :
  Calls Tryz.prog 74 #[] w fun e w' => ∃ si, e = .returned (.agg (gta post0 (.slice none 0 0) si)) ∧ Ext w w' ∧ RdL 1 inc w' si [7] := by
 unfold gta post0
 go_enter Tryz.func74, Tryz.ntmps74
 go_wp2_with fail
 refine bodyPost_ret (v := .agg #[.int .i64 1, .int .i64 2, .int .i64 4, .slice none 0 0, .int .i64 1, .slice (some ⟨w.heap.size + 1, 0, none⟩) 1 1, .int .i64 2, .int .i64 90]) (by simp [results, Tryz.results74, go_sem, *]) rfl ⟨_, rfl, ?_, ?_⟩
 ·exact extA
 ·exact RdL.lit (enc := inc) 7 (by simp) rfl

end Go.Proofs.YteojjbhadgkfgaaGreat

/- gateBegun. -/
namespace Go.Proofs.YteojjbhadgkfgaaGreat
set_option linter.unusedSimpArgs false
set_option linter.unusedVariables false
set_option maxRecDepth 100000
open Go Go.RowKit Lb

def gb1 : Gt := ⟨1, 2, 5, [⟨1, 1, 5, 50, 2⟩], ⟨1, [7]⟩, 1, 90⟩
theorem gb_a : tapAll post0 (single 1) 50 = (gb1, ⟨1, 1, 5, 50, 2⟩, 0) := by decide
theorem gb_b : tapAll gb1 (single 1) 60 = (gt0, tp0, 10) := by decide
theorem gb_c : tapAll post0 (single 7) 50 = (gt0, tp0, 11) := by decide
theorem gb_d : tapAll post0 (single 1) 91 = (gt0, tp0, 8) := by decide
theorem gb_e : syncAll gb1 ⟨5, []⟩ 60 = (⟨1, 2, 5, [], ⟨5, []⟩, 9, 160⟩, [⟨1, 1, 5, 50, 2⟩], 0) := by decide
theorem gb_f : ckGate gb1 = 0 := by decide

theorem tap_a (si : Value) (w : World) (hs : RdL 1 inc w si [7]) :
  Calls Tryz.prog 29 #[.agg #[.int .i64 1, .int .i64 2, .int .i64 4, .slice none 0 0, .int .i64 1, si, .int .i64 2, .int .i64 90], .agg #[.int .i64 1, .int .i64 1, .int .i64 10, .int .i64 500, .int .i64 15, .int .i64 0], .int .i64 50] w fun e w' => ∃ sa' si', e = .returned (.tuple #[.agg #[.int .i64 1, .int .i64 2, .int .i64 5, sa', .int .i64 1, si', .int .i64 1, .int .i64 90], .agg #[.int .i64 1, .int .i64 1, .int .i64 5, .int .i64 50, .int .i64 2], .int .i64 0]) ∧ Ext w w' ∧
   OwnL 57 5 tpc w.heap.size w' sa' [⟨1, 1, 5, 50, 2⟩] ∧ OwnL 3 1 inc w.heap.size w' si' [7] := by
 have h := gate_Tap post0 (.slice none 0 0) si (single 1) 50 w RdL.nil hs
 rw [gb_a] at h
 exact h
theorem tap_b (sa si : Value) (w : World) (hr : RdL 5 tpc w sa [⟨1, 1, 5, 50, 2⟩]) (hs : RdL 1 inc w si [7]) :
  Calls Tryz.prog 29 #[.agg #[.int .i64 1, .int .i64 2, .int .i64 5, sa, .int .i64 1, si, .int .i64 1, .int .i64 90], .agg #[.int .i64 1, .int .i64 1, .int .i64 10, .int .i64 500, .int .i64 15, .int .i64 0], .int .i64 60] w fun e w' => ∃ A c B d, e = .returned (.tuple #[.agg #[.int .i64 0, .int .i64 0, .int .i64 0, .slice A 0 c, .int .i64 0, .slice B 0 d, .int .i64 0, .int .i64 0], .agg #[.int .i64 0, .int .i64 0, .int .i64 0, .int .i64 0, .int .i64 0], .int .i64 10]) ∧ Ext w w' := by
 have h := gate_Tap gb1 sa si (single 1) 60 w hr hs
 rw [gb_b] at h
 refine h.mono ?_
 rintro e w' ⟨sa', si', h1, h2, h3, h4⟩
 obtain ⟨A, c, rfl⟩ := h3.form
 obtain ⟨B, d, rfl⟩ := h4.form
 exact ⟨A, c, B, d, h1, h2⟩
theorem tap_c (si : Value) (w : World) (hs : RdL 1 inc w si [7]) :
  Calls Tryz.prog 29 #[.agg #[.int .i64 1, .int .i64 2, .int .i64 4, .slice none 0 0, .int .i64 1, si, .int .i64 2, .int .i64 90], .agg #[.int .i64 7, .int .i64 1, .int .i64 10, .int .i64 500, .int .i64 15, .int .i64 0], .int .i64 50] w fun e w' => ∃ A c B d, e = .returned (.tuple #[.agg #[.int .i64 0, .int .i64 0, .int .i64 0, .slice A 0 c, .int .i64 0, .slice B 0 d, .int .i64 0, .int .i64 0], .agg #[.int .i64 0, .int .i64 0, .int .i64 0, .int .i64 0, .int .i64 0], .int .i64 11]) ∧ Ext w w' := by
 have h := gate_Tap post0 (.slice none 0 0) si (single 7) 50 w RdL.nil hs
 rw [gb_c] at h
 refine h.mono ?_
 rintro e w' ⟨sa', si', h1, h2, h3, h4⟩
 obtain ⟨A, c, rfl⟩ := h3.form
 obtain ⟨B, d, rfl⟩ := h4.form
 exact ⟨A, c, B, d, h1, h2⟩
theorem tap_d (si : Value) (w : World) (hs : RdL 1 inc w si [7]) :
  Calls Tryz.prog 29 #[.agg #[.int .i64 1, .int .i64 2, .int .i64 4, .slice none 0 0, .int .i64 1, si, .int .i64 2, .int .i64 90], .agg #[.int .i64 1, .int .i64 1, .int .i64 10, .int .i64 500, .int .i64 15, .int .i64 0], .int .i64 91] w fun e w' => ∃ A c B d, e = .returned (.tuple #[.agg #[.int .i64 0, .int .i64 0, .int .i64 0, .slice A 0 c, .int .i64 0, .slice B 0 d, .int .i64 0, .int .i64 0], .agg #[.int .i64 0, .int .i64 0, .int .i64 0, .int .i64 0, .int .i64 0], .int .i64 8]) ∧ Ext w w' := by
 have h := gate_Tap post0 (.slice none 0 0) si (single 1) 91 w RdL.nil hs
 rw [gb_d] at h
 refine h.mono ?_
 rintro e w' ⟨sa', si', h1, h2, h3, h4⟩
 obtain ⟨A, c, rfl⟩ := h3.form
 obtain ⟨B, d, rfl⟩ := h4.form
 exact ⟨A, c, B, d, h1, h2⟩
theorem sync_e (sa si : Value) (w : World) (hr : RdL 5 tpc w sa [⟨1, 1, 5, 50, 2⟩]) (hs : RdL 1 inc w si [7]) :
  Calls Tryz.prog 75 #[.agg #[.int .i64 1, .int .i64 2, .int .i64 5, sa, .int .i64 1, si, .int .i64 1, .int .i64 90], .agg #[.int .i64 5, .slice none 0 0], .int .i64 60] w fun e w' => ∃ A c B d, e = .returned (.tuple #[.agg #[.int .i64 1, .int .i64 2, .int .i64 5, .slice none 0 0, .int .i64 5, .slice B 0 d, .int .i64 9, .int .i64 160], .slice A 1 c, .int .i64 0]) ∧ Ext w w' := by
 have h := gate_Sync gb1 sa si ⟨5, []⟩ (.slice none 0 0) 60 w hr hs RdL.nil
 rw [gb_e] at h
 refine h.mono ?_
 rintro e w' ⟨sl, si', h1, h2, h3, h4⟩
 obtain ⟨A, c, rfl⟩ := h3.form
 obtain ⟨B, d, rfl⟩ := h4.form
 exact ⟨A, c, B, d, h1, h2⟩
theorem check_f (sa si : Value) (w : World) (hr : RdL 5 tpc w sa [⟨1, 1, 5, 50, 2⟩]) (hs : RdL 1 inc w si [7]) :
  Calls Tryz.prog 76 #[.agg #[.int .i64 1, .int .i64 2, .int .i64 5, sa, .int .i64 1, si, .int .i64 1, .int .i64 90]] w fun e w' => e = .returned (.int .i64 0) ∧ Ext w w' := by
 have h := gate_Check gb1 sa si w hr hs
 rw [gb_f] at h
 exact h

set_option maxHeartbeats 16000000 in
theorem law_gateBegun (w : World) :
  Calls Tryz.prog 25 #[] w fun e w' => e = .returned (.bool true) ∧ Ext w w' := by
 have HP := Lib.hid (fun (w' : World) => law_post w')
 have HS := Lib.hid (fun (id : Int) (w' : World) => law_single id w')
 unfold gta post0 at HP
 unfold tkc single at HS
 simp only at HP HS
 go_enter Tryz.func25, Tryz.ntmps25
 go_wp2_with fail
 refine (HP.out _).mono ?_
 rintro e w1 ⟨s1, rfl, h1, hr1⟩
 have H1 := Lib.hid h1
 have HR1 := Lib.hid hr1
 clear h1 hr1
 go_wp2_with fail
 (refine (HS.out 1 _).mono ?_; rintro e w2 ⟨rfl, h2⟩; have H2 := Lib.hid h2; have hz2 := h2.size; clear h2; (try simp only [World.size_alloc, size_set, World.heap_drewN, size_drew] at hz2))
 go_wp2_with fail
 refine (tap_a s1 _ (HR1.out.ext H2.out)).mono ?_
 rintro e w3 ⟨sa3, si3, rfl, h3, ho3, hi3⟩
 have hr3 := ho3.rd tpc_size
 have hi3' := hi3.rd inc_size
 obtain ⟨A3, c3, rfl⟩ := ho3.form
 obtain ⟨B3, d3, rfl⟩ := hi3.form
 have H3 := Lib.hid h3
 have HO3 := Lib.hid hr3
 have HI3 := Lib.hid hi3'
 clear h3 ho3 hi3 hr3 hi3'
 go_wp2_with fail
 have hb1 : Row ((w3.alloc (.cells #[.int .i64 1, .int .i64 2, .int .i64 5, .slice A3 1 c3, .int .i64 1, .slice B3 1 d3, .int .i64 1, .int .i64 90] 52)).alloc (.cells #[.int .i64 1, .int .i64 1, .int .i64 5, .int .i64 50, .int .i64 2] 57)) w3.heap.size #[.int .i64 1, .int .i64 2, .int .i64 5, .slice A3 1 c3, .int .i64 1, .slice B3 1 d3, .int .i64 1, .int .i64 90] := by exact rowA
 have hb2 : Row ((w3.alloc (.cells #[.int .i64 1, .int .i64 2, .int .i64 5, .slice A3 1 c3, .int .i64 1, .slice B3 1 d3, .int .i64 1, .int .i64 90] 52)).alloc (.cells #[.int .i64 1, .int .i64 1, .int .i64 5, .int .i64 50, .int .i64 2] 57)) (w3.heap.size + 1) #[.int .i64 1, .int .i64 1, .int .i64 5, .int .i64 50, .int .i64 2] := by exact rowA
 have hE0 : Ext w ((w3.alloc (.cells #[.int .i64 1, .int .i64 2, .int .i64 5, .slice A3 1 c3, .int .i64 1, .slice B3 1 d3, .int .i64 1, .int .i64 90] 52)).alloc (.cells #[.int .i64 1, .int .i64 1, .int .i64 5, .int .i64 50, .int .i64 2] 57)) := by exact extA
 have hO0 := (HO3.out.ext ((((Ext.refl w3).alloc (.cells #[.int .i64 1, .int .i64 2, .int .i64 5, .slice A3 1 c3, .int .i64 1, .slice B3 1 d3, .int .i64 1, .int .i64 90] 52)).alloc (.cells #[.int .i64 1, .int .i64 1, .int .i64 5, .int .i64 50, .int .i64 2] 57))))
 have hI0 := (HI3.out.ext ((((Ext.refl w3).alloc (.cells #[.int .i64 1, .int .i64 2, .int .i64 5, .slice A3 1 c3, .int .i64 1, .slice B3 1 d3, .int .i64 1, .int .i64 90] 52)).alloc (.cells #[.int .i64 1, .int .i64 1, .int .i64 5, .int .i64 50, .int .i64 2] 57))))
 generalize hB : w3.heap.size = B at *
 generalize ((w3.alloc (.cells #[.int .i64 1, .int .i64 2, .int .i64 5, .slice A3 1 c3, .int .i64 1, .slice B3 1 d3, .int .i64 1, .int .i64 90] 52)).alloc (.cells #[.int .i64 1, .int .i64 1, .int .i64 5, .int .i64 50, .int .i64 2] 57)) = W at *
 have HR0 := Lib.hid hb1
 have HR1 := Lib.hid hb2
 have HE0 := Lib.hid hE0
 have HO := Lib.hid hO0
 have HI := Lib.hid hI0
 have hS0 : (∀ o, W.cell? ⟨B, o, none⟩ = (#[.int .i64 1, .int .i64 2, .int .i64 5, .slice A3 1 c3, .int .i64 1, .slice B3 1 d3, .int .i64 1, .int .i64 90] : Array Value)[o]?) ∧ Ext W W := ⟨hb1.2.1, Ext.refl _⟩
 have HKeep := Lib.hid (fun (w' : World) (h : Ext W w') => (show (∀ o, w'.cell? ⟨B, o, none⟩ = (#[.int .i64 1, .int .i64 2, .int .i64 5, .slice A3 1 c3, .int .i64 1, .slice B3 1 d3, .int .i64 1, .int .i64 90] : Array Value)[o]?) ∧ Ext W w' from ⟨(Row.ext h hb1).2.1, h⟩))
 clear hb1 hb2 hE0 hO0 hI0 hS0 HO3 HI3 H1 H2 H3 hz2
 go_upto_region 3 with fail
 go_cut [6] (fun s6 wx => s6 = .int .i64 10 ∧ Aside (Ext W wx))
 case first =>
  go_wp2_with fail
  go_region_held3 (fun w' => (∀ o, w'.cell? ⟨B, o, none⟩ = (#[.int .i64 1, .int .i64 2, .int .i64 5, .slice A3 1 c3, .int .i64 1, .slice B3 1 d3, .int .i64 1, .int .i64 90] : Array Value)[o]?) ∧ Ext W w')
   (first | (refine HKeep.out _ ?_; (exact extA); done))
   (first | (go_at_call 68; refine (HS.out 1 _).mono ?_; rintro e w4 ⟨rfl, h⟩; have hc4 := h.cells; have hf4 := h.frozs; have hz4 := h.size; have H4 := Lib.hid h; clear h; (try simp only [World.size_alloc, size_set, World.heap_drewN, size_drew] at hz4); (try (have hq4 : W.heap.size < w4.heap.size := by omega)); (try (have hp4 : W.heap.size + 1 < w4.heap.size := by omega))) | (go_at_call 29; refine (tap_b _ _ _ (HO.out.ext (by exact extA)) (HI.out.ext (by exact extA))).mono ?_; rintro e w5 ⟨A5, c5, B5, d5, rfl, h⟩; have hc5 := h.cells; have hf5 := h.frozs; have hz5 := h.size; have H5 := Lib.hid h; clear h; (try simp only [World.size_alloc, size_set, World.heap_drewN, size_drew] at hz5); (try (have hq5 : W.heap.size < w5.heap.size := by omega)); (try (have hp5 : W.heap.size + 1 < w5.heap.size := by omega)); (try (have hr5 : w4.heap.size < w5.heap.size := by omega)); (try (have hs5 : w4.heap.size + 1 < w5.heap.size := by omega))))
  all_goals
   go_wp2_with fail
   go_meet
   case rel => exact ⟨rfl, (show Ext W _ by exact extA)⟩
 case rest =>
  obtain ⟨rfl, HWX⟩ := hcut
  obtain ⟨wx, rfl⟩ : ∃ wx : World, wx = wc := ⟨_, rfl⟩
  have HEX := Lib.hid HWX.out
  (apply Row.use (w := wx) (g := B); (focus (exact rowA)); intro qx_0 fx_0 lx_0 Rx_0; (try simp only [lSet] at qx_0 Rx_0); apply Row.use (w := wx) (g := B + 1); (focus (exact rowA)); intro qx_1 fx_1 lx_1 Rx_1; (try simp only [lSet] at qx_1 Rx_1))
  have hq1 : ∀ V : World, (binOp .eql 57 (.agg #[.int .i64 1, .int .i64 1, .int .i64 5, .int .i64 50, .int .i64 2]) (.agg #[.int .i64 1, .int .i64 1, .int .i64 5, .int .i64 50, .int .i64 2])).run Tryz.prog V = .ok (.bool true) V := fun V => by simpa using eql_tp 1 1 5 50 2 1 1 5 50 2 V
  have hq2 : ∀ V : World, (binOp .eql 50 (.agg #[.int .i64 9, .int .i64 160]) (.agg #[.int .i64 9, .int .i64 160])).run Tryz.prog V = .ok (.bool true) V := fun V => by simpa using eql_bd 9 160 9 160 V
  have HQ1 := Lib.hid hq1
  have HQ2 := Lib.hid hq2
  clear hq1 hq2 HWX
  go_wp2_with fail
  refine (HP.out _).mono ?_
  rintro e w6 ⟨s6, rfl, h6, hr6⟩
  have H6 := Lib.hid h6
  have HR6 := Lib.hid hr6
  clear h6 hr6
  go_wp2_with fail
  (refine (HS.out 7 _).mono ?_; rintro e w7 ⟨rfl, h7⟩; have H7 := Lib.hid h7; have hz7 := h7.size; clear h7; (try simp only [World.size_alloc, size_set, World.heap_drewN, size_drew] at hz7))
  go_wp2_with fail
  refine (tap_c s6 _ (HR6.out.ext H7.out)).mono ?_
  rintro e w8 ⟨A8, c8, B8, d8, rfl, h8⟩
  have H8 := Lib.hid h8
  clear h8
  go_wp2_with fail
  refine (HP.out _).mono ?_
  rintro e w9 ⟨s9, rfl, h9, hr9⟩
  have H9 := Lib.hid h9
  have HR9 := Lib.hid hr9
  clear h9 hr9
  go_wp2_with fail
  (refine (HS.out 1 _).mono ?_; rintro e w10 ⟨rfl, h10⟩; have H10 := Lib.hid h10; have hz10 := h10.size; clear h10; (try simp only [World.size_alloc, size_set, World.heap_drewN, size_drew] at hz10))
  go_wp2_with fail
  refine (tap_d s9 _ (HR9.out.ext H10.out)).mono ?_
  rintro e w11 ⟨A11, c11, B11, d11, rfl, h11⟩
  have H11 := Lib.hid h11
  have hz11 := h11.size
  clear h11
  (apply Row.use (w := w11) (g := B); (focus (exact rowA)); intro q11_0 f11_0 l11_0 R11_0; (try simp only [lSet] at q11_0 R11_0); apply Row.use (w := w11) (g := B + 1); (focus (exact rowA)); intro q11_1 f11_1 l11_1 R11_1; (try simp only [lSet] at q11_1 R11_1))
  go_wp2_with fail
  refine (sync_e _ _ _ (HO.out.ext (by exact extA)) (HI.out.ext (by exact extA))).mono ?_
  rintro e w12 ⟨A12, c12, B12, d12, rfl, h12⟩
  have H12 := Lib.hid h12
  have hz12 := h12.size
  clear h12
  (apply Row.use (w := w12) (g := B); (focus (exact rowA)); intro q12_0 f12_0 l12_0 R12_0; (try simp only [lSet] at q12_0 R12_0); apply Row.use (w := w12) (g := B + 1); (focus (exact rowA)); intro q12_1 f12_1 l12_1 R12_1; (try simp only [lSet] at q12_1 R12_1))
  go_wp2_with fail
  refine (check_f _ _ _ (HO.out.ext (by exact extA)) (HI.out.ext (by exact extA))).mono ?_
  rintro e w13 ⟨rfl, h13⟩
  have H13 := Lib.hid h13
  have hz13 := h13.size
  clear h13
  (try simp only [World.size_alloc, size_set, World.heap_drewN, size_drew] at hz13)
  (apply Row.use (w := w13) (g := B); (focus (exact rowA)); intro q13_0 f13_0 l13_0 R13_0; (try simp only [lSet] at q13_0 R13_0); apply Row.use (w := w13) (g := B + 1); (focus (exact rowA)); intro q13_1 f13_1 l13_1 R13_1; (try simp only [lSet] at q13_1 R13_1); apply Row.use (w := w13) (g := w12.heap.size); (focus (exact rowA)); intro q13_2 f13_2 l13_2 R13_2; (try simp only [lSet] at q13_2 R13_2))
  have hx1 := HQ1.out w13
  have hx2 := HQ2.out w13
  go_wp2_with fail
  go_ret
  refine ⟨rfl, ?_⟩
  exact extA
end Go.Proofs.YteojjbhadgkfgaaGreat
