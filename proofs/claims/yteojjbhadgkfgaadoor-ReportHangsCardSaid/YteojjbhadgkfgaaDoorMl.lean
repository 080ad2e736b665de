/- Ml: parts of the proofs, laid together. -/
import Derived.BigRegion
import Derived.Deep.RegionHeld3
import Derived.Test.YteojjbhadgkfgaaDoorMa
import Derived.Test.YteojjbhadgkfgaaDoorMk
/- Gates that are alone: the plain side. -/
namespace Lb
set_option linter.unusedVariables false
set_option maxRecDepth 100000
set_option linter.unusedSimpArgs false
set_option linter.unnecessarySimpa false

def follows : Option Tp → Tp → Bool
 | none, _ => true
 | some x, p => decide (x.time ≤ p.time) && p.seq == x.seq + 1
def ckAlone (id zone : Int) : Option Tp → List Tp → Int
 | _, [] => 0
 | prev, p :: l => if ckTap p ≠ 0 then ckTap p else if p.gate ≠ id ∨ p.zone ≠ zone ∨ follows prev p = false then 4 else ckAlone id zone (some p) l
theorem ckAlone_cons (id zone : Int) (prev : Option Tp) (p : Tp) (l : List Tp) : ckAlone id zone prev (p :: l) = if ckTap p ≠ 0 then ckTap p else if p.gate ≠ id ∨ p.zone ≠ zone ∨ follows prev p = false then 4 else ckAlone id zone (some p) l := rfl
def lastOk (l : List Tp) (seq : Int) : Bool := match l.getLast? with
 | none => true
 | some x => x.seq == seq
/-- what is wrong with what a gate let through alone -/
def aloneE (g : Gt) : Int := if ckAlone g.id g.zone none g.alone ≠ 0 then ckAlone g.id g.zone none g.alone else if lastOk g.alone g.seq = false then 4 else 0
def ckGate (g : Gt) : Int :=
 if within g.id 0 2 = false ∨ within g.seq 0 99 = false then 3
 else if isZone g.zone = false then 9
 else if 12 < g.alone.length then 2
 else if aloneE g ≠ 0 then aloneE g
 else if ckDn g.denied ≠ 0 then ckDn g.denied
 else if within g.left 0 9 = false ∨ within g.untl 0 10099 = false then 3 else 0
def early (l : List Tp) (time : Int) : Bool := match l.getLast? with
 | none => false
 | some x => decide (time < x.time)
def tapOf (g : Gt) (t : Tk) (time : Int) : Tp := ⟨t.id, g.id, g.seq + 1, time, g.zone⟩
def tapped (g : Gt) (t : Tk) (time : Int) : Gt := ⟨g.id, g.zone, g.seq + 1, g.alone ++ [tapOf g t time], g.denied, g.left - 1, g.untl⟩
theorem ckTap_ok {p : Tp} : ckTap p = 0 ↔ within p.ticket 1 9999 = true ∧ within p.gate 0 2 = true ∧ within p.seq 1 99 = true ∧ within p.time 0 9999 = true ∧ isZone p.zone = true := by
 unfold ckTap
 cases h1 : within p.ticket 1 9999 <;> cases h2 : within p.gate 0 2 <;> cases h3 : within p.seq 1 99 <;> cases h4 : within p.time 0 9999 <;> cases h5 : isZone p.zone <;> simp
structure RightG (g : Gt) : Prop where
 id : within g.id 0 2 = true
 seq : within g.seq 0 99 = true
 zone : isZone g.zone = true
 len : g.alone.length ≤ 12
 alone : ckAlone g.id g.zone none g.alone = 0
 last : lastOk g.alone g.seq = true
 denied : ckDn g.denied = 0
 left : within g.left 0 9 = true
 untl : within g.untl 0 10099 = true
theorem ckGate_ok {g : Gt} : ckGate g = 0 ↔ RightG g := by
 unfold ckGate aloneE
 constructor
 ·intro h
  by_cases h1 : within g.id 0 2 = false ∨ within g.seq 0 99 = false
  ·rw [if_pos h1] at h; simp at h
  rw [if_neg h1] at h
  by_cases h2 : isZone g.zone = false
  ·rw [if_pos h2] at h; simp at h
  rw [if_neg h2] at h
  by_cases h3 : 12 < g.alone.length
  ·rw [if_pos h3] at h; simp at h
  rw [if_neg h3] at h
  by_cases h4' : ckAlone g.id g.zone none g.alone ≠ 0
  ·rw [if_pos h4'] at h
   rw [if_pos h4'] at h
   exact absurd h h4'
  have h4 := Classical.byContradiction h4'
  by_cases h5 : lastOk g.alone g.seq = false
  ·rw [if_neg h4', if_pos h5] at h
   simp at h
  rw [if_neg h4', if_neg h5, if_neg (by decide)] at h
  by_cases h6' : ckDn g.denied ≠ 0
  ·rw [if_pos h6'] at h; exact absurd h h6'
  rw [if_neg h6'] at h
  have h6 := Classical.byContradiction h6'
  by_cases h7 : within g.left 0 9 = false ∨ within g.untl 0 10099 = false
  ·rw [if_pos h7] at h; simp at h
  simp only [not_or, Bool.not_eq_false] at h1 h2 h5 h7
  exact ⟨h1.1, h1.2, h2, by omega, h4, h5, h6, h7.1, h7.2⟩
 ·rintro ⟨h1, h2, h3, h4, h5, h6, h7, h8, h9⟩
  have : ¬ 12 < g.alone.length := by omega
  simp [h1, h2, h3, this, h5, h6, h7, h8, h9]
end Lb

/- gate: what is wrong with what was let through alone. -/
namespace Go.Proofs.YteojjbhadgkfgaaDoor
set_option linter.unusedSimpArgs false
set_option linter.unusedVariables false
set_option maxRecDepth 100000
open Go Go.RowKit Lb

def gta (g : Gt) (sa si : Value) : Array Value := #[.int .i64 g.id, .int .i64 g.zone, .int .i64 g.seq, sa, .int .i64 g.denied.version, si, .int .i64 g.left, .int .i64 g.untl]
def prevT (l : List Tp) (k : Nat) : Option Tp := if k = 0 then none else l[k - 1]?
theorem prevT_succ (l : List Tp) (k : Nat) (h : k < l.length) : prevT l (k + 1) = some l[k] := by simp [prevT, h]
theorem RdL.tp_at {w : World} {v : Value} {l : List Tp} (h : RdL 5 tpc w v l) {A : Option Addr} {n c : Nat} (hv : v = .slice A n c) {k : Nat} (hk : k < l.length) : ∃ b o, A = some ⟨b, o, none⟩ ∧ b < w.heap.size ∧
  w.cell? ⟨b, o + k * 5, none⟩ = some (.int .i64 l[k].ticket) ∧ w.cell? ⟨b, o + k * 5 + 1, none⟩ = some (.int .i64 l[k].gate) ∧ w.cell? ⟨b, o + k * 5 + 2, none⟩ = some (.int .i64 l[k].seq) ∧ w.cell? ⟨b, o + k * 5 + 3, none⟩ = some (.int .i64 l[k].time) ∧ w.cell? ⟨b, o + k * 5 + 4, none⟩ = some (.int .i64 l[k].zone) := by
 subst hv
 obtain ⟨b, o, c', hv, hb, hc⟩ := h.at_ hk
 injection hv with hA
 exact ⟨b, o, hA, hb, hc 0 _ rfl, hc 1 _ rfl, hc 2 _ rfl, hc 3 _ rfl, hc 4 _ rfl⟩
theorem gate_within (n a b : Int) (w : World) :
  Calls Tryd.prog 93 #[.int .i64 n, .int .i64 a, .int .i64 b] w fun e w' => e = .returned (.bool (within n a b)) ∧ w = w' := by
 go_enter Tryd.func93, Tryd.ntmps93
 go_wp2
 all_goals
  go_ret
  exact ⟨ret_bool (by simp [within, *] <;> omega), rfl⟩

set_option maxHeartbeats 8000000 in
theorem gate_alone (g : Gt) (sa si : Value) (w : World) (hr : RdL 5 tpc w sa g.alone) (hs : ∃ A n c, si = .slice A n c) :
  Calls Tryd.prog 94 #[.agg (gta g sa si)] w fun e w' => e = .returned (.int .i64 (aloneE g)) ∧ Ext w w' := by
 obtain ⟨A, c, rfl, hmc, hmm⟩ := hr.form
 obtain ⟨A2, n2, c2, rfl⟩ := hs
 obtain ⟨gid, zone, seq, l, ⟨ver, ids⟩, left, untl⟩ := g
 unfold aloneE gta
 simp only at hr hmc hmm ⊢
 have hm : l.length ≤ 9223372036854775807 := by unfold maxLen at hmm; omega
 generalize hR : ckAlone gid zone none l = r
 generalize hS : (if r ≠ 0 then r else if lastOk l seq = false then (4 : Int) else 0) = res
 have HRd := Lib.hid hr
 have HR := Lib.hid hR
 have HS := Lib.hid hS
 clear hr hmc hmm hR hS
 go_enter Tryd.func94, Tryd.ntmps94
 go_wp2_with fail
 go_loopg [2, 4, 5, 6, 13] l.length (fun gg _ _ _ _ s13 wr => ∃ k : Nat, k ≤ l.length ∧ l.length - k ≤ gg ∧ s13 = .int .i64 k ∧ Aside (Ext w wr ∧ Row wr w.heap.size #[.int .i64 gid, .int .i64 zone, .int .i64 seq, .slice A l.length c, .int .i64 ver, .slice A2 n2 c2, .int .i64 left, .int .i64 untl]) ∧ Aside (ckAlone gid zone (prevT l k) (l.drop k) = r ∧ ∀ x, prevT l k = some x → ckTap x = 0))
 case atStart => exact ⟨0, by omega, by omega, rfl, ⟨(Ext.refl _).alloc _, Row.newAt rfl⟩, HR.out, fun x h => by simp [prevT] at h⟩
 case round =>
  obtain ⟨k, hk, hg, rfl, HE, HA⟩ := hrel
  have hq := HE.out.2.2.1
  have hfz := HE.out.2.2.2
  have hlt2 := HE.out.2.1
  by_cases hlt : k < l.length
  ·have hlt' : (k : Int) < (l.length : Int) := by omega
   obtain ⟨b, o, rfl, hb, c0, c1, c2', c3, c4⟩ := (HRd.out.ext HE.out.1).tp_at rfl hlt
   obtain ⟨hA, hP⟩ := HA.out
   rw [List.drop_eq_getElem_cons hlt, ckAlone_cons] at hA
   have hn := prevT_succ l k hlt
   rw [← hn] at hA
   have HRC := Lib.hid (fun w => rule_Check l[k] w)
   have hpv : 0 < k → ∃ x, prevT l k = some x ∧ ∀ W, Ext wr W → W.cell? ⟨b, o + (k - 1) * 5 + 2, none⟩ = some (.int .i64 x.seq) ∧ W.cell? ⟨b, o + (k - 1) * 5 + 3, none⟩ = some (.int .i64 x.time) := by
    intro h0
    have hk1 : k - 1 < l.length := by omega
    refine ⟨l[k - 1], by unfold prevT; rw [if_neg (by omega), List.getElem?_eq_getElem hk1], fun W hW => ?_⟩
    obtain ⟨b', o', hAA, _, _, _, d2, d3, _⟩ := ((HRd.out.ext HE.out.1).ext hW).tp_at rfl hk1
    injection hAA with hAA
    injection hAA with e1 e2
    subst e1 e2
    exact ⟨d2, d3⟩
   have HPV := Lib.hid hpv
   have HE2 := Lib.hid HE.out.1
   have HRW := Lib.hid HE.out.2
   have hk0 : k = 0 → prevT l k = none := fun h => by subst h; rfl
   have hP2 := Lib.hid hP
   have HN := Lib.hid hn
   clear HE HA hP hpv hn
   generalize hp : l[k] = p at *
   clear hp
   obtain ⟨x0, x1, x2, x3, x4⟩ := p
   simp only at c0 c1 c2' c3 c4
   unfold tpc at HRC
   generalize hck : ckTap ⟨x0, x1, x2, x3, x4⟩ = q at HRC hA
   by_cases hq0 : q = 0
   ·rw [if_neg (by simpa using hq0)] at hA
    subst hq0
    have HCK := Lib.hid hck
    clear hck
    by_cases e1 : x1 = gid
    ·have e1b : (x1 != gid) = false := by simpa using e1
     by_cases e2 : x4 = zone
     ·have e2b : (x4 != zone) = false := by simpa using e2
      by_cases hz : k = 0
      ·rw [hk0 hz, if_neg (by simp [e1, e2, follows])] at hA
       subst hz
       simp only [Nat.zero_mul, Nat.add_zero] at c0 c1 c2' c3 c4
       have HA2 := Lib.hid hA
       clear hA hk0 e1 e2 hP2 HPV
       go_wp2_with fail
       (refine (HRC.out _).mono ?_; rintro e w1 ⟨rfl, h1⟩; have H1 := Lib.hid h1; have hz1 := h1.size; clear h1; (try simp only [World.size_alloc, size_set, World.heap_drewN, size_drew] at hz1); apply Row.use (w := w1) (g := w.heap.size); (focus (exact rowA)); intro q1_0 f1_0 l1_0 R1_0; (try simp only [lSet] at q1_0 R1_0); apply Row.use (w := w1) (g := wr.heap.size); (focus (exact rowA)); intro q1_1 f1_1 l1_1 R1_1; (try simp only [lSet] at q1_1 R1_1))
       go_wp2_with fail
       go_quiet (fail)
       go_wp2_with fail
       go_roundg (l.length - (0 + 1))
       case measure => omega
       case rel => exact ⟨0 + 1, by omega, by omega, by go_num, ⟨(show Ext w _ by exact extA), R1_0.out.drewN⟩, HA2.out, fun y hy => by rw [HN.out] at hy; injection hy with hy; subst hy; exact HCK.out⟩
      ·obtain ⟨y, hy, hyc⟩ := HPV.out (by omega)
       have hyk := hP2.out y hy
       have hys : y.seq ≤ 99 ∧ 1 ≤ y.seq := by
        have := (ckTap_ok.1 hyk).2.2.1
        simp [within] at this
        omega
       have hws : IntKind.i64.wrap (y.seq + 1) = y.seq + 1 := IntWalk.i64_in _ (by omega)
       have hkn : 0 < k := by omega
       have hkd : decide (0 < k) = true := by simpa using hkn
       have hw1 : IntKind.i64.wrap ((k : Int) - 1) = ((k - 1 : Nat) : Int) := by rw [IntWalk.i64_in _ (by omega)]; omega
       have hk1 : ((k - 1 : Nat) : Int) < (l.length : Int) := by omega
       have hk2 : k - 1 < l.length := by omega
       rw [hy] at hA
       have HYC := Lib.hid hyc
       clear hyk hy hyc HPV hP2 hk0
       obtain ⟨y0, y1, y2, y3, y4⟩ := y
       simp only at hys hws HYC
       by_cases e3 : y3 ≤ x3
       ·have e3b : decide (x3 < y3) = false := by simpa using e3
        by_cases e4 : x2 = y2 + 1
        ·have e4b : (x2 != y2 + 1) = false := by simpa using e4
         rw [if_neg (by simp [e1, e2, e3, e4, follows])] at hA
         have HA2 := Lib.hid hA
         clear hA e1 e2 e3 e4
         go_wp2_with fail
         (refine (HRC.out _).mono ?_; rintro e w1 ⟨rfl, h1⟩; have H1 := Lib.hid h1; have hz1 := h1.size; clear h1; (try simp only [World.size_alloc, size_set, World.heap_drewN, size_drew] at hz1); apply Row.use (w := w1) (g := w.heap.size); (focus (exact rowA)); intro q1_0 f1_0 l1_0 R1_0; (try simp only [lSet] at q1_0 R1_0); apply Row.use (w := w1) (g := wr.heap.size); (focus (exact rowA)); intro q1_1 f1_1 l1_1 R1_1; (try simp only [lSet] at q1_1 R1_1))
         obtain ⟨f2, f3⟩ := HYC.out w1 (by exact extA)
         go_wp2_with fail
         go_quiet (fail)
         go_wp2_with fail
         go_roundg (l.length - (k + 1))
         case measure => omega
         case rel => exact ⟨k + 1, by omega, by omega, by go_num, ⟨(show Ext w _ by exact extA), R1_0.out.drewN⟩, HA2.out, fun y hy => by rw [HN.out] at hy; injection hy with hy; subst hy; exact HCK.out⟩
        ·have e4b : (x2 != y2 + 1) = true := by simpa using e4
         have HQ := Lib.hid (show res = 4 by rw [if_pos (by simp [follows, e4])] at hA; rw [← HS.out, ← hA]; simp)
         clear hA e1 e2 e3 e4
         go_wp2_with fail
         (refine (HRC.out _).mono ?_; rintro e w1 ⟨rfl, h1⟩; have H1 := Lib.hid h1; have hz1 := h1.size; clear h1; (try simp only [World.size_alloc, size_set, World.heap_drewN, size_drew] at hz1); apply Row.use (w := w1) (g := w.heap.size); (focus (exact rowA)); intro q1_0 f1_0 l1_0 R1_0; (try simp only [lSet] at q1_0 R1_0); apply Row.use (w := w1) (g := wr.heap.size); (focus (exact rowA)); intro q1_1 f1_1 l1_1 R1_1; (try simp only [lSet] at q1_1 R1_1))
         obtain ⟨f2, f3⟩ := HYC.out w1 (by exact extA)
         go_wp2_with fail
         go_quiet (fail)
         go_wp2_with fail
         go_ret
         refine ⟨ret_int (by rw [HQ.out]), ?_⟩
         exact extA
       ·have e3b : decide (x3 < y3) = true := by simpa using e3
        have HQ := Lib.hid (show res = 4 by rw [if_pos (by simp [follows, e3])] at hA; rw [← HS.out, ← hA]; simp)
        clear hA e1 e2 e3
        go_wp2_with fail
        (refine (HRC.out _).mono ?_; rintro e w1 ⟨rfl, h1⟩; have H1 := Lib.hid h1; have hz1 := h1.size; clear h1; (try simp only [World.size_alloc, size_set, World.heap_drewN, size_drew] at hz1); apply Row.use (w := w1) (g := w.heap.size); (focus (exact rowA)); intro q1_0 f1_0 l1_0 R1_0; (try simp only [lSet] at q1_0 R1_0); apply Row.use (w := w1) (g := wr.heap.size); (focus (exact rowA)); intro q1_1 f1_1 l1_1 R1_1; (try simp only [lSet] at q1_1 R1_1))
        obtain ⟨f2, f3⟩ := HYC.out w1 (by exact extA)
        go_wp2_with fail
        go_quiet (fail)
        go_wp2_with fail
        go_ret
        refine ⟨ret_int (by rw [HQ.out]), ?_⟩
        exact extA
     ·have e2b : (x4 != zone) = true := by simpa using e2
      have HQ := Lib.hid (show res = 4 by rw [if_pos (by simp [e2])] at hA; rw [← HS.out, ← hA]; simp)
      clear hA e1 e2 hk0 hP2 HPV
      go_wp2_with fail
      (refine (HRC.out _).mono ?_; rintro e w1 ⟨rfl, h1⟩; have H1 := Lib.hid h1; have hz1 := h1.size; clear h1; (try simp only [World.size_alloc, size_set, World.heap_drewN, size_drew] at hz1); apply Row.use (w := w1) (g := w.heap.size); (focus (exact rowA)); intro q1_0 f1_0 l1_0 R1_0; (try simp only [lSet] at q1_0 R1_0); apply Row.use (w := w1) (g := wr.heap.size); (focus (exact rowA)); intro q1_1 f1_1 l1_1 R1_1; (try simp only [lSet] at q1_1 R1_1))
      go_wp2_with fail
      go_quiet (fail)
      go_wp2_with fail
      go_ret
      refine ⟨ret_int (by rw [HQ.out]), ?_⟩
      exact extA
    ·have e1b : (x1 != gid) = true := by simpa using e1
     have HQ := Lib.hid (show res = 4 by rw [if_pos (by simp [e1])] at hA; rw [← HS.out, ← hA]; simp)
     clear hA e1 hk0 hP2 HPV
     go_wp2_with fail
     (refine (HRC.out _).mono ?_; rintro e w1 ⟨rfl, h1⟩; have H1 := Lib.hid h1; have hz1 := h1.size; clear h1; (try simp only [World.size_alloc, size_set, World.heap_drewN, size_drew] at hz1); apply Row.use (w := w1) (g := w.heap.size); (focus (exact rowA)); intro q1_0 f1_0 l1_0 R1_0; (try simp only [lSet] at q1_0 R1_0); apply Row.use (w := w1) (g := wr.heap.size); (focus (exact rowA)); intro q1_1 f1_1 l1_1 R1_1; (try simp only [lSet] at q1_1 R1_1))
     go_wp2_with fail
     go_quiet (fail)
     go_wp2_with fail
     go_ret
     refine ⟨ret_int (by rw [HQ.out]), ?_⟩
     exact extA
   ·have hqb : (q != 0) = true := by simpa using hq0
    have HQ := Lib.hid (show res = q by rw [if_pos hq0] at hA; rw [← HS.out, ← hA, if_pos hq0])
    clear hA hq0 hck hk0 hP2 HPV
    go_wp2_with fail
    (refine (HRC.out _).mono ?_; rintro e w1 ⟨rfl, h1⟩; have H1 := Lib.hid h1; have hz1 := h1.size; clear h1; (try simp only [World.size_alloc, size_set, World.heap_drewN, size_drew] at hz1); apply Row.use (w := w1) (g := w.heap.size); (focus (exact rowA)); intro q1_0 f1_0 l1_0 R1_0; (try simp only [lSet] at q1_0 R1_0); apply Row.use (w := w1) (g := wr.heap.size); (focus (exact rowA)); intro q1_1 f1_1 l1_1 R1_1; (try simp only [lSet] at q1_1 R1_1))
    go_wp2_with fail
    go_ret
    refine ⟨ret_int (by rw [HQ.out]), ?_⟩
    exact extA
  ·have hkl : k = l.length := by omega
   have hge : ¬ (k : Int) < (l.length : Int) := by omega
   have hA := HA.out.1
   rw [hkl, List.drop_length] at hA
   simp only [ckAlone] at hA
   have HE2 := Lib.hid HE.out.1
   have HRW := Lib.hid HE.out.2
   have HZ := Lib.hid (show (if lastOk l seq = false then (4 : Int) else 0) = res by rw [← HS.out, ← hA]; simp)
   clear HE HA hA hkl
   by_cases hl0 : l = []
   ·have hz : l.length = 0 := by rw [hl0]; rfl
    have HQ := Lib.hid (show res = 0 by rw [← HZ.out, hl0]; rfl)
    have hn0 : decide (0 < l.length) = false := by rw [hz]; rfl
    clear hl0 HZ
    go_wp2_with fail
    go_quiet (fail)
    go_wp2_with fail
    go_ret
    refine ⟨ret_int (by rw [HQ.out]), ?_⟩
    exact extA
   ·have hlp : 0 < l.length := List.length_pos_iff.2 hl0
    have hn0 : decide (0 < l.length) = true := by simpa using hlp
    have hll : l.length - 1 < l.length := by omega
    obtain ⟨b, o, rfl, hb, c0, c1, c2', c3, c4⟩ := (HRd.out.ext HE2.out).tp_at rfl hll
    have hw1 : IntKind.i64.wrap ((l.length : Int) - 1) = ((l.length - 1 : Nat) : Int) := by rw [IntWalk.i64_in _ (by omega)]; omega
    have hk1 : ((l.length - 1 : Nat) : Int) < (l.length : Int) := by omega
    have hlast : lastOk l seq = (l[l.length - 1].seq == seq) := by
     unfold lastOk
     rw [List.getLast?_eq_getElem?, List.getElem?_eq_getElem hll]
    rw [hlast] at HZ
    clear c0 c1 c3 c4 hl0 hlast
    generalize l[l.length - 1].seq = y at *
    by_cases hy : y = seq
    ·have hyb : (y != seq) = false := by simpa using hy
     have HQ := Lib.hid (show res = 0 by rw [← HZ.out]; simp [hy])
     clear hy HZ
     go_wp2_with fail
     go_quiet (fail)
     go_wp2_with fail
     go_ret
     refine ⟨ret_int (by rw [HQ.out]), ?_⟩
     exact extA
    ·have hyb : (y != seq) = true := by simpa using hy
     have HQ := Lib.hid (show res = 4 by rw [← HZ.out]; simp [hy])
     clear hy HZ
     go_wp2_with fail
     go_quiet (fail)
     go_wp2_with fail
     go_ret
     refine ⟨ret_int (by rw [HQ.out]), ?_⟩
     exact extA
end Go.Proofs.YteojjbhadgkfgaaDoor

/- gate.Check. -/
namespace Go.Proofs.YteojjbhadgkfgaaDoor
set_option linter.unusedSimpArgs false
set_option linter.unusedVariables false
set_option maxRecDepth 100000
open Go Go.RowKit Lb

set_option maxHeartbeats 8000000 in
theorem gate_Check (g : Gt) (sa si : Value) (w : World) (hr : RdL 5 tpc w sa g.alone) (hs : RdL 1 inc w si g.denied.ids) :
  Calls Tryd.prog 80 #[.agg (gta g sa si)] w fun e w' => e = .returned (.int .i64 (ckGate g)) ∧ Ext w w' := by
 have HAL := Lib.hid (fun (w' : World) (h : Ext w w') => gate_alone g sa si w' (hr.ext h) (by obtain ⟨A, c, h, -, -⟩ := hs.form; exact ⟨_, _, _, h⟩))
 have HDN := Lib.hid (fun (w' : World) (h : Ext w w') => denied_Check g.denied si w' (hs.ext h))
 have HW1 := Lib.hid (fun w => gate_within g.id 0 2 w)
 have HW2 := Lib.hid (fun w => gate_within g.seq 0 99 w)
 have HW4 := Lib.hid (fun w => gate_within g.left 0 9 w)
 have HW5 := Lib.hid (fun w => gate_within g.untl 0 10099 w)
 have HZN := Lib.hid (fun w => rule_Zone g.zone w)
 have hE : ckGate g = if within g.id 0 2 = false ∨ within g.seq 0 99 = false then 3 else if isZone g.zone = false then 9 else if 12 < g.alone.length then 2 else if aloneE g ≠ 0 then aloneE g else if ckDn g.denied ≠ 0 then ckDn g.denied else if within g.left 0 9 = false ∨ within g.untl 0 10099 = false then 3 else 0 := rfl
 obtain ⟨A, c, rfl, hmc, hmm⟩ := hr.form
 obtain ⟨A2, c2, rfl, -, -⟩ := hs.form
 have hm : g.alone.length ≤ 9223372036854775807 := by unfold maxLen at hmm; omega
 unfold gta at HAL ⊢
 generalize within g.id 0 2 = z1 at *
 generalize within g.seq 0 99 = z2 at *
 generalize isZone g.zone = z3 at *
 generalize aloneE g = a at *
 generalize ckDn g.denied = d at *
 generalize within g.left 0 9 = z4 at *
 generalize within g.untl 0 10099 = z5 at *
 clear hr hs hmc hmm
 cases z1
 ·have HQ := Lib.hid (show ckGate g = 3 by rw [hE]; simp [*])
  clear hE
  go_enter Tryd.func80, Tryd.ntmps80
  go_wp2_with fail
  refine (HW1.out _).mono ?_
  rintro e w' ⟨rfl, rfl⟩
  go_wp2_with fail
  go_ret
  refine ⟨ret_int (by rw [HQ.out]), ?_⟩
  exact extA
 ·cases z2
  ·have HQ := Lib.hid (show ckGate g = 3 by rw [hE]; simp [*])
   clear hE
   go_enter Tryd.func80, Tryd.ntmps80
   go_wp2_with fail
   refine (HW1.out _).mono ?_
   rintro e w' ⟨rfl, rfl⟩
   go_wp2_with fail
   refine (HW2.out _).mono ?_
   rintro e w' ⟨rfl, rfl⟩
   go_wp2_with fail
   go_ret
   refine ⟨ret_int (by rw [HQ.out]), ?_⟩
   exact extA
  ·cases z3
   ·have HQ := Lib.hid (show ckGate g = 9 by rw [hE]; simp [*])
    clear hE
    go_enter Tryd.func80, Tryd.ntmps80
    go_wp2_with fail
    refine (HW1.out _).mono ?_
    rintro e w' ⟨rfl, rfl⟩
    go_wp2_with fail
    refine (HW2.out _).mono ?_
    rintro e w' ⟨rfl, rfl⟩
    go_wp2_with fail
    (refine (HZN.out _).mono ?_; rintro e w1 ⟨rfl, h1⟩; have H1 := Lib.hid h1; have hz1 := h1.size; clear h1; (try simp only [World.size_alloc, size_set, World.heap_drewN, size_drew] at hz1); apply Row.use (w := w1) (g := w.heap.size); (focus (exact rowA)); intro q1_0 f1_0 l1_0 R1_0; (try simp only [lSet] at q1_0 R1_0))
    go_wp2_with fail
    go_ret
    refine ⟨ret_int (by rw [HQ.out]), ?_⟩
    exact extA
   ·by_cases hl : 12 < g.alone.length
    ·have hl' : (12 : Int) < (g.alone.length : Int) := by omega
     have HQ := Lib.hid (show ckGate g = 2 by rw [hE]; simp [hl])
     clear hE hl
     go_enter Tryd.func80, Tryd.ntmps80
     go_wp2_with fail
     refine (HW1.out _).mono ?_
     rintro e w' ⟨rfl, rfl⟩
     go_wp2_with fail
     refine (HW2.out _).mono ?_
     rintro e w' ⟨rfl, rfl⟩
     go_wp2_with fail
     (refine (HZN.out _).mono ?_; rintro e w1 ⟨rfl, h1⟩; have H1 := Lib.hid h1; have hz1 := h1.size; clear h1; (try simp only [World.size_alloc, size_set, World.heap_drewN, size_drew] at hz1); apply Row.use (w := w1) (g := w.heap.size); (focus (exact rowA)); intro q1_0 f1_0 l1_0 R1_0; (try simp only [lSet] at q1_0 R1_0))
     go_wp2_with fail
     go_ret
     refine ⟨ret_int (by rw [HQ.out]), ?_⟩
     exact extA
    ·have hl' : ¬ (12 : Int) < (g.alone.length : Int) := by omega
     by_cases ha : a = 0
     ·by_cases hd : d = 0
      ·subst ha hd
       cases z4
       ·have HQ := Lib.hid (show ckGate g = 3 by rw [hE]; simp [hl])
        clear hE hl
        go_enter Tryd.func80, Tryd.ntmps80
        go_wp2_with fail
        refine (HW1.out _).mono ?_
        rintro e w' ⟨rfl, rfl⟩
        go_wp2_with fail
        refine (HW2.out _).mono ?_
        rintro e w' ⟨rfl, rfl⟩
        go_wp2_with fail
        (refine (HZN.out _).mono ?_; rintro e w1 ⟨rfl, h1⟩; have H1 := Lib.hid h1; have hz1 := h1.size; clear h1; (try simp only [World.size_alloc, size_set, World.heap_drewN, size_drew] at hz1); apply Row.use (w := w1) (g := w.heap.size); (focus (exact rowA)); intro q1_0 f1_0 l1_0 R1_0; (try simp only [lSet] at q1_0 R1_0))
        go_wp2_with fail
        (refine (HAL.out _ (by exact extA)).mono ?_; rintro e w2 ⟨rfl, h2⟩; have H2 := Lib.hid h2; have hz2 := h2.size; clear h2; (try simp only [World.size_alloc, size_set, World.heap_drewN, size_drew] at hz2); apply Row.use (w := w2) (g := w.heap.size); (focus (exact rowA)); intro q2_0 f2_0 l2_0 R2_0; (try simp only [lSet] at q2_0 R2_0))
        go_wp2_with fail
        (refine (HDN.out _ (by exact extA)).mono ?_; rintro e w3 ⟨rfl, h3⟩; have H3 := Lib.hid h3; have hz3 := h3.size; clear h3; (try simp only [World.size_alloc, size_set, World.heap_drewN, size_drew] at hz3); apply Row.use (w := w3) (g := w.heap.size); (focus (exact rowA)); intro q3_0 f3_0 l3_0 R3_0; (try simp only [lSet] at q3_0 R3_0))
        go_wp2_with fail
        refine (HW4.out _).mono ?_
        rintro e w' ⟨rfl, rfl⟩
        go_wp2_with fail
        go_ret
        refine ⟨ret_int (by rw [HQ.out]), ?_⟩
        exact extA
       ·cases z5
        ·have HQ := Lib.hid (show ckGate g = 3 by rw [hE]; simp [hl])
         clear hE hl
         go_enter Tryd.func80, Tryd.ntmps80
         go_wp2_with fail
         refine (HW1.out _).mono ?_
         rintro e w' ⟨rfl, rfl⟩
         go_wp2_with fail
         refine (HW2.out _).mono ?_
         rintro e w' ⟨rfl, rfl⟩
         go_wp2_with fail
         (refine (HZN.out _).mono ?_; rintro e w1 ⟨rfl, h1⟩; have H1 := Lib.hid h1; have hz1 := h1.size; clear h1; (try simp only [World.size_alloc, size_set, World.heap_drewN, size_drew] at hz1); apply Row.use (w := w1) (g := w.heap.size); (focus (exact rowA)); intro q1_0 f1_0 l1_0 R1_0; (try simp only [lSet] at q1_0 R1_0))
         go_wp2_with fail
         (refine (HAL.out _ (by exact extA)).mono ?_; rintro e w2 ⟨rfl, h2⟩; have H2 := Lib.hid h2; have hz2 := h2.size; clear h2; (try simp only [World.size_alloc, size_set, World.heap_drewN, size_drew] at hz2); apply Row.use (w := w2) (g := w.heap.size); (focus (exact rowA)); intro q2_0 f2_0 l2_0 R2_0; (try simp only [lSet] at q2_0 R2_0))
         go_wp2_with fail
         (refine (HDN.out _ (by exact extA)).mono ?_; rintro e w3 ⟨rfl, h3⟩; have H3 := Lib.hid h3; have hz3 := h3.size; clear h3; (try simp only [World.size_alloc, size_set, World.heap_drewN, size_drew] at hz3); apply Row.use (w := w3) (g := w.heap.size); (focus (exact rowA)); intro q3_0 f3_0 l3_0 R3_0; (try simp only [lSet] at q3_0 R3_0))
         go_wp2_with fail
         refine (HW4.out _).mono ?_
         rintro e w' ⟨rfl, rfl⟩
         go_wp2_with fail
         refine (HW5.out _).mono ?_
         rintro e w' ⟨rfl, rfl⟩
         go_wp2_with fail
         go_ret
         refine ⟨ret_int (by rw [HQ.out]), ?_⟩
         exact extA
        ·have HQ := Lib.hid (show ckGate g = 0 by rw [hE]; simp [hl])
         clear hE hl
         go_enter Tryd.func80, Tryd.ntmps80
         go_wp2_with fail
         refine (HW1.out _).mono ?_
         rintro e w' ⟨rfl, rfl⟩
         go_wp2_with fail
         refine (HW2.out _).mono ?_
         rintro e w' ⟨rfl, rfl⟩
         go_wp2_with fail
         (refine (HZN.out _).mono ?_; rintro e w1 ⟨rfl, h1⟩; have H1 := Lib.hid h1; have hz1 := h1.size; clear h1; (try simp only [World.size_alloc, size_set, World.heap_drewN, size_drew] at hz1); apply Row.use (w := w1) (g := w.heap.size); (focus (exact rowA)); intro q1_0 f1_0 l1_0 R1_0; (try simp only [lSet] at q1_0 R1_0))
         go_wp2_with fail
         (refine (HAL.out _ (by exact extA)).mono ?_; rintro e w2 ⟨rfl, h2⟩; have H2 := Lib.hid h2; have hz2 := h2.size; clear h2; (try simp only [World.size_alloc, size_set, World.heap_drewN, size_drew] at hz2); apply Row.use (w := w2) (g := w.heap.size); (focus (exact rowA)); intro q2_0 f2_0 l2_0 R2_0; (try simp only [lSet] at q2_0 R2_0))
         go_wp2_with fail
         (refine (HDN.out _ (by exact extA)).mono ?_; rintro e w3 ⟨rfl, h3⟩; have H3 := Lib.hid h3; have hz3 := h3.size; clear h3; (try simp only [World.size_alloc, size_set, World.heap_drewN, size_drew] at hz3); apply Row.use (w := w3) (g := w.heap.size); (focus (exact rowA)); intro q3_0 f3_0 l3_0 R3_0; (try simp only [lSet] at q3_0 R3_0))
         go_wp2_with fail
         refine (HW4.out _).mono ?_
         rintro e w' ⟨rfl, rfl⟩
         go_wp2_with fail
         refine (HW5.out _).mono ?_
         rintro e w' ⟨rfl, rfl⟩
         go_wp2_with fail
         go_ret
         refine ⟨ret_int (by rw [HQ.out]), ?_⟩
         exact extA
      ·subst ha
       have hdb : (d != 0) = true := by simpa using hd
       have HQ := Lib.hid (show ckGate g = d by rw [hE]; simp [hl, hd])
       clear hE hl hd
       go_enter Tryd.func80, Tryd.ntmps80
       go_wp2_with fail
       refine (HW1.out _).mono ?_
       rintro e w' ⟨rfl, rfl⟩
       go_wp2_with fail
       refine (HW2.out _).mono ?_
       rintro e w' ⟨rfl, rfl⟩
       go_wp2_with fail
       (refine (HZN.out _).mono ?_; rintro e w1 ⟨rfl, h1⟩; have H1 := Lib.hid h1; have hz1 := h1.size; clear h1; (try simp only [World.size_alloc, size_set, World.heap_drewN, size_drew] at hz1); apply Row.use (w := w1) (g := w.heap.size); (focus (exact rowA)); intro q1_0 f1_0 l1_0 R1_0; (try simp only [lSet] at q1_0 R1_0))
       go_wp2_with fail
       (refine (HAL.out _ (by exact extA)).mono ?_; rintro e w2 ⟨rfl, h2⟩; have H2 := Lib.hid h2; have hz2 := h2.size; clear h2; (try simp only [World.size_alloc, size_set, World.heap_drewN, size_drew] at hz2); apply Row.use (w := w2) (g := w.heap.size); (focus (exact rowA)); intro q2_0 f2_0 l2_0 R2_0; (try simp only [lSet] at q2_0 R2_0))
       go_wp2_with fail
       (refine (HDN.out _ (by exact extA)).mono ?_; rintro e w3 ⟨rfl, h3⟩; have H3 := Lib.hid h3; have hz3 := h3.size; clear h3; (try simp only [World.size_alloc, size_set, World.heap_drewN, size_drew] at hz3); apply Row.use (w := w3) (g := w.heap.size); (focus (exact rowA)); intro q3_0 f3_0 l3_0 R3_0; (try simp only [lSet] at q3_0 R3_0))
       go_wp2_with fail
       go_ret
       refine ⟨ret_int (by rw [HQ.out]), ?_⟩
       exact extA
     ·have hab : (a != 0) = true := by simpa using ha
      have HQ := Lib.hid (show ckGate g = a by rw [hE]; simp [hl, ha])
      clear hE hl ha
      go_enter Tryd.func80, Tryd.ntmps80
      go_wp2_with fail
      refine (HW1.out _).mono ?_
      rintro e w' ⟨rfl, rfl⟩
      go_wp2_with fail
      refine (HW2.out _).mono ?_
      rintro e w' ⟨rfl, rfl⟩
      go_wp2_with fail
      (refine (HZN.out _).mono ?_; rintro e w1 ⟨rfl, h1⟩; have H1 := Lib.hid h1; have hz1 := h1.size; clear h1; (try simp only [World.size_alloc, size_set, World.heap_drewN, size_drew] at hz1); apply Row.use (w := w1) (g := w.heap.size); (focus (exact rowA)); intro q1_0 f1_0 l1_0 R1_0; (try simp only [lSet] at q1_0 R1_0))
      go_wp2_with fail
      (refine (HAL.out _ (by exact extA)).mono ?_; rintro e w2 ⟨rfl, h2⟩; have H2 := Lib.hid h2; have hz2 := h2.size; clear h2; (try simp only [World.size_alloc, size_set, World.heap_drewN, size_drew] at hz2); apply Row.use (w := w2) (g := w.heap.size); (focus (exact rowA)); intro q2_0 f2_0 l2_0 R2_0; (try simp only [lSet] at q2_0 R2_0))
      go_wp2_with fail
      go_ret
      refine ⟨ret_int (by rw [HQ.out]), ?_⟩
      exact extA
end Go.Proofs.YteojjbhadgkfgaaDoor

/- gate.Own, early. -/
namespace Go.Proofs.YteojjbhadgkfgaaDoor
set_option linter.unusedSimpArgs false
set_option linter.unusedVariables false
set_option maxRecDepth 100000
open Go Go.RowKit Lb

end Go.Proofs.YteojjbhadgkfgaaDoor

/- gate: spent; a ticket is tapped. -/
namespace Go.Proofs.YteojjbhadgkfgaaDoor
set_option linter.unusedSimpArgs false
set_option linter.unusedVariables false
set_option maxRecDepth 100000
open Go Go.RowKit Lb

end Go.Proofs.YteojjbhadgkfgaaDoor

/- gate.Raw: a ticket that is right, at a gate that is. -/
namespace Go.Proofs.YteojjbhadgkfgaaDoor
set_option linter.unusedSimpArgs false
set_option linter.unusedVariables false
set_option maxRecDepth 100000
open Go Go.RowKit Lb

end Go.Proofs.YteojjbhadgkfgaaDoor

/- gate.Tap, Told, Sync. -/
namespace Go.Proofs.YteojjbhadgkfgaaDoor
set_option linter.unusedSimpArgs false
set_option linter.unusedVariables false
set_option maxRecDepth 100000
open Go Go.RowKit Lb

end Go.Proofs.YteojjbhadgkfgaaDoor

/- gate.Sync. -/
namespace Go.Proofs.YteojjbhadgkfgaaDoor
set_option linter.unusedSimpArgs false
set_option linter.unusedVariables false
set_option maxRecDepth 100000
open Go Go.RowKit Lb

end Go.Proofs.YteojjbhadgkfgaaDoor
