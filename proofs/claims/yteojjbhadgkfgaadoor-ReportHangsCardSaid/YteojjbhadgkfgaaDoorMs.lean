/- Ms: parts of the proofs, laid together. -/
import Derived.Test.YteojjbhadgkfgaaDoorMl
import Derived.Test.YteojjbhadgkfgaaDoorMw
import Derived.Test.YteojjbhadgkfgaaDoorMg
import Derived.Test.YteojjbhadgkfgaaDoorMf
import Derived.Test.YteojjbhadgkfgaaDoorMc
import Derived.Test.YteojjbhadgkfgaaDoorMr
import Derived.Test.YteojjbhadgkfgaaDoorMo
import Derived.Test.YteojjbhadgkfgaaDoorMa
import Derived.Test.YteojjbhadgkfgaaDoorMb
import Derived.Test.YteojjbhadgkfgaaDoorMk
/- Stations: the plain side: what is wrong with one, what comes of a sale, of a tap, of a gate's telling, of an act. -/
namespace Go.Proofs.YteojjbhadgkfgaaDoor
open Lb
set_option linter.unusedVariables false
set_option maxRecDepth 100000
set_option linter.unusedSimpArgs false

def newG (i : Int) (z : Int) : Gt := ⟨i, z, 0, [], dn0, 9, 100⟩
def newS : St := ⟨ld0, dn0, [newG 0 1, newG 1 2, newG 2 4], [⟨0, 0, true⟩, ⟨0, 0, true⟩, ⟨0, 0, true⟩]⟩
def knownP (i : Int) (g : Gt) (p : Tp) : Bool := p.gate == i && decide (g.seq - g.alone.length < p.seq)
def atG (taps : List Tp) (ver i : Int) (g : Gt) : Int :=
 if ckGate g ≠ 0 then ckGate g else if g.id ≠ i ∨ ver < g.denied.version then 4 else if taps.any (knownP i g) = true then 6 else 0
def ckGates (taps : List Tp) (ver : Int) : Nat → List Gt → Int
 | _, [] => 0
 | i, g :: l => if atG taps ver i g ≠ 0 then atG taps ver i g else ckGates taps ver (i + 1) l
theorem ckGates_cons (taps : List Tp) (ver : Int) (i : Nat) (g : Gt) (l : List Gt) : ckGates taps ver i (g :: l) = if atG taps ver i g ≠ 0 then atG taps ver i g else ckGates taps ver (i + 1) l := rfl
theorem ckGates_ok {taps : List Tp} {ver : Int} : ∀ {l : List Gt} {i : Nat}, ckGates taps ver i l = 0 ↔ ∀ k (h : k < l.length), atG taps ver ((i + k : Nat) : Int) l[k] = 0
 | [], i => by simp [ckGates]
 | g :: l, i => by
  rw [ckGates_cons]
  by_cases h : atG taps ver i g = 0
  ·rw [if_neg (by simpa using h), ckGates_ok]
   constructor
   ·intro hk k hl
    cases k with
    | zero => exact h
    | succ k => have := hk k (by simpa using hl); simpa [Nat.add_assoc, Nat.add_comm 1 k] using this
   ·intro hk k hl
    have := hk (k + 1) (by simpa using hl)
    simpa [Nat.add_assoc, Nat.add_comm 1 k] using this
  ·rw [if_pos h]
   constructor
   ·intro h2; exact absurd h2 h
   ·intro hk; exact absurd (hk 0 (by simp)) h
def ckSt (s : St) : Int :=
 if ckLedger s.ledger ≠ 0 then ckLedger s.ledger
 else if ckDn s.denied ≠ 0 then ckDn s.denied
 else if s.gates.length ≠ 3 then 1
 else if ckGates s.ledger.taps s.denied.version 0 s.gates ≠ 0 then ckGates s.ledger.taps s.denied.version 0 s.gates
 else ckViews s.views
theorem ckSt_ok {s : St} : ckSt s = 0 ↔ ckLedger s.ledger = 0 ∧ ckDn s.denied = 0 ∧ s.gates.length = 3 ∧ ckGates s.ledger.taps s.denied.version 0 s.gates = 0 ∧ ckViews s.views = 0 := by
 unfold ckSt
 by_cases h1 : ckLedger s.ledger = 0
 ·rw [if_neg (by simpa using h1)]
  by_cases h2 : ckDn s.denied = 0
  ·rw [if_neg (by simpa using h2)]
   by_cases h3 : s.gates.length = 3
   ·rw [if_neg (by simpa using h3)]
    by_cases h4 : ckGates s.ledger.taps s.denied.version 0 s.gates = 0
    ·rw [if_neg (by simpa using h4)]; simp [h1, h2, h3, h4]
    ·rw [if_pos h4]; simp [h4]
   ·rw [if_pos h3]; simp [h3]
  ·rw [if_pos h2]; simp [h2]
 ·rw [if_pos h1]; simp [h1]
end Go.Proofs.YteojjbhadgkfgaaDoor

/- Stations: a right one stays right: plain laws. -/
namespace Go.Proofs.YteojjbhadgkfgaaDoor
open Lb
set_option linter.unusedVariables false
set_option maxRecDepth 100000
set_option linter.unusedSimpArgs false

/-- what a right station is -/
structure RightS (s : St) : Prop where
 ledger : ckLedger s.ledger = 0
 denied : ckDn s.denied = 0
 len : s.gates.length = 3
 gates : ∀ k (h : k < s.gates.length), ckGate s.gates[k] = 0 ∧ s.gates[k].id = k ∧ s.gates[k].denied.version ≤ s.denied.version ∧ ∀ p ∈ s.ledger.taps, p.gate = k → p.seq ≤ s.gates[k].seq - s.gates[k].alone.length
 views : ckViews s.views = 0
/-- a gate is put in another's place -/
theorem RightS.set {s : St} (r : RightS s) {l : Ld} {d : Dn} {n : Nat} {g : Gt} {vs : List Vw} (hl : ckLedger l = 0) (hd : ckDn d = 0) (hv : ckViews vs = 0) (hn : n < s.gates.length) (hg : ckGate g = 0) (hi : g.id = n) (hgv : g.denied.version ≤ d.version) (hdv : s.denied.version ≤ d.version)
  (hgt : ∀ p ∈ l.taps, p.gate = (n : Int) → p.seq ≤ g.seq - g.alone.length) (ho : ∀ p ∈ l.taps, p.gate ≠ (n : Int) → p ∈ s.ledger.taps) : RightS ⟨l, d, s.gates.set n g, vs⟩ := by
 refine ⟨hl, hd, by simpa using r.len, fun k hk => ?_, hv⟩
 have hk' : k < s.gates.length := by simpa using hk
 by_cases hkn : n = k
 ·subst hkn
  simp only [List.getElem_set_self]
  exact ⟨hg, hi, hgv, hgt⟩
 ·simp only [List.getElem_set_ne hkn]
  obtain ⟨a, b, c, e⟩ := r.gates k hk'
  refine ⟨a, b, Int.le_trans c hdv, fun p hp hpk => e p (ho p hp ?_) hpk⟩
  rw [hpk]
  exact fun h => hkn (by omega)
theorem RightS.with {s : St} (r : RightS s) {l : Ld} {d : Dn} {vs : List Vw} (hl : ckLedger l = 0) (ht : l.taps = s.ledger.taps) (hd : ckDn d = 0) (hdv : s.denied.version ≤ d.version) (hv : ckViews vs = 0) : RightS ⟨l, d, s.gates, vs⟩ := by
 refine ⟨hl, hd, r.len, fun k hk => ?_, hv⟩
 obtain ⟨a, b, c, e⟩ := r.gates k hk
 exact ⟨a, b, Int.le_trans c hdv, by simpa [ht] using e⟩
end Go.Proofs.YteojjbhadgkfgaaDoor

/- Stations: how one reads, and one that is a call's own. -/
namespace Go.Proofs.YteojjbhadgkfgaaDoor
set_option linter.unusedSimpArgs false
set_option linter.unusedVariables false
set_option maxRecDepth 100000
open Go Go.RowKit Lb

/-- a gate as it lies in a row -/
structure Gy where
 g : Gt
 sa : Value
 si : Value
instance : Inhabited Gy := ⟨⟨gt0, .slice none 0 0, .slice none 0 0⟩⟩
def gyc (y : Gy) : Array Value := gta y.g y.sa y.si
theorem gyc_size (y : Gy) : (gyc y).size = 8 := rfl
/-- a station's slices -/
structure Sv where
 s0 : Value
 s1 : Value
 s2 : Value
 si : Value
 sg : Value
 sv : Value
def sta (s : St) (x : Sv) : Array Value := #[x.s0, x.s1, x.s2, .int .i64 s.denied.version, x.si, x.sg, x.sv]
def GyR (w : World) (y : Gy) : Prop := RdL 5 tpc w y.sa y.g.alone ∧ RdL 1 inc w y.si y.g.denied.ids
def GyO (base : Nat) (w : World) (y : Gy) : Prop := OwnL 62 5 tpc base w y.sa y.g.alone ∧ OwnL 3 1 inc base w y.si y.g.denied.ids
/-- gates, as they read -/
def RdG (w : World) (v : Value) (gl : List Gt) : Prop := ∃ ys : List Gy, gl = ys.map (·.g) ∧ RdL 8 gyc w v ys ∧ ∀ y ∈ ys, GyR w y
/-- gates of one's own -/
def OwnG (base : Nat) (w : World) (v : Value) (gl : List Gt) : Prop := ∃ ys : List Gy, gl = ys.map (·.g) ∧ OwnL 47 8 gyc base w v ys ∧ ∀ y ∈ ys, GyO base w y
theorem RdG.ext {w w' : World} {v : Value} {gl : List Gt} (h : RdG w v gl) (he : Ext w w') : RdG w' v gl := by
 obtain ⟨ys, h1, h2, h3⟩ := h
 exact ⟨ys, h1, h2.ext he, fun y hy => ⟨(h3 y hy).1.ext he, (h3 y hy).2.ext he⟩⟩
theorem RdG.form {w : World} {v : Value} {gl : List Gt} (h : RdG w v gl) : ∃ A c, v = .slice A gl.length c ∧ gl.length ≤ c ∧ c ≤ maxLen := by
 obtain ⟨ys, rfl, h2, -⟩ := h
 obtain ⟨A, c, a, b, d⟩ := h2.form
 exact ⟨A, c, by simpa using a, by simpa using b, d⟩
theorem RdG.nil {w : World} : RdG w (.slice none 0 0) [] := ⟨[], rfl, RdL.nil, fun y h => by cases h⟩
theorem RdG.at_ {w : World} {v : Value} {gl : List Gt} (h : RdG w v gl) {A : Option Addr} {n c : Nat} (hv : v = .slice A n c) {k : Nat} (hk : k < gl.length) : ∃ b o sa si, A = some ⟨b, o, none⟩ ∧ b < w.heap.size ∧
  RdL 5 tpc w sa gl[k].alone ∧ RdL 1 inc w si gl[k].denied.ids ∧
  w.cell? ⟨b, o + k * 8, none⟩ = some (.int .i64 gl[k].id) ∧ w.cell? ⟨b, o + k * 8 + 1, none⟩ = some (.int .i64 gl[k].zone) ∧ w.cell? ⟨b, o + k * 8 + 2, none⟩ = some (.int .i64 gl[k].seq) ∧ w.cell? ⟨b, o + k * 8 + 3, none⟩ = some sa ∧
  w.cell? ⟨b, o + k * 8 + 4, none⟩ = some (.int .i64 gl[k].denied.version) ∧ w.cell? ⟨b, o + k * 8 + 5, none⟩ = some si ∧ w.cell? ⟨b, o + k * 8 + 6, none⟩ = some (.int .i64 gl[k].left) ∧ w.cell? ⟨b, o + k * 8 + 7, none⟩ = some (.int .i64 gl[k].untl) := by
 subst hv
 obtain ⟨ys, rfl, h2, h3⟩ := h
 have hk' : k < ys.length := by simpa using hk
 obtain ⟨b, o, c', hv, hb, hc⟩ := h2.at_ hk'
 injection hv with hA
 have hy := h3 ys[k] (List.getElem_mem hk')
 simp only [List.getElem_map]
 exact ⟨b, o, ys[k].sa, ys[k].si, hA, hb, hy.1, hy.2, hc 0 _ rfl, hc 1 _ rfl, hc 2 _ rfl, hc 3 _ rfl, hc 4 _ rfl, hc 5 _ rfl, hc 6 _ rfl, hc 7 _ rfl⟩
theorem OwnG.rd {base : Nat} {w : World} {v : Value} {gl : List Gt} (h : OwnG base w v gl) : RdG w v gl := by
 obtain ⟨ys, h1, h2, h3⟩ := h
 exact ⟨ys, h1, h2.rd gyc_size, fun y hy => ⟨(h3 y hy).1.rd tpc_size, (h3 y hy).2.rd inc_size⟩⟩
theorem OwnG.ext {base : Nat} {w w' : World} {v : Value} {gl : List Gt} (h : OwnG base w v gl) (he : Ext w w') : OwnG base w' v gl := by
 obtain ⟨ys, h1, h2, h3⟩ := h
 exact ⟨ys, h1, h2.ext he, fun y hy => ⟨(h3 y hy).1.ext he, (h3 y hy).2.ext he⟩⟩
theorem OwnG.lower {base b2 : Nat} {w : World} {v : Value} {gl : List Gt} (h : OwnG base w v gl) (hb : b2 ≤ base) : OwnG b2 w v gl := by
 obtain ⟨ys, h1, h2, h3⟩ := h
 exact ⟨ys, h1, h2.lower hb, fun y hy => ⟨(h3 y hy).1.lower hb, (h3 y hy).2.lower hb⟩⟩
theorem OwnG.nil {base : Nat} {w : World} : OwnG base w (.slice none 0 0) [] := ⟨[], rfl, OwnL.nil, fun y h => by cases h⟩
theorem OwnG.form {base : Nat} {w : World} {v : Value} {gl : List Gt} (h : OwnG base w v gl) : ∃ A c, v = .slice A gl.length c := by
 obtain ⟨ys, rfl, h2, -⟩ := h
 obtain ⟨A, c, a⟩ := h2.form
 exact ⟨A, c, by simpa using a⟩
theorem OwnG.rowS {base : Nat} {w : World} {v : Value} {gl : List Gt} (h : OwnG base w v gl) : RowS base 47 8 w v := by
 obtain ⟨ys, -, h2, -⟩ := h
 exact h2.rowS
/-- a station, as it reads -/
structure RdS (w : World) (x : Sv) (s : St) : Prop where
 tk : RdL 6 tkc w x.s0 s.ledger.tickets
 tp : RdL 5 tpc w x.s1 s.ledger.taps
 vd : RdL 1 inc w x.s2 s.ledger.verdicts
 dn : RdL 1 inc w x.si s.denied.ids
 gt : RdG w x.sg s.gates
 vw : RdL 3 vwc w x.sv s.views
theorem RdS.ext {w w' : World} {x : Sv} {s : St} (h : RdS w x s) (he : Ext w w') : RdS w' x s := ⟨h.tk.ext he, h.tp.ext he, h.vd.ext he, h.dn.ext he, h.gt.ext he, h.vw.ext he⟩
/-- a station of one's own -/
structure OwnS (base : Nat) (w : World) (x : Sv) (s : St) : Prop where
 tk : OwnL 58 6 tkc base w x.s0 s.ledger.tickets
 tp : OwnL 62 5 tpc base w x.s1 s.ledger.taps
 vd : OwnL 3 1 inc base w x.s2 s.ledger.verdicts
 dn : OwnL 3 1 inc base w x.si s.denied.ids
 gt : OwnG base w x.sg s.gates
 vw : OwnL 92 3 vwc base w x.sv s.views
theorem OwnS.ext {base : Nat} {w w' : World} {x : Sv} {s : St} (h : OwnS base w x s) (he : Ext w w') : OwnS base w' x s := ⟨h.tk.ext he, h.tp.ext he, h.vd.ext he, h.dn.ext he, h.gt.ext he, h.vw.ext he⟩
theorem OwnS.lower {base b2 : Nat} {w : World} {x : Sv} {s : St} (h : OwnS base w x s) (hb : b2 ≤ base) : OwnS b2 w x s := ⟨h.tk.lower hb, h.tp.lower hb, h.vd.lower hb, h.dn.lower hb, h.gt.lower hb, h.vw.lower hb⟩
theorem OwnS.rd {base : Nat} {w : World} {x : Sv} {s : St} (h : OwnS base w x s) : RdS w x s := ⟨h.tk.rd tkc_size, h.tp.rd tpc_size, h.vd.rd inc_size, h.dn.rd inc_size, h.gt.rd, h.vw.rd vwc_size⟩
def sv0 : Sv := ⟨.slice none 0 0, .slice none 0 0, .slice none 0 0, .slice none 0 0, .slice none 0 0, .slice none 0 0⟩
theorem OwnS.nil {base : Nat} {w : World} : OwnS base w sv0 st0 := ⟨OwnL.nil, OwnL.nil, OwnL.nil, OwnL.nil, OwnG.nil, OwnL.nil⟩
end Go.Proofs.YteojjbhadgkfgaaDoor

/- Stations of one's own: what outlives writes to boxes and to the gates' row. -/
namespace Go.Proofs.YteojjbhadgkfgaaDoor
set_option linter.unusedSimpArgs false
set_option linter.unusedVariables false
set_option maxRecDepth 100000
open Go Go.RowKit Lb

/-- the types of a station's rows but for the gates' -/
def spK : List TypeId := [58, 62, 3, 92]
section
variable {α : Type} {enc : α → Array Value} {e : TypeId} {k base : Nat} {w w' : World} {v : Value} {l : List α} {own : Nat → Prop} {x : Sv} {s : St} {y : Gy} {gl : List Gt}
theorem OwnL.keepT (h : OwnL e k enc base w v l) (hf : Fr own w w') (ht : ∀ q, own q → ∃ e2 cs, Bx w q e2 cs ∧ e2 ≠ e) : OwnL e k enc base w' v l :=
 hf.own h (fun q hq ho => by obtain ⟨e2, cs, hb, hn⟩ := ht q ho; exact h.rowS.box hb (fun he => hn he.symm) hq)
theorem offK {e0 : TypeId} (h : ∀ q, own q → ∃ e2 cs, Bx w q e2 cs ∧ e2 ∉ spK) (he : e0 ∈ spK) : ∀ q, own q → ∃ e2 cs, Bx w q e2 cs ∧ e2 ≠ e0 := by
 intro q hq
 obtain ⟨e2, cs, hb, hn⟩ := h q hq
 exact ⟨e2, cs, hb, fun hx => hn (hx ▸ he)⟩
theorem GyO.keep (h : GyO base w y) (hf : Fr own w w') (hn : ∀ q, own q → ∃ e2 cs, Bx w q e2 cs ∧ e2 ∉ spK) : GyO base w' y := ⟨h.1.keepT hf (offK hn (by decide)), h.2.keepT hf (offK hn (by decide))⟩
theorem GyO.ext (h : GyO base w y) (he : Ext w w') : GyO base w' y := ⟨h.1.ext he, h.2.ext he⟩
theorem OwnS.keepG {sg' : Value} {gl' : List Gt} (h : OwnS base w x s) (hf : Fr own w w') (hn : ∀ q, own q → ∃ e2 cs, Bx w q e2 cs ∧ e2 ∉ spK) (hg : OwnG base w' sg' gl') : OwnS base w' ⟨x.s0, x.s1, x.s2, x.si, sg', x.sv⟩ ⟨s.ledger, s.denied, gl', s.views⟩ :=
 ⟨h.tk.keepT hf (offK hn (by decide)), h.tp.keepT hf (offK hn (by decide)), h.vd.keepT hf (offK hn (by decide)), h.dn.keepT hf (offK hn (by decide)), hg, h.vw.keepT hf (offK hn (by decide))⟩
theorem OwnG.keep (h : OwnG base w v gl) (hf : Fr own w w') (hn : ∀ q, own q → ∃ e2 cs, Bx w q e2 cs ∧ e2 ∉ spK) (hg : ∀ q, own q → ∃ e2 cs, Bx w q e2 cs ∧ e2 ≠ 47) : OwnG base w' v gl := by
 obtain ⟨ys, h1, h2, h3⟩ := h
 exact ⟨ys, h1, h2.keepT hf hg, fun y hy => (h3 y hy).keep hf hn⟩
/-- only boxes were written -/
theorem OwnS.keep (h : OwnS base w x s) (hf : Fr own w w') (hn : ∀ q, own q → ∃ e2 cs, Bx w q e2 cs ∧ e2 ∉ spT) : OwnS base w' x s := by
 have h1 : ∀ q, own q → ∃ e2 cs, Bx w q e2 cs ∧ e2 ∉ spK := fun q hq => by
  obtain ⟨e2, cs, hb, hx⟩ := hn q hq
  exact ⟨e2, cs, hb, fun hy => hx (by simp only [spK, List.mem_cons, List.not_mem_nil, or_false] at hy; rcases hy with rfl | rfl | rfl | rfl <;> decide)⟩
 have h2 : ∀ q, own q → ∃ e2 cs, Bx w q e2 cs ∧ e2 ≠ 47 := fun q hq => by
  obtain ⟨e2, cs, hb, hx⟩ := hn q hq
  exact ⟨e2, cs, hb, fun hy => hx (by rw [hy]; decide)⟩
 exact h.keepG hf h1 (h.gt.keep hf h1 h2)
/-- one more gate is appended, or a gate is written in place: the gates' rows -/
theorem OwnG.of {v' : Value} {ys : List Gy} (hr : OwnL 47 8 gyc base w' v' ys) (hy : ∀ y ∈ ys, GyO base w' y) : OwnG base w' v' (ys.map (·.g)) := ⟨ys, rfl, hr, hy⟩
theorem OwnG.setC {a : Addr} {u : Value} (ha : a.block < base) (h : OwnG base w v gl) : OwnG base (w.setCell a u) v gl := by
 obtain ⟨ys, h1, h2, h3⟩ := h
 exact ⟨ys, h1, h2.setC ha, fun y hy => ⟨(h3 y hy).1.setC ha, (h3 y hy).2.setC ha⟩⟩
theorem OwnS.setC {a : Addr} {u : Value} (ha : a.block < base) (h : OwnS base w x s) : OwnS base (w.setCell a u) x s := ⟨h.tk.setC ha, h.tp.setC ha, h.vd.setC ha, h.dn.setC ha, h.gt.setC ha, h.vw.setC ha⟩
end
end Go.Proofs.YteojjbhadgkfgaaDoor

/- The reference's NewStation. -/
namespace Go.Proofs.YteojjbhadgkfgaaDoor
set_option linter.unusedSimpArgs false
set_option linter.unusedVariables false
set_option maxRecDepth 100000
open Go Go.RowKit Lb

def newY : List Gy := [⟨newG 0 1, .slice none 0 0, .slice none 0 0⟩, ⟨newG 1 2, .slice none 0 0, .slice none 0 0⟩, ⟨newG 2 4, .slice none 0 0, .slice none 0 0⟩]
theorem own_lit {α : Type} {e : TypeId} {k base g n : Nat} {enc : α → Array Value} {w : World} {l : List α} {cs : Array Value} (hg : g = w.heap.size) (hb : base ≤ w.heap.size) (hn : n = l.length) (hm : n ≤ maxLen) (hc : cs.toList = encs enc l) (hk : cs.size = n * k) : OwnL e k enc base (w.alloc (.cells cs e)) (.slice (some ⟨g, 0, none⟩) n n) l := by
 subst hg hn
 refine ⟨by rw [← hc]; simpa using hk, .inr ⟨w.heap.size, l.length, cs, rfl, hb, heap_alloc_new w _, Nat.le_refl _, hm, hk, ?_⟩⟩
 rw [← hc, ← hk]
 exact List.take_of_length_le (by simp)
theorem newY_own {base : Nat} {w : World} : ∀ y ∈ newY, GyO base w y := by
 intro y hy
 simp only [newY, List.mem_cons, List.not_mem_nil, or_false] at hy
 rcases hy with rfl | rfl | rfl <;> exact ⟨OwnL.nil, OwnL.nil⟩

set_option maxHeartbeats 8000000 in
theorem ref_NewStation (w : World) :
  Calls Tryd.prog 65 #[] w fun e w' => ∃ x, e = .returned (.agg (sta newS x)) ∧ Ext w w' ∧ OwnS w.heap.size w' x newS := by
 go_enter Tryd.func65, Tryd.ntmps65
 go_wp2_with fail
 refine bodyPost_ret (v := .agg #[.slice none 0 0, .slice none 0 0, .slice none 0 0, .int .i64 0, .slice none 0 0, .slice (some ⟨w.heap.size + 1 + 1, 0, none⟩) 3 3, .slice (some ⟨w.heap.size + 1 + 1 + 1, 0, none⟩) 3 3]) (by simp [results, Tryd.results65, go_sem, *]) rfl ⟨⟨.slice none 0 0, .slice none 0 0, .slice none 0 0, .slice none 0 0, .slice (some ⟨w.heap.size + 1 + 1, 0, none⟩) 3 3, .slice (some ⟨w.heap.size + 1 + 1 + 1, 0, none⟩) 3 3⟩, rfl, (show Ext w _ by exact extA), ⟨OwnL.nil, OwnL.nil, OwnL.nil, OwnL.nil, ⟨newY, rfl, OwnL.alloc _ (own_lit (by simp) (by simp; omega) rfl (by unfold maxLen; omega) rfl rfl), newY_own⟩, own_lit (by simp) (by simp; omega) rfl (by unfold maxLen; omega) rfl rfl⟩⟩
end Go.Proofs.YteojjbhadgkfgaaDoor

/- Drawn regions: three that may come up; boxes and rows over many stores. -/
namespace Go.Proofs.YteojjbhadgkfgaaDoor
open Go Go.RowKit Lb
set_option linter.unusedSimpArgs false
set_option linter.unusedVariables false
set_option maxRecDepth 100000

section
variable {P : Program} {l : List Oper} {Q : Exit → Act → World → Prop} {md : Region.Mode} {S : World → Prop}
end
end Go.Proofs.YteojjbhadgkfgaaDoor

/- station.at, station.Check. -/
namespace Go.Proofs.YteojjbhadgkfgaaDoor
set_option linter.unusedSimpArgs false
set_option linter.unusedVariables false
set_option maxRecDepth 100000
open Go Go.RowKit Lb

set_option maxHeartbeats 4000000 in
theorem at_one (x : Tp) (i : Int) (g : Gt) (sa si : Value) (pi pg : Nat) (w : World) (hr : ckGate g = 0) (ha : ∃ A c, sa = .slice A g.alone.length c) (h1 : Row w pi #[.int .i64 i]) (h2 : Row w pg (gta g sa si)) :
  Calls Tryd.prog 81 #[.agg (tpc x), .pointer (some ⟨pi, 0, none⟩), .pointer (some ⟨pg, 0, none⟩)] w fun e w' => e = .returned (.bool (knownP i g x)) ∧ Ext w w' := by
 obtain ⟨A, c, rfl⟩ := ha
 have r := ckGate_ok.1 hr
 have hb := r.seq
 have hl := r.len
 simp [within] at hb
 clear r hr
 obtain ⟨g0, g1, g2, al, g4, g5, g6⟩ := g
 obtain ⟨x0, x1, x2, x3, x4⟩ := x
 simp only at hb hl
 have hw : IntKind.i64.wrap (g2 - (al.length : Int)) = g2 - (al.length : Int) := IntWalk.i64_in _ (by omega)
 unfold gta at h2
 unfold tpc knownP
 simp only
 apply Row.use h1; intro q1 f1 l1 R1
 apply Row.use h2; intro q2 f2 l2 R2
 clear h1 h2 hl
 by_cases h : x1 = i
 ·have hb2 : (x1 == i) = true := by simpa using h
  rw [hb2, Bool.true_and]
  generalize hd : decide (g2 - (al.length : Int) < x2) = d
  have HD := Lib.hid hd
  clear hd
  go_enter Tryd.func81, Tryd.ntmps81
  go_wp2
  all_goals
   go_ret
   exact ⟨ret_bool (by rw [← HD.out] <;> simp_all), (show Ext w _ by exact extA)⟩
 ·have hb2 : (x1 == i) = false := by simpa using h
  rw [hb2, Bool.false_and]
  go_enter Tryd.func81, Tryd.ntmps81
  go_wp2
  all_goals
   go_ret
   exact ⟨ret_bool (by simp_all), (show Ext w _ by exact extA)⟩

set_option maxHeartbeats 8000000 in
theorem station_at (s : St) (x : Sv) (i : Nat) (w : World) (hr : RdS w x s) (hi : i < s.gates.length) :
  Calls Tryd.prog 52 #[.agg (sta s x), .int .i64 i] w fun e w' => e = .returned (.int .i64 (atG s.ledger.taps s.denied.version i s.gates[i])) ∧ Ext w w' := by
 obtain ⟨⟨tks, taps, vs⟩, ⟨ver, ids⟩, gts, vws⟩ := s
 obtain ⟨s0, s1, s2, si, sg, sv⟩ := x
 obtain ⟨h0, h1, h2, h3, h4, h5⟩ := hr
 simp only at h0 h1 h2 h3 h4 h5 hi
 obtain ⟨A, c, rfl, hc, hm⟩ := h4.form
 have hic : (i : Int) < (c : Int) := by omega
 have hil : (i : Int) < (gts.length : Int) := by omega
 obtain ⟨b, o, sa, sd, rfl, hb, ra, rd, c0, c1, c2, c3, c4, c5, c6, c7⟩ := h4.at_ rfl hi
 obtain ⟨A1, n1, rfl, -, -⟩ := h1.form
 have HT := Lib.hid h1
 simp only
 generalize gts[i] = g at *
 have HG := Lib.hid (fun (w' : World) (h : Ext w w') => gate_Check g sa sd w' (ra.ext h) (rd.ext h))
 have HC := Lib.hid (fun (hk : ckGate g = 0) (pi pg : Nat) (w' : World) (h : Ext w w') (hp : Row w' pi #[.int .i64 i]) (hg : Row w' pg (gta g sa sd)) => ContainsFunc_tpx (knownP i g) 81 #[.pointer (some ⟨pi, 0, none⟩), .pointer (some ⟨pg, 0, none⟩)] (fun args w => by simp [go_sem]) taps _ w' (h1.ext h) (fun W x hE => at_one x i g sa sd pi pg W hk (by obtain ⟨A, c, e, -, -⟩ := ra.form; exact ⟨A, c, e⟩) (hp.ext hE) (hg.ext hE)))
 obtain ⟨A2, n2, rfl, -, -⟩ := ra.form
 obtain ⟨A3, n3, rfl, -, -⟩ := rd.form
 unfold atG
 generalize hck : ckGate g = ck at *
 have HCK := Lib.hid hck
 generalize hkn : taps.any (knownP i g) = z at *
 clear h0 h1 h2 h3 h4 h5 ra rd hck hkn hc hm hi
 obtain ⟨g0, g1, g2, al, ⟨gv, gi⟩, g6, g7⟩ := g
 simp only at c0 c1 c2 c3 c4 c5 c6 c7
 generalize hr : (if ck ≠ 0 then ck else if g0 ≠ (i : Int) ∨ ver < gv then 4 else if z = true then 6 else 0) = r
 have HR := Lib.hid hr
 clear hr
 unfold gta at HG HC
 unfold sta
 simp only at HG HC ⊢
 go_enter Tryd.func52, Tryd.ntmps52
 go_wp2_with fail
 (refine (HG.out _ (by exact extA)).mono ?_; rintro e w1 ⟨rfl, h1⟩; have H1 := Lib.hid h1; have hz1 := h1.size; clear h1; (try simp only [World.size_alloc, size_set, World.heap_drewN, size_drew] at hz1); apply Row.use (w := w1) (g := w.heap.size); (focus (exact rowA)); intro q1_0 f1_0 l1_0 R1_0; (try simp only [lSet] at q1_0 R1_0); apply Row.use (w := w1) (g := w.heap.size + 1); (focus (exact rowA)); intro q1_1 f1_1 l1_1 R1_1; (try simp only [lSet] at q1_1 R1_1); apply Row.use (w := w1) (g := w.heap.size + 1 + 1); (focus (exact rowA)); intro q1_2 f1_2 l1_2 R1_2; (try simp only [lSet] at q1_2 R1_2))
 by_cases h0 : ck = 0
 ·subst h0
  by_cases hid : g0 = (i : Int)
  ·subst hid
   by_cases hv : ver < gv
   ·have HQ := Lib.hid (show 4 = r by rw [← HR.out]; simp [hv])
    go_wp2_with fail
    go_ret
    exact ⟨ret_int HQ.out, (show Ext w _ by exact extA)⟩
   ·have HQ := Lib.hid (show (if z = true then (6 : Int) else 0) = r by rw [← HR.out]; simp [hv])
    go_wp2_with fail
    refine (HC.out (by trivial) _ _ _ (by exact extA) (by exact rowA) (by exact rowA)).mono ?_
    (rintro e w2 ⟨rfl, h2⟩; have H2 := Lib.hid h2; have hz2 := h2.size; clear h2; (try simp only [World.size_alloc, size_set, World.heap_drewN, size_drew] at hz2); apply Row.use (w := w2) (g := w.heap.size); (focus (exact rowA)); intro q2_0 f2_0 l2_0 R2_0; (try simp only [lSet] at q2_0 R2_0))
    cases z
    ·go_wp2_with fail
     go_ret
     exact ⟨ret_int HQ.out, (show Ext w _ by exact extA)⟩
    ·go_wp2_with fail
     go_ret
     exact ⟨ret_int HQ.out, (show Ext w _ by exact extA)⟩
  ·have HQ := Lib.hid (show 4 = r by rw [← HR.out]; simp [hid])
   have hid' : (g0 == (i : Int)) = false := by simpa using hid
   go_wp2_with fail
   go_ret
   exact ⟨ret_int HQ.out, (show Ext w _ by exact extA)⟩
 ·have HQ := Lib.hid (show ck = r by rw [← HR.out, if_pos h0])
  have h0' : (ck == 0) = false := by simpa using h0
  go_wp2_with fail
  go_ret
  exact ⟨ret_int HQ.out, (show Ext w _ by exact extA)⟩
end Go.Proofs.YteojjbhadgkfgaaDoor

/- station.Check. -/
namespace Go.Proofs.YteojjbhadgkfgaaDoor
set_option linter.unusedSimpArgs false
set_option linter.unusedVariables false
set_option maxRecDepth 100000
open Go Go.RowKit Lb

set_option maxHeartbeats 8000000 in
theorem station_Check (s : St) (x : Sv) (w : World) (hr : RdS w x s) :
  Calls Tryd.prog 17 #[.agg (sta s x)] w fun e w' => e = .returned (.int .i64 (ckSt s)) ∧ Ext w w' := by
 have K1 := Lib.hid (fun (w' : World) (h : Ext w w') => ledger_Check s.ledger.tickets s.ledger.taps s.ledger.verdicts x.s0 x.s1 x.s2 w' (hr.tk.ext h) (hr.tp.ext h) (hr.vd.ext h))
 have K2 := Lib.hid (fun (w' : World) (h : Ext w w') => denied_Check s.denied x.si w' (hr.dn.ext h))
 have KA := Lib.hid (fun (i : Nat) (g : Gt) (hg : s.gates[i]? = some g) (w' : World) (h : Ext w w') => (List.getElem?_eq_some_iff.1 hg).2 ▸ station_at s x i w' (hr.ext h) (List.getElem?_eq_some_iff.1 hg).1)
 have KV := Lib.hid (fun (w' : World) (h : Ext w w') => lead_Check s.views x.sv w' (hr.vw.ext h))
 obtain ⟨⟨tks, taps, vs⟩, ⟨ver, ids⟩, gts, vws⟩ := s
 obtain ⟨s0, s1, s2, si, sg, sv⟩ := x
 obtain ⟨h0, h1, h2, h3, h4, h5⟩ := hr
 simp only at h0 h1 h2 h3 h4 h5 K1 K2 KA KV
 obtain ⟨A0, c0, rfl, -, -⟩ := h0.form
 obtain ⟨A1, c1, rfl, -, -⟩ := h1.form
 obtain ⟨A2, c2, rfl, -, -⟩ := h2.form
 obtain ⟨A3, c3, rfl, -, -⟩ := h3.form
 obtain ⟨A4, c4, rfl, -, -⟩ := h4.form
 obtain ⟨A5, c5, rfl, -, -⟩ := h5.form
 clear h0 h1 h2 h3 h4 h5
 unfold ckSt
 simp only
 generalize ckLedger ⟨tks, taps, vs⟩ = e1 at *
 generalize ckDn ⟨ver, ids⟩ = e2 at *
 generalize ckViews vws = e3 at *
 generalize hg : ckGates taps ver 0 gts = e4
 have HG := Lib.hid hg
 clear hg
 generalize hm : gts.length = m at *
 have HM := Lib.hid hm
 clear hm
 generalize hr : (if e1 ≠ 0 then e1 else if e2 ≠ 0 then e2 else if m ≠ 3 then 1 else if e4 ≠ 0 then e4 else e3) = r
 have HR := Lib.hid hr
 clear hr
 unfold sta at KA ⊢
 simp only at KA ⊢
 go_enter Tryd.func17, Tryd.ntmps17
 go_wp2_with fail
 (refine (K1.out _ (by exact extA)).mono ?_; rintro e w1 ⟨rfl, h1⟩; have H1 := Lib.hid h1; have hz1 := h1.size; clear h1; (try simp only [World.size_alloc, size_set, World.heap_drewN, size_drew] at hz1); apply Row.use (w := w1) (g := w.heap.size); (focus (exact rowA)); intro q1_0 f1_0 l1_0 R1_0; (try simp only [lSet] at q1_0 R1_0))
 by_cases n1 : e1 = 0
 ·subst n1
  go_wp2_with fail
  (refine (K2.out _ (by exact extA)).mono ?_; rintro e w2 ⟨rfl, h2⟩; have H2 := Lib.hid h2; have hz2 := h2.size; clear h2; (try simp only [World.size_alloc, size_set, World.heap_drewN, size_drew] at hz2); apply Row.use (w := w2) (g := w.heap.size); (focus (exact rowA)); intro q2_0 f2_0 l2_0 R2_0; (try simp only [lSet] at q2_0 R2_0))
  by_cases n2 : e2 = 0
  ·subst n2
   by_cases n3 : m = 3
   ·have HQ := Lib.hid (show (if e4 ≠ 0 then e4 else e3) = r by rw [← HR.out]; simp [n3])
    subst n3
    have HW := Lib.hid (And.intro trivial ((show Ext w w2 by exact extA)))
    clear q1_0 f1_0 l1_0 R1_0 H1 hz1
    go_wp2_with fail
    go_loopg [5, 6, 26] 3 (fun gg _ _ s26 wr => ∃ k : Nat, k ≤ 3 ∧ 3 - k ≤ gg ∧ s26 = .int .i64 k ∧ Aside (Ext w2 wr ∧ ckGates taps ver k (gts.drop k) = e4))
    case atStart => exact ⟨0, by omega, by omega, rfl, Ext.refl _, HG.out⟩
    case round =>
     obtain ⟨k, hk, hg, rfl, HA⟩ := hrel
     have HE := Lib.hid HA.out.1
     have HC := Lib.hid HA.out.2
     clear HA
     (apply Row.use (w := wr) (g := w.heap.size); (focus (exact rowA)); intro qr_0 fr_0 lr_0 Rr_0; (try simp only [lSet] at qr_0 Rr_0))
     by_cases hlt : k < 3
     ·have hkl : k < gts.length := by rw [HM.out]; exact hlt
      have hlt' : (k : Int) < 3 := by omega
      have hc := HC.out
      rw [List.drop_eq_getElem_cons hkl, ckGates_cons] at hc
      have HK := Lib.hid (KA.out k _ (List.getElem?_eq_getElem hkl) wr (HW.out.2.trans HE.out))
      generalize atG taps ver k gts[k] = a at *
      have HH := Lib.hid hc
      clear hc hkl
      by_cases ha : a = 0
      ·subst ha
       have HD := Lib.hid (show ckGates taps ver (k + 1) (gts.drop (k + 1)) = e4 by simpa using HH.out)
       go_wp2_with fail
       refine HK.out.mono ?_
       (rintro e w3 ⟨rfl, h3⟩; have H3 := Lib.hid h3; have hz3 := h3.size; clear h3; (try simp only [World.size_alloc, size_set, World.heap_drewN, size_drew] at hz3); apply Row.use (w := w3) (g := w.heap.size); (focus (exact rowA)); intro q3_0 f3_0 l3_0 R3_0; (try simp only [lSet] at q3_0 R3_0))
       go_wp2_with fail
       go_roundg (3 - (k + 1))
       case measure => omega
       case rel => exact ⟨k + 1, by omega, by omega, by go_num, (show Ext w2 _ by exact extA), HD.out⟩
      ·have ha' : (a == 0) = false := by simpa using ha
       have HF := Lib.hid (show a = r by have := HH.out; rw [if_pos ha] at this; rw [← HQ.out, ← this, if_pos ha])
       go_wp2_with fail
       refine HK.out.mono ?_
       (rintro e w3 ⟨rfl, h3⟩; have H3 := Lib.hid h3; have hz3 := h3.size; clear h3; (try simp only [World.size_alloc, size_set, World.heap_drewN, size_drew] at hz3); apply Row.use (w := w3) (g := w.heap.size); (focus (exact rowA)); intro q3_0 f3_0 l3_0 R3_0; (try simp only [lSet] at q3_0 R3_0))
       go_wp2_with fail
       go_ret
       exact ⟨ret_int HF.out, HW.out.2.trans (show Ext w2 _ by exact extA)⟩
     ·have hge : ¬ (k : Int) < 3 := by omega
      have HF := Lib.hid (show e3 = r by
       have hd : gts.drop k = [] := List.drop_eq_nil_of_le (by rw [HM.out]; omega)
       have := HC.out
       rw [hd] at this
       rw [← HQ.out, ← this]
       simp [ckGates])
      go_wp2_with fail
      refine (KV.out _ (HW.out.2.trans HE.out)).mono ?_
      (rintro e w3 ⟨rfl, h3⟩; have H3 := Lib.hid h3; have hz3 := h3.size; clear h3; (try simp only [World.size_alloc, size_set, World.heap_drewN, size_drew] at hz3); apply Row.use (w := w3) (g := w.heap.size); (focus (exact rowA)); intro q3_0 f3_0 l3_0 R3_0; (try simp only [lSet] at q3_0 R3_0))
      go_wp2_with fail
      go_ret
      exact ⟨ret_int HF.out, HW.out.2.trans (show Ext w2 _ by exact extA)⟩
   ·have HQ := Lib.hid (show 1 = r by rw [← HR.out]; simp [n3])
    have n3' : ((m : Int) == 3) = false := by simpa using (by omega : ¬ (m : Int) = 3)
    go_wp2_with fail
    go_ret
    exact ⟨ret_int HQ.out, (show Ext w _ by exact extA)⟩
  ·have HQ := Lib.hid (show e2 = r by rw [← HR.out]; simp [n2])
   have n2' : (e2 == 0) = false := by simpa using n2
   go_wp2_with fail
   go_ret
   exact ⟨ret_int HQ.out, (show Ext w _ by exact extA)⟩
 ·have HQ := Lib.hid (show e1 = r by rw [← HR.out]; simp [n1])
  have n1' : (e1 == 0) = false := by simpa using n1
  go_wp2_with fail
  go_ret
  exact ⟨ret_int HQ.out, (show Ext w _ by exact extA)⟩
end Go.Proofs.YteojjbhadgkfgaaDoor

/- station.Own. -/
namespace Go.Proofs.YteojjbhadgkfgaaDoor
set_option linter.unusedSimpArgs false
set_option linter.unusedVariables false
set_option maxRecDepth 100000
open Go Go.RowKit Lb

end Go.Proofs.YteojjbhadgkfgaaDoor

/- A station's keeper: does somebody lead? -/
namespace Go.Proofs.YteojjbhadgkfgaaDoor
set_option linter.unusedSimpArgs false
set_option linter.unusedVariables false
set_option maxRecDepth 100000
open Go Go.RowKit Lb

theorem any_has (l : List Int) (n : Int) : l.any (fun x => n == x) = l.contains n := by rw [List.contains_eq_any_beq]

end Go.Proofs.YteojjbhadgkfgaaDoor

/- station.with: a keeper of the station's own, handed to a function value. -/
namespace Go.Proofs.YteojjbhadgkfgaaDoor
set_option linter.unusedSimpArgs false
set_option linter.unusedVariables false
set_option maxRecDepth 100000
open Go Go.RowKit Lb

theorem Bx.newAt {w : World} {p : Nat} {e : TypeId} {cs : Array Value} (hg : p = w.heap.size) : Bx (w.alloc (.cells cs e)) p e cs := by subst hg; exact Bx.new
end Go.Proofs.YteojjbhadgkfgaaDoor

/- hall. -/
namespace Go.Proofs.YteojjbhadgkfgaaDoor
set_option linter.unusedSimpArgs false
set_option linter.unusedVariables false
set_option maxRecDepth 100000
open Go Go.RowKit Lb

def hallV : List Vw := [⟨1, 0, true⟩, ⟨1, 0, true⟩, ⟨1, 0, true⟩]
def hallS : St := ⟨⟨[single 1], [], []⟩, dn0, [newG 0 1, newG 1 2, newG 2 4], hallV⟩
set_option maxHeartbeats 8000000 in
theorem law_hall (w : World) :
  Calls Tryd.prog 37 #[] w fun e w' => ∃ x, e = .returned (.agg (sta hallS x)) ∧ Ext w w' ∧ OwnS w.heap.size w' x hallS := by
 go_enter Tryd.func37, Tryd.ntmps37
 go_wp2_with fail
 refine (ref_NewStation _).mono ?_
 rintro e w1 ⟨⟨t0, t1, t2, ti, tg, tv⟩, rfl, h1, ho⟩
 obtain ⟨B0, d0, e0⟩ := ho.tk.form
 obtain ⟨B1, d1, e1⟩ := ho.tp.form
 obtain ⟨B2, d2, e2⟩ := ho.vd.form
 obtain ⟨B3, d3, e3⟩ := ho.dn.form
 obtain ⟨B4, d4, e4⟩ := ho.gt.form
 obtain ⟨B5, d5, e5⟩ := ho.vw.form
 simp only at e0 e1 e2 e3 e4 e5
 subst e0 e1 e2 e3 e4 e5
 have H1 := Lib.hid h1
 have hz1 := h1.size
 have HO := Lib.hid ho
 clear h1 ho
 (try simp only [World.size_alloc] at hz1 HO)
 unfold sta
 simp only [newS, ld0, dn0, List.length_cons, List.length_nil]
 simp only [newS, ld0, dn0, List.length_cons, List.length_nil] at HO
 (apply Row.use (w := w1) (g := w.heap.size); (focus (exact rowA)); intro q1_0 f1_0 l1_0 R1_0; (try simp only [lSet] at q1_0 R1_0))
 have HB0 := Lib.hid (show Bx w1 w.heap.size 32 #[.slice none 0 0, .slice none 0 0, .slice none 0 0, .int .i64 0, .slice none 0 0, .slice none 0 0, .slice none 0 0] from Bx.ext (Bx.newAt rfl) H1.out)
 go_wp2_with fail
 refine (law_single 1 _).mono ?_
 rintro e w2 ⟨rfl, h2⟩
 have HV2 := Lib.hid (show OwnL 92 3 vwc (w.heap.size + 1) w2 (.slice (some ⟨w1.heap.size + 1, 0, none⟩) 3 3) hallV by
  refine OwnL.ext (w := _) ?_ h2
  exact own_lit (by simp) (by simp; omega) rfl (by unfold maxLen; omega) rfl rfl)
 have HB1 := Lib.hid (show Bx w2 w1.heap.size 32 _ from Bx.ext (Bx.alloc (Bx.newAt rfl) _) h2)
 have H2 := Lib.hid h2
 have hz2 := h2.size
 have HE := Lib.hid (And.intro trivial (show Ext w1 w2 from (((Ext.refl _).alloc _).alloc _).trans h2))
 clear h2
 (try simp only [World.size_alloc] at hz2)
 rw [show tkc (single 1) = #[.int .i64 1, .int .i64 1, .int .i64 10, .int .i64 500, .int .i64 15, .int .i64 0] from rfl]
 (apply Row.use (w := w2) (g := w.heap.size); (focus (exact rowA)); intro q2_0 f2_0 l2_0 R2_0; (try simp only [lSet] at q2_0 R2_0); apply Row.use (w := w2) (g := w1.heap.size); (focus (exact rowA)); intro q2_1 f2_1 l2_1 R2_1; (try simp only [lSet] at q2_1 R2_1))
 go_wp2_with fail
 have HF := Lib.hid (show OwnS (w.heap.size + 1) w2 ⟨.slice none 0 0, .slice B1 0 d1, .slice B2 0 d2, .slice B3 0 d3, .slice B4 3 d4, .slice (some ⟨w1.heap.size + 1, 0, none⟩) 3 3⟩ ⟨⟨[], [], []⟩, dn0, [newG 0 1, newG 1 2, newG 2 4], hallV⟩ from
  ⟨OwnL.nil, HO.out.tp.ext HE.out.2, HO.out.vd.ext HE.out.2, HO.out.dn.ext HE.out.2, HO.out.gt.ext HE.out.2, HV2.out⟩)
 have hk := HF.out.keep (own := fun q => q = w.heap.size ∨ q = w1.heap.size) (w' := ((((((((w2.setCell ⟨w1.heap.size, 0, none⟩ (.slice (some ⟨w2.heap.size, 0, none⟩) 1 1)).setCell ⟨w.heap.size, 0, none⟩ (.slice (some ⟨w2.heap.size, 0, none⟩) 1 1)).setCell ⟨w.heap.size, 1, none⟩ (.slice B1 0 d1)).setCell ⟨w.heap.size, 2, none⟩ (.slice B2 0 d2)).setCell ⟨w.heap.size, 3, none⟩ (.int .i64 0)).setCell ⟨w.heap.size, 4, none⟩ (.slice B3 0 d3)).setCell ⟨w.heap.size, 5, none⟩ (.slice B4 3 d4)).setCell ⟨w.heap.size, 6, none⟩ (.slice (some ⟨w1.heap.size + 1, 0, none⟩) 3 3))) (by
   repeat (refine Fr.setC (by first | exact .inl rfl | exact .inr rfl) ?_)
   exact Fr.refl _ _) (by
  rintro q (rfl | rfl)
  ·exact ⟨_, _, (HB0.out.ext HE.out.2), by decide⟩
  ·exact ⟨_, _, HB1.out, by decide⟩)
 have hlit : OwnL 58 6 tkc (w.heap.size + 1) (((((((((w2.setCell ⟨w1.heap.size, 0, none⟩ (.slice (some ⟨w2.heap.size, 0, none⟩) 1 1)).setCell ⟨w.heap.size, 0, none⟩ (.slice (some ⟨w2.heap.size, 0, none⟩) 1 1)).setCell ⟨w.heap.size, 1, none⟩ (.slice B1 0 d1)).setCell ⟨w.heap.size, 2, none⟩ (.slice B2 0 d2)).setCell ⟨w.heap.size, 3, none⟩ (.int .i64 0)).setCell ⟨w.heap.size, 4, none⟩ (.slice B3 0 d3)).setCell ⟨w.heap.size, 5, none⟩ (.slice B4 3 d4)).setCell ⟨w.heap.size, 6, none⟩ (.slice (some ⟨w1.heap.size + 1, 0, none⟩) 3 3)).alloc (.cells #[.int .i64 1, .int .i64 1, .int .i64 10, .int .i64 500, .int .i64 15, .int .i64 0] 58)) (.slice (some ⟨w2.heap.size, 0, none⟩) 1 1) [single 1] := own_lit (by simp only [size_set]) (by simp only [size_set]; omega) rfl (by unfold maxLen; omega) rfl rfl
 have hfin : OwnS (w.heap.size + 1) (((((((((w2.setCell ⟨w1.heap.size, 0, none⟩ (.slice (some ⟨w2.heap.size, 0, none⟩) 1 1)).setCell ⟨w.heap.size, 0, none⟩ (.slice (some ⟨w2.heap.size, 0, none⟩) 1 1)).setCell ⟨w.heap.size, 1, none⟩ (.slice B1 0 d1)).setCell ⟨w.heap.size, 2, none⟩ (.slice B2 0 d2)).setCell ⟨w.heap.size, 3, none⟩ (.int .i64 0)).setCell ⟨w.heap.size, 4, none⟩ (.slice B3 0 d3)).setCell ⟨w.heap.size, 5, none⟩ (.slice B4 3 d4)).setCell ⟨w.heap.size, 6, none⟩ (.slice (some ⟨w1.heap.size + 1, 0, none⟩) 3 3)).alloc (.cells #[.int .i64 1, .int .i64 1, .int .i64 10, .int .i64 500, .int .i64 15, .int .i64 0] 58)) ⟨.slice (some ⟨w2.heap.size, 0, none⟩) 1 1, .slice B1 0 d1, .slice B2 0 d2, .slice B3 0 d3, .slice B4 3 d4, .slice (some ⟨w1.heap.size + 1, 0, none⟩) 3 3⟩ hallS := ⟨hlit, hk.tp.alloc _, hk.vd.alloc _, hk.dn.alloc _, hk.gt.ext ((Ext.refl _).alloc _), hk.vw.alloc _⟩
 exact bodyPost_ret (v := .agg #[.slice (some ⟨w2.heap.size, 0, none⟩) 1 1, .slice B1 0 d1, .slice B2 0 d2, .int .i64 0, .slice B3 0 d3, .slice B4 3 d4, .slice (some ⟨w1.heap.size + 1, 0, none⟩) 3 3]) (by simp [results, Tryd.results37, go_sem, *]) rfl ⟨⟨.slice (some ⟨w2.heap.size, 0, none⟩) 1 1, .slice B1 0 d1, .slice B2 0 d2, .slice B3 0 d3, .slice B4 3 d4, .slice (some ⟨w1.heap.size + 1, 0, none⟩) 3 3⟩, rfl, (show Ext w _ by exact extA), hfin.lower (Nat.le_succ _)⟩
end Go.Proofs.YteojjbhadgkfgaaDoor

/- How the arguments of the statements read, VII: stations, acts. -/
namespace Go.Proofs.YteojjbhadgkfgaaDoor
set_option linter.unusedSimpArgs false
set_option linter.unusedVariables false
set_option maxRecDepth 100000
open Go Go.RowKit Go.Joins Go.ChangeShapes Go.WideShapes Go.Deep Lb

/-- an act's cells -/
def acc (a : Ac) : Array Value := #[.int .i64 a.kind, .int .i64 a.id, .int .i64 a.of, .int .i64 a.time, .int .i64 a.ticket.id, .int .i64 a.ticket.kind, .int .i64 a.ticket.frm, .int .i64 a.ticket.til, .int .i64 a.ticket.zones, .int .i64 a.ticket.rides]
section
theorem rdl_ofP {α : Type} [Inhabited α] {en : α → Array Value} {k : Nat} {Q : α → Prop} {w : World} {a : Addr} {vl vc : Nat} (hk : ∀ x, (en x).size = k) (hk0 : 0 < k) (hl : vl ≤ vc) (hm : vc ≤ maxLen)
  (hcell : ∀ i, i < vl → ∃ x : α, Q x ∧ ∀ j u, (en x)[j]? = some u → w.cell? (a.add (i * k + j)) = some u) : ∃ l : List α, RdL k en w (.slice (some a) vl vc) l ∧ ∀ x ∈ l, Q x := by
 let g : Nat → α := fun i => if h : i < vl then (hcell i h).choose else default
 have hg : ∀ i, i < vl → Q (g i) ∧ ∀ j u, (en (g i))[j]? = some u → w.cell? (a.add (i * k + j)) = some u := by
  intro i h
  have := (hcell i h).choose_spec
  simpa [g, h] using this
 refine ⟨(List.range vl).map g, ⟨some a, vc, by simp, by simpa using hl, hm, fun hn => ?_⟩, fun x hx => ?_⟩
 ·simp only [List.length_map, List.length_range] at hn ⊢
  have hz : 0 < (en (g 0)).size := by rw [hk]; exact hk0
  have h00 := (hg 0 hn).2 0 _ (Array.getElem?_eq_getElem hz)
  have hsp := World.cell?_spot h00
  have hlt := World.block_lt_of_cell? w _ h00
  obtain ⟨b, o, sp⟩ := a
  simp [Addr.add] at hsp hlt
  subst hsp
  refine ⟨b, o, rfl, hlt, fun j hj i u hu => ?_⟩
  have hgj : ((List.range vl).map g)[j]! = g j := by simp [hj]
  rw [hgj] at hu
  have := (hg j hj).2 i u hu
  simp only [Addr.add] at this
  split at this
  ·rename_i h0
   rw [show o + j * k + i = o by omega]; exact this
  ·rw [show o + j * k + i = o + (j * k + i) by omega]; exact this
 ·obtain ⟨i, hi, rfl⟩ := List.mem_map.1 hx
  exact (hg i (List.mem_range.1 hi)).1
end

section
variable {H : Type} {enc : TypeId × Value → H} {w : World} {b0 base : Nat} {spare : Nat → Bool} {held : Bool} {r : Reach}
theorem trod_ld {n : Nat} {v0 v1 v2 : Value} {y : DataW H × List MemPlace} (h : DataW.trod enc Tryd.prog w base spare held n 26 [v0, v1, v2] = some y) : ∃ l : Ld, RdL 6 tkc w v0 l.tickets ∧ RdL 5 tpc w v1 l.taps ∧ RdL 1 inc w v2 l.verdicts := by
 obtain ⟨n, -, hf⟩ := trod_fields Tryd.underlying26 h
 obtain ⟨y0, h0⟩ := hf 0 _ rfl
 obtain ⟨y1, h1⟩ := hf 1 _ rfl
 obtain ⟨y2, h2⟩ := hf 2 _ rfl
 change DataW.trod enc Tryd.prog w base spare held n 22 (([v0, v1, v2].drop 0).take (Tryd.prog.cellsOf 22)) = some y0 at h0
 change DataW.trod enc Tryd.prog w base spare held n 23 (([v0, v1, v2].drop 1).take (Tryd.prog.cellsOf 23)) = some y1 at h1
 change DataW.trod enc Tryd.prog w base spare held n 24 (([v0, v1, v2].drop 2).take (Tryd.prog.cellsOf 24)) = some y2 at h2
 rw [show Tryd.prog.cellsOf 22 = 1 from by kernel_rfl] at h0
 rw [show Tryd.prog.cellsOf 23 = 1 from by kernel_rfl] at h1
 rw [show Tryd.prog.cellsOf 24 = 1 from by kernel_rfl] at h2
 obtain ⟨l0, e0⟩ := trod_tks (v := v0) h0
 obtain ⟨l1, e1⟩ := trod_taps (v := v1) h1
 obtain ⟨l2, e2⟩ := trod_ints (v := v2) h2
 exact ⟨⟨l0, l1, l2⟩, e0, e1, e2⟩
theorem trod_gts {n : Nat} {v : Value} {y : DataW H × List MemPlace} (h : DataW.trod enc Tryd.prog w base spare held n 29 [v] = some y) : ∃ gl : List Gt, RdG w v gl := by
 rcases open_slice Tryd.underlying29 h with ⟨h0, -⟩ | ⟨a, len, cap, m, n', D, Pl, hcs, hb, hl, hm, hmm, -, hi⟩
 ·injection h0 with h0 _
  subst h0
  exact ⟨[], RdG.nil⟩
 ·injection hcs with hcs _
  subst hcs
  have hlm : len ≤ m := by rw [hmm]; split <;> omega
  have h1 : Tryd.prog.cellsOf 47 = 8 := by kernel_rfl
  obtain ⟨ys, hys, hq⟩ := rdl_ofP (w := w) (a := a) (en := gyc) (Q := fun y => GyR w y) gyc_size (by decide) hl hm (fun i hil => by
   obtain ⟨cs', hc, ht'⟩ := hi i (by omega)
   rw [h1] at hc
   obtain ⟨_, hcl, hat⟩ := World.cells?_some hc
   match cs', hcl with
   | [c0, c1, c2, c3, c4, c5, c6, c7], _ =>
    obtain ⟨g, hg, r1, r2⟩ := trod_gt (v0 := c0) (v1 := c1) (v2 := c2) (v3 := c3) (v4 := c4) (v5 := c5) (v6 := c6) (v7 := c7) ht'
    refine ⟨⟨g, c3, c5⟩, ⟨r1, r2⟩, fun j u hu => ?_⟩
    have hj : j < 8 := by
     have := (Array.getElem?_eq_some_iff.1 hu).1
     simpa [gyc_size] using this
    have hat := hat j hj
    have hu2 : [c0, c1, c2, c3, c4, c5, c6, c7][j]? = some u := by
     have : gyc ⟨g, c3, c5⟩ = [c0, c1, c2, c3, c4, c5, c6, c7].toArray := hg.symm
     rw [this] at hu
     simpa using hu
    rw [hu2] at hat
    rw [← Go.Deep.add_add]
    exact hat)
  exact ⟨ys.map (·.g), ys, rfl, hys, hq⟩
/-- a station -/
theorem open_st {v : Value} {d : DataW H} {p : List MemPlace} (hv : Value.okWide Tryd.prog w r b0 32 v) (h : DataW.Trod enc Tryd.prog w base spare held 32 v d p) : ∃ (s : St) (x : Sv), v = .agg (sta s x) ∧ RdS w x s := by
 obtain ⟨cs, rfl, hsz⟩ := okWide_struct Tryd.underlying32 hv
 obtain ⟨l⟩ := cs
 match l, hsz.trans (show Tryd.prog.cellsOf 32 = 7 from by kernel_rfl) with
 | [v0, v1, v2, v3, v4, v5, v6], _ =>
  obtain ⟨fuel, hf0⟩ := h
  obtain ⟨n, -, hf⟩ := trod_fields Tryd.underlying32 hf0
  obtain ⟨y0, h0⟩ := hf 0 _ rfl
  obtain ⟨y1, h1⟩ := hf 1 _ rfl
  obtain ⟨y2, h2⟩ := hf 2 _ rfl
  obtain ⟨y3, h3⟩ := hf 3 _ rfl
  change DataW.trod enc Tryd.prog w base spare held n 26 (([v0, v1, v2, v3, v4, v5, v6].drop 0).take (Tryd.prog.cellsOf 26)) = some y0 at h0
  change DataW.trod enc Tryd.prog w base spare held n 28 (([v0, v1, v2, v3, v4, v5, v6].drop 3).take (Tryd.prog.cellsOf 28)) = some y1 at h1
  change DataW.trod enc Tryd.prog w base spare held n 29 (([v0, v1, v2, v3, v4, v5, v6].drop 5).take (Tryd.prog.cellsOf 29)) = some y2 at h2
  change DataW.trod enc Tryd.prog w base spare held n 30 (([v0, v1, v2, v3, v4, v5, v6].drop 6).take (Tryd.prog.cellsOf 30)) = some y3 at h3
  rw [show Tryd.prog.cellsOf 26 = 3 from by kernel_rfl] at h0
  rw [show Tryd.prog.cellsOf 28 = 2 from by kernel_rfl] at h1
  rw [show Tryd.prog.cellsOf 29 = 1 from by kernel_rfl] at h2
  rw [show Tryd.prog.cellsOf 30 = 1 from by kernel_rfl] at h3
  obtain ⟨L, a0, a1, a2⟩ := trod_ld (v0 := v0) (v1 := v1) (v2 := v2) h0
  obtain ⟨dd, rfl, hd⟩ := trod_dn (v0 := v3) (v1 := v4) h1
  obtain ⟨gl, hg⟩ := trod_gts (v := v5) h2
  obtain ⟨vl, hvw⟩ := trod_views (v := v6) h3
  exact ⟨⟨L, dd, gl, vl⟩, ⟨v0, v1, v2, v4, v5, v6⟩, rfl, ⟨a0, a1, a2, hd, hg, hvw⟩⟩
end
end Go.Proofs.YteojjbhadgkfgaaDoor
