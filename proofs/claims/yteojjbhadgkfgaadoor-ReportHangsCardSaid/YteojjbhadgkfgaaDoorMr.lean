/- Mr: parts of the proofs, laid together. -/
import Derived.Test.YteojjbhadgkfgaaDoorMg
import Derived.Test.YteojjbhadgkfgaaDoorMc
import Derived.Test.YteojjbhadgkfgaaDoorMa
/- What the laws spoil: rows of the call's own whose contents nobody reads; spoilTaps, spoilLedger. -/
namespace Go.Proofs.YteojjbhadgkfgaaDoor
set_option linter.unusedSimpArgs false
set_option linter.unusedVariables false
set_option maxRecDepth 100000
open Go Go.RowKit Lb

section
variable {α : Type} {e : TypeId} {k lo : Nat} {enc : α → Array Value} {w w' w0 w1 w2 : World} {v : Value} {l : List α} {own own2 : Nat → Prop}
theorem Fr.trans (h : Fr own w1 w2) (h2 : Fr own w2 w) : Fr own w1 w :=
 ⟨h2.os.trans h.os, h2.tape.trans h.tape, h2.output.trans h.output, Nat.le_trans h.size h2.size, fun k hk hn => (h2.block k (Nat.lt_of_lt_of_le hk h.size) hn).trans (h.block k hk hn)⟩
theorem Fr.step (h : Fr own w0 w1) (he : Ext w1 w2) : Fr own w0 w2 :=
 ⟨he.os.trans h.os, he.tape.trans h.tape, he.output.trans h.output, Nat.le_trans h.size (Ext.size he), fun k hk hn => (he.block k (Nat.lt_of_lt_of_le hk h.size)).trans (h.block k hk hn)⟩
theorem Fr.ofExt (he : Ext w1 w2) : Fr own w1 w2 := (Fr.refl own w1).step he
theorem Ext.fr (h : Ext w0 w) (hf : Fr own w w') (ho : ∀ q, own q → w0.heap.size ≤ q) : Ext w0 w' := Below.trans h (Below.mono (hf.below (base := w0.heap.size) h.size ho) (Nat.le_refl _))

/-- a row of the call's own, from lo on, whatever it holds -/
def RowS (lo : Nat) (e : TypeId) (k : Nat) (w : World) (v : Value) : Prop := ∃ n cs, w.ownsRow lo e k v n cs
theorem OwnL.rowS (h : OwnL e k enc lo w v l) : RowS lo e k w v := ⟨_, _, h⟩
theorem RowS.nil : RowS lo e k w (.slice none 0 0) := ⟨0, [], World.ownsRow_nil _ _ _ _⟩
theorem RowS.lower {lo2 : Nat} (h : RowS lo e k w v) (hb : lo2 ≤ lo) : RowS lo2 e k w v := by
 obtain ⟨n, cs, h⟩ := h
 exact ⟨n, cs, ownsRow_base h hb⟩
theorem RowS.ext (h : RowS lo e k w v) (he : Ext w w') : RowS lo e k w' v := by
 obtain ⟨n, cs, h⟩ := h
 refine ⟨n, cs, h.kept (row := none) ⟨he.os, he.tape, he.output, Ext.size he, fun i hi _ => he.block i hi⟩ ?_⟩
 cases hv : v.ownBlock <;> simp
theorem RowS.bnd (h : RowS lo e k w v) : ∀ q, v.ownBlock = some q → lo ≤ q ∧ q < w.heap.size := by
 obtain ⟨n, cs, -, h⟩ := h
 intro q hq
 rcases h with ⟨rfl, -⟩ | ⟨g, cap, cur, rfl, hb, hg, -⟩
 ·simp [Value.ownBlock] at hq
 ·simp [Value.ownBlock] at hq
  subst hq
  exact ⟨hb, (Array.getElem?_eq_some_iff.1 hg).1⟩
theorem setCell_cells {g : Nat} {cur : Array Value} {z : Nat × Nat} (hg : w.heap[g]? = some (.cells cur e z)) (a : Addr) (u : Value) : ∃ cur', (w.setCell a u).heap[g]? = some (.cells cur' e z) ∧ cur'.size = cur.size := by
 by_cases ha : a.block = g
 ·subst ha
  unfold World.setCell
  simp only [Array.getElem?_modify, if_true, hg, Option.map_some]
  refine ⟨_, rfl, ?_⟩
  split <;> simp
 ·exact ⟨cur, by rw [Below.heap_setCell _ _ _ _ (fun e => ha e.symm)]; exact hg, rfl⟩
theorem RowS.set (h : RowS lo e k w v) (a : Addr) (u : Value) : RowS lo e k (w.setCell a u) v := by
 obtain ⟨n, cs, h1, h2⟩ := h
 rcases h2 with ⟨hv, h0⟩ | ⟨g, cap, cur, hv, hb, hg, hn, hm, hs, ht⟩
 ·exact ⟨n, cs, h1, .inl ⟨hv, h0⟩⟩
 ·obtain ⟨cur', hg', hs'⟩ := setCell_cells hg a u
  refine ⟨n, cur'.toList.take (n * k), ?_, .inr ⟨g, cap, cur', hv, hb, hg', hn, hm, hs'.trans hs, rfl⟩⟩
  rw [List.length_take, Array.length_toList, hs', hs]
  exact Nat.min_eq_left (Nat.mul_le_mul_right k hn)
theorem RowS.form (h : RowS lo e k w v) : ∃ A n c, v = .slice A n c ∧ n ≤ maxLen := by
 obtain ⟨n, cs, -, h⟩ := h
 rcases h with ⟨rfl, h0⟩ | ⟨g, cap, cur, rfl, -, -, hn, hm, -⟩
 ·exact ⟨_, _, _, rfl, by unfold maxLen; omega⟩
 ·exact ⟨_, _, _, rfl, Nat.le_trans hn hm⟩
/-- only cells of the blocks `own` are written, and every row stays a row -/
def Sp (own : Nat → Prop) (w w' : World) : Prop := Fr own w w' ∧ ∀ b e k v, RowS b e k w v → RowS b e k w' v
theorem Sp.refl (own : Nat → Prop) (w : World) : Sp own w w := ⟨Fr.refl _ _, fun _ _ _ _ h => h⟩
theorem Sp.fr (h : Sp own w w') : Fr own w w' := h.1
theorem Sp.row (h : Sp own w w') (hr : RowS lo e k w v) : RowS lo e k w' v := h.2 _ _ _ _ hr
theorem Sp.trans (h : Sp own w w') (h2 : Sp own w' w2) : Sp own w w2 := ⟨h.1.trans h2.1, fun _ _ _ _ hr => h2.2 _ _ _ _ (h.2 _ _ _ _ hr)⟩
theorem Sp.step (h : Sp own w w') (h2 : Ext w' w2) : Sp own w w2 := ⟨h.1.step h2, fun _ _ _ _ hr => (h.2 _ _ _ _ hr).ext h2⟩
theorem Sp.ofExt (h : Ext w w') : Sp own w w' := (Sp.refl own w).step h
theorem Sp.set {a : Addr} (ha : own a.block) (u : Value) (h : Sp own w w') : Sp own w (w'.setCell a u) := ⟨Fr.setC ha h.1, fun _ _ _ _ hr => (h.2 _ _ _ _ hr).set a u⟩
theorem Sp.drew (h : Sp own w w') : Sp own w w'.drew := ⟨h.1.drew, fun _ _ _ _ hr => h.2 _ _ _ _ hr⟩
theorem Sp.drewN (n : Nat) (h : Sp own w w') : Sp own w (w'.drewN n) := ⟨h.1.drewN n, fun _ _ _ _ hr => h.2 _ _ _ _ hr⟩
theorem Sp.size (h : Sp own w w') : w.heap.size ≤ w'.heap.size := h.1.size
theorem Sp.box {g : Nat} {cs : Array Value} (h : Sp own w w') (hn : ¬ own g) (r : Row w g cs) : Row w' g cs := h.1.row hn r
end

end Go.Proofs.YteojjbhadgkfgaaDoor

/- spoilLedger. -/
namespace Go.Proofs.YteojjbhadgkfgaaDoor
set_option linter.unusedSimpArgs false
set_option linter.unusedVariables false
set_option maxRecDepth 100000
open Go Go.RowKit Lb

/-- a block: its cells and their type -/
def Bx (w : World) (p : Nat) (e : TypeId) (cs : Array Value) : Prop := w.heap[p]? = some (.cells cs e (0, 0))
/-- what a spoiling writes: rows of these types, from lo on -/
def spT : List TypeId := [58, 62, 3, 47, 92]
def spo (lo : Nat) (w : World) (q : Nat) : Prop := lo ≤ q ∧ ∃ e cs, Bx w q e cs ∧ e ∈ spT
theorem RowS.spo {lo : Nat} {e : TypeId} {k : Nat} {w : World} {v : Value} (h : RowS lo e k w v) (he : e ∈ spT) : ∀ q, v.ownBlock = some q → spo lo w q := by
 intro q hq
 have hb := h.bnd q hq
 obtain ⟨n, cs, -, h⟩ := h
 rcases h with ⟨rfl, -⟩ | ⟨g, cap, cur, rfl, -, hg, -⟩
 ·simp [Value.ownBlock] at hq
 ·simp [Value.ownBlock] at hq
  subst hq
  exact ⟨hb.1, e, cur, hg, he⟩
theorem spo.lt {lo : Nat} {w : World} {q : Nat} (h : spo lo w q) : q < w.heap.size := by
 obtain ⟨-, e, cs, h, -⟩ := h
 exact (Array.getElem?_eq_some_iff.1 h).1
theorem spo.lower {lo lo2 : Nat} {w : World} {q : Nat} (h : spo lo w q) (hl : lo2 ≤ lo) : spo lo2 w q := ⟨Nat.le_trans hl h.1, h.2⟩
theorem Bx.lt {p : Nat} {w : World} {e : TypeId} {cs : Array Value} (h : Bx w p e cs) : p < w.heap.size := (Array.getElem?_eq_some_iff.1 h).1
theorem Bx.new {w : World} {e : TypeId} {cs : Array Value} : Bx (w.alloc (.cells cs e)) w.heap.size e cs := heap_alloc_new w _
theorem Bx.fr {own : Nat → Prop} {p : Nat} {w w' : World} {e : TypeId} {cs : Array Value} (h : Bx w p e cs) (hf : Fr own w w') (hn : ¬ own p) : Bx w' p e cs := (hf.block p h.lt hn).trans h
theorem Bx.ext {p : Nat} {w w' : World} {e : TypeId} {cs : Array Value} (h : Bx w p e cs) (hf : Ext w w') : Bx w' p e cs := (hf.block p h.lt).trans h
theorem Bx.drew {p : Nat} {w : World} {e : TypeId} {cs : Array Value} (h : Bx w p e cs) : Bx w.drew p e cs := h
theorem Bx.drewN {p : Nat} {w : World} {e : TypeId} {cs : Array Value} (n : Nat) (h : Bx w p e cs) : Bx (w.drewN n) p e cs := h
theorem Bx.alloc {p : Nat} {w : World} {e : TypeId} {cs : Array Value} (h : Bx w p e cs) (o : Obj) : Bx (w.alloc o) p e cs := h.ext ((Ext.refl w).alloc o)
theorem Bx.far {p : Nat} {w : World} {e : TypeId} {cs : Array Value} {a : Addr} {u : Value} (hn : p ≠ a.block) (h : Bx w p e cs) : Bx (w.setCell a u) p e cs := by
 unfold Bx
 rw [Below.heap_setCell _ _ _ _ hn]
 exact h
theorem Bx.set {p i : Nat} {w : World} {e : TypeId} {cs : Array Value} {u : Value} (h : Bx w p e cs) : Bx (w.setCell ⟨p, i, none⟩ u) p e (cs.setIfInBounds i u) := by
 unfold Bx at h ⊢
 unfold World.setCell
 simp only [Array.getElem?_modify, if_true, h, Option.map_some, Option.isSome_none, Bool.false_eq_true, if_false]
theorem Bx.row {p : Nat} {w : World} {e : TypeId} {cs : Array Value} (h : Bx w p e cs) : Row w p cs := by
 refine ⟨h.lt, fun o => ?_, fun o => ?_⟩
 ·exact cell_of_row w p o cs e (0, 0) h
 ·unfold Bx at h
  unfold World.frozen?
  simp only [h]
  simp
theorem RowS.box {lo : Nat} {e e2 : TypeId} {k p : Nat} {w : World} {v : Value} {cs : Array Value} (h : RowS lo e k w v) (hb : Bx w p e2 cs) (he : e ≠ e2) : v.ownBlock ≠ some p := by
 intro hq
 obtain ⟨n, cs', -, h⟩ := h
 rcases h with ⟨rfl, -⟩ | ⟨g, cap, cur, rfl, -, hg, -⟩
 ·simp [Value.ownBlock] at hq
 ·simp [Value.ownBlock] at hq
  subst hq
  unfold Bx at hb
  rw [hg] at hb
  injection hb with hb
  injection hb with _ h3 _
  exact he h3
end Go.Proofs.YteojjbhadgkfgaaDoor

/- A drawn region: some operations come in whatever order they may; what they leave is told by a predicate of those that came. -/
namespace Go.Proofs.YteojjbhadgkfgaaDoor
open Go Go.RowKit
set_option linter.unusedSimpArgs false
set_option linter.unusedVariables false
set_option maxRecDepth 100000

section
variable {P : Program} {l : List Oper} {Q : Exit → Act → World → Prop} {md : Region.Mode} {S : World → Prop}
end
end Go.Proofs.YteojjbhadgkfgaaDoor
