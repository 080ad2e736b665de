/- Mr: parts of the proofs, laid together. -/
import Derived.Test.YteojjbhadgkfgaaGreatMg
import Derived.Test.YteojjbhadgkfgaaGreatMc
import Derived.Test.YteojjbhadgkfgaaGreatMe
import Derived.Test.YteojjbhadgkfgaaGreatMl
import Derived.Test.YteojjbhadgkfgaaGreatMa
/- What the laws spoil: rows of the call's own whose contents nobody reads; spoilTaps, spoilLedger. -/
namespace Go.Proofs.YteojjbhadgkfgaaGreat
set_option linter.unusedSimpArgs false
set_option linter.unusedVariables false
set_option maxRecDepth 100000
open Go Go.RowKit Lb

section
variable {α : Type} {e : TypeId} {k lo : Nat} {enc : α → Array Value} {w w' w0 w1 w2 : World} {v : Value} {l : List α} {own own2 : Nat → Prop}
theorem Fr.weaken (h : Fr own w w') (h2 : ∀ q, own q → own2 q) : Fr own2 w w' := ⟨h.os, h.tape, h.output, h.size, fun k hk hn => h.block k hk (fun ho => hn (h2 k ho))⟩
theorem Fr.trans (h : Fr own w1 w2) (h2 : Fr own w2 w) : Fr own w1 w :=
 ⟨h2.os.trans h.os, h2.tape.trans h.tape, h2.output.trans h.output, Nat.le_trans h.size h2.size, fun k hk hn => (h2.block k (Nat.lt_of_lt_of_le hk h.size) hn).trans (h.block k hk hn)⟩
theorem Fr.step (h : Fr own w0 w1) (he : Ext w1 w2) : Fr own w0 w2 :=
 ⟨he.os.trans h.os, he.tape.trans h.tape, he.output.trans h.output, Nat.le_trans h.size (Ext.size he), fun k hk hn => (he.block k (Nat.lt_of_lt_of_le hk h.size)).trans (h.block k hk hn)⟩
theorem Fr.ofExt (he : Ext w1 w2) : Fr own w1 w2 := (Fr.refl own w1).step he
theorem Ext.fr (h : Ext w0 w) (hf : Fr own w w') (ho : ∀ q, own q → w0.heap.size ≤ q) : Ext w0 w' := Below.trans h (Below.mono (hf.below (base := w0.heap.size) h.size ho) (Nat.le_refl _))

/-- a row of the call's own, from lo on, whatever it holds -/
def RowS (lo : Nat) (e : TypeId) (k : Nat) (w : World) (v : Value) : Prop := ∃ n cs, w.ownsRow lo e k v n cs
theorem OwnL.rowS (h : OwnL e k enc lo w v l) : RowS lo e k w v := ⟨_, _, h⟩
theorem RowS.nil : RowS lo e k w (.slice none 0 0) := ⟨0, [], World.ownsRow_nil _ _ _ _⟩
theorem RowS.lower {lo2 : Nat} (h : RowS lo e k w v) (hb : lo2 ≤ lo) : RowS lo2 e k w v := by
 obtain ⟨n, cs, h⟩ := h
 exact ⟨n, cs, ownsRow_base h hb⟩
theorem RowS.ext (h : RowS lo e k w v) (he : Ext w w') : RowS lo e k w' v := by
 obtain ⟨n, cs, h⟩ := h
 refine ⟨n, cs, h.kept (row := none) ⟨he.os, he.tape, he.output, Ext.size he, fun i hi _ => he.block i hi⟩ ?_⟩
 cases hv : v.ownBlock <;> simp
theorem RowS.bnd (h : RowS lo e k w v) : ∀ q, v.ownBlock = some q → lo ≤ q ∧ q < w.heap.size := by
 obtain ⟨n, cs, -, h⟩ := h
 intro q hq
 rcases h with ⟨rfl, -⟩ | ⟨g, cap, cur, rfl, hb, hg, -⟩
 ·simp [Value.ownBlock] at hq
 ·simp [Value.ownBlock] at hq
  subst hq
  exact ⟨hb, (Array.getElem?_eq_some_iff.1 hg).1⟩
theorem setCell_cells {g : Nat} {cur : Array Value} {z : Nat × Nat} (hg : w.heap[g]? = some (.cells cur e z)) (a : Addr) (u : Value) : ∃ cur', (w.setCell a u).heap[g]? = some (.cells cur' e z) ∧ cur'.size = cur.size := by
 by_cases ha : a.block = g
 ·subst ha
  unfold World.setCell
  simp only [Array.getElem?_modify, if_true, hg, Option.map_some]
  refine ⟨_, rfl, ?_⟩
  split <;> simp
 ·exact ⟨cur, by rw [Below.heap_setCell _ _ _ _ (fun e => ha e.symm)]; exact hg, rfl⟩
theorem RowS.set (h : RowS lo e k w v) (a : Addr) (u : Value) : RowS lo e k (w.setCell a u) v := by
 obtain ⟨n, cs, h1, h2⟩ := h
 rcases h2 with ⟨hv, h0⟩ | ⟨g, cap, cur, hv, hb, hg, hn, hm, hs, ht⟩
 ·exact ⟨n, cs, h1, .inl ⟨hv, h0⟩⟩
 ·obtain ⟨cur', hg', hs'⟩ := setCell_cells hg a u
  refine ⟨n, cur'.toList.take (n * k), ?_, .inr ⟨g, cap, cur', hv, hb, hg', hn, hm, hs'.trans hs, rfl⟩⟩
  rw [List.length_take, Array.length_toList, hs', hs]
  exact Nat.min_eq_left (Nat.mul_le_mul_right k hn)
theorem RowS.form (h : RowS lo e k w v) : ∃ A n c, v = .slice A n c ∧ n ≤ maxLen := by
 obtain ⟨n, cs, -, h⟩ := h
 rcases h with ⟨rfl, h0⟩ | ⟨g, cap, cur, rfl, -, -, hn, hm, -⟩
 ·exact ⟨_, _, _, rfl, by unfold maxLen; omega⟩
 ·exact ⟨_, _, _, rfl, Nat.le_trans hn hm⟩
/-- only cells of the blocks `own` are written, and every row stays a row -/
def Sp (own : Nat → Prop) (w w' : World) : Prop := Fr own w w' ∧ ∀ b e k v, RowS b e k w v → RowS b e k w' v
theorem Sp.refl (own : Nat → Prop) (w : World) : Sp own w w := ⟨Fr.refl _ _, fun _ _ _ _ h => h⟩
theorem Sp.fr (h : Sp own w w') : Fr own w w' := h.1
theorem Sp.row (h : Sp own w w') (hr : RowS lo e k w v) : RowS lo e k w' v := h.2 _ _ _ _ hr
theorem Sp.weaken (h : Sp own w w') (h2 : ∀ q, own q → own2 q) : Sp own2 w w' := ⟨h.1.weaken h2, h.2⟩
theorem Sp.trans (h : Sp own w w') (h2 : Sp own w' w2) : Sp own w w2 := ⟨h.1.trans h2.1, fun _ _ _ _ hr => h2.2 _ _ _ _ (h.2 _ _ _ _ hr)⟩
theorem Sp.step (h : Sp own w w') (h2 : Ext w' w2) : Sp own w w2 := ⟨h.1.step h2, fun _ _ _ _ hr => (h.2 _ _ _ _ hr).ext h2⟩
theorem Sp.ofExt (h : Ext w w') : Sp own w w' := (Sp.refl own w).step h
theorem Sp.set {a : Addr} (ha : own a.block) (u : Value) (h : Sp own w w') : Sp own w (w'.setCell a u) := ⟨Fr.setC ha h.1, fun _ _ _ _ hr => (h.2 _ _ _ _ hr).set a u⟩
theorem Sp.drew (h : Sp own w w') : Sp own w w'.drew := ⟨h.1.drew, fun _ _ _ _ hr => h.2 _ _ _ _ hr⟩
theorem Sp.drewN (n : Nat) (h : Sp own w w') : Sp own w (w'.drewN n) := ⟨h.1.drewN n, fun _ _ _ _ hr => h.2 _ _ _ _ hr⟩
theorem Sp.size (h : Sp own w w') : w.heap.size ≤ w'.heap.size := h.1.size
theorem Sp.box {g : Nat} {cs : Array Value} (h : Sp own w w') (hn : ¬ own g) (r : Row w g cs) : Row w' g cs := h.1.row hn r
theorem RowS.le (h : RowS lo e k w v) : ∀ A n c, v = .slice A n c → n ≤ 9223372036854775807 := by
 intro A n c hv
 obtain ⟨A', n', c', hv', hm⟩ := h.form
 rw [hv] at hv'
 injection hv' with _ hn _
 subst hn
 unfold maxLen at hm
 omega
end

end Go.Proofs.YteojjbhadgkfgaaGreat

/- spoilLedger. -/
namespace Go.Proofs.YteojjbhadgkfgaaGreat
set_option linter.unusedSimpArgs false
set_option linter.unusedVariables false
set_option maxRecDepth 100000
open Go Go.RowKit Lb

/-- a block: its cells and their type -/
def Bx (w : World) (p : Nat) (e : TypeId) (cs : Array Value) : Prop := w.heap[p]? = some (.cells cs e (0, 0))
/-- what a spoiling writes: rows of these types, from lo on -/
def spT : List TypeId := [34, 57, 3, 52, 110]
def spo (lo : Nat) (w : World) (q : Nat) : Prop := lo ≤ q ∧ ∃ e cs, Bx w q e cs ∧ e ∈ spT
theorem RowS.spo {lo : Nat} {e : TypeId} {k : Nat} {w : World} {v : Value} (h : RowS lo e k w v) (he : e ∈ spT) : ∀ q, v.ownBlock = some q → spo lo w q := by
 intro q hq
 have hb := h.bnd q hq
 obtain ⟨n, cs, -, h⟩ := h
 rcases h with ⟨rfl, -⟩ | ⟨g, cap, cur, rfl, -, hg, -⟩
 ·simp [Value.ownBlock] at hq
 ·simp [Value.ownBlock] at hq
  subst hq
  exact ⟨hb.1, e, cur, hg, he⟩
theorem spo.lt {lo : Nat} {w : World} {q : Nat} (h : spo lo w q) : q < w.heap.size := by
 obtain ⟨-, e, cs, h, -⟩ := h
 exact (Array.getElem?_eq_some_iff.1 h).1
theorem spo.lower {lo lo2 : Nat} {w : World} {q : Nat} (h : spo lo w q) (hl : lo2 ≤ lo) : spo lo2 w q := ⟨Nat.le_trans hl h.1, h.2⟩
/-- a box is not spoiled -/
theorem Bx.not_spo {lo p : Nat} {w : World} {e : TypeId} {cs : Array Value} (h : Bx w p e cs) (he : e ∉ spT) : ¬ spo lo w p := by
 rintro ⟨-, e2, cs2, h2, he2⟩
 unfold Bx at h h2
 rw [h] at h2
 injection h2 with h2
 injection h2 with _ h3 _
 subst h3
 exact he he2
theorem Bx.lt {p : Nat} {w : World} {e : TypeId} {cs : Array Value} (h : Bx w p e cs) : p < w.heap.size := (Array.getElem?_eq_some_iff.1 h).1
theorem Bx.new {w : World} {e : TypeId} {cs : Array Value} : Bx (w.alloc (.cells cs e)) w.heap.size e cs := heap_alloc_new w _
theorem Bx.fr {own : Nat → Prop} {p : Nat} {w w' : World} {e : TypeId} {cs : Array Value} (h : Bx w p e cs) (hf : Fr own w w') (hn : ¬ own p) : Bx w' p e cs := (hf.block p h.lt hn).trans h
theorem Bx.ext {p : Nat} {w w' : World} {e : TypeId} {cs : Array Value} (h : Bx w p e cs) (hf : Ext w w') : Bx w' p e cs := (hf.block p h.lt).trans h
theorem Bx.drew {p : Nat} {w : World} {e : TypeId} {cs : Array Value} (h : Bx w p e cs) : Bx w.drew p e cs := h
theorem Bx.drewN {p : Nat} {w : World} {e : TypeId} {cs : Array Value} (n : Nat) (h : Bx w p e cs) : Bx (w.drewN n) p e cs := h
theorem Bx.alloc {p : Nat} {w : World} {e : TypeId} {cs : Array Value} (h : Bx w p e cs) (o : Obj) : Bx (w.alloc o) p e cs := h.ext ((Ext.refl w).alloc o)
theorem Bx.far {p : Nat} {w : World} {e : TypeId} {cs : Array Value} {a : Addr} {u : Value} (hn : p ≠ a.block) (h : Bx w p e cs) : Bx (w.setCell a u) p e cs := by
 unfold Bx
 rw [Below.heap_setCell _ _ _ _ hn]
 exact h
theorem Bx.set {p i : Nat} {w : World} {e : TypeId} {cs : Array Value} {u : Value} (h : Bx w p e cs) : Bx (w.setCell ⟨p, i, none⟩ u) p e (cs.setIfInBounds i u) := by
 unfold Bx at h ⊢
 unfold World.setCell
 simp only [Array.getElem?_modify, if_true, h, Option.map_some, Option.isSome_none, Bool.false_eq_true, if_false]
theorem Bx.row {p : Nat} {w : World} {e : TypeId} {cs : Array Value} (h : Bx w p e cs) : Row w p cs := by
 refine ⟨h.lt, fun o => ?_, fun o => ?_⟩
 ·exact cell_of_row w p o cs e (0, 0) h
 ·unfold Bx at h
  unfold World.frozen?
  simp only [h]
  simp
theorem RowS.box {lo : Nat} {e e2 : TypeId} {k p : Nat} {w : World} {v : Value} {cs : Array Value} (h : RowS lo e k w v) (hb : Bx w p e2 cs) (he : e ≠ e2) : v.ownBlock ≠ some p := by
 intro hq
 obtain ⟨n, cs', -, h⟩ := h
 rcases h with ⟨rfl, -⟩ | ⟨g, cap, cur, rfl, -, hg, -⟩
 ·simp [Value.ownBlock] at hq
 ·simp [Value.ownBlock] at hq
  subst hq
  unfold Bx at hb
  rw [hg] at hb
  injection hb with hb
  injection hb with _ h3 _
  exact he h3
end Go.Proofs.YteojjbhadgkfgaaGreat

/- spoilStation. -/
namespace Go.Proofs.YteojjbhadgkfgaaGreat
set_option linter.unusedSimpArgs false
set_option linter.unusedVariables false
set_option maxRecDepth 100000
open Go Go.RowKit Lb

/-- a gate as it lies in a row: its slices are values -/
structure Gx where
 id : Int
 zone : Int
 seq : Int
 sa : Value
 ver : Int
 si : Value
 left : Int
 untl : Int
instance : Inhabited Gx := ⟨⟨0, 0, 0, .slice none 0 0, 0, .slice none 0 0, 0, 0⟩⟩
/-- the gates' own rows -/
def GxS (lo : Nat) (w : World) (l : List Gx) : Prop := ∀ x ∈ l, RowS lo 57 5 w x.sa ∧ RowS lo 3 1 w x.si
theorem GxS.set {lo : Nat} {w : World} {l : List Gx} (h : GxS lo w l) (i : Nat) (hi : i < l.length) (z : Int) : GxS lo w (l.set i { l[i] with id := z }) := by
 intro x hx
 rcases List.mem_or_eq_of_mem_set hx with hx | rfl
 ·exact h x hx
 ·exact h l[i] (List.getElem_mem hi)

end Go.Proofs.YteojjbhadgkfgaaGreat

/- A pool: boxes and rows of one's own that outlive every spoiling. -/
namespace Go.Proofs.YteojjbhadgkfgaaGreat
set_option linter.unusedSimpArgs false
set_option linter.unusedVariables false
set_option maxRecDepth 100000
open Go Go.RowKit Lb

def spT3 : List TypeId := [34, 57, 3]
/-- boxes `bs` and rows `rs`, made behind w0, which is as it was -/
def Pool (w0 : World) (bs : List (Nat × TypeId × Array Value)) (rs : List (TypeId × Nat × Value)) (w : World) : Prop :=
 Ext w0 w ∧ (∀ x ∈ bs, Bx w x.1 x.2.1 x.2.2 ∧ x.2.1 ∉ spT3) ∧ ∀ x ∈ rs, RowS w0.heap.size x.1 x.2.1 w x.2.2
section
variable {w0 w w' : World} {bs : List (Nat × TypeId × Array Value)} {rs : List (TypeId × Nat × Value)}
theorem Pool.ext (h : Pool w0 bs rs w) (he : Ext w w') : Pool w0 bs rs w' := ⟨h.1.trans he, fun x hx => ⟨(h.2.1 x hx).1.ext he, (h.2.1 x hx).2⟩, fun x hx => (h.2.2 x hx).ext he⟩
theorem Pool.sp (h : Pool w0 bs rs w) (hb : ∀ x ∈ bs, x.2.1 ∉ spT) (hs : Sp (spo w0.heap.size w) w w') : Pool w0 bs rs w' :=
 ⟨h.1.fr hs.fr (fun q hq => hq.1), fun x hx => ⟨(h.2.1 x hx).1.fr hs.fr ((h.2.1 x hx).1.not_spo (hb x hx)), (h.2.1 x hx).2⟩, fun x hx => hs.row (h.2.2 x hx)⟩
theorem Pool.keep {bs2 : List (Nat × TypeId × Array Value)} (h : Pool w0 bs rs w) (hb : ∀ x ∈ bs2, x ∈ bs) : Pool w0 bs2 rs w := ⟨h.1, fun x hx => h.2.1 x (hb x hx), h.2.2⟩
theorem Pool.box (h : Pool w0 bs rs w) {p : Nat} {e : TypeId} {cs : Array Value} (hx : (p, e, cs) ∈ bs) : Row w p cs := (h.2.1 _ hx).1.row
theorem Pool.rows (h : Pool w0 bs rs w) {e : TypeId} {k : Nat} {v : Value} (hx : (e, k, v) ∈ rs) : RowS w0.heap.size e k w v := h.2.2 _ hx
theorem Pool.nil : Pool w [] [] w := ⟨Ext.refl _, fun _ h => (List.not_mem_nil h).elim, fun _ h => (List.not_mem_nil h).elim⟩
theorem Pool.addB (h : Pool w0 bs rs w) {p : Nat} {e : TypeId} {cs : Array Value} (hb : Bx w p e cs) (ht : e ∉ spT3) : Pool w0 ((p, e, cs) :: bs) rs w :=
 ⟨h.1, fun x hx => (List.mem_cons.1 hx).elim (fun h2 => by subst h2; exact ⟨hb, ht⟩) (h.2.1 x), h.2.2⟩
theorem Pool.addR (h : Pool w0 bs rs w) {e : TypeId} {k : Nat} {v : Value} (hb : RowS w0.heap.size e k w v) : Pool w0 bs ((e, k, v) :: rs) w :=
 ⟨h.1, h.2.1, fun x hx => (List.mem_cons.1 hx).elim (fun h2 => by subst h2; exact hb) (h.2.2 x)⟩
theorem Pool.step (h : Pool w0 bs rs w) {X : World} (hx : Ext X w') (he : Ext w X) {p : Nat} {e : TypeId} {cs : Array Value} (hb : Bx X p e cs) (ht : e ∉ spT3) : Pool w0 ((p, e, cs) :: bs) rs w' := (Pool.addB (h.ext he) hb ht).ext hx
theorem Pool.own {α : Type} {e : TypeId} {k base : Nat} {enc : α → Array Value} {v : Value} {l : List α} (h : Pool w0 bs rs w) (ho : OwnL e k enc base w v l) (hb : w0.heap.size ≤ base) : Pool w0 bs ((e, k, v) :: rs) w := h.addR ((ho.lower hb).rowS)
theorem Pool.ld {base : Nat} {t0 t1 t2 : Value} {l : Ld} (h : Pool w0 bs rs w) (ho : OwnLd base w t0 t1 t2 l) (hb : w0.heap.size ≤ base) : Pool w0 bs ((34, 6, t0) :: (57, 5, t1) :: (3, 1, t2) :: rs) w := ((h.own ho.vd hb).own ho.tp hb).own ho.tk hb
end
theorem ref_SameLedger_so (a : Ld) (s0 s1 s2 t0 t1 t2 : Value) (w : World) (hr0 : RdL 6 tkc w s0 a.tickets) (hr1 : RdL 5 tpc w s1 a.taps) (hr2 : RdL 1 inc w s2 a.verdicts) (ht0 : RdL 6 tkc w t0 a.tickets) (ht1 : RdL 5 tpc w t1 a.taps) (ht2 : RdL 1 inc w t2 a.verdicts) :
  Calls Tryz.prog 31 #[.agg #[s0, s1, s2], .agg #[t0, t1, t2]] w fun e w' => e = .returned (.bool true) ∧ Ext w w' := by
 have := ref_SameLedger a a s0 s1 s2 t0 t1 t2 w hr0 hr1 hr2 ht0 ht1 ht2
 rwa [decide_eq_true rfl] at this
theorem ref_SameDenied_so (a : Dn) (s u : Value) (w : World) (hr : RdL 1 inc w s a.ids) (hs : RdL 1 inc w u a.ids) :
  Calls Tryz.prog 26 #[.agg #[.int .i64 a.version, s], .agg #[.int .i64 a.version, u]] w fun e w' => e = .returned (.bool true) ∧ Ext w w' := by
 have := ref_SameDenied a a s u w hr hs
 rwa [show sameDn a a = true by simp [sameDn]] at this
theorem ref_SameGate_so (a : Gt) (sa si ta ti : Value) (w : World) (hr : RdL 5 tpc w sa a.alone) (hs : RdL 1 inc w si a.denied.ids) (hr2 : RdL 5 tpc w ta a.alone) (hs2 : RdL 1 inc w ti a.denied.ids) :
  Calls Tryz.prog 28 #[.agg (gta a sa si), .agg (gta a ta ti)] w fun e w' => e = .returned (.bool true) ∧ Ext w w' := by
 have := ref_SameGate a a sa si ta ti w hr hs hr2 hs2
 rwa [decide_eq_true rfl] at this
end Go.Proofs.YteojjbhadgkfgaaGreat

/- A drawn region: some operations come in whatever order they may; what they leave is told by a predicate of those that came. -/
namespace Go.Proofs.YteojjbhadgkfgaaGreat
open Go Go.RowKit
set_option linter.unusedSimpArgs false
set_option linter.unusedVariables false
set_option maxRecDepth 100000

theorem mark_false (L : Array Bool) : ∀ (ns : List Nat) (k : Nat), mark L ns (List.replicate k false) = L
 | [], k => by cases k <;> (unfold mark; rfl)
 | n :: ns, 0 => by unfold mark; rfl
 | n :: ns, k + 1 => by
  rw [List.replicate_succ]
  unfold mark
  simp only [Bool.false_eq_true, if_false]
  exact mark_false L ns k

/-- what the kernel looks at -/
def phaseOk (md : Region.Mode) (ops : Array Oper) (L : Array Bool) (nums : List Nat) (deps : Nat → List Bool → Bool) : Bool :=
 (bools (List.replicate nums.length false)).all fun cs => cs.all id || !closedB md ops (mark L nums cs) || (!(Region.ready md ops (mark L nums cs)).isEmpty && (Region.ready md ops (mark L nums cs)).all fun i => (List.range nums.length).any fun p => nums[p]? == some i && (cs[p]? == some false && (deps p cs && (match ops[i]? with | some o => o.guard.isNone | none => false))))

section
variable {P : Program} {l : List Oper} {Q : Exit → Act → World → Prop} {md : Region.Mode} {S : World → Prop}
theorem T_phase {n fuel : Nat} {listed : Array Bool} {a0 : Act} {w0 : World} (m : Nat) (nums : List Nat) (deps : Nat → List Bool → Bool) (hm : nums.length = m) (hcl : closedB md l.toArray listed = true)
  (hok : phaseOk md l.toArray listed nums deps = true) (J : List Bool → Act → World → Prop) (h0 : J (List.replicate m false) a0 w0) (hS : ∀ bs a w, bs.length = m → J bs a w → S w)
  (hj : ∀ (p i : Nat) (bs : List Bool) (a : Act) (w : World) (o : Oper), nums[p]? = some i → bs.length = m → bs[p]? = some false → deps p bs = true → J bs a w → l[i]? = some o → ∀ K : Act → World → Prop, Hid (∀ a' w', J (bs.set p true) a' w' → K a' w') → Oper.wp P o a w K (NoPanic Q))
  (hfin : ∀ a w, J (List.replicate m true) a w → wpAnyT P md l.toArray (NoPanic Q) S n fuel (mark listed nums (List.replicate m true)) a w) :
  wpAnyT P md l.toArray (NoPanic Q) S n (fuel + m) listed a0 w0 := by
 have hmain : ∀ (d : Nat) (bs : List Bool) (a : Act) (w : World), (bs.filter (!·)).length = d → bs.length = m → Closed md l.toArray (mark listed nums bs) → J bs a w →
   wpAnyT P md l.toArray (NoPanic Q) S n (fuel + d) (mark listed nums bs) a w := by
  intro d
  induction d with
  | zero =>
   intro bs a w hc hbl hclo hJ
   have hbs : bs = List.replicate m true := by
    apply List.ext_getElem?
    intro p
    by_cases hp : p < bs.length
    ·rw [List.getElem?_replicate, if_pos (by omega), List.getElem?_eq_getElem hp]
     cases hb : bs[p] with
     | true => rfl
     | false =>
      exfalso
      have : false ∈ bs.filter (!·) := List.mem_filter.2 ⟨hb ▸ List.getElem_mem hp, rfl⟩
      rw [List.eq_nil_of_length_eq_zero hc] at this
      cases this
    ·rw [List.getElem?_eq_none (by omega), List.getElem?_eq_none (by simp; omega)]
   subst hbs
   exact hfin a w hJ
  | succ d ih =>
   intro bs a w hc hbl hclo hJ
   have hk := List.all_eq_true.1 hok bs (bools_mem (List.replicate nums.length false) bs (by simp; omega) (fun p hp => by
    rw [List.getElem?_replicate] at hp
    split at hp
    ·cases hp
    ·cases hp))
   have hnot : bs.all id = false := by
    cases ha : bs.all id with
    | false => rfl
    | true =>
     exfalso
     have : bs.filter (!·) = [] := by
      rw [List.filter_eq_nil_iff]
      intro b hb
      have := List.all_eq_true.1 ha b hb
      simp at this
      simp [this]
     rw [this] at hc
     simp at hc
   simp only [hnot, closedB_complete hclo, Bool.not_true, Bool.false_or, Bool.or_eq_true, Bool.and_eq_true, Bool.not_eq_true', List.isEmpty_eq_false_iff, Bool.false_eq_true, false_or] at hk
   refine ⟨fun h => absurd h hk.1, fun i hi => ?_⟩
   have hjk := List.all_eq_true.1 hk.2 i hi
   obtain ⟨p, hp, hpj⟩ := List.any_eq_true.1 hjk
   have hpl := List.mem_range.1 hp
   simp only [Bool.and_eq_true, beq_iff_eq] at hpj
   obtain ⟨hnum, hbp, hdep, hgd⟩ := hpj
   cases ho : l.toArray[i]? with
   | none => rw [ho] at hgd; simp at hgd
   | some o =>
    rw [ho] at hgd
    have hg : o.guard = none := by simpa using hgd
    have hmk : (mark listed nums bs).setIfInBounds i true = mark listed nums (bs.set p true) := mark_at _ _ _ p i hnum (by omega)
    have hcnt : ((bs.set p true).filter (!·)).length = d := by
     have hpb : p < bs.length := by omega
     have hbe : bs[p] = false := by
      rw [List.getElem?_eq_getElem hpb] at hbp
      simpa using hbp
     have e1 : bs = bs.take p ++ false :: bs.drop (p + 1) := by
      have e2 := List.drop_eq_getElem_cons hpb
      rw [hbe] at e2
      rw [← e2, List.take_append_drop]
     have e3 : bs.set p true = bs.take p ++ true :: bs.drop (p + 1) := by
      rw [List.set_eq_take_append_cons_drop, if_pos hpb]
     rw [e3]
     rw [e1] at hc
     simp only [List.filter_append, List.filter_cons, Bool.not_false, Bool.not_true, if_true, List.length_append, List.length_cons, Bool.false_eq_true, if_false] at hc ⊢
     omega
    have hclo' : Closed md l.toArray (mark listed nums (bs.set p true)) := by rw [← hmk]; exact Closed.set hclo hi
    refine wpOp_step ho fun K0 hK0 => ?_
    rw [if_pos (wanted_none hg)]
    refine hj p i bs a w o hnum hbl hbp hdep hJ (by simpa using ho) K0 (Lib.hid fun a' w' hJ' => hK0 a' w' ⟨.inr (hS _ _ _ (by simpa using hbl) hJ'), ?_⟩)
    rw [hmk]
    exact ih _ _ _ hcnt (by simpa using hbl) hclo' hJ'
 have hr : (List.replicate m false).filter (!·) = List.replicate m false := by
  rw [List.filter_eq_self]
  intro b hb
  rw [List.eq_of_mem_replicate hb]
  rfl
 have h := hmain m (List.replicate m false) a0 w0 (by rw [hr]; simp) (by simp) (by rw [mark_false]; exact closedB_spec hcl) h0
 rw [mark_false] at h
 exact h
/-- the same, J told of the act at the beginning -/
theorem T_phaseA {n fuel : Nat} {listed : Array Bool} {a0 : Act} {w0 : World} (m : Nat) (nums : List Nat) (deps : Nat → List Bool → Bool) (hm : nums.length = m) (hcl : closedB md l.toArray listed = true)
  (hok : phaseOk md l.toArray listed nums deps = true) (J : Act → List Bool → Act → World → Prop) (h0 : J a0 (List.replicate m false) a0 w0) (hS : ∀ bs a w, bs.length = m → J a0 bs a w → S w)
  (hj : ∀ (p i : Nat) (bs : List Bool) (a : Act) (w : World) (o : Oper), nums[p]? = some i → bs.length = m → bs[p]? = some false → deps p bs = true → J a0 bs a w → l[i]? = some o → ∀ K : Act → World → Prop, Hid (∀ a' w', J a0 (bs.set p true) a' w' → K a' w') → Oper.wp P o a w K (NoPanic Q))
  (hfin : ∀ a w, J a0 (List.replicate m true) a w → wpAnyT P md l.toArray (NoPanic Q) S n fuel (mark listed nums (List.replicate m true)) a w) :
  wpAnyT P md l.toArray (NoPanic Q) S n (fuel + m) listed a0 w0 := T_phase m nums deps hm hcl hok (J a0) h0 hS hj hfin
end
end Go.Proofs.YteojjbhadgkfgaaGreat
