/- Mf: parts of the proofs, laid together. -/
import Derived.Test.YteojjbhadgkfgaaGreatMa
import Derived.Test.YteojjbhadgkfgaaGreatMc
/- Slices that are read, and where their rows may lie: what a reference hands back is what came, or new. -/
namespace Go.Proofs.YteojjbhadgkfgaaGreat
set_option linter.unusedSimpArgs false
set_option linter.unusedVariables false
set_option maxRecDepth 100000
open Go Go.RowKit Lb

section
variable {α : Type} [Inhabited α] {k b n : Nat} {P Q : Nat → Prop} {enc : α → Array Value} {w w' w0 : World} {v : Value} {l : List α}
/-- its row lies where P says -/
def InP {α : Type} (P : Nat → Prop) (v : Value) (l : List α) : Prop := 0 < l.length → ∀ q, v.ownBlock = some q → P q
def RdP (P : Nat → Prop) (k : Nat) (enc : α → Array Value) (w : World) (v : Value) (l : List α) : Prop := RdL k enc w v l ∧ InP P v l
/-- its row lies ahead of b -/
abbrev InB {α : Type} (b : Nat) (v : Value) (l : List α) : Prop := InP (fun q => q < b) v l
/-- its row lies ahead of b, or from n on -/
abbrev RdO (b n : Nat) (k : Nat) (enc : α → Array Value) (w : World) (v : Value) (l : List α) : Prop := RdP (fun q => q < b ∨ n ≤ q) k enc w v l
theorem RdL.inB (h : RdL k enc w v l) (hb : w.heap.size ≤ b) : InB b v l := by
 intro h0 q hq
 obtain ⟨A, c, hv, -, -, h3⟩ := h
 obtain ⟨b', o, hA, hb', -⟩ := h3 h0
 rw [hv, hA] at hq
 simp [Value.ownBlock] at hq
 omega
omit [Inhabited α] in
theorem InP.nil : InP P (.slice none 0 0) ([] : List α) := fun h => by simp at h
theorem RdP.nil : RdP P k enc w (.slice none 0 0) ([] : List α) := ⟨RdL.nil, InP.nil⟩
theorem RdO.nil : RdO b n k enc w (.slice none 0 0) ([] : List α) := RdP.nil
theorem RdL.oldP (h : RdL k enc w v l) (hb : InP P v l) : RdP (fun q => P q ∨ n ≤ q) k enc w v l := ⟨h, fun h0 q hq => .inl (hb h0 q hq)⟩
theorem RdL.old (h : RdL k enc w v l) (hb : InB b v l) : RdO b n k enc w v l := h.oldP hb
theorem RdP.rd (h : RdP P k enc w v l) : RdL k enc w v l := h.1
theorem RdO.rd (h : RdO b n k enc w v l) : RdL k enc w v l := h.1
theorem RdP.form (h : RdP P k enc w v l) : ∃ A c, v = .slice A l.length c := by
 obtain ⟨A, c, hv, -⟩ := h.1
 exact ⟨A, c, hv⟩
theorem RdO.form (h : RdO b n k enc w v l) : ∃ A c, v = .slice A l.length c := RdP.form h
theorem RdP.ext (h : RdP P k enc w v l) (he : Ext w w') : RdP P k enc w' v l := ⟨h.1.ext he, h.2⟩
theorem RdO.ext (h : RdO b n k enc w v l) (he : Ext w w') : RdO b n k enc w' v l := RdP.ext h he
theorem RdP.alloc (h : RdP P k enc w v l) (o : Obj) : RdP P k enc (w.alloc o) v l := h.ext ((Ext.refl w).alloc o)
theorem RdO.alloc (h : RdO b n k enc w v l) (o : Obj) : RdO b n k enc (w.alloc o) v l := RdP.alloc h o
theorem RdP.drew (h : RdP P k enc w v l) : RdP P k enc w.drew v l := h
theorem RdO.drew (h : RdO b n k enc w v l) : RdO b n k enc w.drew v l := h
theorem RdP.drewN (h : RdP P k enc w v l) (m : Nat) : RdP P k enc (w.drewN m) v l := h
theorem RdO.drewN (h : RdO b n k enc w v l) (m : Nat) : RdO b n k enc (w.drewN m) v l := h
theorem RdL.kept {row : Option Nat} (h : RdL k enc w v l) (hg : w.grownBy w' row) (hne : 0 < l.length → ∀ q, row = some q → v.ownBlock ≠ some q) : RdL k enc w' v l := by
 obtain ⟨A, c, hv, h1, h2, h3⟩ := h
 refine ⟨A, c, hv, h1, h2, fun hp => ?_⟩
 obtain ⟨b', o, hA, hb', hc⟩ := h3 hp
 refine ⟨b', o, hA, Nat.lt_of_lt_of_le hb' hg.size, fun j hj i u' hu => ?_⟩
 have hob : v.ownBlock = some b' := by rw [hv, hA]; rfl
 rw [World.cell?_of_block (a := ⟨b', _, none⟩) (w := w) (hg.block b' hb' (fun e => hne hp b' e.symm hob))]
 exact hc j hj i u' hu
theorem RdP.kept {row : Option Nat} (h : RdP P k enc w v l) (hg : w.grownBy w' row) (hne : ∀ q, row = some q → ¬ P q) : RdP P k enc w' v l :=
 ⟨h.1.kept hg (fun h0 q hq ho => hne q hq (h.2 h0 q ho)), h.2⟩
theorem RdP.setC {a : Addr} {u : Value} (ha : ¬ P a.block) (h : RdP P k enc w v l) : RdP P k enc (w.setCell a u) v l :=
 h.kept (row := some a.block) ⟨rfl, rfl, rfl, by simp [World.setCell], fun k _ hk => Below.heap_setCell _ _ _ _ (fun e => hk (by rw [e]))⟩ (fun q e => by injection e with e; subst e; exact ha)
theorem RdO.setC {a : Addr} {u : Value} (ha : b ≤ a.block ∧ a.block < n) (h : RdO b n k enc w v l) : RdO b n k enc (w.setCell a u) v l := RdP.setC (by omega) h
end
end Go.Proofs.YteojjbhadgkfgaaGreat

/- Ledgers: beginnings; a ticket more: the plain side. -/
namespace Go.Proofs.YteojjbhadgkfgaaGreat
set_option linter.unusedSimpArgs false
set_option linter.unusedVariables false
set_option maxRecDepth 100000
open Go Go.RowKit Lb

end Go.Proofs.YteojjbhadgkfgaaGreat
