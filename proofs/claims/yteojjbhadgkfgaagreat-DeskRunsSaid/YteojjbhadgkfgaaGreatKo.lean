/- Ko: parts of the proofs, laid together. -/
import Derived.ProofKit
import Derived.OpenShut
import Derived.ShutString
import Derived.ChangeOld
import Derived.Below
import Derived.Lib.SmallJoins
import Derived.Carry
import Derived.Deep.Slices
import Derived.Deep.Fields
import Derived.ChangeSame
import Derived.DataReads
import Derived.SizedLaws
import Derived.Test.YteojjbhadgkfgaaGreatKa
import Derived.Test.YteojjbhadgkfgaaGreatKl
import Derived.Test.YteojjbhadgkfgaaGreatKb
/- How the arguments of the statements read: tickets, taps, strings, numbers. -/
set_option maxHeartbeats 64000000
namespace Go.Proofs.YteojjbhadgkfgaaGreat
set_option linter.unusedSimpArgs false
set_option linter.unusedVariables false
set_option maxRecDepth 100000
open Go Go.RowKit Go.Joins Go.ChangeShapes Go.WideShapes Go.Deep Lb

section
variable {H : Type} {enc : TypeId × Value → H} {P : Program} {w : World} {base : Nat} {spare : Nat → Bool} {held : Bool}
end

theorem own : ownKnob Tryz.prog.godebug = none := by kernel_rfl
theorem laidOut : laidOutB Tryz.prog = true := by kernel_rfl

section
variable {H : Type} {enc : TypeId × Value → H} {w : World} {b0 base : Nat} {spare : Nat → Bool} {held : Bool} {r : Reach}
theorem one_int {n : Nat} {v : Value} {y : DataW H × List MemPlace} (h : DataW.trod enc Tryz.prog w base spare held n 3 [v] = some y) : ∃ a : Int, v = .int .i64 a := by
 obtain ⟨a, e0, _⟩ := DataW.trod_int Tryz.underlying3 h
 simp at e0
 exact ⟨a, e0⟩
end
end Go.Proofs.YteojjbhadgkfgaaGreat

namespace Go.Proofs.YteojjbhadgkfgaaGreat
set_option linter.unusedSimpArgs false
set_option linter.unusedVariables false
set_option maxRecDepth 100000
open Go Go.RowKit Go.Joins Go.ChangeShapes Go.WideShapes Go.Deep Lb

section
variable {H : Type} {enc : TypeId × Value → H} {P : Program} {w : World} {base : Nat} {spare : Nat → Bool} {held : Bool}
end

section
variable {H : Type} {enc : TypeId × Value → H} {w : World} {b0 base : Nat} {spare : Nat → Bool} {held : Bool} {r : Reach}
end
end Go.Proofs.YteojjbhadgkfgaaGreat

namespace Go.Proofs.YteojjbhadgkfgaaGreat
open Go Go.RowKit Lb
def vwc (v : Vw) : Array Value := #[.int .i64 v.epoch, .int .i64 v.leader, .bool v.up]
theorem vwc_size (v : Vw) : (vwc v).size = 3 := rfl
end Go.Proofs.YteojjbhadgkfgaaGreat

namespace Go.Proofs.YteojjbhadgkfgaaGreat
set_option linter.unusedSimpArgs false
set_option linter.unusedVariables false
set_option maxRecDepth 100000
open Go Go.RowKit Go.Joins Go.ChangeShapes Go.WideShapes Go.Deep Lb

section
variable {H : Type} {enc : TypeId × Value → H} {P : Program} {w : World} {base : Nat} {spare : Nat → Bool} {held : Bool}
theorem trod_fields {t : TypeId} {fs : Array Field} {fuel : Nat} {cs : List Value} {x : DataW H × List MemPlace} (ht : P.underlying t = some (.struct fs)) (h : DataW.trod enc P w base spare held fuel t cs = some x) :
  ∃ n, cs.length = P.cellsOf t ∧ ∀ (i : Nat) (f : Field), fs[i]? = some f → ∃ y, DataW.trod enc P w base spare held n f.type ((cs.drop f.offset).take (P.cellsOf f.type)) = some y := by
 obtain ⟨xs, n, -, -, h1, h2, h3⟩ := DataW.trod_struct ht h
 refine ⟨n, h1, fun i f hf => ?_⟩
 have hi : i < xs.length := by rw [h2]; exact (Array.getElem?_eq_some_iff.1 hf).1
 exact ⟨xs[i], by rw [h3 i f hf, List.getElem?_eq_getElem hi]⟩
theorem rdl_of {α : Type} [Inhabited α] {en : α → Array Value} {k : Nat} {a : Addr} {vl vc : Nat} (hk : ∀ x, (en x).size = k) (hk0 : 0 < k) (hl : vl ≤ vc) (hm : vc ≤ maxLen)
  (hcell : ∀ i, i < vl → ∃ x : α, ∀ j u, (en x)[j]? = some u → w.cell? (a.add (i * k + j)) = some u) : ∃ l : List α, RdL k en w (.slice (some a) vl vc) l := by
 let g : Nat → α := fun i => if h : i < vl then (hcell i h).choose else default
 have hg : ∀ i, i < vl → ∀ j u, (en (g i))[j]? = some u → w.cell? (a.add (i * k + j)) = some u := by
  intro i h
  have := (hcell i h).choose_spec
  simpa [g, h] using this
 refine ⟨(List.range vl).map g, some a, vc, by simp, by simpa using hl, hm, fun hn => ?_⟩
 simp only [List.length_map, List.length_range] at hn ⊢
 have hz : 0 < (en (g 0)).size := by rw [hk]; exact hk0
 have h00 := hg 0 hn 0 _ (Array.getElem?_eq_getElem hz)
 have hsp := World.cell?_spot h00
 have hlt := World.block_lt_of_cell? w _ h00
 obtain ⟨b, o, sp⟩ := a
 simp [Addr.add] at hsp hlt
 subst hsp
 refine ⟨b, o, rfl, hlt, fun j hj i u hu => ?_⟩
 have hgj : ((List.range vl).map g)[j]! = g j := by simp [hj]
 rw [hgj] at hu
 have := hg j hj i u hu
 simp only [Addr.add] at this
 split at this
 ·rename_i h0
  rw [show o + j * k + i = o by omega]; exact this
 ·rw [show o + j * k + i = o + (j * k + i) by omega]; exact this
end

section
variable {H : Type} {enc : TypeId × Value → H} {w : World} {b0 base : Nat} {spare : Nat → Bool} {held : Bool} {r : Reach}
end
end Go.Proofs.YteojjbhadgkfgaaGreat

namespace Go.Proofs.YteojjbhadgkfgaaGreat
set_option linter.unusedSimpArgs false
set_option linter.unusedVariables false
set_option maxRecDepth 100000
open Go Go.RowKit Go.Joins Go.ChangeShapes Go.WideShapes Go.Deep Lb

section
variable {H : Type} {enc : TypeId × Value → H} {w : World} {b0 base : Nat} {spare : Nat → Bool} {held : Bool} {r : Reach}
end
end Go.Proofs.YteojjbhadgkfgaaGreat

namespace Go.Proofs.YteojjbhadgkfgaaGreat
set_option linter.unusedSimpArgs false
set_option linter.unusedVariables false
set_option maxRecDepth 100000
open Go Go.RowKit Go.Joins Go.ChangeShapes Go.WideShapes Go.Deep Lb

section
variable {H : Type} {enc : TypeId × Value → H} {w : World} {b0 base : Nat} {spare : Nat → Bool} {held : Bool} {r : Reach}
end
end Go.Proofs.YteojjbhadgkfgaaGreat
