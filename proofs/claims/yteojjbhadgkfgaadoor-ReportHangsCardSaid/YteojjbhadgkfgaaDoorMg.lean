/- Mg: parts of the proofs, laid together. -/
import Derived.Shelf.SlSortCmp.NoneTotal
import Derived.Test.YteojjbhadgkfgaaDoorMc
import Derived.Test.YteojjbhadgkfgaaDoorMf
import Derived.Test.YteojjbhadgkfgaaDoorMa
/- The taps of a right ledger are right, and of its tickets: the plain side. -/
namespace Go.Proofs.YteojjbhadgkfgaaDoor
set_option linter.unusedSimpArgs false
set_option linter.unusedVariables false
set_option maxRecDepth 100000
open Lb

theorem ckTaps_known (tks : List Tk) : ∀ (l : List Tp) (vl : List Int) (pre : List Tp) (pv : List Int), l.length = vl.length → ckTaps tks pre pv l vl = 0 → ∀ p ∈ l, ckTap p = 0 ∧ ∃ t ∈ tks, t.id = p.ticket
 | [], [], _, _, _, _ => by simp
 | p :: l, v :: vl, pre, pv, hl, h => by
  unfold ckTaps at h
  by_cases hc : ckTapAt tks pre pv p v = 0
  ·rw [if_neg (by simpa using hc)] at h
   intro x hx
   rcases List.mem_cons.1 hx with rfl | hx
   ·refine ⟨ckTapAt_tap hc, ?_⟩
    obtain ⟨ht, -⟩ := tapV_of_ckTapAt hc
    obtain ⟨-, t, ht, -⟩ := tapV_ok (tks := tks) (taps := pre) (vs := pv) (p := x) (by rw [ht])
    obtain ⟨h1, h2⟩ := ticketOf_mem ht
    exact ⟨t, h1, h2⟩
   ·exact ckTaps_known tks l vl _ _ (by simpa using hl) h x hx
  ·rw [if_pos hc] at h; exact absurd h hc
 | [], _ :: _, _, _, hl, _ => by simp at hl
 | _ :: _, [], _, _, hl, _ => by simp at hl
theorem right_known {l : Ld} (h : ckLedger l = 0) : ∀ p ∈ l.taps, ckTap p = 0 ∧ ∃ t ∈ l.tickets, t.id = p.ticket := ckTaps_known _ _ _ _ _ (right_len h) (right_iff.1 h).2.2.2.2

end Go.Proofs.YteojjbhadgkfgaaDoor

/- Merging: the order of taps, taps that come into a ledger: the plain side. -/
namespace Go.Proofs.YteojjbhadgkfgaaDoor
set_option linter.unusedSimpArgs false
set_option linter.unusedVariables false
set_option maxRecDepth 100000
open Lb

end Go.Proofs.YteojjbhadgkfgaaDoor

/- Stores into a block of one's own; rows of one's own are not frozen. -/
namespace Go.Proofs.YteojjbhadgkfgaaDoor
set_option linter.unusedSimpArgs false
set_option linter.unusedVariables false
set_option maxRecDepth 100000
open Go Go.RowKit Lb

theorem setCell_grown (w : World) (a : Addr) (u : Value) : w.grownBy (w.setCell a u) (some a.block) := ⟨rfl, rfl, rfl, by simp [World.setCell], fun k _ hk => Below.heap_setCell _ _ _ _ (fun e => hk (by rw [e]))⟩
theorem Fr.setC {own : Nat → Prop} {w0 w : World} {a : Addr} {u : Value} (ha : own a.block) (h : Fr own w0 w) : Fr own w0 (w.setCell a u) := h.grown (setCell_grown w a u) (fun q e => Or.inr (by rw [Option.some.inj e] at ha; exact ha))
theorem Fr.drew {own : Nat → Prop} {w0 w : World} (h : Fr own w0 w) : Fr own w0 w.drew := ⟨h.os, h.tape, h.output, h.size, h.block⟩
theorem Fr.drewN {own : Nat → Prop} {w0 w : World} (h : Fr own w0 w) (n : Nat) : Fr own w0 (w.drewN n) := ⟨h.os, h.tape, h.output, h.size, h.block⟩
end Go.Proofs.YteojjbhadgkfgaaDoor

/- slices.SortFunc over taps: the shelf's structure, in plain words. -/
namespace Go.Proofs.YteojjbhadgkfgaaDoor
set_option linter.unusedSimpArgs false
set_option linter.unusedVariables false
set_option maxRecDepth 100000
open Go Go.RowKit Go.Shelf Lb

end Go.Proofs.YteojjbhadgkfgaaDoor

/- merge.before, and slices.SortFunc over taps by it. -/
namespace Go.Proofs.YteojjbhadgkfgaaDoor
set_option linter.unusedSimpArgs false
set_option linter.unusedVariables false
set_option maxRecDepth 100000
open Go Go.RowKit Go.Shelf Go.Sort Lb

/-- a tap that is right -/
abbrev TpR := {p : Tp // ckTap p = 0}
instance : Inhabited TpR := ⟨⟨⟨1, 0, 1, 0, 1⟩, by decide⟩⟩
end Go.Proofs.YteojjbhadgkfgaaDoor

/- slices.Grow and slices.Concat over taps. -/
namespace Go.Proofs.YteojjbhadgkfgaaDoor
set_option linter.unusedSimpArgs false
set_option linter.unusedVariables false
set_option maxRecDepth 100000
open Go Go.RowKit Lb

end Go.Proofs.YteojjbhadgkfgaaDoor

/- merge.twice. -/
namespace Go.Proofs.YteojjbhadgkfgaaDoor
set_option linter.unusedSimpArgs false
set_option linter.unusedVariables false
set_option maxRecDepth 100000
open Go Go.RowKit Lb

end Go.Proofs.YteojjbhadgkfgaaDoor

/- rule.Each with rule.Check (as in RuleI, for seats without rule.Judge). -/
namespace Go.Proofs.YteojjbhadgkfgaaDoor
set_option linter.unusedSimpArgs false
set_option linter.unusedVariables false
set_option maxRecDepth 100000
open Go Go.RowKit Lb

end Go.Proofs.YteojjbhadgkfgaaDoor

/- merge.Order. -/
namespace Go.Proofs.YteojjbhadgkfgaaDoor
set_option linter.unusedSimpArgs false
set_option linter.unusedVariables false
set_option maxRecDepth 100000
open Go Go.RowKit Lb

end Go.Proofs.YteojjbhadgkfgaaDoor

/- merge's builder.enter. -/
namespace Go.Proofs.YteojjbhadgkfgaaDoor
set_option linter.unusedSimpArgs false
set_option linter.unusedVariables false
set_option maxRecDepth 100000
open Go Go.RowKit Lb

/-- a builder in rows of the call's own -/
structure BuOk (n1 : Nat) (w : World) (g : Nat) (x : Ld) (out : List Tp) (t0 t1 t2 so : Value) : Prop where
 low : n1 ≤ g
 row : Row w g #[t0, t1, t2, so]
 ld : OwnLd n1 w t0 t1 t2 x
 out : OwnL 62 5 tpc n1 w so out
 n0 : t0.ownBlock ≠ some g
 n1 : t1.ownBlock ≠ some g
 n2 : t2.ownBlock ≠ some g
 n3 : so.ownBlock ≠ some g
 d0 : ∀ q, so.ownBlock = some q → t0.ownBlock ≠ some q
 d1 : ∀ q, so.ownBlock = some q → t1.ownBlock ≠ some q
 d2 : ∀ q, so.ownBlock = some q → t2.ownBlock ≠ some q
theorem BuOk.ext {n1 : Nat} {w w' : World} {g : Nat} {x : Ld} {out : List Tp} {t0 t1 t2 so : Value} (h : BuOk n1 w g x out t0 t1 t2 so) (he : Ext w w') : BuOk n1 w' g x out t0 t1 t2 so :=
 ⟨h.low, h.row.ext he, h.ld.ext he, h.out.ext he, h.n0, h.n1, h.n2, h.n3, h.d0, h.d1, h.d2⟩
end Go.Proofs.YteojjbhadgkfgaaDoor

/- rule.Each with builder.enter. -/
namespace Go.Proofs.YteojjbhadgkfgaaDoor
set_option linter.unusedSimpArgs false
set_option linter.unusedVariables false
set_option maxRecDepth 100000
open Go Go.RowKit Lb

theorem RdL.below {α : Type} [Inhabited α] {k n1 : Nat} {enc : α → Array Value} {w w' : World} {v : Value} {l : List α} (h : RdL k enc w v l) (hi : InB n1 v l) (hb : Below n1 w w') : RdL k enc w' v l := by
 obtain ⟨A, c, hv, h1, h2, h3⟩ := h
 refine ⟨A, c, hv, h1, h2, fun hp => ?_⟩
 obtain ⟨b, o, hA, hb', hc⟩ := h3 hp
 have hbn : b < n1 := hi hp b (by rw [hv, hA]; rfl)
 refine ⟨b, o, hA, Nat.lt_of_lt_of_le hb' hb.size, fun j hj i u hu => ?_⟩
 rw [Below.cell (p := ⟨b, _, none⟩) hb hbn]
 exact hc j hj i u hu
end Go.Proofs.YteojjbhadgkfgaaDoor

/- merge.Raw and Into. -/
namespace Go.Proofs.YteojjbhadgkfgaaDoor
set_option linter.unusedSimpArgs false
set_option linter.unusedVariables false
set_option maxRecDepth 100000
open Go Go.RowKit Lb

end Go.Proofs.YteojjbhadgkfgaaDoor
