/- How the arguments of the statements read, IV: gates, ledgers, slices of numbers and tickets. -/
import Derived.Test.YtbboonepfmkgnaaOpenE
namespace Go.Proofs.Ytbboonepfmkgnaa
set_option linter.unusedSimpArgs false
set_option linter.unusedVariables false
set_option maxRecDepth 100000
open Go Go.RowKit Go.Joins Go.ChangeShapes Go.WideShapes Go.Deep Lb

section
variable {H : Type} {enc : TypeId × Value → H} {w : World} {b0 base : Nat} {spare : Nat → Bool} {held : Bool} {r : Reach}
theorem open_ld {v : Value} {d : DataW H} {p : List MemPlace} (hv : Value.okWide Try.prog w r b0 26 v) (h : DataW.Trod enc Try.prog w base spare held 26 v d p) : ∃ (l : Ld) (s0 s1 s2 : Value), v = .agg #[s0, s1, s2] ∧ RdL 6 tkc w s0 l.tickets ∧ RdL 5 tpc w s1 l.taps ∧ RdL 1 inc w s2 l.verdicts := by
  obtain ⟨cs, rfl, hsz⟩ := okWide_struct Try.underlying26 hv
  obtain ⟨l⟩ := cs
  match l, hsz.trans (show Try.prog.cellsOf 26 = 3 from by kernel_rfl) with
  | [v0, v1, v2], _ =>
    obtain ⟨fuel, hf0⟩ := h
    obtain ⟨n, -, hf⟩ := trod_fields Try.underlying26 hf0
    obtain ⟨y0, h0⟩ := hf 0 _ rfl
    obtain ⟨y1, h1⟩ := hf 1 _ rfl
    obtain ⟨y2, h2⟩ := hf 2 _ rfl
    change DataW.trod enc Try.prog w base spare held n 22 (([v0, v1, v2].drop 0).take (Try.prog.cellsOf 22)) = some y0 at h0
    change DataW.trod enc Try.prog w base spare held n 23 (([v0, v1, v2].drop 1).take (Try.prog.cellsOf 23)) = some y1 at h1
    change DataW.trod enc Try.prog w base spare held n 24 (([v0, v1, v2].drop 2).take (Try.prog.cellsOf 24)) = some y2 at h2
    rw [show Try.prog.cellsOf 22 = 1 from by kernel_rfl] at h0
    rw [show Try.prog.cellsOf 23 = 1 from by kernel_rfl] at h1
    rw [show Try.prog.cellsOf 24 = 1 from by kernel_rfl] at h2
    obtain ⟨l0, e0⟩ := trod_tks (v := v0) h0
    obtain ⟨l1, e1⟩ := trod_taps (v := v1) h1
    obtain ⟨l2, e2⟩ := trod_ints (v := v2) h2
    exact ⟨⟨l0, l1, l2⟩, v0, v1, v2, rfl, e0, e1, e2⟩
theorem open_ints {v : Value} {d : DataW H} {p : List MemPlace} (hv : Value.okWide Try.prog w r b0 24 v) (h : DataW.Trod enc Try.prog w base spare held 24 v d p) : ∃ l : List Int, RdL 1 inc w v l := by
  obtain ⟨va, vl, vc, rfl⟩ := okWide_slice Try.underlying24 hv
  obtain ⟨fuel, hf⟩ := h
  exact trod_ints hf
theorem open_tks {v : Value} {d : DataW H} {p : List MemPlace} (hv : Value.okWide Try.prog w r b0 22 v) (h : DataW.Trod enc Try.prog w base spare held 22 v d p) : ∃ l : List Tk, RdL 6 tkc w v l := by
  obtain ⟨va, vl, vc, rfl⟩ := okWide_slice Try.underlying22 hv
  obtain ⟨fuel, hf⟩ := h
  exact trod_tks hf
end
end Go.Proofs.Ytbboonepfmkgnaa
