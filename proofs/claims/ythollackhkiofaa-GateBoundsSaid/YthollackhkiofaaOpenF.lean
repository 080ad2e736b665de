/- How the arguments of the statements read, IV: gates, ledgers, slices of numbers and tickets. -/
import Derived.Test.YthollackhkiofaaOpenE
import Derived.Test.YthollackhkiofaaGtA
namespace Go.Proofs.Ythollackhkiofaa
set_option linter.unusedSimpArgs false
set_option linter.unusedVariables false
set_option maxRecDepth 100000
open Go Go.RowKit Go.Joins Go.ChangeShapes Go.WideShapes Go.Deep Lb

section
variable {H : Type} {enc : TypeId × Value → H} {w : World} {b0 base : Nat} {spare : Nat → Bool} {held : Bool} {r : Reach}
theorem trod_bd {n : Nat} {v0 v1 : Value} {y : DataW H × List MemPlace} (h : DataW.trod enc Try.prog w base spare held n 58 [v0, v1] = some y) : ∃ a b : Int, v0 = .int .i64 a ∧ v1 = .int .i64 b := by
  obtain ⟨n, -, hf⟩ := trod_fields Try.underlying58 h
  obtain ⟨y0, h0⟩ := hf 0 _ rfl
  obtain ⟨y1, h1⟩ := hf 1 _ rfl
  change DataW.trod enc Try.prog w base spare held n 3 (([v0, v1].drop 0).take (Try.prog.cellsOf 3)) = some y0 at h0
  change DataW.trod enc Try.prog w base spare held n 3 (([v0, v1].drop 1).take (Try.prog.cellsOf 3)) = some y1 at h1
  rw [show Try.prog.cellsOf 3 = 1 from by kernel_rfl] at h0 h1
  obtain ⟨a, rfl⟩ := one_int (v := v0) h0
  obtain ⟨b, rfl⟩ := one_int (v := v1) h1
  exact ⟨a, b, rfl, rfl⟩
theorem trod_gt {n : Nat} {v0 v1 v2 v3 v4 v5 v6 v7 : Value} {y : DataW H × List MemPlace} (h : DataW.trod enc Try.prog w base spare held n 60 [v0, v1, v2, v3, v4, v5, v6, v7] = some y) : ∃ g : Gt, [v0, v1, v2, v3, v4, v5, v6, v7].toArray = gta g v3 v5 ∧ RdL 5 tpc w v3 g.alone ∧ RdL 1 inc w v5 g.denied.ids := by
  obtain ⟨n, -, hf⟩ := trod_fields Try.underlying60 h
  obtain ⟨y0, h0⟩ := hf 0 _ rfl
  obtain ⟨y1, h1⟩ := hf 1 _ rfl
  obtain ⟨y2, h2⟩ := hf 2 _ rfl
  obtain ⟨y3, h3⟩ := hf 3 _ rfl
  obtain ⟨y4, h4⟩ := hf 4 _ rfl
  obtain ⟨y5, h5⟩ := hf 5 _ rfl
  change DataW.trod enc Try.prog w base spare held n 3 (([v0, v1, v2, v3, v4, v5, v6, v7].drop 0).take (Try.prog.cellsOf 3)) = some y0 at h0
  change DataW.trod enc Try.prog w base spare held n 3 (([v0, v1, v2, v3, v4, v5, v6, v7].drop 1).take (Try.prog.cellsOf 3)) = some y1 at h1
  change DataW.trod enc Try.prog w base spare held n 3 (([v0, v1, v2, v3, v4, v5, v6, v7].drop 2).take (Try.prog.cellsOf 3)) = some y2 at h2
  change DataW.trod enc Try.prog w base spare held n 56 (([v0, v1, v2, v3, v4, v5, v6, v7].drop 3).take (Try.prog.cellsOf 56)) = some y3 at h3
  change DataW.trod enc Try.prog w base spare held n 43 (([v0, v1, v2, v3, v4, v5, v6, v7].drop 4).take (Try.prog.cellsOf 43)) = some y4 at h4
  change DataW.trod enc Try.prog w base spare held n 58 (([v0, v1, v2, v3, v4, v5, v6, v7].drop 6).take (Try.prog.cellsOf 58)) = some y5 at h5
  rw [show Try.prog.cellsOf 3 = 1 from by kernel_rfl] at h0 h1 h2
  rw [show Try.prog.cellsOf 56 = 1 from by kernel_rfl] at h3
  rw [show Try.prog.cellsOf 43 = 2 from by kernel_rfl] at h4
  rw [show Try.prog.cellsOf 58 = 2 from by kernel_rfl] at h5
  obtain ⟨a0, rfl⟩ := one_int (v := v0) h0
  obtain ⟨a1, rfl⟩ := one_int (v := v1) h1
  obtain ⟨a2, rfl⟩ := one_int (v := v2) h2
  obtain ⟨l, hl⟩ := trod_taps (v := v3) h3
  obtain ⟨d, rfl, hd⟩ := trod_dn (v0 := v4) (v1 := v5) h4
  obtain ⟨a6, a7, rfl, rfl⟩ := trod_bd (v0 := v6) (v1 := v7) h5
  exact ⟨⟨a0, a1, a2, l, d, a6, a7⟩, rfl, hl, hd⟩
theorem open_gt {v : Value} {d : DataW H} {p : List MemPlace} (hv : Value.okWide Try.prog w r b0 60 v) (h : DataW.Trod enc Try.prog w base spare held 60 v d p) : ∃ (g : Gt) (sa si : Value), v = .agg (gta g sa si) ∧ RdL 5 tpc w sa g.alone ∧ RdL 1 inc w si g.denied.ids := by
  obtain ⟨cs, rfl, hsz⟩ := okWide_struct Try.underlying60 hv
  obtain ⟨l⟩ := cs
  match l, hsz.trans (show Try.prog.cellsOf 60 = 8 from by kernel_rfl) with
  | [c0, c1, c2, c3, c4, c5, c6, c7], _ =>
    obtain ⟨fuel, hf⟩ := h
    obtain ⟨g, hg, h1, h2⟩ := trod_gt (v0 := c0) (v1 := c1) (v2 := c2) (v3 := c3) (v4 := c4) (v5 := c5) (v6 := c6) (v7 := c7) hf
    exact ⟨g, c3, c5, congrArg Value.agg hg, h1, h2⟩
theorem open_ld {v : Value} {d : DataW H} {p : List MemPlace} (hv : Value.okWide Try.prog w r b0 82 v) (h : DataW.Trod enc Try.prog w base spare held 82 v d p) : ∃ (l : Ld) (s0 s1 s2 : Value), v = .agg #[s0, s1, s2] ∧ RdL 6 tkc w s0 l.tickets ∧ RdL 5 tpc w s1 l.taps ∧ RdL 1 inc w s2 l.verdicts := by
  obtain ⟨cs, rfl, hsz⟩ := okWide_struct Try.underlying82 hv
  obtain ⟨l⟩ := cs
  match l, hsz.trans (show Try.prog.cellsOf 82 = 3 from by kernel_rfl) with
  | [v0, v1, v2], _ =>
    obtain ⟨fuel, hf0⟩ := h
    obtain ⟨n, -, hf⟩ := trod_fields Try.underlying82 hf0
    obtain ⟨y0, h0⟩ := hf 0 _ rfl
    obtain ⟨y1, h1⟩ := hf 1 _ rfl
    obtain ⟨y2, h2⟩ := hf 2 _ rfl
    change DataW.trod enc Try.prog w base spare held n 76 (([v0, v1, v2].drop 0).take (Try.prog.cellsOf 76)) = some y0 at h0
    change DataW.trod enc Try.prog w base spare held n 56 (([v0, v1, v2].drop 1).take (Try.prog.cellsOf 56)) = some y1 at h1
    change DataW.trod enc Try.prog w base spare held n 41 (([v0, v1, v2].drop 2).take (Try.prog.cellsOf 41)) = some y2 at h2
    rw [show Try.prog.cellsOf 76 = 1 from by kernel_rfl] at h0
    rw [show Try.prog.cellsOf 56 = 1 from by kernel_rfl] at h1
    rw [show Try.prog.cellsOf 41 = 1 from by kernel_rfl] at h2
    obtain ⟨l0, e0⟩ := trod_tks (v := v0) h0
    obtain ⟨l1, e1⟩ := trod_taps (v := v1) h1
    obtain ⟨l2, e2⟩ := trod_ints (v := v2) h2
    exact ⟨⟨l0, l1, l2⟩, v0, v1, v2, rfl, e0, e1, e2⟩
theorem open_ints {v : Value} {d : DataW H} {p : List MemPlace} (hv : Value.okWide Try.prog w r b0 41 v) (h : DataW.Trod enc Try.prog w base spare held 41 v d p) : ∃ l : List Int, RdL 1 inc w v l := by
  obtain ⟨va, vl, vc, rfl⟩ := okWide_slice Try.underlying41 hv
  obtain ⟨fuel, hf⟩ := h
  exact trod_ints hf
theorem open_tks {v : Value} {d : DataW H} {p : List MemPlace} (hv : Value.okWide Try.prog w r b0 76 v) (h : DataW.Trod enc Try.prog w base spare held 76 v d p) : ∃ l : List Tk, RdL 6 tkc w v l := by
  obtain ⟨va, vl, vc, rfl⟩ := okWide_slice Try.underlying76 hv
  obtain ⟨fuel, hf⟩ := h
  exact trod_tks hf
end
end Go.Proofs.Ythollackhkiofaa
