/- How the arguments of the statements read, II: taps, slices of taps, numbers. -/
import Derived.Test.YtbboonepfmkgnaaOpen
import Derived.Test.YtbboonepfmkgnaaRuleB
import Derived.Deep.Slices
import Derived.Deep.Fields
import Derived.ChangeSame
import Derived.DataReads
namespace Go.Proofs.Ytbboonepfmkgnaa
set_option linter.unusedSimpArgs false
set_option linter.unusedVariables false
set_option maxRecDepth 100000
open Go Go.RowKit Go.Joins Go.ChangeShapes Go.WideShapes Go.Deep Lb

section
variable {H : Type} {enc : TypeId × Value → H} {P : Program} {w : World} {base : Nat} {spare : Nat → Bool} {held : Bool}
theorem open_slice_fields {t e : TypeId} {fs : Array Field} {fuel : Nat} {cs : List Value} {x : DataW H × List MemPlace} (ht : P.underlying t = some (.slice e)) (he : P.underlying e = some (.struct fs))
    (hone : oneCellFields P fs = true) (hC : P.cellsOf e = fs.size) (h : DataW.trod enc P w base spare held fuel t cs = some x) :
    (cs = [.slice none 0 0] ∧ x = (.nil, [])) ∨
    ∃ (a : Addr) (len cap m : Nat) (D : Nat → DataW H) (Pl : Nat → List MemPlace), cs = [.slice (some a) len cap] ∧ base ≤ a.block ∧ len ≤ cap ∧ cap ≤ maxLen ∧ m = (if spare a.block then cap else len) ∧
      x = (.slice ((List.range len).map D) ((List.range (m - len)).map fun j => D (len + j)), MemPlace.row a (m * fs.size) ++ (List.range m).flatMap Pl) ∧
      ∀ i, i < m → ∃ (ys : List (DataW H × List MemPlace)) (n : Nat), D i = .agg (ys.map (·.1)) ∧ Pl i = ys.flatMap (·.2) ∧ ys.length = fs.size ∧
        ∀ (j : Nat) (f : Field), fs[j]? = some f → ∃ (v : Value) (y : DataW H × List MemPlace), w.cell? (a.add (i * fs.size + j)) = some v ∧ ys[j]? = some y ∧ DataW.trod enc P w base spare held n f.type [v] = some y := by
  rcases open_slice ht h with h0 | ⟨a, len, cap, m, n, D, Pl, hcs, hb, hl, hm, hmm, hx, hi⟩
  · exact .inl h0
  · refine .inr ⟨a, len, cap, m, D, Pl, hcs, hb, hl, hm, hmm, by rw [hC] at hx; exact hx, fun i him => ?_⟩
    obtain ⟨cs', hc, ht'⟩ := hi i him
    rw [hC] at hc
    obtain ⟨ys, n', hn', hy, hlen, hyl, hf⟩ := DataW.trod_struct he ht'
    obtain ⟨_, hcl, hat⟩ := World.cells?_some hc
    simp only [Prod.mk.injEq] at hy
    refine ⟨ys, n', hy.1, hy.2, hyl, fun j f hj => ?_⟩
    obtain ⟨ho, hk⟩ := hone_of hone j f hj
    have hjl : j < fs.size := (Array.getElem?_eq_some_iff.1 hj).1
    have hcell := hat j hjl
    have hv : cs'[j]? = some (cs'[j]'(by omega)) := List.getElem?_eq_getElem (by omega)
    have h1 := hf j f hj
    rw [ho, hk] at h1
    have hone' : (cs'.drop j).take 1 = [cs'[j]'(by omega)] := by
      rw [List.drop_eq_getElem_cons (by omega)]
      rfl
    rw [hone'] at h1
    have hys : ys[j]? = some (ys[j]'(by omega)) := List.getElem?_eq_getElem (by omega)
    refine ⟨_, _, ?_, hys, h1.trans hys⟩
    rw [← Go.Deep.add_add, hcell, hv]
end

section
variable {H : Type} {enc : TypeId × Value → H} {w : World} {b0 base : Nat} {spare : Nat → Bool} {held : Bool} {r : Reach}
theorem open_i64 {v : Value} {d : DataW H} {p : List MemPlace} (hv : Value.okWide Try.prog w r b0 3 v) (h : DataW.Trod enc Try.prog w base spare held 3 v d p) : ∃ a : Int, v = .int .i64 a ∧ (-9223372036854775808 ≤ a ∧ a ≤ 9223372036854775807) := by
  obtain ⟨a, rfl, _, _, hw⟩ := open_int Try.underlying3 hv h
  refine ⟨a, rfl, ?_⟩
  simp [Lit.wf, IntKind.min, IntKind.max, IntKind.bits, IntKind.signed] at hw
  omega
theorem open_u8 {v : Value} {d : DataW H} {p : List MemPlace} (hv : Value.okWide Try.prog w r b0 5 v) (h : DataW.Trod enc Try.prog w base spare held 5 v d p) : ∃ a : Int, v = .int .u8 a ∧ (0 ≤ a ∧ a ≤ 255) := by
  obtain ⟨a, rfl, _, _, hw⟩ := open_int Try.underlying5 hv h
  refine ⟨a, rfl, ?_⟩
  simp [Lit.wf, IntKind.min, IntKind.max, IntKind.bits, IntKind.signed] at hw
  omega
theorem open_tp {v : Value} {d : DataW H} {p : List MemPlace} (hv : Value.okWide Try.prog w r b0 30 v) (h : DataW.Trod enc Try.prog w base spare held 30 v d p) : ∃ t : Tp, v = .agg (tpc t) := by
  obtain ⟨v0, v1, v2, v3, v4, y0, y1, y2, y3, y4, n, rfl, -, -, g0, g1, g2, g3, g4⟩ := open_agg5 Try.underlying30 (by kernel_rfl) (by kernel_rfl) hv h
  obtain ⟨a0, rfl⟩ := one_int g0
  obtain ⟨a1, rfl⟩ := one_int g1
  obtain ⟨a2, rfl⟩ := one_int g2
  obtain ⟨a3, rfl⟩ := one_int g3
  obtain ⟨a4, rfl⟩ := one_int g4
  exact ⟨⟨a0, a1, a2, a3, a4⟩, rfl⟩
theorem open_tps {v : Value} {d : DataW H} {p : List MemPlace} (hv : Value.okWide Try.prog w r b0 23 v) (h : DataW.Trod enc Try.prog w base spare held 23 v d p) : ∃ l : List Tp, RdL 5 tpc w v l := by
  obtain ⟨fuel, hf⟩ := h
  obtain ⟨va, vl, vc, rfl⟩ := okWide_slice Try.underlying23 hv
  rcases open_slice_fields Try.underlying23 Try.underlying30 (by kernel_rfl) (by kernel_rfl) hf with ⟨h0, -⟩ | ⟨a, len, cap, m, D, Pl, hcs, hb, hl, hm, hmm, -, hi⟩
  · simp [Value.cells] at h0
    obtain ⟨rfl, rfl, rfl⟩ := h0
    exact ⟨[], RdL.nil⟩
  · simp [Value.cells] at hcs
    obtain ⟨rfl, rfl, rfl⟩ := hcs
    have hlm : vl ≤ m := by rw [hmm]; split <;> omega
    have hcell : ∀ i, i < vl → ∃ x : Tp, ∀ j u, (tpc x)[j]? = some u → w.cell? (a.add (i * 5 + j)) = some u := by
      intro i hil
      obtain ⟨ys, n, -, -, -, hf'⟩ := hi i (by omega)
      obtain ⟨u0, y0, c0, -, t0⟩ := hf' 0 _ rfl
      obtain ⟨u1, y1, c1, -, t1⟩ := hf' 1 _ rfl
      obtain ⟨u2, y2, c2, -, t2⟩ := hf' 2 _ rfl
      obtain ⟨u3, y3, c3, -, t3⟩ := hf' 3 _ rfl
      obtain ⟨u4, y4, c4, -, t4⟩ := hf' 4 _ rfl
      obtain ⟨a0, rfl⟩ := one_int t0
      obtain ⟨a1, rfl⟩ := one_int t1
      obtain ⟨a2, rfl⟩ := one_int t2
      obtain ⟨a3, rfl⟩ := one_int t3
      obtain ⟨a4, rfl⟩ := one_int t4
      refine ⟨⟨a0, a1, a2, a3, a4⟩, fun j u hu => ?_⟩
      match j, hu with
      | 0, hu => simp [tpc] at hu; subst hu; exact c0
      | 1, hu => simp [tpc] at hu; subst hu; exact c1
      | 2, hu => simp [tpc] at hu; subst hu; exact c2
      | 3, hu => simp [tpc] at hu; subst hu; exact c3
      | 4, hu => simp [tpc] at hu; subst hu; exact c4
      | n + 5, hu => simp [tpc] at hu
    clear hi
    let g : Nat → Tp := fun i => if h : i < vl then (hcell i h).choose else default
    have hg : ∀ i, i < vl → ∀ j u, (tpc (g i))[j]? = some u → w.cell? (a.add (i * 5 + j)) = some u := by
      intro i h
      have := (hcell i h).choose_spec
      simpa [g, h] using this
    refine ⟨(List.range vl).map g, some a, vc, by simp, by simpa using hl, hm, fun hn => ?_⟩
    simp only [List.length_map, List.length_range] at hn ⊢
    have h00 := hg 0 hn 0 _ (show (tpc (g 0))[0]? = some _ from rfl)
    have hsp := World.cell?_spot h00
    have hlt := World.block_lt_of_cell? w _ h00
    obtain ⟨b, o, sp⟩ := a
    simp [Addr.add] at hsp hlt
    subst hsp
    refine ⟨b, o, rfl, hlt, fun j hj i u hu => ?_⟩
    have hgj : ((List.range vl).map g)[j]! = g j := by simp [hj]
    rw [hgj] at hu
    have := hg j hj i u hu
    simp only [Addr.add] at this
    split at this
    · rename_i h0
      rw [show o + j * 5 + i = o by omega]; exact this
    · rw [show o + j * 5 + i = o + (j * 5 + i) by omega]; exact this
end
end Go.Proofs.Ytbboonepfmkgnaa
