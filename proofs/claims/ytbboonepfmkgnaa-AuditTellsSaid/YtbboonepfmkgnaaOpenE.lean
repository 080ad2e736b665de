/- How the arguments of the statements read, III: slices of numbers, taps, tickets, views; lists, ledgers, gates. -/
import Derived.Test.YtbboonepfmkgnaaOpenB
import Derived.Test.YtbboonepfmkgnaaView0
namespace Go.Proofs.Ytbboonepfmkgnaa
set_option linter.unusedSimpArgs false
set_option linter.unusedVariables false
set_option maxRecDepth 100000
open Go Go.RowKit Go.Joins Go.ChangeShapes Go.WideShapes Go.Deep Lb

section
variable {H : Type} {enc : TypeId × Value → H} {P : Program} {w : World} {base : Nat} {spare : Nat → Bool} {held : Bool}
theorem trod_fields {t : TypeId} {fs : Array Field} {fuel : Nat} {cs : List Value} {x : DataW H × List MemPlace} (ht : P.underlying t = some (.struct fs)) (h : DataW.trod enc P w base spare held fuel t cs = some x) :
    ∃ n, cs.length = P.cellsOf t ∧ ∀ (i : Nat) (f : Field), fs[i]? = some f → ∃ y, DataW.trod enc P w base spare held n f.type ((cs.drop f.offset).take (P.cellsOf f.type)) = some y := by
  obtain ⟨xs, n, -, -, h1, h2, h3⟩ := DataW.trod_struct ht h
  refine ⟨n, h1, fun i f hf => ?_⟩
  have hi : i < xs.length := by rw [h2]; exact (Array.getElem?_eq_some_iff.1 hf).1
  exact ⟨xs[i], by rw [h3 i f hf, List.getElem?_eq_getElem hi]⟩
theorem rdl_of {α : Type} [Inhabited α] {en : α → Array Value} {k : Nat} {a : Addr} {vl vc : Nat} (hk : ∀ x, (en x).size = k) (hk0 : 0 < k) (hl : vl ≤ vc) (hm : vc ≤ maxLen)
    (hcell : ∀ i, i < vl → ∃ x : α, ∀ j u, (en x)[j]? = some u → w.cell? (a.add (i * k + j)) = some u) : ∃ l : List α, RdL k en w (.slice (some a) vl vc) l := by
  let g : Nat → α := fun i => if h : i < vl then (hcell i h).choose else default
  have hg : ∀ i, i < vl → ∀ j u, (en (g i))[j]? = some u → w.cell? (a.add (i * k + j)) = some u := by
    intro i h
    have := (hcell i h).choose_spec
    simpa [g, h] using this
  refine ⟨(List.range vl).map g, some a, vc, by simp, by simpa using hl, hm, fun hn => ?_⟩
  simp only [List.length_map, List.length_range] at hn ⊢
  have hz : 0 < (en (g 0)).size := by rw [hk]; exact hk0
  have h00 := hg 0 hn 0 _ (Array.getElem?_eq_getElem hz)
  have hsp := World.cell?_spot h00
  have hlt := World.block_lt_of_cell? w _ h00
  obtain ⟨b, o, sp⟩ := a
  simp [Addr.add] at hsp hlt
  subst hsp
  refine ⟨b, o, rfl, hlt, fun j hj i u hu => ?_⟩
  have hgj : ((List.range vl).map g)[j]! = g j := by simp [hj]
  rw [hgj] at hu
  have := hg j hj i u hu
  simp only [Addr.add] at this
  split at this
  · rename_i h0
    rw [show o + j * k + i = o by omega]; exact this
  · rw [show o + j * k + i = o + (j * k + i) by omega]; exact this
end

section
variable {H : Type} {enc : TypeId × Value → H} {w : World} {b0 base : Nat} {spare : Nat → Bool} {held : Bool} {r : Reach}
theorem trod_ints {n : Nat} {v : Value} {y : DataW H × List MemPlace} (h : DataW.trod enc Try.prog w base spare held n 24 [v] = some y) : ∃ l : List Int, RdL 1 inc w v l := by
  rcases open_slice Try.underlying24 h with ⟨h0, -⟩ | ⟨a, len, cap, m, n', D, Pl, hcs, hb, hl, hm, hmm, -, hi⟩
  · injection h0 with h0 _
    subst h0
    exact ⟨[], RdL.nil⟩
  · injection hcs with hcs _
    subst hcs
    have hlm : len ≤ m := by rw [hmm]; split <;> omega
    have h1 : Try.prog.cellsOf 3 = 1 := by kernel_rfl
    refine rdl_of inc_size (by decide) hl hm (fun i hil => ?_)
    obtain ⟨cs', hc, ht'⟩ := hi i (by omega)
    rw [h1] at hc
    obtain ⟨_, hcl, hat⟩ := World.cells?_some hc
    match cs', hcl with
    | [c0], _ =>
      obtain ⟨x, rfl⟩ := one_int ht'
      refine ⟨x, fun j u hu => ?_⟩
      match j, hu with
      | 0, hu =>
        simp [inc] at hu
        subst hu
        have := hat 0 (by decide)
        simpa [Addr.add] using this
      | j + 1, hu => simp [inc] at hu
theorem trod_taps {n : Nat} {v : Value} {y : DataW H × List MemPlace} (h : DataW.trod enc Try.prog w base spare held n 23 [v] = some y) : ∃ l : List Tp, RdL 5 tpc w v l := by
  rcases open_slice_fields Try.underlying23 Try.underlying30 (by kernel_rfl) (by kernel_rfl) h with ⟨h0, -⟩ | ⟨a, len, cap, m, D, Pl, hcs, hb, hl, hm, hmm, -, hi⟩
  · injection h0 with h0 _
    subst h0
    exact ⟨[], RdL.nil⟩
  · injection hcs with hcs _
    subst hcs
    have hlm : len ≤ m := by rw [hmm]; split <;> omega
    refine rdl_of tpc_size (by decide) hl hm (fun i hil => ?_)
    obtain ⟨ys, n, -, -, -, hf'⟩ := hi i (by omega)
    obtain ⟨u0, y0, c0, -, t0⟩ := hf' 0 _ rfl
    obtain ⟨u1, y1, c1, -, t1⟩ := hf' 1 _ rfl
    obtain ⟨u2, y2, c2, -, t2⟩ := hf' 2 _ rfl
    obtain ⟨u3, y3, c3, -, t3⟩ := hf' 3 _ rfl
    obtain ⟨u4, y4, c4, -, t4⟩ := hf' 4 _ rfl
    obtain ⟨a0, rfl⟩ := one_int t0
    obtain ⟨a1, rfl⟩ := one_int t1
    obtain ⟨a2, rfl⟩ := one_int t2
    obtain ⟨a3, rfl⟩ := one_int t3
    obtain ⟨a4, rfl⟩ := one_int t4
    refine ⟨⟨a0, a1, a2, a3, a4⟩, fun j u hu => ?_⟩
    match j, hu with
    | 0, hu => simp [tpc] at hu; subst hu; exact c0
    | 1, hu => simp [tpc] at hu; subst hu; exact c1
    | 2, hu => simp [tpc] at hu; subst hu; exact c2
    | 3, hu => simp [tpc] at hu; subst hu; exact c3
    | 4, hu => simp [tpc] at hu; subst hu; exact c4
    | n + 5, hu => simp [tpc] at hu
theorem trod_tks {n : Nat} {v : Value} {y : DataW H × List MemPlace} (h : DataW.trod enc Try.prog w base spare held n 22 [v] = some y) : ∃ l : List Tk, RdL 6 tkc w v l := by
  rcases open_slice_fields Try.underlying22 Try.underlying28 (by kernel_rfl) (by kernel_rfl) h with ⟨h0, -⟩ | ⟨a, len, cap, m, D, Pl, hcs, hb, hl, hm, hmm, -, hi⟩
  · injection h0 with h0 _
    subst h0
    exact ⟨[], RdL.nil⟩
  · injection hcs with hcs _
    subst hcs
    have hlm : len ≤ m := by rw [hmm]; split <;> omega
    refine rdl_of tkc_size (by decide) hl hm (fun i hil => ?_)
    obtain ⟨ys, n, -, -, -, hf'⟩ := hi i (by omega)
    obtain ⟨u0, y0, c0, -, t0⟩ := hf' 0 _ rfl
    obtain ⟨u1, y1, c1, -, t1⟩ := hf' 1 _ rfl
    obtain ⟨u2, y2, c2, -, t2⟩ := hf' 2 _ rfl
    obtain ⟨u3, y3, c3, -, t3⟩ := hf' 3 _ rfl
    obtain ⟨u4, y4, c4, -, t4⟩ := hf' 4 _ rfl
    obtain ⟨u5, y5, c5, -, t5⟩ := hf' 5 _ rfl
    obtain ⟨a0, rfl⟩ := one_int t0
    obtain ⟨a1, rfl⟩ := one_int t1
    obtain ⟨a2, rfl⟩ := one_int t2
    obtain ⟨a3, rfl⟩ := one_int t3
    obtain ⟨a4, rfl⟩ := one_int t4
    obtain ⟨a5, rfl⟩ := one_int t5
    refine ⟨⟨a0, a1, a2, a3, a4, a5⟩, fun j u hu => ?_⟩
    match j, hu with
    | 0, hu => simp [tkc] at hu; subst hu; exact c0
    | 1, hu => simp [tkc] at hu; subst hu; exact c1
    | 2, hu => simp [tkc] at hu; subst hu; exact c2
    | 3, hu => simp [tkc] at hu; subst hu; exact c3
    | 4, hu => simp [tkc] at hu; subst hu; exact c4
    | 5, hu => simp [tkc] at hu; subst hu; exact c5
    | n + 6, hu => simp [tkc] at hu
end
end Go.Proofs.Ytbboonepfmkgnaa
