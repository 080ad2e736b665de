/- A drawn region's part: x's copy and one more record behind it. -/
import Derived.Test.YtbboonepfmkgnaaRegB
namespace Go.Proofs.Ytbboonepfmkgnaa
open Go Go.RowKit
set_option linter.unusedSimpArgs false
set_option linter.unusedVariables false
set_option maxRecDepth 100000

theorem Act.eval_same {a : Act} {d : Tmp} {v : Value} (h : d < a.tmps.size) : (a.put (some d) v).eval (.tmp d) = v := by
  simp [Act.eval, Act.put, h]
theorem Act.eval_other {a : Act} {d t : Tmp} {v : Value} (h : d ≠ t) : (a.put (some d) v).eval (.tmp t) = a.eval (.tmp t) :=
  Act.eval_put fun e he => by
    injection he with he
    subst he
    intro hh
    injection hh with hh
    exact h hh.symm
theorem Act.size_put {a : Act} {d : Tmp} {v : Value} : (a.put (some d) v).tmps.size = a.tmps.size := by
  simp [Act.put]

section
variable {P : Program} {l : List Oper} {Q : Exit → Act → World → Prop} {md : Region.Mode} {S : World → Prop}
variable {α : Type} [Inhabited α] {enc : α → Array Value} {k : Nat}

/-- Numbers i0 (the empty row), i3 (x's records behind it), i5 (the one record), i6 (it behind those) may come up in three orders. -/
theorem T_copy1 {n i0 i3 i5 i6 d0 d3 d5 d6 x2 px : Nat} {o0 o3 o5 o6 : Oper} {fuel : Nat} {listed : Array Bool} {a : Act} {w : World}
    (e t : TypeId) (i : TypeInfo) (z : Value) (bytes : Nat) (ht : P.underlying t = some (.slice e)) (hi : P.info? e = some i) (hz : i.zero = some z)
    (hsize : i.size = k) (hby : i.bytes = bytes) (hzs : z.cells.size = k) (hsz : 0 < k) (hk : ∀ x, (enc x).size = k)
    (h0 : l[i0]? = some o0) (h3 : l[i3]? = some o3) (h5 : l[i5]? = some o5) (h6 : l[i6]? = some o6)
    (g0 : o0.guard = none) (g3 : o3.guard = none) (g5 : o5.guard = none) (g6 : o6.guard = none)
    (p : α)
    (s0 : ∀ (a : Act) (w : World) (K : Act → World → Prop), K (a.put (some d0) (.slice (some ⟨w.heap.size, 0, none⟩) 0 0)) (w.alloc (.cells #[] e)) → Oper.wp P o0 a w K (NoPanic Q))
    (s5 : ∀ (a : Act) (w : World) (K : Act → World → Prop), a.eval (.tmp px) = .agg (enc p) → K (a.put (some d5) (.slice (some ⟨w.heap.size, 0, none⟩) 1 1)) (w.alloc (.cells (enc p) e)) → Oper.wp P o5 a w K (NoPanic Q))
    (s3 : o3.op = .call { callee := .builtin .append, args := #[.tmp d0, .tmp x2], argTypes := #[t, t] }) (t3 : o3.dst = some d3)
    (s6 : o6.op = .call { callee := .builtin .append, args := #[.tmp d3, .tmp d5], argTypes := #[t, t] }) (t6 : o6.dst = some d6)
    (hd : [d0, d3, d5, x2, px].Nodup) (hds : d0 < a.tmps.size ∧ d3 < a.tmps.size ∧ d5 < a.tmps.size)
    (hii : i0 ≠ i3 ∧ i0 ≠ i5 ∧ i3 ≠ i5)
    (r1 : Region.ready md l.toArray listed = [i0, i5])
    (r2 : Region.ready md l.toArray (listed.setIfInBounds i0 true) = [i3, i5])
    (r3 : Region.ready md l.toArray ((listed.setIfInBounds i0 true).setIfInBounds i3 true) = [i5])
    (r4 : Region.ready md l.toArray (((listed.setIfInBounds i0 true).setIfInBounds i3 true).setIfInBounds i5 true) = [i6])
    (r5 : Region.ready md l.toArray ((listed.setIfInBounds i0 true).setIfInBounds i5 true) = [i3])
    (r6 : Region.ready md l.toArray (listed.setIfInBounds i5 true) = [i0])
    (hS : ∀ w', Ext w w' → S w')
    (xv : Value) (xs : List α) (hx : a.eval (.tmp x2) = xv) (hrd : RdL k enc w xv xs) (hp : a.eval (.tmp px) = .agg (enc p))
    (h1 : ∀ u ∈ encs enc xs, u.oneCell' = true) (h2 : ∀ u ∈ encs enc [p], u.oneCell' = true)
    (h63 : xs.length + 1 ≤ maxLen) (hbytes : (xs.length + 1) * bytes ≤ 140737488355328)
    (hfin : ∀ v0 v3 v5 v6 w', OwnL e k enc w.heap.size w' v6 (xs ++ [p]) → Ext w w' → wpAnyT P md l.toArray (NoPanic Q) S n fuel ((((listed.setIfInBounds i0 true).setIfInBounds i3 true).setIfInBounds i5 true).setIfInBounds i6 true) ((((a.put (some d0) v0).put (some d3) v3).put (some d5) v5).put (some d6) v6) w') :
    wpAnyT P md l.toArray (NoPanic Q) S n (fuel + 4) listed a w := by
  simp only [List.nodup_cons, List.mem_cons, not_or, List.not_mem_nil, not_false_eq_true, List.nodup_nil, and_true] at hd
  obtain ⟨⟨n03, n05, n0x, n0p⟩, ⟨n35, n3x, n3p⟩, ⟨n5x, n5p⟩, nxp⟩ := hd
  obtain ⟨z0, z3, z5⟩ := hds
  obtain ⟨e03, e05, e35⟩ := hii
  have hxs : xs.length * bytes ≤ 140737488355328 := Nat.le_trans (Nat.mul_le_mul_right _ (by omega)) hbytes
  -- the last step
  have L : ∀ v0 v3 v5 w1, Ext w w1 → OwnL e k enc w.heap.size w1 v3 xs → RdL k enc w1 v5 [p] →
      wpAnyT P md l.toArray (NoPanic Q) S n (fuel + 1) (((listed.setIfInBounds i0 true).setIfInBounds i3 true).setIfInBounds i5 true) (((a.put (some d0) v0).put (some d3) v3).put (some d5) v5) w1 := by
    intro v0 v3 v5 w1 he ho hr
    refine T_only h6 r4 g6 fun K hK => ?_
    refine wp_append_rd (enc := enc) (k := k) w1 _ _ t s6 w.heap.size e i z bytes ht hi hz hsize hby hzs hsz hk v3 xs ?_ ho v5 [p] ?_ hr h2 (by simpa using h63) (by simpa using hbytes) he.size ?_
    · rw [Act.eval_other (Ne.symm n35)]
      exact Act.eval_same (by rw [Act.size_put]; exact z3)
    · exact Act.eval_same (by rw [Act.size_put, Act.size_put]; exact z5)
    intro v6 w' ho' hg hn
    have he' : Ext w w' := he.grown hg fun q hq => (ho.lt q hq).1
    rw [t6]
    exact hK.out _ _ (.inr (hS _ he')) (hfin v0 v3 v5 v6 w' ho' he')
  refine T_two h0 h5 r1 g0 g5 (fun K hK => ?_) (fun K hK => ?_)
  · refine s0 _ _ _ (hK.out _ _ (.inr (hS _ ((Ext.refl _).alloc _))) ?_)
    clear K hK
    have ho0 : OwnL e k enc w.heap.size (w.alloc (.cells #[] e)) (.slice (some ⟨w.heap.size, 0, none⟩) 0 0) ([] : List α) := OwnL.made rfl (Nat.le_refl _)
    refine T_two h3 h5 r2 g3 g5 (fun K hK => ?_) (fun K hK => ?_)
    · refine wp_append_rd (enc := enc) (k := k) _ _ _ t s3 w.heap.size e i z bytes ht hi hz hsize hby hzs hsz hk _ [] ?_ ho0 xv xs ?_ (hrd.ext ((Ext.refl _).alloc _)) h1 (by simp; omega) (by simpa using hxs) (by simp) ?_
      · exact Act.eval_same z0
      · rw [Act.eval_other n0x]; exact hx
      intro v3 w1 ho1 hg hn
      rw [List.nil_append] at ho1
      have he1 : Ext w w1 := ((Ext.refl w).alloc _).grown hg fun q hq => (ho0.lt q hq).1
      rw [t3]
      refine hK.out _ _ (.inr (hS _ he1)) ?_
      clear K hK
      refine T_only h5 r3 g5 fun K hK => ?_
      refine s5 _ _ _ (by rw [Act.eval_other n3p, Act.eval_other n0p]; exact hp) ?_
      exact hK.out _ _ (.inr (hS _ (he1.alloc _))) (L _ _ _ _ (he1.alloc _) (ho1.alloc _) (RdL.lit p rfl rfl))
    · refine s5 _ _ _ (by rw [Act.eval_other n0p]; exact hp) ?_
      refine hK.out _ _ (.inr (hS _ (((Ext.refl _).alloc _).alloc _))) ?_
      clear K hK
      refine T_only h3 r5 g3 fun K hK => ?_
      refine wp_append_rd (enc := enc) (k := k) _ _ _ t s3 w.heap.size e i z bytes ht hi hz hsize hby hzs hsz hk _ [] ?_ (ho0.alloc _) xv xs ?_ (hrd.ext (((Ext.refl _).alloc _).alloc _)) h1 (by simp; omega) (by simpa using hxs) (by simp; omega) ?_
      · rw [Act.eval_other (Ne.symm n05)]
        exact Act.eval_same z0
      · rw [Act.eval_other n5x, Act.eval_other n0x]; exact hx
      intro v3 w1 ho1 hg hn
      rw [List.nil_append] at ho1
      have he1 : Ext w w1 := (((Ext.refl w).alloc _).alloc _).grown hg fun q hq => (ho0.lt q hq).1
      rw [t3]
      refine hK.out _ _ (.inr (hS _ he1)) ?_
      have := L (.slice (some ⟨w.heap.size, 0, none⟩) 0 0) v3 (.slice (some ⟨(w.alloc (.cells #[] e)).heap.size, 0, none⟩) 1 1) w1 he1 ho1 (RdL.row1 p (Row.grown Row.new hg (by simp [Value.ownBlock])))
      rw [Act.put_comm _ _ _ (fun d hd he => by injection hd with hd; injection he with he; exact n35 (hd.trans he.symm)), Array.setIfInBounds_comm _ _ e35] at this
      exact this
  · refine s5 _ _ _ hp ?_
    refine hK.out _ _ (.inr (hS _ ((Ext.refl _).alloc _))) ?_
    clear K hK
    refine T_only h0 r6 g0 fun K hK => ?_
    refine s0 _ _ _ (hK.out _ _ (.inr (hS _ (((Ext.refl _).alloc _).alloc _))) ?_)
    clear K hK
    have ho0 : OwnL e k enc w.heap.size ((w.alloc (.cells (enc p) e)).alloc (.cells #[] e)) (.slice (some ⟨(w.alloc (.cells (enc p) e)).heap.size, 0, none⟩) 0 0) ([] : List α) := OwnL.made rfl (by simp)
    rw [Array.setIfInBounds_comm _ _ (Ne.symm e05)]
    refine T_only h3 r5 g3 fun K hK => ?_
    refine wp_append_rd (enc := enc) (k := k) _ _ _ t s3 w.heap.size e i z bytes ht hi hz hsize hby hzs hsz hk _ [] ?_ ho0 xv xs ?_ (hrd.ext (((Ext.refl _).alloc _).alloc _)) h1 (by simp; omega) (by simpa using hxs) (by simp; omega) ?_
    · exact Act.eval_same (by rw [Act.size_put]; exact z0)
    · rw [Act.eval_other n0x, Act.eval_other n5x]; exact hx
    intro v3 w1 ho1 hg hn
    rw [List.nil_append] at ho1
    have he1 : Ext w w1 := (((Ext.refl w).alloc _).alloc _).grown hg fun q hq => (ho0.lt q hq).1
    rw [t3]
    refine hK.out _ _ (.inr (hS _ he1)) ?_
    have hr5 : Row w1 w.heap.size (enc p) := Row.grown (Row.alloc Row.new) hg (by simp [Value.ownBlock])
    have := L (.slice (some ⟨(w.alloc (.cells (enc p) e)).heap.size, 0, none⟩) 0 0) v3 (.slice (some ⟨w.heap.size, 0, none⟩) 1 1) w1 he1 ho1 (RdL.row1 p hr5)
    rw [Act.put_comm _ _ _ (fun d hd he => by injection hd with hd; injection he with he; exact n35 (hd.trans he.symm)), Act.put_comm a _ _ (fun d hd he => by injection hd with hd; injection he with he; exact n05 (hd.trans he.symm)), Array.setIfInBounds_comm _ _ e35] at this
    exact this
end
end Go.Proofs.Ytbboonepfmkgnaa
