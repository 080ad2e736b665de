/- Drawn regions with guards: what is wanted may be taken first, or comes alone; x's copy and one more record behind it, under a guard. -/
import Derived.Test.YtbboonepfmkgnaaRegD
namespace Go.Proofs.Ytbboonepfmkgnaa
open Go Go.RowKit
set_option linter.unusedSimpArgs false
set_option linter.unusedVariables false
set_option maxRecDepth 100000

section
variable {P : Program} {l : List Oper} {Q : Exit → Act → World → Prop} {md : Region.Mode} {S : World → Prop}

theorem T_takeG {n i : Nat} {oi : Oper} {v : Value} {fuel : Nat} {listed : Array Bool} {a : Act} {w : World} (hi : l[i]? = some oi)
    (hb : takes md l.toArray listed n i = true) (hw : Region.wanted oi (yielded l.toArray a.tmps) = true) (hS : S w) (hy : ∀ w, S w → (execOp a.eval oi).run P w = .ok (.value v) w)
    (h : wpAnyT P md l.toArray (NoPanic Q) S n fuel (listed.setIfInBounds i true) (a.put oi.dst v) w) : wpAnyT P md l.toArray (NoPanic Q) S n (fuel + 1) listed a w := by
  unfold takes at hb
  simp only [Bool.and_eq_true, decide_eq_true_eq] at hb
  obtain ⟨⟨⟨⟨⟨h1, h2⟩, h3⟩, h4⟩, h5⟩, h6⟩ := hb
  have hi' : l.toArray[i]? = some oi := by simpa using hi
  exact wpAnyT_first hi' (Region.noSelect_spec h1) (fun _ _ _ h => h) h4 h6 fuel listed a w (closedB_spec h5) (Region.free_spec hi' h2) (by simpa using h3) (.inl ⟨hw, hy⟩) hS h
theorem T_onlyG {n i : Nat} {oi : Oper} {fuel : Nat} {listed : Array Bool} {a : Act} {w : World} (hi : l[i]? = some oi) (hr : Region.ready md l.toArray listed = [i]) (hw : Region.wanted oi (yielded l.toArray a.tmps) = true)
    (h : ∀ K : Act → World → Prop, Hid (∀ a w, ((listed.setIfInBounds i true).getD n false = true ∨ S w) → wpAnyT P md l.toArray (NoPanic Q) S n fuel (listed.setIfInBounds i true) a w → K a w) → Oper.wp P oi a w K (NoPanic Q)) :
    wpAnyT P md l.toArray (NoPanic Q) S n (fuel + 1) listed a w := by
  refine ⟨fun h0 => (by rw [hr] at h0; cases h0), fun j hj => ?_⟩
  rw [hr, List.mem_singleton] at hj
  subst hj
  have hi' : l.toArray[j]? = some oi := by simpa using hi
  refine wpOp_step hi' fun K hK => ?_
  rw [if_pos hw]
  exact h K (Lib.hid fun a w h1 h2 => hK a w ⟨h1, h2⟩)
theorem T_twoG {n i j : Nat} {oi oj : Oper} {fuel : Nat} {listed : Array Bool} {a : Act} {w : World} (hi : l[i]? = some oi) (hj : l[j]? = some oj) (hr : Region.ready md l.toArray listed = [i, j]) (hwi : Region.wanted oi (yielded l.toArray a.tmps) = true) (hwj : Region.wanted oj (yielded l.toArray a.tmps) = true)
    (h1 : ∀ K : Act → World → Prop, Hid (∀ a w, ((listed.setIfInBounds i true).getD n false = true ∨ S w) → wpAnyT P md l.toArray (NoPanic Q) S n fuel (listed.setIfInBounds i true) a w → K a w) → Oper.wp P oi a w K (NoPanic Q))
    (h2 : ∀ K : Act → World → Prop, Hid (∀ a w, ((listed.setIfInBounds j true).getD n false = true ∨ S w) → wpAnyT P md l.toArray (NoPanic Q) S n fuel (listed.setIfInBounds j true) a w → K a w) → Oper.wp P oj a w K (NoPanic Q)) :
    wpAnyT P md l.toArray (NoPanic Q) S n (fuel + 1) listed a w := by
  refine ⟨fun h0 => (by rw [hr] at h0; cases h0), fun k hk => ?_⟩
  rw [hr] at hk
  rcases List.mem_cons.1 hk with rfl | hk
  · have hi' : l.toArray[k]? = some oi := by simpa using hi
    refine wpOp_step hi' fun K hK => ?_
    rw [if_pos hwi]
    exact h1 K (Lib.hid fun a w h1 h2 => hK a w ⟨h1, h2⟩)
  · rw [List.mem_singleton] at hk
    subst hk
    have hj' : l.toArray[k]? = some oj := by simpa using hj
    refine wpOp_step hj' fun K hK => ?_
    rw [if_pos hwj]
    exact h2 K (Lib.hid fun a w h1 h2 => hK a w ⟨h1, h2⟩)

theorem wanted_of {o oq : Oper} {q dq : Nat} {bq : Bool} {a : Act} (hl : l[q]? = some oq) (hd : oq.dst = some dq) (ho : o.guard = some (q, bq)) (h : a.tmps[dq]? = some (.bool bq)) : Region.wanted o (yielded l.toArray a.tmps) = true := by
  unfold Region.wanted yielded
  rw [ho]
  simp [hl, hd, h]
theorem tmps_put {a : Act} {d dq : Nat} {v u : Value} (h : a.tmps[dq]? = some u) (hne : dq ≠ d) : (a.put (some d) v).tmps[dq]? = some u := by
  simp [Act.put, Array.getElem?_setIfInBounds_ne (Ne.symm hne), h]

variable {α : Type} [Inhabited α] {enc : α → Array Value} {k : Nat}
theorem T_copy1G {n i0 i3 i5 i6 d0 d3 d5 d6 x2 px q dq : Nat} {bq : Bool} {o0 o3 o5 o6 oq : Oper} {fuel : Nat} {listed : Array Bool} {a : Act} {w : World}
    (e t : TypeId) (i : TypeInfo) (z : Value) (bytes : Nat) (ht : P.underlying t = some (.slice e)) (hi : P.info? e = some i) (hz : i.zero = some z)
    (hsize : i.size = k) (hby : i.bytes = bytes) (hzs : z.cells.size = k) (hsz : 0 < k) (hk : ∀ x, (enc x).size = k)
    (h0 : l[i0]? = some o0) (h3 : l[i3]? = some o3) (h5 : l[i5]? = some o5) (h6 : l[i6]? = some o6)
    (hlq : l[q]? = some oq) (hdq : oq.dst = some dq) (g0 : o0.guard = some (q, bq)) (g3 : o3.guard = some (q, bq)) (g5 : o5.guard = some (q, bq)) (g6 : o6.guard = some (q, bq))
    (hqa : a.tmps[dq]? = some (.bool bq)) (hqd : dq ≠ d0 ∧ dq ≠ d3 ∧ dq ≠ d5)
    (p : α)
    (s0 : ∀ (a : Act) (w : World) (K : Act → World → Prop), K (a.put (some d0) (.slice (some ⟨w.heap.size, 0, none⟩) 0 0)) (w.alloc (.cells #[] e)) → Oper.wp P o0 a w K (NoPanic Q))
    (s5 : ∀ (a : Act) (w : World) (K : Act → World → Prop), a.eval (.tmp px) = .agg (enc p) → K (a.put (some d5) (.slice (some ⟨w.heap.size, 0, none⟩) 1 1)) (w.alloc (.cells (enc p) e)) → Oper.wp P o5 a w K (NoPanic Q))
    (s3 : o3.op = .call { callee := .builtin .append, args := #[.tmp d0, .tmp x2], argTypes := #[t, t] }) (t3 : o3.dst = some d3)
    (s6 : o6.op = .call { callee := .builtin .append, args := #[.tmp d3, .tmp d5], argTypes := #[t, t] }) (t6 : o6.dst = some d6)
    (hd : [d0, d3, d5, x2, px].Nodup) (hds : d0 < a.tmps.size ∧ d3 < a.tmps.size ∧ d5 < a.tmps.size)
    (hii : i0 ≠ i3 ∧ i0 ≠ i5 ∧ i3 ≠ i5)
    (r1 : Region.ready md l.toArray listed = [i0, i5])
    (r2 : Region.ready md l.toArray (listed.setIfInBounds i0 true) = [i3, i5])
    (r3 : Region.ready md l.toArray ((listed.setIfInBounds i0 true).setIfInBounds i3 true) = [i5])
    (r4 : Region.ready md l.toArray (((listed.setIfInBounds i0 true).setIfInBounds i3 true).setIfInBounds i5 true) = [i6])
    (r5 : Region.ready md l.toArray ((listed.setIfInBounds i0 true).setIfInBounds i5 true) = [i3])
    (r6 : Region.ready md l.toArray (listed.setIfInBounds i5 true) = [i0])
    (hS : ∀ w', Ext w w' → S w')
    (xv : Value) (xs : List α) (hx : a.eval (.tmp x2) = xv) (hrd : RdL k enc w xv xs) (hp : a.eval (.tmp px) = .agg (enc p))
    (h1 : ∀ u ∈ encs enc xs, u.oneCell' = true) (h2 : ∀ u ∈ encs enc [p], u.oneCell' = true)
    (h63 : xs.length + 1 ≤ maxLen) (hbytes : (xs.length + 1) * bytes ≤ 140737488355328)
    (hfin : ∀ v0 v3 v5 v6 w', OwnL e k enc w.heap.size w' v6 (xs ++ [p]) → Ext w w' → wpAnyT P md l.toArray (NoPanic Q) S n fuel ((((listed.setIfInBounds i0 true).setIfInBounds i3 true).setIfInBounds i5 true).setIfInBounds i6 true) ((((a.put (some d0) v0).put (some d3) v3).put (some d5) v5).put (some d6) v6) w') :
    wpAnyT P md l.toArray (NoPanic Q) S n (fuel + 4) listed a w := by
  simp only [List.nodup_cons, List.mem_cons, not_or, List.not_mem_nil, not_false_eq_true, List.nodup_nil, and_true] at hd
  obtain ⟨⟨n03, n05, n0x, n0p⟩, ⟨n35, n3x, n3p⟩, ⟨n5x, n5p⟩, nxp⟩ := hd
  obtain ⟨z0, z3, z5⟩ := hds
  obtain ⟨e03, e05, e35⟩ := hii
  obtain ⟨q0, q3, q5⟩ := hqd
  have hxs : xs.length * bytes ≤ 140737488355328 := Nat.le_trans (Nat.mul_le_mul_right _ (by omega)) hbytes
  have W0 : ∀ b : Act, b.tmps[dq]? = some (.bool bq) → Region.wanted o0 (yielded l.toArray b.tmps) = true := fun b h => wanted_of hlq hdq g0 h
  have W3 : ∀ b : Act, b.tmps[dq]? = some (.bool bq) → Region.wanted o3 (yielded l.toArray b.tmps) = true := fun b h => wanted_of hlq hdq g3 h
  have W5 : ∀ b : Act, b.tmps[dq]? = some (.bool bq) → Region.wanted o5 (yielded l.toArray b.tmps) = true := fun b h => wanted_of hlq hdq g5 h
  have W6 : ∀ b : Act, b.tmps[dq]? = some (.bool bq) → Region.wanted o6 (yielded l.toArray b.tmps) = true := fun b h => wanted_of hlq hdq g6 h
  -- the last step
  have L : ∀ v0 v3 v5 w1, Ext w w1 → OwnL e k enc w.heap.size w1 v3 xs → RdL k enc w1 v5 [p] →
      wpAnyT P md l.toArray (NoPanic Q) S n (fuel + 1) (((listed.setIfInBounds i0 true).setIfInBounds i3 true).setIfInBounds i5 true) (((a.put (some d0) v0).put (some d3) v3).put (some d5) v5) w1 := by
    intro v0 v3 v5 w1 he ho hr
    refine T_onlyG h6 r4 (W6 _ (tmps_put (tmps_put (tmps_put hqa q0) q3) q5)) fun K hK => ?_
    refine wp_append_rd (enc := enc) (k := k) w1 _ _ t s6 w.heap.size e i z bytes ht hi hz hsize hby hzs hsz hk v3 xs ?_ ho v5 [p] ?_ hr h2 (by simpa using h63) (by simpa using hbytes) he.size ?_
    · rw [Act.eval_other (Ne.symm n35)]
      exact Act.eval_same (by rw [Act.size_put]; exact z3)
    · exact Act.eval_same (by rw [Act.size_put, Act.size_put]; exact z5)
    intro v6 w' ho' hg hn
    have he' : Ext w w' := he.grown hg fun q hq => (ho.lt q hq).1
    rw [t6]
    exact hK.out _ _ (.inr (hS _ he')) (hfin v0 v3 v5 v6 w' ho' he')
  refine T_twoG h0 h5 r1 (W0 _ hqa) (W5 _ hqa) (fun K hK => ?_) (fun K hK => ?_)
  · refine s0 _ _ _ (hK.out _ _ (.inr (hS _ ((Ext.refl _).alloc _))) ?_)
    clear K hK
    have ho0 : OwnL e k enc w.heap.size (w.alloc (.cells #[] e)) (.slice (some ⟨w.heap.size, 0, none⟩) 0 0) ([] : List α) := OwnL.made rfl (Nat.le_refl _)
    refine T_twoG h3 h5 r2 (W3 _ (tmps_put hqa q0)) (W5 _ (tmps_put hqa q0)) (fun K hK => ?_) (fun K hK => ?_)
    · refine wp_append_rd (enc := enc) (k := k) _ _ _ t s3 w.heap.size e i z bytes ht hi hz hsize hby hzs hsz hk _ [] ?_ ho0 xv xs ?_ (hrd.ext ((Ext.refl _).alloc _)) h1 (by simp; omega) (by simpa using hxs) (by simp) ?_
      · exact Act.eval_same z0
      · rw [Act.eval_other n0x]; exact hx
      intro v3 w1 ho1 hg hn
      rw [List.nil_append] at ho1
      have he1 : Ext w w1 := ((Ext.refl w).alloc _).grown hg fun q hq => (ho0.lt q hq).1
      rw [t3]
      refine hK.out _ _ (.inr (hS _ he1)) ?_
      clear K hK
      refine T_onlyG h5 r3 (W5 _ (tmps_put (tmps_put hqa q0) q3)) fun K hK => ?_
      refine s5 _ _ _ (by rw [Act.eval_other n3p, Act.eval_other n0p]; exact hp) ?_
      exact hK.out _ _ (.inr (hS _ (he1.alloc _))) (L _ _ _ _ (he1.alloc _) (ho1.alloc _) (RdL.lit p rfl rfl))
    · refine s5 _ _ _ (by rw [Act.eval_other n0p]; exact hp) ?_
      refine hK.out _ _ (.inr (hS _ (((Ext.refl _).alloc _).alloc _))) ?_
      clear K hK
      refine T_onlyG h3 r5 (W3 _ (tmps_put (tmps_put hqa q0) q5)) fun K hK => ?_
      refine wp_append_rd (enc := enc) (k := k) _ _ _ t s3 w.heap.size e i z bytes ht hi hz hsize hby hzs hsz hk _ [] ?_ (ho0.alloc _) xv xs ?_ (hrd.ext (((Ext.refl _).alloc _).alloc _)) h1 (by simp; omega) (by simpa using hxs) (by simp; omega) ?_
      · rw [Act.eval_other (Ne.symm n05)]
        exact Act.eval_same z0
      · rw [Act.eval_other n5x, Act.eval_other n0x]; exact hx
      intro v3 w1 ho1 hg hn
      rw [List.nil_append] at ho1
      have he1 : Ext w w1 := (((Ext.refl w).alloc _).alloc _).grown hg fun q hq => (ho0.lt q hq).1
      rw [t3]
      refine hK.out _ _ (.inr (hS _ he1)) ?_
      have := L (.slice (some ⟨w.heap.size, 0, none⟩) 0 0) v3 (.slice (some ⟨(w.alloc (.cells #[] e)).heap.size, 0, none⟩) 1 1) w1 he1 ho1 (RdL.row1 p (Row.grown Row.new hg (by simp [Value.ownBlock])))
      rw [Act.put_comm _ _ _ (fun d hd he => by injection hd with hd; injection he with he; exact n35 (hd.trans he.symm)), Array.setIfInBounds_comm _ _ e35] at this
      exact this
  · refine s5 _ _ _ hp ?_
    refine hK.out _ _ (.inr (hS _ ((Ext.refl _).alloc _))) ?_
    clear K hK
    refine T_onlyG h0 r6 (W0 _ (tmps_put hqa q5)) fun K hK => ?_
    refine s0 _ _ _ (hK.out _ _ (.inr (hS _ (((Ext.refl _).alloc _).alloc _))) ?_)
    clear K hK
    have ho0 : OwnL e k enc w.heap.size ((w.alloc (.cells (enc p) e)).alloc (.cells #[] e)) (.slice (some ⟨(w.alloc (.cells (enc p) e)).heap.size, 0, none⟩) 0 0) ([] : List α) := OwnL.made rfl (by simp)
    rw [Array.setIfInBounds_comm _ _ (Ne.symm e05)]
    refine T_onlyG h3 r5 (W3 _ (tmps_put (tmps_put hqa q5) q0)) fun K hK => ?_
    refine wp_append_rd (enc := enc) (k := k) _ _ _ t s3 w.heap.size e i z bytes ht hi hz hsize hby hzs hsz hk _ [] ?_ ho0 xv xs ?_ (hrd.ext (((Ext.refl _).alloc _).alloc _)) h1 (by simp; omega) (by simpa using hxs) (by simp; omega) ?_
    · exact Act.eval_same (by rw [Act.size_put]; exact z0)
    · rw [Act.eval_other n0x, Act.eval_other n5x]; exact hx
    intro v3 w1 ho1 hg hn
    rw [List.nil_append] at ho1
    have he1 : Ext w w1 := (((Ext.refl w).alloc _).alloc _).grown hg fun q hq => (ho0.lt q hq).1
    rw [t3]
    refine hK.out _ _ (.inr (hS _ he1)) ?_
    have hr5 : Row w1 w.heap.size (enc p) := Row.grown (Row.alloc Row.new) hg (by simp [Value.ownBlock])
    have := L (.slice (some ⟨(w.alloc (.cells (enc p) e)).heap.size, 0, none⟩) 0 0) v3 (.slice (some ⟨w.heap.size, 0, none⟩) 1 1) w1 he1 ho1 (RdL.row1 p hr5)
    rw [Act.put_comm _ _ _ (fun d hd he => by injection hd with hd; injection he with he; exact n35 (hd.trans he.symm)), Act.put_comm a _ _ (fun d hd he => by injection hd with hd; injection he with he; exact n05 (hd.trans he.symm)), Array.setIfInBounds_comm _ _ e35] at this
    exact this
end

theorem bs0_tpG {d : Option Tmp} {ps : String} {af : Array Edge} {ty : TypeId} {gd : Option (Nat × Bool)} {Q : Exit → Act → World → Prop} (a : Act) (w : World) (K : Act → World → Prop) (h : K (a.put d (.slice (some ⟨w.heap.size, 0, none⟩) 0 0)) (w.alloc (.cells #[] 30))) :
    Oper.wp Try.prog { dst := d, op := .buildSlice 23 0 #[], type := ty, pos := ps, after := af, guard := gd } a w K Q := by
  go_simp
  exact h
theorem bs1_tpG {d : Option Tmp} {ps : String} {af : Array Edge} {ty : TypeId} {px : Nat} {gd : Option (Nat × Bool)} {Q : Exit → Act → World → Prop} (p : Lb.Tp) (a : Act) (w : World) (K : Act → World → Prop) (hp : a.eval (.tmp px) = .agg (tpc p)) (h : K (a.put d (.slice (some ⟨w.heap.size, 0, none⟩) 1 1)) (w.alloc (.cells (tpc p) 30))) :
    Oper.wp Try.prog { dst := d, op := .buildSlice 23 1 #[(0, .tmp px)], type := ty, pos := ps, after := af, guard := gd } a w K Q := by
  unfold tpc at hp h
  simp only [Act.eval, Array.getD_eq_getD_getElem?] at hp
  go_simp
  exact h
end Go.Proofs.Ytbboonepfmkgnaa
