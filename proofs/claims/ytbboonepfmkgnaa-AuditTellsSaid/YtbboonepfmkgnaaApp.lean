/- append of a slice that reads as records (the nil one too) to a row of the call's own. -/
import Derived.Deep.AppendLies
import Derived.Deep.AppendSrc
import Derived.Deep.Upon
import Derived.Lib.AppendZeros
import Derived.Deep.RegionLaw
import Derived.Test.YtbboonepfmkgnaaOwnB
namespace Go.Proofs.Ytbboonepfmkgnaa
set_option linter.unusedSimpArgs false
set_option linter.unusedVariables false
set_option maxRecDepth 100000
open Go Go.RowKit Lb

section
variable {α : Type} [Inhabited α] {enc : α → Array Value} {k : Nat}
theorem RdL.news {w : World} {l : List α} {ad : Addr} {n c : Nat} (h : RdL k enc w (.slice (some ad) n c) l) (hk : ∀ x, (enc x).size = k) (hk0 : 0 < k) : ∀ j u, (encs enc l)[j]? = some u → w.cell? (ad.add j) = some u := by
  intro j u hu
  obtain ⟨A, c', hv, h1, h2, h3⟩ := h
  injection hv with hA hn hc
  subst hA hn hc
  have hlen := encs_length (enc := enc) (k := k) hk l
  have hj : j < (encs enc l).length := (List.getElem?_eq_some_iff.1 hu).1
  have hj2 : j / k < l.length := by
    rw [Nat.div_lt_iff_lt_mul hk0]
    omega
  obtain ⟨b, o, hA, hb, hc⟩ := h3 (Nat.lt_of_le_of_lt (Nat.zero_le _) hj2)
  injection hA with hA
  subst hA
  have hg := encs_get (enc := enc) (k := k) hk l (j / k) (j % k) hj2 (Nat.mod_lt _ hk0)
  have hdm : j / k * k + j % k = j := by rw [Nat.mul_comm]; exact Nat.div_add_mod j k
  rw [hdm, hu] at hg
  have := hc (j / k) hj2 (j % k) u (by rw [getElem!_pos l (j / k) hj2]; exact hg.symm)
  rw [show o + j / k * k + j % k = o + j from by omega] at this
  rwa [show (⟨b, o, none⟩ : Addr).add j = ⟨b, o + j, none⟩ from by unfold Addr.add; split <;> simp_all]

variable {P : Program} (w : World)
theorem wp_append_rd {o : Oper} {a : Act} {K : Act → World → Prop} {Q : Exit → Act → World → Prop} (s x : Operand) (t : TypeId)
    (ho : o.op = .call { callee := .builtin .append, args := #[s, x], argTypes := #[t, t] })
    (base : Nat) (e : TypeId) (i : TypeInfo) (z : Value) (bytes : Nat) (ht : P.underlying t = some (.slice e)) (hi : P.info? e = some i) (hz : i.zero = some z)
    (hsize : i.size = k) (hby : i.bytes = bytes) (hzs : z.cells.size = k) (hsz : 0 < k) (hk : ∀ x, (enc x).size = k)
    (v : Value) (m : List α) (hs : a.eval s = v) (hown : OwnL e k enc base w v m)
    (xv : Value) (l : List α) (hx : a.eval x = xv) (hrd : RdL k enc w xv l) (h1 : ∀ u ∈ encs enc l, u.oneCell' = true)
    (h63 : m.length + l.length ≤ maxLen) (hbytes : (m.length + l.length) * bytes ≤ 140737488355328) (hbase : base ≤ w.heap.size)
    (h : ∀ v' w', OwnL e k enc base w' v' (m ++ l) → w.grownBy w' v.ownBlock → (v'.ownBlock = v.ownBlock ∨ v'.ownBlock = some w.heap.size) → K (a.put o.dst v') w') : o.wp P a w K Q := by
  by_cases hl : l = []
  · subst hl
    obtain ⟨A, c, rfl, -, -, -⟩ := hrd
    have hsrc : Src P i.size t (.slice A 0 c) 0 [] w := by
      cases A with
      | none => exact Src.ofNil w ht c
      | some ad => exact Src.ofSlice w ht ad 0 c [] (by simp) (fun j u hj => by simp at hj) (fun u hu => by cases hu)
    have hv : ∃ A n c, v = .slice A n c ∧ n ≤ c := by
      rcases hown.2 with ⟨rfl, h0⟩ | ⟨g, cap, cur, rfl, hb, hg, hnc, -⟩
      · exact ⟨_, _, _, rfl, Nat.le_refl _⟩
      · exact ⟨_, _, _, rfl, hnc⟩
    obtain ⟨A', n', c', rfl, hle⟩ := hv
    refine Lib.wp_append_run w s x t t ho _ _ hs hx _ _ (run_append_nothing w t t o.type e i ht hi A' n' c' hle _ hsrc) ?_
    exact h _ _ (by rw [List.append_nil]; exact hown) (World.grownBy.refl _ _) (.inl rfl)
  · have hp : 0 < l.length := List.length_pos_iff.2 hl
    obtain ⟨A, c, rfl, -, -, h3⟩ := id hrd
    obtain ⟨b, of, rfl, -, -⟩ := h3 hp
    refine wp_append_lies w s x t ho base e i z k bytes ht hi hz hsize hby hzs hsz v m.length (encs enc m) hs hown ⟨b, of, none⟩ l.length c (encs enc l) hx (encs_length hk l) (hrd.news hk hsz) h1 hp h63 hbytes hbase _ rfl ?_
    intro g cap w' h4 h5 h6 h7
    refine h _ w' ?_ h5 ?_
    · unfold OwnL
      rw [List.length_append, encs_append]
      exact h4
    · rcases h6 with h6 | h6
      · left; rw [h6]; rfl
      · right; rw [h6]; rfl
theorem wpList_append_rd {ops : Array Oper} {rest : List Oper} {o : Oper} {a : Act} {Q : Exit → Act → World → Prop} (hgd : o.guard = none) (s x : Operand) (t : TypeId)
    (ho : o.op = .call { callee := .builtin .append, args := #[s, x], argTypes := #[t, t] })
    (base : Nat) (e : TypeId) (i : TypeInfo) (z : Value) (bytes : Nat) (ht : P.underlying t = some (.slice e)) (hi : P.info? e = some i) (hz : i.zero = some z)
    (hsize : i.size = k) (hby : i.bytes = bytes) (hzs : z.cells.size = k) (hsz : 0 < k) (hk : ∀ x, (enc x).size = k)
    (v : Value) (m : List α) (hs : a.eval s = v) (hown : OwnL e k enc base w v m)
    (xv : Value) (l : List α) (hx : a.eval x = xv) (hrd : RdL k enc w xv l) (h1 : ∀ u ∈ encs enc l, u.oneCell' = true)
    (h63 : m.length + l.length ≤ maxLen) (hbytes : (m.length + l.length) * bytes ≤ 140737488355328) (hbase : base ≤ w.heap.size)
    (h : ∀ v' w', OwnL e k enc base w' v' (m ++ l) → w.grownBy w' v.ownBlock → (v'.ownBlock = v.ownBlock ∨ v'.ownBlock = some w.heap.size) → wpList P ops Q rest (a.put o.dst v') w') : wpList P ops Q (o :: rest) a w :=
  wpList_plain hgd fun _ hK => wp_append_rd w s x t ho base e i z bytes ht hi hz hsize hby hzs hsz hk v m hs hown xv l hx hrd h1 h63 hbytes hbase fun v' w' h2 h3 h4 => hK _ _ (h v' w' h2 h3 h4)
theorem step_append_rd {ops : Array Oper} {o : Oper} {a : Act} {K : Act → World → Prop} {Q : Exit → Act → World → Prop} {E : Prop} (hgd : o.guard = none) (s x : Operand) (t : TypeId)
    (ho : o.op = .call { callee := .builtin .append, args := #[s, x], argTypes := #[t, t] })
    (base : Nat) (e : TypeId) (i : TypeInfo) (z : Value) (bytes : Nat) (ht : P.underlying t = some (.slice e)) (hi : P.info? e = some i) (hz : i.zero = some z)
    (hsize : i.size = k) (hby : i.bytes = bytes) (hzs : z.cells.size = k) (hsz : 0 < k) (hk : ∀ x, (enc x).size = k)
    (v : Value) (m : List α) (hs : a.eval s = v) (hown : OwnL e k enc base w v m)
    (xv : Value) (l : List α) (hx : a.eval x = xv) (hrd : RdL k enc w xv l) (h1 : ∀ u ∈ encs enc l, u.oneCell' = true)
    (h63 : m.length + l.length ≤ maxLen) (hbytes : (m.length + l.length) * bytes ≤ 140737488355328) (hbase : base ≤ w.heap.size)
    (h : ∀ v' w', OwnL e k enc base w' v' (m ++ l) → w.grownBy w' v.ownBlock → (v'.ownBlock = v.ownBlock ∨ v'.ownBlock = some w.heap.size) → K (a.put o.dst v') w') :
    if Region.wanted o (yielded ops a.tmps) = true then Oper.wp P o a w K Q else E := by
  have hw : Region.wanted o (yielded ops a.tmps) = true := by simp [Region.wanted, hgd]
  rw [if_pos hw]
  exact wp_append_rd w s x t ho base e i z bytes ht hi hz hsize hby hzs hsz hk v m hs hown xv l hx hrd h1 h63 hbytes hbase h
end
/-- A literal of one record reads as that. -/
theorem RdL.lit {α : Type} [Inhabited α] {enc : α → Array Value} {k : Nat} {e : TypeId} {W : World} (x : α) {cs : Array Value} {g : Nat} (hg : g = W.heap.size) (hc : cs = enc x) : RdL k enc (W.alloc (.cells cs e)) (.slice (some ⟨g, 0, none⟩) 1 1) [x] := by
  subst hg hc
  refine ⟨_, 1, rfl, Nat.le_refl _, by unfold maxLen; omega, fun _ => ⟨_, 0, rfl, by simp, fun j hj i u hu => ?_⟩⟩
  have hj0 : j = 0 := by simpa using hj
  subst hj0
  rw [Nat.zero_mul, Nat.add_zero, Nat.zero_add, Row.new.2.1 i]
  exact hu
/-- A row of nothing yet. -/
theorem OwnL.made {α : Type} {enc : α → Array Value} {k : Nat} {e : TypeId} {base g : Nat} {w : World} (hg : g = w.heap.size) (hb : base ≤ w.heap.size) : OwnL e k enc base (w.alloc (.cells #[] e)) (.slice (some ⟨g, 0, none⟩) 0 0) ([] : List α) := by
  subst hg
  exact World.ownsRow_made w #[] 0 hb (Nat.zero_le _) (by simp)
end Go.Proofs.Ytbboonepfmkgnaa
