/- Mr: parts of the proofs, laid together. -/
import Derived.Test.YtbboonepfmkgnaaGreatMg
import Derived.Test.YtbboonepfmkgnaaGreatMc
import Derived.Test.YtbboonepfmkgnaaGreatMe
import Derived.Test.YtbboonepfmkgnaaGreatMl
import Derived.Test.YtbboonepfmkgnaaGreatMa
/- What the laws spoil: rows of the call's own whose contents nobody reads; spoilTaps, spoilLedger. -/
namespace Go.Proofs.YtbboonepfmkgnaaGreat
set_option linter.unusedSimpArgs false
set_option linter.unusedVariables false
set_option maxRecDepth 100000
open Go Go.RowKit Lb

section
variable {α : Type} {e : TypeId} {k lo : Nat} {enc : α → Array Value} {w w' w0 w1 w2 : World} {v : Value} {l : List α} {own own2 : Nat → Prop}
theorem Fr.weaken (h : Fr own w w') (h2 : ∀ q, own q → own2 q) : Fr own2 w w' := ⟨h.os, h.tape, h.output, h.size, fun k hk hn => h.block k hk (fun ho => hn (h2 k ho))⟩
theorem Fr.trans (h : Fr own w1 w2) (h2 : Fr own w2 w) : Fr own w1 w :=
  ⟨h2.os.trans h.os, h2.tape.trans h.tape, h2.output.trans h.output, Nat.le_trans h.size h2.size, fun k hk hn => (h2.block k (Nat.lt_of_lt_of_le hk h.size) hn).trans (h.block k hk hn)⟩
theorem Fr.step (h : Fr own w0 w1) (he : Ext w1 w2) : Fr own w0 w2 :=
  ⟨he.os.trans h.os, he.tape.trans h.tape, he.output.trans h.output, Nat.le_trans h.size (Ext.size he), fun k hk hn => (he.block k (Nat.lt_of_lt_of_le hk h.size)).trans (h.block k hk hn)⟩
theorem Fr.ofExt (he : Ext w1 w2) : Fr own w1 w2 := (Fr.refl own w1).step he
theorem Ext.fr (h : Ext w0 w) (hf : Fr own w w') (ho : ∀ q, own q → w0.heap.size ≤ q) : Ext w0 w' := Below.trans h (Below.mono (hf.below (base := w0.heap.size) h.size ho) (Nat.le_refl _))

/-- a row of the call's own, from lo on, whatever it holds -/
def RowS (lo : Nat) (e : TypeId) (k : Nat) (w : World) (v : Value) : Prop := ∃ n cs, w.ownsRow lo e k v n cs
theorem OwnL.rowS (h : OwnL e k enc lo w v l) : RowS lo e k w v := ⟨_, _, h⟩
theorem RowS.nil : RowS lo e k w (.slice none 0 0) := ⟨0, [], World.ownsRow_nil _ _ _ _⟩
theorem RowS.lower {lo2 : Nat} (h : RowS lo e k w v) (hb : lo2 ≤ lo) : RowS lo2 e k w v := by
  obtain ⟨n, cs, h⟩ := h
  exact ⟨n, cs, ownsRow_base h hb⟩
theorem RowS.ext (h : RowS lo e k w v) (he : Ext w w') : RowS lo e k w' v := by
  obtain ⟨n, cs, h⟩ := h
  refine ⟨n, cs, h.kept (row := none) ⟨he.os, he.tape, he.output, Ext.size he, fun i hi _ => he.block i hi⟩ ?_⟩
  cases hv : v.ownBlock <;> simp
theorem RowS.bnd (h : RowS lo e k w v) : ∀ q, v.ownBlock = some q → lo ≤ q ∧ q < w.heap.size := by
  obtain ⟨n, cs, -, h⟩ := h
  intro q hq
  rcases h with ⟨rfl, -⟩ | ⟨g, cap, cur, rfl, hb, hg, -⟩
  · simp [Value.ownBlock] at hq
  · simp [Value.ownBlock] at hq
    subst hq
    exact ⟨hb, (Array.getElem?_eq_some_iff.1 hg).1⟩
theorem setCell_cells {g : Nat} {cur : Array Value} {z : Nat × Nat} (hg : w.heap[g]? = some (.cells cur e z)) (a : Addr) (u : Value) : ∃ cur', (w.setCell a u).heap[g]? = some (.cells cur' e z) ∧ cur'.size = cur.size := by
  by_cases ha : a.block = g
  · subst ha
    unfold World.setCell
    simp only [Array.getElem?_modify, if_true, hg, Option.map_some]
    refine ⟨_, rfl, ?_⟩
    split <;> simp
  · exact ⟨cur, by rw [Below.heap_setCell _ _ _ _ (fun e => ha e.symm)]; exact hg, rfl⟩
theorem RowS.set (h : RowS lo e k w v) (a : Addr) (u : Value) : RowS lo e k (w.setCell a u) v := by
  obtain ⟨n, cs, h1, h2⟩ := h
  rcases h2 with ⟨hv, h0⟩ | ⟨g, cap, cur, hv, hb, hg, hn, hm, hs, ht⟩
  · exact ⟨n, cs, h1, .inl ⟨hv, h0⟩⟩
  · obtain ⟨cur', hg', hs'⟩ := setCell_cells hg a u
    refine ⟨n, cur'.toList.take (n * k), ?_, .inr ⟨g, cap, cur', hv, hb, hg', hn, hm, hs'.trans hs, rfl⟩⟩
    rw [List.length_take, Array.length_toList, hs', hs]
    exact Nat.min_eq_left (Nat.mul_le_mul_right k hn)
theorem RowS.form (h : RowS lo e k w v) : ∃ A n c, v = .slice A n c ∧ n ≤ maxLen := by
  obtain ⟨n, cs, -, h⟩ := h
  rcases h with ⟨rfl, h0⟩ | ⟨g, cap, cur, rfl, -, -, hn, hm, -⟩
  · exact ⟨_, _, _, rfl, by unfold maxLen; omega⟩
  · exact ⟨_, _, _, rfl, Nat.le_trans hn hm⟩
theorem RowS.at' {A : Option Addr} {n c j i : Nat} (h : RowS lo e k w (.slice A n c)) (hj : j < n) (hi : i < k) :
    ∃ g, A = some ⟨g, 0, none⟩ ∧ g < w.heap.size ∧ w.frozen? ⟨g, j * k + i, none⟩ = false ∧ ∃ u, w.cell? ⟨g, j * k + i, none⟩ = some u := by
  obtain ⟨n', cs, h1, h2⟩ := h
  rcases h2 with ⟨hv, h0⟩ | ⟨g, cap, cur, hv, hb, hg, hn, hm, hs, ht⟩
  · injection hv with _ hv _
    omega
  · injection hv with hA hn' hc
    subst hn' hc hA
    have hle : (j + 1) * k ≤ c * k := Nat.mul_le_mul_right k (by omega)
    rw [Nat.succ_mul] at hle
    have hlt : j * k + i < cur.size := by omega
    refine ⟨g, rfl, (Array.getElem?_eq_some_iff.1 hg).1, ?_, cur[j * k + i], ?_⟩
    · unfold World.frozen?
      simp only [hg]
      simp
    · rw [cell_of_row w g _ cur e (0, 0) hg]
      simp [hlt]

/-- only cells of the blocks `own` are written, and every row stays a row -/
def Sp (own : Nat → Prop) (w w' : World) : Prop := Fr own w w' ∧ ∀ b e k v, RowS b e k w v → RowS b e k w' v
theorem Sp.refl (own : Nat → Prop) (w : World) : Sp own w w := ⟨Fr.refl _ _, fun _ _ _ _ h => h⟩
theorem Sp.fr (h : Sp own w w') : Fr own w w' := h.1
theorem Sp.row (h : Sp own w w') (hr : RowS lo e k w v) : RowS lo e k w' v := h.2 _ _ _ _ hr
theorem Sp.weaken (h : Sp own w w') (h2 : ∀ q, own q → own2 q) : Sp own2 w w' := ⟨h.1.weaken h2, h.2⟩
theorem Sp.trans (h : Sp own w w') (h2 : Sp own w' w2) : Sp own w w2 := ⟨h.1.trans h2.1, fun _ _ _ _ hr => h2.2 _ _ _ _ (h.2 _ _ _ _ hr)⟩
theorem Sp.step (h : Sp own w w') (h2 : Ext w' w2) : Sp own w w2 := ⟨h.1.step h2, fun _ _ _ _ hr => (h.2 _ _ _ _ hr).ext h2⟩
theorem Sp.ofExt (h : Ext w w') : Sp own w w' := (Sp.refl own w).step h
theorem Sp.set {a : Addr} (ha : own a.block) (u : Value) (h : Sp own w w') : Sp own w (w'.setCell a u) := ⟨Fr.setC ha h.1, fun _ _ _ _ hr => (h.2 _ _ _ _ hr).set a u⟩
theorem Sp.drew (h : Sp own w w') : Sp own w w'.drew := ⟨h.1.drew, fun _ _ _ _ hr => h.2 _ _ _ _ hr⟩
theorem Sp.drewN (n : Nat) (h : Sp own w w') : Sp own w (w'.drewN n) := ⟨h.1.drewN n, fun _ _ _ _ hr => h.2 _ _ _ _ hr⟩
theorem Sp.size (h : Sp own w w') : w.heap.size ≤ w'.heap.size := h.1.size
theorem Sp.box {g : Nat} {cs : Array Value} (h : Sp own w w') (hn : ¬ own g) (r : Row w g cs) : Row w' g cs := h.1.row hn r
theorem RowS.le (h : RowS lo e k w v) : ∀ A n c, v = .slice A n c → n ≤ 9223372036854775807 := by
  intro A n c hv
  obtain ⟨A', n', c', hv', hm⟩ := h.form
  rw [hv] at hv'
  injection hv' with _ hn _
  subst hn
  unfold maxLen at hm
  omega
/-- rows of unlike types lie apart -/
theorem RowS.unlike {e2 : TypeId} {k2 lo2 : Nat} {u : Value} (h : RowS lo e k w v) (h2 : RowS lo2 e2 k2 w u) (he : e ≠ e2) : ∀ q, v.ownBlock = some q → u.ownBlock ≠ some q := by
  obtain ⟨n, cs, -, h⟩ := h
  obtain ⟨n2, cs2, -, h2⟩ := h2
  intro q hq hq2
  rcases h with ⟨hv, _⟩ | ⟨g, cap, cur, hv, -, hg, -⟩
  · rw [hv] at hq; simp [Value.ownBlock] at hq
  · rcases h2 with ⟨hu, _⟩ | ⟨g2, cap2, cur2, hu, -, hg2, -⟩
    · rw [hu] at hq2; simp [Value.ownBlock] at hq2
    · rw [hv] at hq
      rw [hu] at hq2
      simp [Value.ownBlock] at hq hq2
      subst hq
      subst hq2
      rw [hg] at hg2
      injection hg2 with hg2
      injection hg2 with _ e2 _
      exact he e2
end

set_option maxHeartbeats 8000000 in
theorem law_spoilTaps (v : Value) (lo : Nat) (w : World) (ho : RowS lo 28 5 w v) :
    Calls Tryz.prog 26 #[v] w fun e w' => e = .returned (.tuple #[]) ∧ Sp (fun q => v.ownBlock = some q) w w' := by
  obtain ⟨A, n, c, rfl, -⟩ := ho.form
  have hml := ho.le A n c rfl
  have HO := Lib.hid ho
  clear ho
  go_enter Tryz.func26, Tryz.ntmps26
  go_wp2_with fail
  go_loopg [2] n (fun gg s2 wr => ∃ k : Nat, k ≤ n ∧ n - k ≤ gg ∧ s2 = .int .i64 k ∧ Aside (Sp (fun q => (Value.slice A n c).ownBlock = some q) w wr))
  case atStart => exact ⟨0, Nat.zero_le _, by omega, rfl, Sp.refl _ _⟩
  case round =>
    obtain ⟨k, hk, hg, rfl, HV⟩ := hrel
    by_cases hlt : k < n
    · have hlt' : (k : Int) < (n : Int) := by omega
      obtain ⟨g, rfl, hb, hfz, u, hc⟩ := (HV.out.row HO.out).at' hlt (i := 3) (by omega)
      go_wp2_with fail
      go_roundg (n - (k + 1))
      case measure => omega
      case rel => exact ⟨k + 1, by omega, by omega, by go_num, Sp.set (own := fun q => (Value.slice (some ⟨g, 0, none⟩) n c).ownBlock = some q) (a := ⟨g, k * 5 + 3, none⟩) rfl _ HV.out⟩
    · have hge : ¬ (k : Int) < (n : Int) := by omega
      go_wp2_with fail
      go_end0
      exact ⟨rfl, HV.out⟩
end Go.Proofs.YtbboonepfmkgnaaGreat

/- spoilLedger. -/
namespace Go.Proofs.YtbboonepfmkgnaaGreat
set_option linter.unusedSimpArgs false
set_option linter.unusedVariables false
set_option maxRecDepth 100000
open Go Go.RowKit Lb

/-- a block: its cells and their type -/
def Bx (w : World) (p : Nat) (e : TypeId) (cs : Array Value) : Prop := w.heap[p]? = some (.cells cs e (0, 0))
/-- what a spoiling writes: rows of these types, from lo on -/
def spT : List TypeId := [36, 28, 3, 34, 104]
def spo (lo : Nat) (w : World) (q : Nat) : Prop := lo ≤ q ∧ ∃ e cs, Bx w q e cs ∧ e ∈ spT
theorem RowS.spo {lo : Nat} {e : TypeId} {k : Nat} {w : World} {v : Value} (h : RowS lo e k w v) (he : e ∈ spT) : ∀ q, v.ownBlock = some q → spo lo w q := by
  intro q hq
  have hb := h.bnd q hq
  obtain ⟨n, cs, -, h⟩ := h
  rcases h with ⟨rfl, -⟩ | ⟨g, cap, cur, rfl, -, hg, -⟩
  · simp [Value.ownBlock] at hq
  · simp [Value.ownBlock] at hq
    subst hq
    exact ⟨hb.1, e, cur, hg, he⟩
theorem spo.lt {lo : Nat} {w : World} {q : Nat} (h : spo lo w q) : q < w.heap.size := by
  obtain ⟨-, e, cs, h, -⟩ := h
  exact (Array.getElem?_eq_some_iff.1 h).1
theorem spo.lower {lo lo2 : Nat} {w : World} {q : Nat} (h : spo lo w q) (hl : lo2 ≤ lo) : spo lo2 w q := ⟨Nat.le_trans hl h.1, h.2⟩
/-- a box is not spoiled -/
theorem Bx.not_spo {lo p : Nat} {w : World} {e : TypeId} {cs : Array Value} (h : Bx w p e cs) (he : e ∉ spT) : ¬ spo lo w p := by
  rintro ⟨-, e2, cs2, h2, he2⟩
  unfold Bx at h h2
  rw [h] at h2
  injection h2 with h2
  injection h2 with _ h3 _
  subst h3
  exact he he2
theorem Bx.lt {p : Nat} {w : World} {e : TypeId} {cs : Array Value} (h : Bx w p e cs) : p < w.heap.size := (Array.getElem?_eq_some_iff.1 h).1
theorem Bx.new {w : World} {e : TypeId} {cs : Array Value} : Bx (w.alloc (.cells cs e)) w.heap.size e cs := heap_alloc_new w _
theorem Bx.fr {own : Nat → Prop} {p : Nat} {w w' : World} {e : TypeId} {cs : Array Value} (h : Bx w p e cs) (hf : Fr own w w') (hn : ¬ own p) : Bx w' p e cs := (hf.block p h.lt hn).trans h
theorem Bx.ext {p : Nat} {w w' : World} {e : TypeId} {cs : Array Value} (h : Bx w p e cs) (hf : Ext w w') : Bx w' p e cs := (hf.block p h.lt).trans h
theorem Bx.drew {p : Nat} {w : World} {e : TypeId} {cs : Array Value} (h : Bx w p e cs) : Bx w.drew p e cs := h
theorem Bx.drewN {p : Nat} {w : World} {e : TypeId} {cs : Array Value} (n : Nat) (h : Bx w p e cs) : Bx (w.drewN n) p e cs := h
theorem Bx.alloc {p : Nat} {w : World} {e : TypeId} {cs : Array Value} (h : Bx w p e cs) (o : Obj) : Bx (w.alloc o) p e cs := h.ext ((Ext.refl w).alloc o)
theorem Bx.far {p : Nat} {w : World} {e : TypeId} {cs : Array Value} {a : Addr} {u : Value} (hn : p ≠ a.block) (h : Bx w p e cs) : Bx (w.setCell a u) p e cs := by
  unfold Bx
  rw [Below.heap_setCell _ _ _ _ hn]
  exact h
theorem Bx.set {p i : Nat} {w : World} {e : TypeId} {cs : Array Value} {u : Value} (h : Bx w p e cs) : Bx (w.setCell ⟨p, i, none⟩ u) p e (cs.setIfInBounds i u) := by
  unfold Bx at h ⊢
  unfold World.setCell
  simp only [Array.getElem?_modify, if_true, h, Option.map_some, Option.isSome_none, Bool.false_eq_true, if_false]
theorem Bx.row {p : Nat} {w : World} {e : TypeId} {cs : Array Value} (h : Bx w p e cs) : Row w p cs := by
  refine ⟨h.lt, fun o => ?_, fun o => ?_⟩
  · exact cell_of_row w p o cs e (0, 0) h
  · unfold Bx at h
    unfold World.frozen?
    simp only [h]
    simp
theorem RowS.box {lo : Nat} {e e2 : TypeId} {k p : Nat} {w : World} {v : Value} {cs : Array Value} (h : RowS lo e k w v) (hb : Bx w p e2 cs) (he : e ≠ e2) : v.ownBlock ≠ some p := by
  intro hq
  obtain ⟨n, cs', -, h⟩ := h
  rcases h with ⟨rfl, -⟩ | ⟨g, cap, cur, rfl, -, hg, -⟩
  · simp [Value.ownBlock] at hq
  · simp [Value.ownBlock] at hq
    subst hq
    unfold Bx at hb
    rw [hg] at hb
    injection hb with hb
    injection hb with _ h3 _
    exact he h3
def own3 (s0 s1 s2 : Value) (q : Nat) : Prop := s0.ownBlock = some q ∨ s1.ownBlock = some q ∨ s2.ownBlock = some q
theorem own3_spo {lo : Nat} {w : World} {s0 s1 s2 : Value} {e0 e1 e2 : TypeId} {k0 k1 k2 : Nat} (h0 : RowS lo e0 k0 w s0) (h1 : RowS lo e1 k1 w s1) (h2 : RowS lo e2 k2 w s2) (t0 : e0 ∈ spT) (t1 : e1 ∈ spT) (t2 : e2 ∈ spT) : ∀ q, own3 s0 s1 s2 q → spo lo w q := by
  intro q h
  rcases h with h | h | h
  · exact h0.spo t0 q h
  · exact h1.spo t1 q h
  · exact h2.spo t2 q h

set_option maxHeartbeats 8000000 in
theorem law_spoilLedger (s0 s1 s2 : Value) (lo : Nat) (w : World) (h0 : RowS lo 36 6 w s0) (h1 : RowS lo 28 5 w s1) (h2 : RowS lo 3 1 w s2) :
    Calls Tryz.prog 25 #[.agg #[s0, s1, s2]] w fun e w' => e = .returned (.tuple #[]) ∧ Sp (own3 s0 s1 s2) w w' := by
  obtain ⟨A0, n0, c0, rfl, -⟩ := h0.form
  obtain ⟨A1, n1, c1, rfl, -⟩ := h1.form
  obtain ⟨A2, n2, c2, rfl, -⟩ := h2.form
  have hm0 := h0.le A0 n0 c0 rfl
  have hm2 := h2.le A2 n2 c2 rfl
  have H0 := Lib.hid h0
  have H1 := Lib.hid h1
  have H2 := Lib.hid h2
  clear h0 h1 h2
  go_enter Tryz.func25, Tryz.ntmps25
  go_wp2_with fail
  refine (law_spoilTaps _ lo _ (H1.out.ext (by repeat (first | (with_reducible exact Ext.refl _) | (with_reducible refine Ext.alloc ?_ _) | (with_reducible apply Ext.setC; focus (simp <;> omega)) | (with_reducible refine Ext.drew ?_) | (with_reducible refine Ext.drewN ?_ _) | (with_reducible refine Ext.trans ?_ (Hid.out ‹Hid (Ext _ _)›)))))).mono ?_
  rintro e w1 ⟨rfl, h1⟩
  have hr := h1.box (g := w.heap.size) (cs := #[.slice A0 n0 c0, .slice A1 n1 c1, .slice A2 n2 c2]) (fun h => by have := (H1.out.bnd _ h).2; omega) (by repeat (first | (with_reducible exact Hid.out ‹Hid (Row _ _ _)›) | (with_reducible exact Row.newAt rfl) | (with_reducible apply Row.newAt; (simp; done)) | (with_reducible apply Row.set_) | (with_reducible apply Row.far; focus (simp <;> omega)) | (with_reducible apply Row.alloc) | (with_reducible apply Row.drew) | (with_reducible apply Row.drewN) | (with_reducible apply Row.ext (Hid.out ‹Hid (Ext _ _)›))))
  have HS := Lib.hid ((Sp.ofExt (own := own3 (.slice A0 n0 c0) (.slice A1 n1 c1) (.slice A2 n2 c2)) ((Ext.refl w).alloc _)).trans (h1.weaken fun q h => .inr (.inl h)))
  have HR := Lib.hid hr
  clear h1 hr
  (apply Row.use (w := w1) (g := w.heap.size); (focus (repeat (first | (with_reducible exact Hid.out ‹Hid (Row _ _ _)›) | (with_reducible exact Row.newAt rfl) | (with_reducible apply Row.newAt; (simp; done)) | (with_reducible apply Row.set_) | (with_reducible apply Row.far; focus (simp <;> omega)) | (with_reducible apply Row.alloc) | (with_reducible apply Row.drew) | (with_reducible apply Row.drewN) | (with_reducible apply Row.ext (Hid.out ‹Hid (Ext _ _)›))))); intro q1_0 f1_0 l1_0 R1_0; (try simp only [List.setIfInBounds_toArray, List.set_cons_zero, List.set_cons_succ] at q1_0 R1_0))
  go_wp2_with fail
  go_loopg [2] n0 (fun gg s2 wr => ∃ k : Nat, k ≤ n0 ∧ n0 - k ≤ gg ∧ s2 = .int .i64 k ∧ Aside (Sp (own3 (.slice A0 n0 c0) (.slice A1 n1 c1) (.slice A2 n2 c2)) w wr ∧ Row wr w.heap.size #[.slice A0 n0 c0, .slice A1 n1 c1, .slice A2 n2 c2]))
  case atStart => exact ⟨0, Nat.zero_le _, by omega, rfl, HS.out, HR.out⟩
  case round =>
    obtain ⟨k, hk, hg, rfl, HV⟩ := hrel
    have HW := Lib.hid HV.out.1
    have HY := Lib.hid HV.out.2
    clear HV HS HR q1_0 f1_0 l1_0 R1_0
    (apply Row.use (w := wr) (g := w.heap.size); (focus (repeat (first | (with_reducible exact Hid.out ‹Hid (Row _ _ _)›) | (with_reducible exact Row.newAt rfl) | (with_reducible apply Row.newAt; (simp; done)) | (with_reducible apply Row.set_) | (with_reducible apply Row.far; focus (simp <;> omega)) | (with_reducible apply Row.alloc) | (with_reducible apply Row.drew) | (with_reducible apply Row.drewN) | (with_reducible apply Row.ext (Hid.out ‹Hid (Ext _ _)›))))); intro q2_0 f2_0 l2_0 R2_0; (try simp only [List.setIfInBounds_toArray, List.set_cons_zero, List.set_cons_succ] at q2_0 R2_0))
    by_cases hlt : k < n0
    · have hlt' : (k : Int) < (n0 : Int) := by omega
      obtain ⟨g, rfl, hb, hfz, u, hc⟩ := (HW.out.row H0.out).at' hlt (i := 0) (by omega)
      have hgb := H0.out.bnd g rfl
      simp only [Nat.add_zero] at hc hfz
      go_wp2_with fail
      go_roundg (n0 - (k + 1))
      case measure => omega
      case rel => exact ⟨k + 1, by omega, by omega, by go_num, Sp.set (a := ⟨g, k * 6, none⟩) (.inl rfl) _ HW.out, Row.far (by simp; omega) HY.out⟩
    · have hge : ¬ (k : Int) < (n0 : Int) := by omega
      go_wp2_with fail
      go_loopg [3] n2 (fun gg s3 ws => ∃ j : Nat, j ≤ n2 ∧ n2 - j ≤ gg ∧ s3 = .int .i64 j ∧ Aside (Sp (own3 (.slice A0 n0 c0) (.slice A1 n1 c1) (.slice A2 n2 c2)) w ws ∧ Row ws w.heap.size #[.slice A0 n0 c0, .slice A1 n1 c1, .slice A2 n2 c2]))
      case atStart => exact ⟨0, Nat.zero_le _, by omega, rfl, HW.out, HY.out⟩
      case round =>
        obtain ⟨j, hj, hg2, rfl, HV⟩ := hrel
        have HW2 := Lib.hid HV.out.1
        have HY2 := Lib.hid HV.out.2
        clear HV HY HW q2_0 f2_0 l2_0 R2_0
        (apply Row.use (w := wr) (g := w.heap.size); (focus (repeat (first | (with_reducible exact Hid.out ‹Hid (Row _ _ _)›) | (with_reducible exact Row.newAt rfl) | (with_reducible apply Row.newAt; (simp; done)) | (with_reducible apply Row.set_) | (with_reducible apply Row.far; focus (simp <;> omega)) | (with_reducible apply Row.alloc) | (with_reducible apply Row.drew) | (with_reducible apply Row.drewN) | (with_reducible apply Row.ext (Hid.out ‹Hid (Ext _ _)›))))); intro q3_0 f3_0 l3_0 R3_0; (try simp only [List.setIfInBounds_toArray, List.set_cons_zero, List.set_cons_succ] at q3_0 R3_0))
        by_cases hlt : j < n2
        · have hlt' : (j : Int) < (n2 : Int) := by omega
          obtain ⟨g, rfl, hb, hfz, u, hc⟩ := (HW2.out.row H2.out).at' hlt (i := 0) (by omega)
          have hgb := H2.out.bnd g rfl
          simp only [Nat.add_zero, Nat.mul_one] at hc hfz
          go_wp2_with fail
          go_roundg (n2 - (j + 1))
          case measure => omega
          case rel => exact ⟨j + 1, by omega, by omega, by go_num, Sp.set (a := ⟨g, j, none⟩) (.inr (.inr rfl)) _ HW2.out, Row.far (by simp; omega) HY2.out⟩
        · have hge : ¬ (j : Int) < (n2 : Int) := by omega
          go_wp2_with fail
          go_end0
          exact ⟨rfl, HW2.out⟩
end Go.Proofs.YtbboonepfmkgnaaGreat

/- spoilStation. -/
namespace Go.Proofs.YtbboonepfmkgnaaGreat
set_option linter.unusedSimpArgs false
set_option linter.unusedVariables false
set_option maxRecDepth 100000
open Go Go.RowKit Lb

/-- a gate as it lies in a row: its slices are values -/
structure Gx where
  id : Int
  zone : Int
  seq : Int
  sa : Value
  ver : Int
  si : Value
  left : Int
  untl : Int
instance : Inhabited Gx := ⟨⟨0, 0, 0, .slice none 0 0, 0, .slice none 0 0, 0, 0⟩⟩
def gxc (x : Gx) : Array Value := #[.int .i64 x.id, .int .i64 x.zone, .int .i64 x.seq, x.sa, .int .i64 x.ver, x.si, .int .i64 x.left, .int .i64 x.untl]
theorem gxc_size (x : Gx) : (gxc x).size = 8 := rfl
/-- the gates' own rows -/
def GxS (lo : Nat) (w : World) (l : List Gx) : Prop := ∀ x ∈ l, RowS lo 28 5 w x.sa ∧ RowS lo 3 1 w x.si
theorem GxS.set {lo : Nat} {w : World} {l : List Gx} (h : GxS lo w l) (i : Nat) (hi : i < l.length) (z : Int) : GxS lo w (l.set i { l[i] with id := z }) := by
  intro x hx
  rcases List.mem_or_eq_of_mem_set hx with hx | rfl
  · exact h x hx
  · exact h l[i] (List.getElem_mem hi)

set_option maxHeartbeats 8000000 in
theorem law_spoilStation (s0 s1 s2 si sg sv : Value) (ver : Int) (gl : List Gx) (lo : Nat) (w : World) (h0 : RowS lo 36 6 w s0) (h1 : RowS lo 28 5 w s1) (h2 : RowS lo 3 1 w s2)
    (hi : RowS lo 3 1 w si) (hv : RowS lo 104 3 w sv) (hg : OwnL 34 8 gxc lo w sg gl) (hx : GxS lo w gl) :
    Calls Tryz.prog 27 #[.agg #[s0, s1, s2, .int .i64 ver, si, sg, sv]] w fun e w' => e = .returned (.tuple #[]) ∧ Sp (spo lo w) w w' := by
  have h3 := own3_spo h0 h1 h2 (by decide) (by decide) (by decide)
  have H0 := Lib.hid h0
  have H1 := Lib.hid h1
  have H2 := Lib.hid h2
  obtain ⟨A0, n0, c0, rfl, -⟩ := h0.form
  obtain ⟨A1, n1, c1, rfl, -⟩ := h1.form
  obtain ⟨A2, n2, c2, rfl, -⟩ := h2.form
  obtain ⟨A3, n3, c3, rfl, -⟩ := hi.form
  obtain ⟨A4, n4, c4, rfl, -⟩ := hv.form
  obtain ⟨A5, c5, rfl⟩ := hg.form
  have hm3 := hi.le A3 n3 c3 rfl
  have hm4 := hv.le A4 n4 c4 rfl
  have hm5 := hg.rowS.le A5 gl.length c5 rfl
  have H3 := Lib.hid h3
  have HI := Lib.hid hi
  have HV := Lib.hid hv
  have HG := Lib.hid hg
  have HX := Lib.hid hx
  clear h0 h1 h2 hi hv hg hx h3
  obtain ⟨cs, hcs⟩ : ∃ cs : Array Value, cs = #[.slice A0 n0 c0, .slice A1 n1 c1, .slice A2 n2 c2, .int .i64 ver, .slice A3 n3 c3, .slice A5 gl.length c5, .slice A4 n4 c4] := ⟨_, rfl⟩
  have HC := Lib.hid hcs
  go_enter Tryz.func27, Tryz.ntmps27
  go_wp2_with fail
  refine (law_spoilLedger _ _ _ lo _ (H0.out.ext (by repeat (first | (with_reducible exact Ext.refl _) | (with_reducible refine Ext.alloc ?_ _) | (with_reducible apply Ext.setC; focus (simp <;> omega)) | (with_reducible refine Ext.drew ?_) | (with_reducible refine Ext.drewN ?_ _) | (with_reducible refine Ext.trans ?_ (Hid.out ‹Hid (Ext _ _)›))))) (H1.out.ext (by repeat (first | (with_reducible exact Ext.refl _) | (with_reducible refine Ext.alloc ?_ _) | (with_reducible apply Ext.setC; focus (simp <;> omega)) | (with_reducible refine Ext.drew ?_) | (with_reducible refine Ext.drewN ?_ _) | (with_reducible refine Ext.trans ?_ (Hid.out ‹Hid (Ext _ _)›))))) (H2.out.ext (by repeat (first | (with_reducible exact Ext.refl _) | (with_reducible refine Ext.alloc ?_ _) | (with_reducible apply Ext.setC; focus (simp <;> omega)) | (with_reducible refine Ext.drew ?_) | (with_reducible refine Ext.drewN ?_ _) | (with_reducible refine Ext.trans ?_ (Hid.out ‹Hid (Ext _ _)›)))))).mono ?_
  rintro e w1 ⟨rfl, h1⟩
  have hr := h1.box (g := w.heap.size) (cs := cs) (fun h => by have := (H3.out _ h).lt; omega) (by rw [hcs]; repeat (first | (with_reducible exact Hid.out ‹Hid (Row _ _ _)›) | (with_reducible exact Row.newAt rfl) | (with_reducible apply Row.newAt; (simp; done)) | (with_reducible apply Row.set_) | (with_reducible apply Row.far; focus (simp <;> omega)) | (with_reducible apply Row.alloc) | (with_reducible apply Row.drew) | (with_reducible apply Row.drewN) | (with_reducible apply Row.ext (Hid.out ‹Hid (Ext _ _)›))))
  have HS := Lib.hid ((Sp.ofExt (own := spo lo w) ((Ext.refl w).alloc _)).trans (h1.weaken H3.out))
  have HM1 := Lib.hid (show OwnL 34 8 gxc lo w1 (.slice A5 gl.length c5) gl from h1.fr.own (HG.out.ext ((Ext.refl w).alloc _)) (by
    intro q hq ho
    rcases ho with ho | ho | ho
    · exact HG.out.rowS.unlike H0.out (by decide) q hq ho
    · exact HG.out.rowS.unlike H1.out (by decide) q hq ho
    · exact HG.out.rowS.unlike H2.out (by decide) q hq ho))
  clear h1
  rw [hcs] at hr
  have HR := Lib.hid hr
  clear hr hcs
  (apply Row.use (w := w1) (g := w.heap.size); (focus (repeat (first | (with_reducible exact Hid.out ‹Hid (Row _ _ _)›) | (with_reducible exact Row.newAt rfl) | (with_reducible apply Row.newAt; (simp; done)) | (with_reducible apply Row.set_) | (with_reducible apply Row.far; focus (simp <;> omega)) | (with_reducible apply Row.alloc) | (with_reducible apply Row.drew) | (with_reducible apply Row.drewN) | (with_reducible apply Row.ext (Hid.out ‹Hid (Ext _ _)›))))); intro q1_0 f1_0 l1_0 R1_0; (try simp only [List.setIfInBounds_toArray, List.set_cons_zero, List.set_cons_succ] at q1_0 R1_0))
  go_wp2_with fail
  go_loopg [2] n3 (fun gg s2 wr => ∃ k : Nat, k ≤ n3 ∧ n3 - k ≤ gg ∧ s2 = .int .i64 k ∧ Aside (Sp (spo lo w) w wr ∧ Row wr w.heap.size cs ∧ OwnL 34 8 gxc lo wr (.slice A5 gl.length c5) gl))
  case atStart => exact ⟨0, Nat.zero_le _, by omega, rfl, HS.out, HC.out ▸ HR.out, HM1.out⟩
  case round =>
    obtain ⟨k, hk, hg, rfl, HZ⟩ := hrel
    have HW := Lib.hid HZ.out.1
    have HY := Lib.hid (HC.out ▸ HZ.out.2.1)
    have HM := Lib.hid HZ.out.2.2
    clear HZ HS HR HM1 q1_0 f1_0 l1_0 R1_0
    (apply Row.use (w := wr) (g := w.heap.size); (focus (repeat (first | (with_reducible exact Hid.out ‹Hid (Row _ _ _)›) | (with_reducible exact Row.newAt rfl) | (with_reducible apply Row.newAt; (simp; done)) | (with_reducible apply Row.set_) | (with_reducible apply Row.far; focus (simp <;> omega)) | (with_reducible apply Row.alloc) | (with_reducible apply Row.drew) | (with_reducible apply Row.drewN) | (with_reducible apply Row.ext (Hid.out ‹Hid (Ext _ _)›))))); intro q2_0 f2_0 l2_0 R2_0; (try simp only [List.setIfInBounds_toArray, List.set_cons_zero, List.set_cons_succ] at q2_0 R2_0))
    by_cases hlt : k < n3
    · have hlt' : (k : Int) < (n3 : Int) := by omega
      obtain ⟨g, rfl, hb, hfz, u, hc⟩ := (HW.out.row HI.out).at' hlt (i := 0) (by omega)
      have hgb := HI.out.bnd g rfl
      simp only [Nat.add_zero, Nat.mul_one] at hc hfz
      go_wp2_with fail
      go_roundg (n3 - (k + 1))
      case measure => omega
      case rel => exact ⟨k + 1, by omega, by omega, by go_num, Sp.set (a := ⟨g, k, none⟩) (HI.out.spo (by decide) g rfl) _ HW.out, Row.far (by simp; omega) (HC.out ▸ HY.out), HM.out.put (fun h => HG.out.rowS.unlike HI.out (by decide) g h rfl) _⟩
    · have hge : ¬ (k : Int) < (n3 : Int) := by omega
      go_wp2_with fail
      go_loopg [3] gl.length (fun gg s3 wr => ∃ k : Nat, k ≤ gl.length ∧ gl.length - k ≤ gg ∧ s3 = .int .i64 k ∧ Aside (Sp (spo lo w) w wr ∧ Row wr w.heap.size cs ∧ ∃ m : List Gx, m.length = gl.length ∧ OwnL 34 8 gxc lo wr (.slice A5 gl.length c5) m ∧ GxS lo w m))
      case atStart => exact ⟨0, Nat.zero_le _, by omega, rfl, HW.out, HC.out ▸ HY.out, gl, rfl, HM.out, HX.out⟩
      case round =>
        obtain ⟨k', hk', hg', rfl, HZ⟩ := hrel
        obtain ⟨hw2, hy2, m, hml, hm2, hxm⟩ := HZ.out
        have HW2 := Lib.hid hw2
        have HY2 := Lib.hid (HC.out ▸ hy2)
        have HM2 := Lib.hid hm2
        have HXM := Lib.hid hxm
        clear HZ hw2 hy2 hm2 hxm HW HY HM q2_0 f2_0 l2_0 R2_0 hlt hge hk hg
        (apply Row.use (w := wr) (g := w.heap.size); (focus (repeat (first | (with_reducible exact Hid.out ‹Hid (Row _ _ _)›) | (with_reducible exact Row.newAt rfl) | (with_reducible apply Row.newAt; (simp; done)) | (with_reducible apply Row.set_) | (with_reducible apply Row.far; focus (simp <;> omega)) | (with_reducible apply Row.alloc) | (with_reducible apply Row.drew) | (with_reducible apply Row.drewN) | (with_reducible apply Row.ext (Hid.out ‹Hid (Ext _ _)›))))); intro q3_0 f3_0 l3_0 R3_0; (try simp only [List.setIfInBounds_toArray, List.set_cons_zero, List.set_cons_succ] at q3_0 R3_0))
        by_cases hlt : k' < gl.length
        · have hlt' : (k' : Int) < (gl.length : Int) := by omega
          have hkm : k' < m.length := by omega
          obtain ⟨g, c', hvv, hgl, hgw, -⟩ := HM2.out.slot (by omega)
          injection hvv with hA hB hC
          subst hA
          clear hB hC
          have hgb := HG.out.rowS.bnd g rfl
          have z3 : wr.cell? ⟨g, k' * 8 + 3, none⟩ = some m[k'].sa := (HM2.out.field gxc_size k' 3 hkm (by omega) _ rfl).1
          obtain ⟨x, hxe⟩ : ∃ x, x = m[k'] := ⟨_, rfl⟩
          have hxr := HXM.out m[k'] (List.getElem_mem hkm)
          rw [← hxe] at z3 hxr
          have hz5 : (gxc m[k'])[5]? = some x.si := by rw [hxe]; rfl
          obtain ⟨id, zone, seq, sa, ver', si', left, untl⟩ := x
          simp only at z3 hxr hz5
          obtain ⟨B6, n6, c6, rfl, -⟩ := hxr.1.form
          obtain ⟨B7, n7, c7, rfl, -⟩ := hxr.2.form
          have hm7 := hxr.2.le B7 n7 c7 rfl
          have HA := Lib.hid hxr.1
          have HB := Lib.hid hxr.2
          have HZ5 := Lib.hid hz5
          have HXE := Lib.hid hxe
          have HML := Lib.hid hml
          clear hxr hz5 hxe hml
          go_wp2_with fail
          refine (law_spoilTaps _ lo _ (HW2.out.row HA.out)).mono ?_
          rintro e w2 ⟨rfl, h2⟩
          have HW3 := Lib.hid (HW2.out.trans (h2.weaken (HA.out.spo (by decide))))
          have HY3 := Lib.hid (h2.box (g := w.heap.size) (fun h => by have := (HA.out.bnd _ h).2; omega) HY2.out)
          have HM3 := Lib.hid (h2.fr.own HM2.out (fun q hq ho => HG.out.rowS.unlike HA.out (by decide) q hq ho))
          have hgw2 : g < w2.heap.size := Nat.lt_of_lt_of_le hgw h2.size
          clear h2 HW2 HY2 HM2 z3 q3_0 f3_0 l3_0 R3_0
          (apply Row.use (w := w2) (g := w.heap.size); (focus (repeat (first | (with_reducible exact Hid.out ‹Hid (Row _ _ _)›) | (with_reducible exact Row.newAt rfl) | (with_reducible apply Row.newAt; (simp; done)) | (with_reducible apply Row.set_) | (with_reducible apply Row.far; focus (simp <;> omega)) | (with_reducible apply Row.alloc) | (with_reducible apply Row.drew) | (with_reducible apply Row.drewN) | (with_reducible apply Row.ext (Hid.out ‹Hid (Ext _ _)›))))); intro q4_0 f4_0 l4_0 R4_0; (try simp only [List.setIfInBounds_toArray, List.set_cons_zero, List.set_cons_succ] at q4_0 R4_0))
          go_wp2_with fail
          go_loopg [4] n7 (fun gg s4 wr => ∃ j : Nat, j ≤ n7 ∧ n7 - j ≤ gg ∧ s4 = .int .i64 j ∧ Aside (Sp (spo lo w) w wr ∧ Row wr w.heap.size cs ∧ OwnL 34 8 gxc lo wr (.slice (some ⟨g, 0, none⟩) gl.length c5) m))
          case atStart => exact ⟨0, Nat.zero_le _, by omega, rfl, HW3.out, HC.out ▸ HY3.out, HM3.out⟩
          case round =>
            obtain ⟨j, hj, hg2, rfl, HZ⟩ := hrel
            have HW4 := Lib.hid HZ.out.1
            have HY4 := Lib.hid (HC.out ▸ HZ.out.2.1)
            have HM4 := Lib.hid HZ.out.2.2
            have hgw4 : g < wr.heap.size := Nat.lt_of_lt_of_le hgb.2 HW4.out.size
            have z5 : wr.cell? ⟨g, k' * 8 + 5, none⟩ = some (.slice B7 n7 c7) := (HM4.out.field gxc_size k' 5 hkm (by omega) _ HZ5.out).1
            have hfz0 := (HM4.out.field gxc_size k' 0 hkm (by omega) _ rfl).2
            have hz0 : wr.cell? ⟨g, k' * 8, none⟩ = some (.int .i64 m[k'].id) := (HM4.out.field gxc_size k' 0 hkm (by omega) _ rfl).1
            simp only [Nat.add_zero] at hfz0
            clear HZ HW3 HY3 HM3 q4_0 f4_0 l4_0 R4_0 hgw hgw2
            (apply Row.use (w := wr) (g := w.heap.size); (focus (repeat (first | (with_reducible exact Hid.out ‹Hid (Row _ _ _)›) | (with_reducible exact Row.newAt rfl) | (with_reducible apply Row.newAt; (simp; done)) | (with_reducible apply Row.set_) | (with_reducible apply Row.far; focus (simp <;> omega)) | (with_reducible apply Row.alloc) | (with_reducible apply Row.drew) | (with_reducible apply Row.drewN) | (with_reducible apply Row.ext (Hid.out ‹Hid (Ext _ _)›))))); intro q5_0 f5_0 l5_0 R5_0; (try simp only [List.setIfInBounds_toArray, List.set_cons_zero, List.set_cons_succ] at q5_0 R5_0))
            by_cases hl7 : j < n7
            · have hl7' : (j : Int) < (n7 : Int) := by omega
              obtain ⟨b7, rfl, hb7, hfz7, u7, hc7⟩ := (HW4.out.row HB.out).at' hl7 (i := 0) (by omega)
              have hgb7 := HB.out.bnd b7 rfl
              simp only [Nat.add_zero, Nat.mul_one] at hc7 hfz7
              go_wp2_with fail
              go_roundg (n7 - (j + 1))
              case measure => omega
              case rel => exact ⟨j + 1, by omega, by omega, by go_num, Sp.set (a := ⟨b7, j, none⟩) (HB.out.spo (by decide) b7 rfl) _ HW4.out, Row.far (by simp; omega) (HC.out ▸ HY4.out), HM4.out.put (fun h => HG.out.rowS.unlike HB.out (by decide) b7 h rfl) _⟩
            · have hg7 : ¬ (j : Int) < (n7 : Int) := by omega
              have hput := HM4.out.put_field gxc_size k' 0 hkm (by omega) { m[k'] with id := -7 } (.int .i64 (-7)) (by simp [gxc])
              rw [Nat.add_zero] at hput
              have HP := Lib.hid hput
              have HXP := Lib.hid (HXM.out.set k' hkm (-7))
              clear hput
              generalize m[k'].id = z at *
              go_wp2_with fail
              go_roundg (gl.length - (k' + 1))
              case measure => omega
              case rel => exact ⟨k' + 1, by omega, by omega, by go_num, Sp.set (a := ⟨g, k' * 8, none⟩) (HG.out.rowS.spo (by decide) g rfl) _ HW4.out, Row.far (by simp; omega) (HC.out ▸ HY4.out), _, by rw [List.length_set]; exact HML.out, HP.out, HXP.out⟩
        · have hge : ¬ (k' : Int) < (gl.length : Int) := by omega
          clear hml
          go_wp2_with fail
          go_loopg [5] n4 (fun gg s5 wr => ∃ k : Nat, k ≤ n4 ∧ n4 - k ≤ gg ∧ s5 = .int .i64 k ∧ Aside (Sp (spo lo w) w wr ∧ Row wr w.heap.size cs))
          case atStart => exact ⟨0, Nat.zero_le _, by omega, rfl, HW2.out, HC.out ▸ HY2.out⟩
          case round =>
            obtain ⟨j, hj, hg2, rfl, HZ⟩ := hrel
            have HW4 := Lib.hid HZ.out.1
            have HY4 := Lib.hid (HC.out ▸ HZ.out.2)
            clear HZ HW2 HY2 HM2 q3_0 f3_0 l3_0 R3_0
            (apply Row.use (w := wr) (g := w.heap.size); (focus (repeat (first | (with_reducible exact Hid.out ‹Hid (Row _ _ _)›) | (with_reducible exact Row.newAt rfl) | (with_reducible apply Row.newAt; (simp; done)) | (with_reducible apply Row.set_) | (with_reducible apply Row.far; focus (simp <;> omega)) | (with_reducible apply Row.alloc) | (with_reducible apply Row.drew) | (with_reducible apply Row.drewN) | (with_reducible apply Row.ext (Hid.out ‹Hid (Ext _ _)›))))); intro q5_0 f5_0 l5_0 R5_0; (try simp only [List.setIfInBounds_toArray, List.set_cons_zero, List.set_cons_succ] at q5_0 R5_0))
            by_cases hl7 : j < n4
            · have hl7' : (j : Int) < (n4 : Int) := by omega
              obtain ⟨b7, rfl, hb7, hfz7, u7, hc7⟩ := (HW4.out.row HV.out).at' hl7 (i := 0) (by omega)
              have hgb7 := HV.out.bnd b7 rfl
              simp only [Nat.add_zero] at hc7 hfz7
              go_wp2_with fail
              go_roundg (n4 - (j + 1))
              case measure => omega
              case rel => exact ⟨j + 1, by omega, by omega, by go_num, Sp.set (a := ⟨b7, j * 3, none⟩) (HV.out.spo (by decide) b7 rfl) _ HW4.out, Row.far (by simp; omega) (HC.out ▸ HY4.out)⟩
            · have hg7 : ¬ (j : Int) < (n4 : Int) := by omega
              go_wp2_with fail
              go_end0
              exact ⟨rfl, HW4.out⟩
end Go.Proofs.YtbboonepfmkgnaaGreat

/- A pool: boxes and rows of one's own that outlive every spoiling. -/
namespace Go.Proofs.YtbboonepfmkgnaaGreat
set_option linter.unusedSimpArgs false
set_option linter.unusedVariables false
set_option maxRecDepth 100000
open Go Go.RowKit Lb

def spT3 : List TypeId := [36, 28, 3]
/-- boxes `bs` and rows `rs`, made behind w0, which is as it was -/
def Pool (w0 : World) (bs : List (Nat × TypeId × Array Value)) (rs : List (TypeId × Nat × Value)) (w : World) : Prop :=
  Ext w0 w ∧ (∀ x ∈ bs, Bx w x.1 x.2.1 x.2.2 ∧ x.2.1 ∉ spT3) ∧ ∀ x ∈ rs, RowS w0.heap.size x.1 x.2.1 w x.2.2
section
variable {w0 w w' : World} {bs : List (Nat × TypeId × Array Value)} {rs : List (TypeId × Nat × Value)}
theorem Pool.ext (h : Pool w0 bs rs w) (he : Ext w w') : Pool w0 bs rs w' := ⟨h.1.trans he, fun x hx => ⟨(h.2.1 x hx).1.ext he, (h.2.1 x hx).2⟩, fun x hx => (h.2.2 x hx).ext he⟩
theorem Pool.sp (h : Pool w0 bs rs w) (hb : ∀ x ∈ bs, x.2.1 ∉ spT) (hs : Sp (spo w0.heap.size w) w w') : Pool w0 bs rs w' :=
  ⟨h.1.fr hs.fr (fun q hq => hq.1), fun x hx => ⟨(h.2.1 x hx).1.fr hs.fr ((h.2.1 x hx).1.not_spo (hb x hx)), (h.2.1 x hx).2⟩, fun x hx => hs.row (h.2.2 x hx)⟩
theorem Pool.sp3 {own : Nat → Prop} (h : Pool w0 bs rs w) (hs : Sp own w w') (ho : ∀ q, own q → w0.heap.size ≤ q) (hn : ∀ p e cs, Bx w p e cs → e ∉ spT3 → ¬ own p) : Pool w0 bs rs w' :=
  ⟨h.1.fr hs.fr ho, fun x hx => ⟨(h.2.1 x hx).1.fr hs.fr (hn _ _ _ (h.2.1 x hx).1 (h.2.1 x hx).2), (h.2.1 x hx).2⟩, fun x hx => hs.row (h.2.2 x hx)⟩
theorem Pool.keep {bs2 : List (Nat × TypeId × Array Value)} (h : Pool w0 bs rs w) (hb : ∀ x ∈ bs2, x ∈ bs) : Pool w0 bs2 rs w := ⟨h.1, fun x hx => h.2.1 x (hb x hx), h.2.2⟩
theorem Pool.box (h : Pool w0 bs rs w) {p : Nat} {e : TypeId} {cs : Array Value} (hx : (p, e, cs) ∈ bs) : Row w p cs := (h.2.1 _ hx).1.row
theorem Pool.rows (h : Pool w0 bs rs w) {e : TypeId} {k : Nat} {v : Value} (hx : (e, k, v) ∈ rs) : RowS w0.heap.size e k w v := h.2.2 _ hx
theorem Pool.nil : Pool w [] [] w := ⟨Ext.refl _, fun _ h => (List.not_mem_nil h).elim, fun _ h => (List.not_mem_nil h).elim⟩
theorem Pool.addB (h : Pool w0 bs rs w) {p : Nat} {e : TypeId} {cs : Array Value} (hb : Bx w p e cs) (ht : e ∉ spT3) : Pool w0 ((p, e, cs) :: bs) rs w :=
  ⟨h.1, fun x hx => by rcases List.mem_cons.1 hx with rfl | hx; · exact ⟨hb, ht⟩
                       · exact h.2.1 x hx, h.2.2⟩
theorem Pool.addR (h : Pool w0 bs rs w) {e : TypeId} {k : Nat} {v : Value} (hb : RowS w0.heap.size e k w v) : Pool w0 bs ((e, k, v) :: rs) w :=
  ⟨h.1, h.2.1, fun x hx => by rcases List.mem_cons.1 hx with rfl | hx; · exact hb
                              · exact h.2.2 x hx⟩
theorem Pool.step (h : Pool w0 bs rs w) {X : World} (hx : Ext X w') (he : Ext w X) {p : Nat} {e : TypeId} {cs : Array Value} (hb : Bx X p e cs) (ht : e ∉ spT3) : Pool w0 ((p, e, cs) :: bs) rs w' := (Pool.addB (h.ext he) hb ht).ext hx
theorem Pool.own {α : Type} {e : TypeId} {k base : Nat} {enc : α → Array Value} {v : Value} {l : List α} (h : Pool w0 bs rs w) (ho : OwnL e k enc base w v l) (hb : w0.heap.size ≤ base) : Pool w0 bs ((e, k, v) :: rs) w := h.addR ((ho.lower hb).rowS)
theorem Pool.ld {base : Nat} {t0 t1 t2 : Value} {l : Ld} (h : Pool w0 bs rs w) (ho : OwnLd base w t0 t1 t2 l) (hb : w0.heap.size ≤ base) : Pool w0 bs ((36, 6, t0) :: (28, 5, t1) :: (3, 1, t2) :: rs) w := ((h.own ho.vd hb).own ho.tp hb).own ho.tk hb
end
theorem own_two {w : World} {base : Nat} (hb : base ≤ w.heap.size) (x y : Gx) {cs : Array Value} (hc : cs = #[.int .i64 x.id, .int .i64 x.zone, .int .i64 x.seq, x.sa, .int .i64 x.ver, x.si, .int .i64 x.left, .int .i64 x.untl, .int .i64 y.id, .int .i64 y.zone, .int .i64 y.seq, y.sa, .int .i64 y.ver, y.si, .int .i64 y.left, .int .i64 y.untl]) :
    OwnL 34 8 gxc base (w.alloc (.cells cs 34)) (.slice (some ⟨w.heap.size, 0, none⟩) 2 2) [x, y] := by
  subst hc
  exact ⟨rfl, .inr ⟨w.heap.size, 2, _, rfl, hb, heap_alloc_new w _, Nat.le_refl _, by decide, rfl, rfl⟩⟩
theorem pool_spoilLedger {w0 : World} {bs : List (Nat × TypeId × Array Value)} {rs : List (TypeId × Nat × Value)} {w : World} (h : Pool w0 bs rs w) (s0 s1 s2 : Value) (h0 : RowS w0.heap.size 36 6 w s0) (h1 : RowS w0.heap.size 28 5 w s1) (h2 : RowS w0.heap.size 3 1 w s2) :
    Calls Tryz.prog 25 #[.agg #[s0, s1, s2]] w fun e w' => e = .returned (.tuple #[]) ∧ Pool w0 bs rs w' := by
  refine (law_spoilLedger s0 s1 s2 _ w h0 h1 h2).mono ?_
  rintro e w' ⟨rfl, hs⟩
  refine ⟨rfl, h.sp3 hs (fun q hq => (own3_spo h0 h1 h2 (by decide) (by decide) (by decide) q hq).1) ?_⟩
  rintro p e cs hb ht (ho | ho | ho)
  · exact h0.box hb (by rintro rfl; exact ht (by decide)) ho
  · exact h1.box hb (by rintro rfl; exact ht (by decide)) ho
  · exact h2.box hb (by rintro rfl; exact ht (by decide)) ho
theorem pool_spoilTaps {w0 : World} {bs : List (Nat × TypeId × Array Value)} {rs : List (TypeId × Nat × Value)} {w : World} (h : Pool w0 bs rs w) (v : Value) (h0 : RowS w0.heap.size 28 5 w v) :
    Calls Tryz.prog 26 #[v] w fun e w' => e = .returned (.tuple #[]) ∧ Pool w0 bs rs w' := by
  refine (law_spoilTaps v _ w h0).mono ?_
  rintro e w' ⟨rfl, hs⟩
  refine ⟨rfl, h.sp3 hs (fun q hq => (h0.bnd q hq).1) ?_⟩
  intro p e cs hb ht ho
  exact h0.box hb (by rintro rfl; exact ht (by decide)) ho
theorem pool_spoilStation {w0 : World} {bs : List (Nat × TypeId × Array Value)} {rs : List (TypeId × Nat × Value)} {w : World} (h : Pool w0 bs rs w) (hb : ∀ x ∈ bs, x.2.1 ∉ spT) (s0 s1 s2 si sg sv : Value) (ver : Int) (gl : List Gx) (h0 : RowS w0.heap.size 36 6 w s0) (h1 : RowS w0.heap.size 28 5 w s1) (h2 : RowS w0.heap.size 3 1 w s2)
    (hi : RowS w0.heap.size 3 1 w si) (hv : RowS w0.heap.size 104 3 w sv) (hg : OwnL 34 8 gxc w0.heap.size w sg gl) (hx : GxS w0.heap.size w gl) :
    Calls Tryz.prog 27 #[.agg #[s0, s1, s2, .int .i64 ver, si, sg, sv]] w fun e w' => e = .returned (.tuple #[]) ∧ Pool w0 bs rs w' := by
  refine (law_spoilStation s0 s1 s2 si sg sv ver gl _ w h0 h1 h2 hi hv hg hx).mono ?_
  rintro e w' ⟨rfl, hs⟩
  exact ⟨rfl, h.sp hb hs⟩
theorem wp_pool {P : Program} {c : Code} {Q : Exit → Act → World → Prop} {a : Act} {w0 : World} {bs : List (Nat × TypeId × Array Value)} {rs : List (TypeId × Nat × Value)} {w : World} (hP : Pool w0 bs rs w) (k : ∀ W, Hid (Pool w0 bs rs W) → c.wp P Q a W) : c.wp P Q a w := k w hP
theorem ref_SameLedger_so (a : Ld) (s0 s1 s2 t0 t1 t2 : Value) (w : World) (hr0 : RdL 6 tkc w s0 a.tickets) (hr1 : RdL 5 tpc w s1 a.taps) (hr2 : RdL 1 inc w s2 a.verdicts) (ht0 : RdL 6 tkc w t0 a.tickets) (ht1 : RdL 5 tpc w t1 a.taps) (ht2 : RdL 1 inc w t2 a.verdicts) :
    Calls Tryz.prog 22 #[.agg #[s0, s1, s2], .agg #[t0, t1, t2]] w fun e w' => e = .returned (.bool true) ∧ Ext w w' := by
  have := ref_SameLedger a a s0 s1 s2 t0 t1 t2 w hr0 hr1 hr2 ht0 ht1 ht2
  rwa [decide_eq_true rfl] at this
theorem ref_SameDenied_so (a : Dn) (s u : Value) (w : World) (hr : RdL 1 inc w s a.ids) (hs : RdL 1 inc w u a.ids) :
    Calls Tryz.prog 24 #[.agg #[.int .i64 a.version, s], .agg #[.int .i64 a.version, u]] w fun e w' => e = .returned (.bool true) ∧ Ext w w' := by
  have := ref_SameDenied a a s u w hr hs
  rwa [show sameDn a a = true by simp [sameDn]] at this
theorem ref_SameGate_so (a : Gt) (sa si ta ti : Value) (w : World) (hr : RdL 5 tpc w sa a.alone) (hs : RdL 1 inc w si a.denied.ids) (hr2 : RdL 5 tpc w ta a.alone) (hs2 : RdL 1 inc w ti a.denied.ids) :
    Calls Tryz.prog 23 #[.agg (gta a sa si), .agg (gta a ta ti)] w fun e w' => e = .returned (.bool true) ∧ Ext w w' := by
  have := ref_SameGate a a sa si ta ti w hr hs hr2 hs2
  rwa [decide_eq_true rfl] at this
end Go.Proofs.YtbboonepfmkgnaaGreat

/- copiedLedger, copiedDenied. -/
namespace Go.Proofs.YtbboonepfmkgnaaGreat
set_option linter.unusedSimpArgs false
set_option linter.unusedVariables false
set_option maxRecDepth 100000
open Go Go.RowKit Lb

theorem bs0_tkS {d : Option Tmp} {ps : String} {af : Array Edge} {ty : TypeId} {Q : Exit → Act → World → Prop} (a : Act) (w : World) (K : Act → World → Prop) (h : K (a.put d (.slice (some ⟨w.heap.size, 0, none⟩) 0 0)) (w.alloc (.cells #[] 36))) :
    Oper.wp Tryz.prog { dst := d, op := Op.buildSlice 22 0 #[], type := ty, pos := ps, after := af, guard := none } a w K (NoPanic Q) := by
  go_simp
  simpa [Act.put] using h

set_option maxHeartbeats 8000000 in
theorem law_copiedLedger (l : Ld) (s0 s1 s2 : Value) (w : World) (hr0 : RdL 6 tkc w s0 l.tickets) (hr1 : RdL 5 tpc w s1 l.taps) (hr2 : RdL 1 inc w s2 l.verdicts) (hz : fitsL l) :
    Calls Tryz.prog 8 #[.agg #[s0, s1, s2]] w fun e w' => ∃ t0 t1 t2, e = .returned (.agg #[t0, t1, t2]) ∧ Ext w w' ∧ OwnL 36 6 tkc w.heap.size w' t0 l.tickets ∧ OwnL 28 5 tpc w.heap.size w' t1 l.taps ∧ OwnL 3 1 inc w.heap.size w' t2 l.verdicts := by
  have HT0 := Lib.hid hr0
  have HT1 := Lib.hid hr1
  have HT2 := Lib.hid hr2
  obtain ⟨A0, c0, rfl, hc0, hm0⟩ := hr0.form
  obtain ⟨A1, c1, rfl, hc1, hm1⟩ := hr1.form
  obtain ⟨A2, c2, rfl, hc2, hm2⟩ := hr2.form
  have HZ := Lib.hid (And.intro (And.intro (show l.tickets.length ≤ maxLen by omega) (And.intro (show l.taps.length ≤ maxLen by omega) (show l.verdicts.length ≤ maxLen by omega))) hz)
  clear hr0 hr1 hr2 hz hc0 hc1 hc2 hm0 hm1 hm2
  obtain ⟨i0, ji, ji0, ji1, ji2⟩ := info_parts info_tk
  obtain ⟨k0, kj, kj0, kj1, kj2⟩ := info_parts info_tp
  obtain ⟨m0, mj, mj0, mj1, mj2⟩ := info_parts info_it
  go_enter Tryz.func8, Tryz.ntmps8
  go_upto_region 1 with fail
  (apply wp_gen2 (w0 := w) (g0 := w.heap.size) (g1 := w.heap.size + 1); (focus (repeat (first | (with_reducible exact Hid.out ‹Hid (Row _ _ _)›) | (with_reducible exact Row.newAt rfl) | (with_reducible apply Row.newAt; (simp; done)) | (with_reducible apply Row.set_) | (with_reducible apply Row.far; focus (simp <;> omega)) | (with_reducible apply Row.alloc) | (with_reducible apply Row.drew) | (with_reducible apply Row.drewN) | (with_reducible apply Row.ext (Hid.out ‹Hid (Ext _ _)›))))); (focus (repeat (first | (with_reducible exact Hid.out ‹Hid (Row _ _ _)›) | (with_reducible exact Row.newAt rfl) | (with_reducible apply Row.newAt; (simp; done)) | (with_reducible apply Row.set_) | (with_reducible apply Row.far; focus (simp <;> omega)) | (with_reducible apply Row.alloc) | (with_reducible apply Row.drew) | (with_reducible apply Row.drewN) | (with_reducible apply Row.ext (Hid.out ‹Hid (Ext _ _)›))))); (focus (repeat (first | (with_reducible exact Ext.refl _) | (with_reducible refine Ext.alloc ?_ _) | (with_reducible apply Ext.setC; focus (simp <;> omega)) | (with_reducible refine Ext.drew ?_) | (with_reducible refine Ext.drewN ?_ _) | (with_reducible refine Ext.trans ?_ (Hid.out ‹Hid (Ext _ _)›))))); intro Y HY hzY Ra_0 Ra_1; (try simp only [List.setIfInBounds_toArray, List.set_cons_zero, List.set_cons_succ, World.size_alloc, size_set, World.heap_drewN, size_drew] at hzY Ra_0 Ra_1); have la_0 := Ra_0.out.size; have la_1 := Ra_1.out.size)
  have HK := Lib.hid (fun (w' : World) (h : Ext Y w') => (Row.ext h Ra_0.out).2.1)
  (refine T_begin (fun w' => Ext Y w') 13 (by kernel_rfl) ((Ext.refl _).drew) (fun hS => ?_); simp only [List.length_cons, List.length_nil])
  ((refine T_takeR (i := 1) (v := ?_) rfl (by kernel_rfl) (by first | exact wanted_none rfl | kernel_rfl) hS ?_ ?_; rotate_left; focus (intro w hSw; have hk := HK.out w hSw; clear hSw; go_simp; try (with_reducible rfl))); (try simp only [Act.put, List.setIfInBounds_toArray, List.set_cons_zero, List.set_cons_succ]); (refine T_takeR (i := 2) (v := ?_) rfl (by kernel_rfl) (by first | exact wanted_none rfl | kernel_rfl) hS ?_ ?_; rotate_left; focus (intro w hSw; have hk := HK.out w hSw; clear hSw; go_simp; try (with_reducible rfl))); (try simp only [Act.put, List.setIfInBounds_toArray, List.set_cons_zero, List.set_cons_succ]); (refine T_takeR (i := 5) (v := ?_) rfl (by kernel_rfl) (by first | exact wanted_none rfl | kernel_rfl) hS ?_ ?_; rotate_left; focus (intro w hSw; have hk := HK.out w hSw; clear hSw; go_simp; try (with_reducible rfl))); (try simp only [Act.put, List.setIfInBounds_toArray, List.set_cons_zero, List.set_cons_succ]); (refine T_takeR (i := 6) (v := ?_) rfl (by kernel_rfl) (by first | exact wanted_none rfl | kernel_rfl) hS ?_ ?_; rotate_left; focus (intro w hSw; have hk := HK.out w hSw; clear hSw; go_simp; try (with_reducible rfl))); (try simp only [Act.put, List.setIfInBounds_toArray, List.set_cons_zero, List.set_cons_succ]); (refine T_takeR (i := 9) (v := ?_) rfl (by kernel_rfl) (by first | exact wanted_none rfl | kernel_rfl) hS ?_ ?_; rotate_left; focus (intro w hSw; have hk := HK.out w hSw; clear hSw; go_simp; try (with_reducible rfl))); (try simp only [Act.put, List.setIfInBounds_toArray, List.set_cons_zero, List.set_cons_succ]); (refine T_takeR (i := 10) (v := ?_) rfl (by kernel_rfl) (by first | exact wanted_none rfl | kernel_rfl) hS ?_ ?_; rotate_left; focus (intro w hSw; have hk := HK.out w hSw; clear hSw; go_simp; try (with_reducible rfl))); (try simp only [Act.put, List.setIfInBounds_toArray, List.set_cons_zero, List.set_cons_succ]))
  have hwy : Ext w Y := by repeat (first | (with_reducible exact Ext.refl _) | (with_reducible refine Ext.alloc ?_ _) | (with_reducible apply Ext.setC; focus (simp <;> omega)) | (with_reducible refine Ext.drew ?_) | (with_reducible refine Ext.drewN ?_ _) | (with_reducible refine Ext.trans ?_ (Hid.out ‹Hid (Ext _ _)›)))
  refine T_jobs' 6 (fun _ => False) Y.heap.size [⟨0, 3, none, none, 36, 6, ([] : List Tk).length, encs tkc []⟩, ⟨3, 6, some 0, none, 36, 6, ([] ++ l.tickets).length, encs tkc ([] ++ l.tickets)⟩,
    ⟨4, 7, none, none, 28, 5, ([] : List Tp).length, encs tpc []⟩, ⟨7, 10, some 2, none, 28, 5, ([] ++ l.taps).length, encs tpc ([] ++ l.taps)⟩,
    ⟨8, 11, none, none, 3, 1, ([] : List Int).length, encs inc []⟩, ⟨11, 14, some 4, none, 3, 1, ([] ++ l.verdicts).length, encs inc ([] ++ l.verdicts)⟩] [false, false, false, false, false, false]
    (fun _ => none) rfl rfl (by kernel_rfl) (by kernel_rfl) (by kernel_rfl) (by kernel_rfl) ?hd ?hb ?hI ?hg ?hS ?hj ?hf
  case hd => intro q J hq; rcases q with _ | _ | _ | _ | _ | _ | q <;> simp only [List.getElem?_cons_zero, List.getElem?_cons_succ, List.getElem?_nil, Option.some.injEq, reduceCtorEq] at hq <;> subst hq <;> simp
  case hb => exact hS.size
  case hI => exact Inv.none
  case hg => intro q J hq hb; rcases q with _ | _ | _ | _ | _ | _ | q <;> simp only [List.getElem?_cons_zero, List.getElem?_cons_succ, List.getElem?_nil, Option.some.injEq, reduceCtorEq] at hq hb <;> simp at hb
  case hS => exact fun W h => hS.trans h.ext
  case hj =>
    intro q J hq hb
    have hzz := HZ.out
    obtain ⟨⟨z1, z2, z3⟩, z4, z5, z6⟩ := hzz
    rcases q with _ | _ | _ | _ | _ | _ | q <;> simp only [List.getElem?_cons_zero, List.getElem?_cons_succ, List.getElem?_nil, Option.some.injEq, reduceCtorEq] at hq hb <;> subst hq
    · refine owes_lit (enc := tkc) [] tkc_size rfl rfl rfl rfl rfl (by simp [maxLen]) rfl (fun a _ => wanted_none rfl) (fun a W K hag hK => bs0_tkS a W K ?_)
      simpa [encs] using hK
    · exact owes_app_rd (enc := tkc) (px := 0) (yt := 5) [] l.tickets Tryz.underlying22 ji ji0 ji1 ji2 rfl (by decide) tkc_size rfl rfl ⟨rfl, rfl, rfl, rfl⟩ ⟨rfl, rfl, rfl, rfl⟩ _ (by rfl) rfl (fun W h => HT0.out.ext (hwy.trans (hS.trans h.ext))) rfl (fun a _ => wanted_none rfl) rfl rfl (tk_one _) (by simpa using z1) (by simpa using z4)
    · refine owes_lit (enc := tpc) [] tpc_size rfl rfl rfl rfl rfl (by simp [maxLen]) rfl (fun a _ => wanted_none rfl) (fun a W K hag hK => bs0_tp a W K ?_)
      simpa [encs] using hK
    · exact owes_app_rd (enc := tpc) (px := 2) (yt := 9) [] l.taps Tryz.underlying23 kj kj0 kj1 kj2 rfl (by decide) tpc_size rfl rfl ⟨rfl, rfl, rfl, rfl⟩ ⟨rfl, rfl, rfl, rfl⟩ _ (by rfl) rfl (fun W h => HT1.out.ext (hwy.trans (hS.trans h.ext))) rfl (fun a _ => wanted_none rfl) rfl rfl (tp_one _) (by simpa using z2) (by simpa using z5)
    · refine owes_lit (enc := inc) [] inc_size rfl rfl rfl rfl rfl (by simp [maxLen]) rfl (fun a _ => wanted_none rfl) (fun a W K hag hK => ?_)
      go_simp
      simpa [encs, inc, Act.put] using hK
    · exact owes_app_rd (enc := inc) (px := 4) (yt := 13) [] l.verdicts Tryz.underlying24 mj mj0 mj1 mj2 rfl (by decide) inc_size rfl rfl ⟨rfl, rfl, rfl, rfl⟩ ⟨rfl, rfl, rfl, rfl⟩ _ (by rfl) rfl (fun W h => HT2.out.ext (hwy.trans (hS.trans h.ext))) rfl (fun a _ => wanted_none rfl) rfl rfl (in_one _) (by simpa using z3) (by simpa using z6)
  case hf =>
    intro f Z rows hinv hrows
    have h1 := hrows 1 _ rfl (by intro q K hq; rcases q with _ | _ | _ | _ | _ | _ | q <;> simp only [List.getElem?_cons_zero, List.getElem?_cons_succ, List.getElem?_nil, Option.some.injEq, reduceCtorEq] at hq <;> subst hq <;> simp)
    have h3 := hrows 3 _ rfl (by intro q K hq; rcases q with _ | _ | _ | _ | _ | _ | q <;> simp only [List.getElem?_cons_zero, List.getElem?_cons_succ, List.getElem?_nil, Option.some.injEq, reduceCtorEq] at hq <;> subst hq <;> simp)
    have h5 := hrows 5 _ rfl (by intro q K hq; rcases q with _ | _ | _ | _ | _ | _ | q <;> simp only [List.getElem?_cons_zero, List.getElem?_cons_succ, List.getElem?_nil, Option.some.injEq, reduceCtorEq] at hq <;> subst hq <;> simp)
    have o1 : OwnL 36 6 tkc Y.heap.size Z (f 1) ([] ++ l.tickets) := hinv.ok 1 _ h1
    have o3 : OwnL 28 5 tpc Y.heap.size Z (f 3) ([] ++ l.taps) := hinv.ok 3 _ h3
    have o5 : OwnL 3 1 inc Y.heap.size Z (f 5) ([] ++ l.verdicts) := hinv.ok 5 _ h5
    rw [List.nil_append] at o1 o3 o5
    have HZE := Lib.hid (hS.trans hinv.fr.ext)
    have hS : Ext Y Z := HZE.out
    clear hinv hrows h1 h3 h5
    simp only [putAll, if_true, if_false, Bool.false_eq_true, Act.put, List.setIfInBounds_toArray, List.set_cons_zero, List.set_cons_succ, Nat.zero_add, Nat.reduceAdd]
    generalize f 0 = v0 at *
    generalize f 2 = v2 at *
    generalize f 4 = v4 at *
    generalize f 1 = v1 at *
    generalize f 3 = v3 at *
    generalize f 5 = v5 at *
    obtain ⟨B1, d1, rfl⟩ := o1.form
    obtain ⟨B3, d3, rfl⟩ := o3.form
    obtain ⟨B5, d5, rfl⟩ := o5.form
    have HO1 := Lib.hid o1
    have HO3 := Lib.hid o3
    have HO5 := Lib.hid o5
    have hYZ := hS.size
    clear o1 o3 o5
    (apply Row.use (w := Z) (g := w.heap.size + 1); (focus (repeat (first | (with_reducible exact Hid.out ‹Hid (Row _ _ _)›) | (with_reducible exact Row.newAt rfl) | (with_reducible apply Row.newAt; (simp; done)) | (with_reducible apply Row.set_) | (with_reducible apply Row.far; focus (simp <;> omega)) | (with_reducible apply Row.alloc) | (with_reducible apply Row.drew) | (with_reducible apply Row.drewN) | (with_reducible apply Row.ext (Hid.out ‹Hid (Ext _ _)›))))); intro qn_0 fn_0 ln_0 Rn_0; (try simp only [List.setIfInBounds_toArray, List.set_cons_zero, List.set_cons_succ] at qn_0 Rn_0))
    ((refine T_takeP (i := 12) (v := ?_) rfl (by kernel_rfl) (by first | exact wanted_none rfl | kernel_rfl) (by first | exact .inr hS | exact .inl (by kernel_rfl)) ?_ ?_; rotate_left; focus (intro w; go_simp; try (with_reducible rfl))); (try simp only [Act.put, List.setIfInBounds_toArray, List.set_cons_zero, List.set_cons_succ]))
    (refine T_only (i := 13) rfl (by kernel_rfl) rfl (fun K hK => ?_); go_simp; refine hK.out _ _ (.inl (by kernel_rfl)) ?_; clear hK; (try simp only [Act.put, List.setIfInBounds_toArray, List.set_cons_zero, List.set_cons_succ]); refine T_done (by kernel_rfl) ?_ _)
    go_wp2_with fail
    refine bodyPost_ret (v := .agg #[.slice B1 l.tickets.length d1, .slice B3 l.taps.length d3, .slice B5 l.verdicts.length d5]) (by simp [results, Tryz.results8, go_sem, *]) rfl ⟨_, _, _, rfl, (show Ext w _ by repeat (first | (with_reducible exact Ext.refl _) | (with_reducible refine Ext.alloc ?_ _) | (with_reducible apply Ext.setC; focus (simp <;> omega)) | (with_reducible refine Ext.drew ?_) | (with_reducible refine Ext.drewN ?_ _) | (with_reducible refine Ext.trans ?_ (Hid.out ‹Hid (Ext _ _)›)))), ?_, ?_, ?_⟩
    · (refine OwnL.lower (base := Y.heap.size) ?_ (by omega); repeat (first | (with_reducible assumption) | (with_reducible exact Hid.out ‹Hid (OwnL _ _ _ _ _ _ _)›) | (with_reducible apply OwnL.setC; focus (simp <;> omega)) | (with_reducible refine OwnL.put ?_ (by assumption) _) | (with_reducible apply OwnL.alloc) | (with_reducible apply OwnL.drew) | (with_reducible apply OwnL.drewN) | (with_reducible refine OwnL.ext ?_ (Hid.out ‹Hid (Ext _ _)›))))
    · (refine OwnL.lower (base := Y.heap.size) ?_ (by omega); repeat (first | (with_reducible assumption) | (with_reducible exact Hid.out ‹Hid (OwnL _ _ _ _ _ _ _)›) | (with_reducible apply OwnL.setC; focus (simp <;> omega)) | (with_reducible refine OwnL.put ?_ (by assumption) _) | (with_reducible apply OwnL.alloc) | (with_reducible apply OwnL.drew) | (with_reducible apply OwnL.drewN) | (with_reducible refine OwnL.ext ?_ (Hid.out ‹Hid (Ext _ _)›))))
    · (refine OwnL.lower (base := Y.heap.size) ?_ (by omega); repeat (first | (with_reducible assumption) | (with_reducible exact Hid.out ‹Hid (OwnL _ _ _ _ _ _ _)›) | (with_reducible apply OwnL.setC; focus (simp <;> omega)) | (with_reducible refine OwnL.put ?_ (by assumption) _) | (with_reducible apply OwnL.alloc) | (with_reducible apply OwnL.drew) | (with_reducible apply OwnL.drewN) | (with_reducible refine OwnL.ext ?_ (Hid.out ‹Hid (Ext _ _)›))))

set_option maxHeartbeats 8000000 in
theorem law_copiedDenied (ver : Int) (ids : List Int) (s0 : Value) (w : World) (hr0 : RdL 1 inc w s0 ids) (hz : ids.length * 8 ≤ 140737488355328) :
    Calls Tryz.prog 10 #[.agg #[.int .i64 ver, s0]] w fun e w' => ∃ t0, e = .returned (.agg #[.int .i64 ver, t0]) ∧ Ext w w' ∧ OwnL 3 1 inc w.heap.size w' t0 ids := by
  have HT0 := Lib.hid hr0
  obtain ⟨A0, c0, rfl, hc0, hm0⟩ := hr0.form
  have HZ := Lib.hid (And.intro (show ids.length ≤ maxLen by omega) hz)
  clear hr0 hz hc0 hm0
  obtain ⟨m0, mj, mj0, mj1, mj2⟩ := info_parts info_it
  go_enter Tryz.func10, Tryz.ntmps10
  go_upto_region 1 with fail
  (apply wp_gen2 (w0 := w) (g0 := w.heap.size) (g1 := w.heap.size + 1); (focus (repeat (first | (with_reducible exact Hid.out ‹Hid (Row _ _ _)›) | (with_reducible exact Row.newAt rfl) | (with_reducible apply Row.newAt; (simp; done)) | (with_reducible apply Row.set_) | (with_reducible apply Row.far; focus (simp <;> omega)) | (with_reducible apply Row.alloc) | (with_reducible apply Row.drew) | (with_reducible apply Row.drewN) | (with_reducible apply Row.ext (Hid.out ‹Hid (Ext _ _)›))))); (focus (repeat (first | (with_reducible exact Hid.out ‹Hid (Row _ _ _)›) | (with_reducible exact Row.newAt rfl) | (with_reducible apply Row.newAt; (simp; done)) | (with_reducible apply Row.set_) | (with_reducible apply Row.far; focus (simp <;> omega)) | (with_reducible apply Row.alloc) | (with_reducible apply Row.drew) | (with_reducible apply Row.drewN) | (with_reducible apply Row.ext (Hid.out ‹Hid (Ext _ _)›))))); (focus (repeat (first | (with_reducible exact Ext.refl _) | (with_reducible refine Ext.alloc ?_ _) | (with_reducible apply Ext.setC; focus (simp <;> omega)) | (with_reducible refine Ext.drew ?_) | (with_reducible refine Ext.drewN ?_ _) | (with_reducible refine Ext.trans ?_ (Hid.out ‹Hid (Ext _ _)›))))); intro Y HY hzY Ra_0 Ra_1; (try simp only [List.setIfInBounds_toArray, List.set_cons_zero, List.set_cons_succ, World.size_alloc, size_set, World.heap_drewN, size_drew] at hzY Ra_0 Ra_1); have la_0 := Ra_0.out.size; have la_1 := Ra_1.out.size)
  have HK := Lib.hid (fun (w' : World) (h : Ext Y w') => (Row.ext h Ra_0.out).2.1)
  (refine T_begin (fun w' => Ext Y w') 7 (by kernel_rfl) ((Ext.refl _).drew) (fun hS => ?_); simp only [List.length_cons, List.length_nil])
  ((refine T_takeR (i := 0) (v := ?_) rfl (by kernel_rfl) (by first | exact wanted_none rfl | kernel_rfl) hS ?_ ?_; rotate_left; focus (intro w hSw; have hk := HK.out w hSw; clear hSw; go_simp; try (with_reducible rfl))); (try simp only [Act.put, List.setIfInBounds_toArray, List.set_cons_zero, List.set_cons_succ]); (refine T_takeR (i := 1) (v := ?_) rfl (by kernel_rfl) (by first | exact wanted_none rfl | kernel_rfl) hS ?_ ?_; rotate_left; focus (intro w hSw; have hk := HK.out w hSw; clear hSw; go_simp; try (with_reducible rfl))); (try simp only [Act.put, List.setIfInBounds_toArray, List.set_cons_zero, List.set_cons_succ]); (refine T_takeR (i := 3) (v := ?_) rfl (by kernel_rfl) (by first | exact wanted_none rfl | kernel_rfl) hS ?_ ?_; rotate_left; focus (intro w hSw; have hk := HK.out w hSw; clear hSw; go_simp; try (with_reducible rfl))); (try simp only [Act.put, List.setIfInBounds_toArray, List.set_cons_zero, List.set_cons_succ]); (refine T_takeR (i := 4) (v := ?_) rfl (by kernel_rfl) (by first | exact wanted_none rfl | kernel_rfl) hS ?_ ?_; rotate_left; focus (intro w hSw; have hk := HK.out w hSw; clear hSw; go_simp; try (with_reducible rfl))); (try simp only [Act.put, List.setIfInBounds_toArray, List.set_cons_zero, List.set_cons_succ]))
  have hwy : Ext w Y := by repeat (first | (with_reducible exact Ext.refl _) | (with_reducible refine Ext.alloc ?_ _) | (with_reducible apply Ext.setC; focus (simp <;> omega)) | (with_reducible refine Ext.drew ?_) | (with_reducible refine Ext.drewN ?_ _) | (with_reducible refine Ext.trans ?_ (Hid.out ‹Hid (Ext _ _)›)))
  refine T_jobs' 2 (fun _ => False) Y.heap.size [⟨2, 5, none, none, 3, 1, ([] : List Int).length, encs inc []⟩, ⟨5, 8, some 0, none, 3, 1, ([] ++ ids).length, encs inc ([] ++ ids)⟩] [false, false]
    (fun _ => none) rfl rfl (by kernel_rfl) (by kernel_rfl) (by kernel_rfl) (by kernel_rfl) ?hd ?hb ?hI ?hg ?hS ?hj ?hf
  case hd => intro q J hq; rcases q with _ | _ | q <;> simp only [List.getElem?_cons_zero, List.getElem?_cons_succ, List.getElem?_nil, Option.some.injEq, reduceCtorEq] at hq <;> subst hq <;> simp
  case hb => exact hS.size
  case hI => exact Inv.none
  case hg => intro q J hq hb; rcases q with _ | _ | q <;> simp only [List.getElem?_cons_zero, List.getElem?_cons_succ, List.getElem?_nil, Option.some.injEq, reduceCtorEq] at hq hb <;> simp at hb
  case hS => exact fun W h => hS.trans h.ext
  case hj =>
    intro q J hq hb
    obtain ⟨z3, z6⟩ := HZ.out
    rcases q with _ | _ | q <;> simp only [List.getElem?_cons_zero, List.getElem?_cons_succ, List.getElem?_nil, Option.some.injEq, reduceCtorEq] at hq hb <;> subst hq
    · refine owes_lit (enc := inc) [] inc_size rfl rfl rfl rfl rfl (by simp [maxLen]) rfl (fun a _ => wanted_none rfl) (fun a W K hag hK => ?_)
      go_simp
      simpa [encs, inc, Act.put] using hK
    · exact owes_app_rd (enc := inc) (px := 0) (yt := 7) [] ids Tryz.underlying24 mj mj0 mj1 mj2 rfl (by decide) inc_size rfl rfl ⟨rfl, rfl, rfl, rfl⟩ ⟨rfl, rfl, rfl, rfl⟩ _ (by rfl) rfl (fun W h => HT0.out.ext (hwy.trans (hS.trans h.ext))) rfl (fun a _ => wanted_none rfl) rfl rfl (in_one _) (by simpa using z3) (by simpa using z6)
  case hf =>
    intro f Z rows hinv hrows
    have h1 := hrows 1 _ rfl (by intro q K hq; rcases q with _ | _ | q <;> simp only [List.getElem?_cons_zero, List.getElem?_cons_succ, List.getElem?_nil, Option.some.injEq, reduceCtorEq] at hq <;> subst hq <;> simp)
    have o1 : OwnL 3 1 inc Y.heap.size Z (f 1) ([] ++ ids) := hinv.ok 1 _ h1
    rw [List.nil_append] at o1
    have HZE := Lib.hid (hS.trans hinv.fr.ext)
    have hS : Ext Y Z := HZE.out
    clear hinv hrows h1
    simp only [putAll, if_true, if_false, Bool.false_eq_true, Act.put, List.setIfInBounds_toArray, List.set_cons_zero, List.set_cons_succ, Nat.zero_add, Nat.reduceAdd]
    generalize f 0 = v0 at *
    generalize f 1 = v1 at *
    obtain ⟨B1, d1, rfl⟩ := o1.form
    have HO1 := Lib.hid o1
    have hYZ := hS.size
    clear o1
    (apply Row.use (w := Z) (g := w.heap.size + 1); (focus (repeat (first | (with_reducible exact Hid.out ‹Hid (Row _ _ _)›) | (with_reducible exact Row.newAt rfl) | (with_reducible apply Row.newAt; (simp; done)) | (with_reducible apply Row.set_) | (with_reducible apply Row.far; focus (simp <;> omega)) | (with_reducible apply Row.alloc) | (with_reducible apply Row.drew) | (with_reducible apply Row.drewN) | (with_reducible apply Row.ext (Hid.out ‹Hid (Ext _ _)›))))); intro qn_0 fn_0 ln_0 Rn_0; (try simp only [List.setIfInBounds_toArray, List.set_cons_zero, List.set_cons_succ] at qn_0 Rn_0))
    ((refine T_takeP (i := 6) (v := ?_) rfl (by kernel_rfl) (by first | exact wanted_none rfl | kernel_rfl) (by first | exact .inr hS | exact .inl (by kernel_rfl)) ?_ ?_; rotate_left; focus (intro w; go_simp; try (with_reducible rfl))); (try simp only [Act.put, List.setIfInBounds_toArray, List.set_cons_zero, List.set_cons_succ]))
    (refine T_only (i := 7) rfl (by kernel_rfl) rfl (fun K hK => ?_); go_simp; refine hK.out _ _ (.inl (by kernel_rfl)) ?_; clear hK; (try simp only [Act.put, List.setIfInBounds_toArray, List.set_cons_zero, List.set_cons_succ]); refine T_done (by kernel_rfl) ?_ _)
    go_wp2_with fail
    refine bodyPost_ret (v := .agg #[.int .i64 ver, .slice B1 ids.length d1]) (by simp [results, Tryz.results10, go_sem, *]) rfl ⟨_, rfl, (show Ext w _ by repeat (first | (with_reducible exact Ext.refl _) | (with_reducible refine Ext.alloc ?_ _) | (with_reducible apply Ext.setC; focus (simp <;> omega)) | (with_reducible refine Ext.drew ?_) | (with_reducible refine Ext.drewN ?_ _) | (with_reducible refine Ext.trans ?_ (Hid.out ‹Hid (Ext _ _)›)))), ?_⟩
    (refine OwnL.lower (base := Y.heap.size) ?_ (by omega); repeat (first | (with_reducible assumption) | (with_reducible exact Hid.out ‹Hid (OwnL _ _ _ _ _ _ _)›) | (with_reducible apply OwnL.setC; focus (simp <;> omega)) | (with_reducible refine OwnL.put ?_ (by assumption) _) | (with_reducible apply OwnL.alloc) | (with_reducible apply OwnL.drew) | (with_reducible apply OwnL.drewN) | (with_reducible refine OwnL.ext ?_ (Hid.out ‹Hid (Ext _ _)›))))
end Go.Proofs.YtbboonepfmkgnaaGreat

/- A drawn region: some operations come in whatever order they may; what they leave is told by a predicate of those that came. -/
namespace Go.Proofs.YtbboonepfmkgnaaGreat
open Go Go.RowKit
set_option linter.unusedSimpArgs false
set_option linter.unusedVariables false
set_option maxRecDepth 100000

theorem mark_false (L : Array Bool) : ∀ (ns : List Nat) (k : Nat), mark L ns (List.replicate k false) = L
  | [], k => by cases k <;> (unfold mark; rfl)
  | n :: ns, 0 => by unfold mark; rfl
  | n :: ns, k + 1 => by
    rw [List.replicate_succ]
    unfold mark
    simp only [Bool.false_eq_true, if_false]
    exact mark_false L ns k

/-- what the kernel looks at -/
def phaseOk (md : Region.Mode) (ops : Array Oper) (L : Array Bool) (nums : List Nat) (deps : Nat → List Bool → Bool) : Bool :=
  (bools (List.replicate nums.length false)).all fun cs => cs.all id || !closedB md ops (mark L nums cs) || (!(Region.ready md ops (mark L nums cs)).isEmpty && (Region.ready md ops (mark L nums cs)).all fun i => (List.range nums.length).any fun p => nums[p]? == some i && (cs[p]? == some false && (deps p cs && (match ops[i]? with | some o => o.guard.isNone | none => false))))

section
variable {P : Program} {l : List Oper} {Q : Exit → Act → World → Prop} {md : Region.Mode} {S : World → Prop}
theorem T_phase {n fuel : Nat} {listed : Array Bool} {a0 : Act} {w0 : World} (m : Nat) (nums : List Nat) (deps : Nat → List Bool → Bool) (hm : nums.length = m) (hcl : closedB md l.toArray listed = true)
    (hok : phaseOk md l.toArray listed nums deps = true) (J : List Bool → Act → World → Prop) (h0 : J (List.replicate m false) a0 w0) (hS : ∀ bs a w, bs.length = m → J bs a w → S w)
    (hj : ∀ (p i : Nat) (bs : List Bool) (a : Act) (w : World) (o : Oper), nums[p]? = some i → bs.length = m → bs[p]? = some false → deps p bs = true → J bs a w → l[i]? = some o → ∀ K : Act → World → Prop, Hid (∀ a' w', J (bs.set p true) a' w' → K a' w') → Oper.wp P o a w K (NoPanic Q))
    (hfin : ∀ a w, J (List.replicate m true) a w → wpAnyT P md l.toArray (NoPanic Q) S n fuel (mark listed nums (List.replicate m true)) a w) :
    wpAnyT P md l.toArray (NoPanic Q) S n (fuel + m) listed a0 w0 := by
  have hmain : ∀ (d : Nat) (bs : List Bool) (a : Act) (w : World), (bs.filter (!·)).length = d → bs.length = m → Closed md l.toArray (mark listed nums bs) → J bs a w →
      wpAnyT P md l.toArray (NoPanic Q) S n (fuel + d) (mark listed nums bs) a w := by
    intro d
    induction d with
    | zero =>
      intro bs a w hc hbl hclo hJ
      have hbs : bs = List.replicate m true := by
        apply List.ext_getElem?
        intro p
        by_cases hp : p < bs.length
        · rw [List.getElem?_replicate, if_pos (by omega), List.getElem?_eq_getElem hp]
          cases hb : bs[p] with
          | true => rfl
          | false =>
            exfalso
            have : false ∈ bs.filter (!·) := List.mem_filter.2 ⟨hb ▸ List.getElem_mem hp, rfl⟩
            rw [List.eq_nil_of_length_eq_zero hc] at this
            cases this
        · rw [List.getElem?_eq_none (by omega), List.getElem?_eq_none (by simp; omega)]
      subst hbs
      exact hfin a w hJ
    | succ d ih =>
      intro bs a w hc hbl hclo hJ
      have hk := List.all_eq_true.1 hok bs (bools_mem (List.replicate nums.length false) bs (by simp; omega) (fun p hp => by
        rw [List.getElem?_replicate] at hp
        split at hp
        · cases hp
        · cases hp))
      have hnot : bs.all id = false := by
        cases ha : bs.all id with
        | false => rfl
        | true =>
          exfalso
          have : bs.filter (!·) = [] := by
            rw [List.filter_eq_nil_iff]
            intro b hb
            have := List.all_eq_true.1 ha b hb
            simp at this
            simp [this]
          rw [this] at hc
          simp at hc
      simp only [hnot, closedB_complete hclo, Bool.not_true, Bool.false_or, Bool.or_eq_true, Bool.and_eq_true, Bool.not_eq_true', List.isEmpty_eq_false_iff, Bool.false_eq_true, false_or] at hk
      refine ⟨fun h => absurd h hk.1, fun i hi => ?_⟩
      have hjk := List.all_eq_true.1 hk.2 i hi
      obtain ⟨p, hp, hpj⟩ := List.any_eq_true.1 hjk
      have hpl := List.mem_range.1 hp
      simp only [Bool.and_eq_true, beq_iff_eq] at hpj
      obtain ⟨hnum, hbp, hdep, hgd⟩ := hpj
      cases ho : l.toArray[i]? with
      | none => rw [ho] at hgd; simp at hgd
      | some o =>
        rw [ho] at hgd
        have hg : o.guard = none := by simpa using hgd
        have hmk : (mark listed nums bs).setIfInBounds i true = mark listed nums (bs.set p true) := mark_at _ _ _ p i hnum (by omega)
        have hcnt : ((bs.set p true).filter (!·)).length = d := by
          have hpb : p < bs.length := by omega
          have hbe : bs[p] = false := by
            rw [List.getElem?_eq_getElem hpb] at hbp
            simpa using hbp
          have e1 : bs = bs.take p ++ false :: bs.drop (p + 1) := by
            have e2 := List.drop_eq_getElem_cons hpb
            rw [hbe] at e2
            rw [← e2, List.take_append_drop]
          have e3 : bs.set p true = bs.take p ++ true :: bs.drop (p + 1) := by
            rw [List.set_eq_take_append_cons_drop, if_pos hpb]
          rw [e3]
          rw [e1] at hc
          simp only [List.filter_append, List.filter_cons, Bool.not_false, Bool.not_true, if_true, List.length_append, List.length_cons, Bool.false_eq_true, if_false] at hc ⊢
          omega
        have hclo' : Closed md l.toArray (mark listed nums (bs.set p true)) := by rw [← hmk]; exact Closed.set hclo hi
        refine wpOp_step ho fun K0 hK0 => ?_
        rw [if_pos (wanted_none hg)]
        refine hj p i bs a w o hnum hbl hbp hdep hJ (by simpa using ho) K0 (Lib.hid fun a' w' hJ' => hK0 a' w' ⟨.inr (hS _ _ _ (by simpa using hbl) hJ'), ?_⟩)
        rw [hmk]
        exact ih _ _ _ hcnt (by simpa using hbl) hclo' hJ'
  have hr : (List.replicate m false).filter (!·) = List.replicate m false := by
    rw [List.filter_eq_self]
    intro b hb
    rw [List.eq_of_mem_replicate hb]
    rfl
  have h := hmain m (List.replicate m false) a0 w0 (by rw [hr]; simp) (by simp) (by rw [mark_false]; exact closedB_spec hcl) h0
  rw [mark_false] at h
  exact h
/-- the same, J told of the act at the beginning -/
theorem T_phaseA {n fuel : Nat} {listed : Array Bool} {a0 : Act} {w0 : World} (m : Nat) (nums : List Nat) (deps : Nat → List Bool → Bool) (hm : nums.length = m) (hcl : closedB md l.toArray listed = true)
    (hok : phaseOk md l.toArray listed nums deps = true) (J : Act → List Bool → Act → World → Prop) (h0 : J a0 (List.replicate m false) a0 w0) (hS : ∀ bs a w, bs.length = m → J a0 bs a w → S w)
    (hj : ∀ (p i : Nat) (bs : List Bool) (a : Act) (w : World) (o : Oper), nums[p]? = some i → bs.length = m → bs[p]? = some false → deps p bs = true → J a0 bs a w → l[i]? = some o → ∀ K : Act → World → Prop, Hid (∀ a' w', J a0 (bs.set p true) a' w' → K a' w') → Oper.wp P o a w K (NoPanic Q))
    (hfin : ∀ a w, J a0 (List.replicate m true) a w → wpAnyT P md l.toArray (NoPanic Q) S n fuel (mark listed nums (List.replicate m true)) a w) :
    wpAnyT P md l.toArray (NoPanic Q) S n (fuel + m) listed a0 w0 := T_phase m nums deps hm hcl hok (J a0) h0 hS hj hfin
end
end Go.Proofs.YtbboonepfmkgnaaGreat

/- copiedGate. -/
namespace Go.Proofs.YtbboonepfmkgnaaGreat
set_option linter.unusedSimpArgs false
set_option linter.unusedVariables false
set_option maxRecDepth 100000
open Go Go.RowKit Lb

set_option maxHeartbeats 8000000 in
theorem law_copiedGate (g : Gt) (sa si : Value) (w : World) (hr : RdL 5 tpc w sa g.alone) (hs : RdL 1 inc w si g.denied.ids) (hza : g.alone.length * 40 ≤ 140737488355328) (hzi : g.denied.ids.length * 8 ≤ 140737488355328) :
    Calls Tryz.prog 9 #[.agg #[.int .i64 g.id, .int .i64 g.zone, .int .i64 g.seq, sa, .int .i64 g.denied.version, si, .int .i64 g.left, .int .i64 g.untl]] w fun e w' =>
      ∃ ta ti, e = .returned (.agg #[.int .i64 g.id, .int .i64 g.zone, .int .i64 g.seq, ta, .int .i64 g.denied.version, ti, .int .i64 g.left, .int .i64 g.untl]) ∧ Ext w w' ∧ OwnL 28 5 tpc w.heap.size w' ta g.alone ∧ OwnL 3 1 inc w.heap.size w' ti g.denied.ids := by
  obtain ⟨id, zone, seq, al, ⟨ver, ids⟩, left, untl⟩ := g
  simp only at hr hs hza hzi ⊢
  have HC := Lib.hid (fun (w' : World) (h : Ext w w') => law_copiedDenied ver ids si w' (hs.ext h) hzi)
  have HT := Lib.hid hr
  obtain ⟨A0, c0, rfl, hc0, hm0⟩ := hr.form
  obtain ⟨A1, c1, rfl, -, -⟩ := hs.form
  have HZ := Lib.hid (And.intro (show al.length ≤ maxLen by omega) hza)
  clear hr hs hza hzi hc0 hm0
  obtain ⟨k0, kj, kj0, kj1, kj2⟩ := info_parts info_tp
  go_enter Tryz.func9, Tryz.ntmps9
  go_upto_region 1 with fail
  (apply wp_gen2 (w0 := w) (g0 := w.heap.size) (g1 := w.heap.size + 1); (focus (repeat (first | (with_reducible exact Hid.out ‹Hid (Row _ _ _)›) | (with_reducible exact Row.newAt rfl) | (with_reducible apply Row.newAt; (simp; done)) | (with_reducible apply Row.set_) | (with_reducible apply Row.far; focus (simp <;> omega)) | (with_reducible apply Row.alloc) | (with_reducible apply Row.drew) | (with_reducible apply Row.drewN) | (with_reducible apply Row.ext (Hid.out ‹Hid (Ext _ _)›))))); (focus (repeat (first | (with_reducible exact Hid.out ‹Hid (Row _ _ _)›) | (with_reducible exact Row.newAt rfl) | (with_reducible apply Row.newAt; (simp; done)) | (with_reducible apply Row.set_) | (with_reducible apply Row.far; focus (simp <;> omega)) | (with_reducible apply Row.alloc) | (with_reducible apply Row.drew) | (with_reducible apply Row.drewN) | (with_reducible apply Row.ext (Hid.out ‹Hid (Ext _ _)›))))); (focus (repeat (first | (with_reducible exact Ext.refl _) | (with_reducible refine Ext.alloc ?_ _) | (with_reducible apply Ext.setC; focus (simp <;> omega)) | (with_reducible refine Ext.drew ?_) | (with_reducible refine Ext.drewN ?_ _) | (with_reducible refine Ext.trans ?_ (Hid.out ‹Hid (Ext _ _)›))))); intro Y HY hzY Ra_0 Ra_1; (try simp only [List.setIfInBounds_toArray, List.set_cons_zero, List.set_cons_succ, World.size_alloc, size_set, World.heap_drewN, size_drew] at hzY Ra_0 Ra_1); have la_0 := Ra_0.out.size; have la_1 := Ra_1.out.size)
  have HK := Lib.hid (fun (w' : World) (h : Ext Y w') => (Row.ext h Ra_0.out).2.1)
  (refine T_begin (fun w' => Ext Y w') 8 (by kernel_rfl) ((Ext.refl _).drew) (fun hS => ?_); simp only [List.length_cons, List.length_nil])
  ((refine T_takeR (i := 1) (v := ?_) rfl (by kernel_rfl) (by first | exact wanted_none rfl | kernel_rfl) hS ?_ ?_; rotate_left; focus (intro w hSw; have hk := HK.out w hSw; clear hSw; go_simp; try (with_reducible rfl))); (try simp only [Act.put, List.setIfInBounds_toArray, List.set_cons_zero, List.set_cons_succ]); (refine T_takeR (i := 2) (v := ?_) rfl (by kernel_rfl) (by first | exact wanted_none rfl | kernel_rfl) hS ?_ ?_; rotate_left; focus (intro w hSw; have hk := HK.out w hSw; clear hSw; go_simp; try (with_reducible rfl))); (try simp only [Act.put, List.setIfInBounds_toArray, List.set_cons_zero, List.set_cons_succ]); (refine T_takeR (i := 4) (v := ?_) rfl (by kernel_rfl) (by first | exact wanted_none rfl | kernel_rfl) hS ?_ ?_; rotate_left; focus (intro w hSw; have hk := HK.out w hSw; clear hSw; go_simp; try (with_reducible rfl))); (try simp only [Act.put, List.setIfInBounds_toArray, List.set_cons_zero, List.set_cons_succ]); (refine T_takeR (i := 5) (v := ?_) rfl (by kernel_rfl) (by first | exact wanted_none rfl | kernel_rfl) hS ?_ ?_; rotate_left; focus (intro w hSw; have hk := HK.out w hSw; clear hSw; go_simp; try (with_reducible rfl))); (try simp only [Act.put, List.setIfInBounds_toArray, List.set_cons_zero, List.set_cons_succ]))
  have hwy : Ext w Y := by repeat (first | (with_reducible exact Ext.refl _) | (with_reducible refine Ext.alloc ?_ _) | (with_reducible apply Ext.setC; focus (simp <;> omega)) | (with_reducible refine Ext.drew ?_) | (with_reducible refine Ext.drewN ?_ _) | (with_reducible refine Ext.trans ?_ (Hid.out ‹Hid (Ext _ _)›)))
  refine T_only (i := 0) rfl (by kernel_rfl) rfl (fun K hK => ?_)
  refine bs0_tp _ _ _ ?_
  have hS0 := hS.alloc (.cells #[] 28)
  refine hK.out _ _ (.inr hS0) ?_
  clear hK hS
  generalize hY0 : Y.drew = Y0 at *
  have o0 : OwnL 28 5 tpc Y.heap.size (Y0.alloc (.cells #[] 28)) (.slice (some ⟨Y0.heap.size, 0, none⟩) 0 0) ([] : List Tp) := OwnL.made rfl (by rw [← hY0]; exact Nat.le_refl _)
  clear hY0
  generalize Y0.alloc (.cells #[] 28) = Y1 at *
  generalize (Value.slice (some ⟨Y0.heap.size, 0, none⟩) 0 0) = v3 at *
  simp only [Act.put, List.setIfInBounds_toArray, List.set_cons_zero, List.set_cons_succ]
  refine T_only (i := 3) rfl (by kernel_rfl) rfl (fun K hK => ?_)
  refine wp_append_rd (enc := tpc) (k := 5) _ (.tmp 3) (.tmp 5) 23 rfl Y.heap.size 28 k0 _ _ Tryz.underlying23 kj kj0 kj1 kj2 rfl (by decide) tpc_size v3 [] rfl o0 (.slice A0 al.length c0) al rfl (HT.out.ext (hwy.trans hS0)) (tp_one _) (by simpa using HZ.out.1) (by simpa using HZ.out.2) hS0.size ?_
  intro v6 Y2 o6 o2 o3
  rw [List.nil_append] at o6
  have hS : Ext Y Y2 := hS0.grown o2 (fun q hq => (o0.lt q hq).1)
  refine hK.out _ _ (.inr hS) ?_
  clear hK o2 o3 o0 hS0
  simp only [Act.put, List.setIfInBounds_toArray, List.set_cons_zero, List.set_cons_succ]
  obtain ⟨C, d6, rfl⟩ := o6.form
  have HO6 := Lib.hid o6
  have hy2 := hS.size
  clear o6
  ((refine T_takeP (i := 7) (v := ?_) rfl (by kernel_rfl) (by first | exact wanted_none rfl | kernel_rfl) (by first | exact .inr hS | exact .inl (by kernel_rfl)) ?_ ?_; rotate_left; focus (intro w; go_simp; try (with_reducible rfl))); (try simp only [Act.put, List.setIfInBounds_toArray, List.set_cons_zero, List.set_cons_succ]))
  (refine T_only (i := 6) rfl (by kernel_rfl) rfl (fun K hK => ?_); go_simp)
  refine (HC.out _ (hwy.trans hS)).mono ?_
  rintro e Z ⟨t0, rfl, h1, o1⟩
  obtain ⟨B, d, rfl⟩ := o1.form
  have hSZ := hS.trans h1
  have HE := Lib.hid hSZ
  have HO9 := Lib.hid (o1.lower hy2)
  have HO6Z := Lib.hid (HO6.out.ext h1)
  clear hS h1 o1
  go_wp2_with fail
  have hS := HE.out
  refine hK.out _ _ (.inr hS) ?_
  clear hK
  (try simp only [Act.put, List.setIfInBounds_toArray, List.set_cons_zero, List.set_cons_succ])
  have hYZ := hS.size
  (apply Row.use (w := Z) (g := w.heap.size); (focus (repeat (first | (with_reducible exact Hid.out ‹Hid (Row _ _ _)›) | (with_reducible exact Row.newAt rfl) | (with_reducible apply Row.newAt; (simp; done)) | (with_reducible apply Row.set_) | (with_reducible apply Row.far; focus (simp <;> omega)) | (with_reducible apply Row.alloc) | (with_reducible apply Row.drew) | (with_reducible apply Row.drewN) | (with_reducible apply Row.ext (Hid.out ‹Hid (Ext _ _)›))))); intro qn_0 fn_0 ln_0 Rn_0; (try simp only [List.setIfInBounds_toArray, List.set_cons_zero, List.set_cons_succ] at qn_0 Rn_0); apply Row.use (w := Z) (g := w.heap.size + 1); (focus (repeat (first | (with_reducible exact Hid.out ‹Hid (Row _ _ _)›) | (with_reducible exact Row.newAt rfl) | (with_reducible apply Row.newAt; (simp; done)) | (with_reducible apply Row.set_) | (with_reducible apply Row.far; focus (simp <;> omega)) | (with_reducible apply Row.alloc) | (with_reducible apply Row.drew) | (with_reducible apply Row.drewN) | (with_reducible apply Row.ext (Hid.out ‹Hid (Ext _ _)›))))); intro qn_1 fn_1 ln_1 Rn_1; (try simp only [List.setIfInBounds_toArray, List.set_cons_zero, List.set_cons_succ] at qn_1 Rn_1))
  ((refine T_only (i := 8) rfl (by kernel_rfl) rfl (fun K hK => ?_); go_simp; refine hK.out _ _ (.inl (by kernel_rfl)) ?_; clear hK; (try simp only [Act.put, List.setIfInBounds_toArray, List.set_cons_zero, List.set_cons_succ])))
  ((refine T_takeP (i := 9) (v := ?_) rfl (by kernel_rfl) (by first | exact wanted_none rfl | kernel_rfl) (by first | exact .inr hS | exact .inl (by kernel_rfl)) ?_ ?_; rotate_left; focus (intro w; go_simp; try (with_reducible rfl))); (try simp only [Act.put, List.setIfInBounds_toArray, List.set_cons_zero, List.set_cons_succ]))
  ((refine T_only (i := 10) rfl (by kernel_rfl) rfl (fun K hK => ?_); go_simp; refine hK.out _ _ (.inl (by kernel_rfl)) ?_; clear hK; (try simp only [Act.put, List.setIfInBounds_toArray, List.set_cons_zero, List.set_cons_succ])))
  refine T_done (by kernel_rfl) ?_ _
  go_wp2_with fail
  refine bodyPost_ret (v := .agg #[.int .i64 id, .int .i64 zone, .int .i64 seq, .slice C al.length d6, .int .i64 ver, .slice B ids.length d, .int .i64 left, .int .i64 untl]) (by simp [results, Tryz.results9, go_sem, *]) rfl ⟨_, _, rfl, (show Ext w _ by repeat (first | (with_reducible exact Ext.refl _) | (with_reducible refine Ext.alloc ?_ _) | (with_reducible apply Ext.setC; focus (simp <;> omega)) | (with_reducible refine Ext.drew ?_) | (with_reducible refine Ext.drewN ?_ _) | (with_reducible refine Ext.trans ?_ (Hid.out ‹Hid (Ext _ _)›)))), ?_, ?_⟩
  · (refine OwnL.lower (base := Y.heap.size) ?_ (by omega); repeat (first | (with_reducible assumption) | (with_reducible exact Hid.out ‹Hid (OwnL _ _ _ _ _ _ _)›) | (with_reducible apply OwnL.setC; focus (simp <;> omega)) | (with_reducible refine OwnL.put ?_ (by assumption) _) | (with_reducible apply OwnL.alloc) | (with_reducible apply OwnL.drew) | (with_reducible apply OwnL.drewN) | (with_reducible refine OwnL.ext ?_ (Hid.out ‹Hid (Ext _ _)›))))
  · (refine OwnL.lower (base := Y.heap.size) ?_ (by omega); repeat (first | (with_reducible assumption) | (with_reducible exact Hid.out ‹Hid (OwnL _ _ _ _ _ _ _)›) | (with_reducible apply OwnL.setC; focus (simp <;> omega)) | (with_reducible refine OwnL.put ?_ (by assumption) _) | (with_reducible apply OwnL.alloc) | (with_reducible apply OwnL.drew) | (with_reducible apply OwnL.drewN) | (with_reducible refine OwnL.ext ?_ (Hid.out ‹Hid (Ext _ _)›))))
end Go.Proofs.YtbboonepfmkgnaaGreat
