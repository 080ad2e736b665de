/- slices.BinarySearch and slices.Insert over int, laid from the shelf in plain words. -/
import Derived.Shelf.Slices.SearchI
import Derived.Shelf.Slices.Empties
import Derived.Shelf.Spec.SlicesInsert
import Derived.Shelf.Spec.SlicesInsertGrow
import Derived.Test.YthollackhkiofaaDnC
import Derived.Test.YthollackhkiofaaOwnB
namespace Go.Proofs.Ythollackhkiofaa
set_option linter.unusedSimpArgs false
set_option linter.unusedVariables false
set_option maxRecDepth 100000
open Go Go.RowKit Go.Shelf Lb

def inRen : Go.Shelf.Ren := ⟨fun | 21 => 86 | 27 => 94 | 28 => 95 | 35 => 99 | 39 => 101 | 25 => 85 | 31 => 92 | 32 => 93 | 37 => 98 | n => n, fun | 0 => 0 | 3 => 3 | 4 => 4 | 22 => 41 | 40 => 118 | n => n, fun | n => n⟩
theorem inLays : Go.Proofs.Lays2.n21 Try.prog inRen := {
  mixed := by kernel_rfl
  f21 := Try.func86.trans (congrArg some (by kernel_rfl))
  f27 := Try.func94.trans (congrArg some (by kernel_rfl))
  f28 := Try.func95.trans (congrArg some (by kernel_rfl))
  f35 := Try.func99.trans (congrArg some (by kernel_rfl))
  f39 := Try.func101.trans (congrArg some (by kernel_rfl))
  t0 := Try.underlying0
  a0 := Try.isAgg0
  z0 := Try.sizeOf0
  v0 := Try.zeroValue0
  t3 := Try.underlying3
  a3 := Try.isAgg3
  z3 := Try.sizeOf3
  v3 := Try.zeroValue3
  t4 := Try.underlying4
  a4 := Try.isAgg4
  z4 := Try.sizeOf4
  v4 := Try.zeroValue4
  t22 := Try.underlying41
  a22 := Try.isAgg41
  z22 := Try.sizeOf41
  v22 := Try.zeroValue41
  i3 := info_it }
theorem bsLays : Go.Proofs.Lays2.n25 Try.prog inRen := {
  mixed := by kernel_rfl
  f25 := Try.func85.trans (congrArg some (by kernel_rfl))
  f31 := Try.func92.trans (congrArg some (by kernel_rfl))
  f32 := Try.func93.trans (congrArg some (by kernel_rfl))
  f37 := Try.func98.trans (congrArg some (by kernel_rfl))
  t0 := Try.underlying0
  a0 := Try.isAgg0
  z0 := Try.sizeOf0
  v0 := Try.zeroValue0
  t3 := Try.underlying3
  a3 := Try.isAgg3
  z3 := Try.sizeOf3
  v3 := Try.zeroValue3
  t4 := Try.underlying4
  a4 := Try.isAgg4
  z4 := Try.sizeOf4
  v4 := Try.zeroValue4
  t22 := Try.underlying41
  a22 := Try.isAgg41
  z22 := Try.sizeOf41
  v22 := Try.zeroValue41
  t40 := Try.underlying118
  a40 := Try.isAgg118
  z40 := Try.sizeOf118
  v40 := Try.zeroValue118 }

theorem Search_it (l : List Int) (x : Int) (v : Value) (w : World) (hr : RdL 1 inc w v l) (hs : l.Pairwise (· < ·)) (hl : l.length ≤ 1000) :
    Calls Try.prog 85 #[v, .int .i64 x] w fun e w' => e = .returned (.tuple #[.int .i64 ((l.countP (· < x) : Nat) : Int), .bool (l.contains x)]) ∧ Ext w w' := by
  obtain ⟨A, c, rfl, h1, h2, h3⟩ := hr
  by_cases hn : l = []
  · subst hn
    refine Calls.mono (Any.slices_BinarySearch_int_empty bsLays A c x w) ?_
    rintro e w' ⟨rfl, rfl⟩
    exact ⟨rfl, Ext.refl _⟩
  · have hp : 0 < l.length := List.length_pos_iff.2 hn
    obtain ⟨b, o, rfl, hb, hc⟩ := h3 hp
    refine Calls.mono (Any.slices_BinarySearch_int bsLays b o l.length c l x w (Nat.le_refl _) (by omega) ?_ ?_) ?_
    · intro j hj
      have := hc j hj 0 (.int .i64 l[j]!) (by simp [inc])
      rw [Nat.mul_one, Nat.add_zero] at this
      rw [this]
      simp [hj, List.getD]
    · rw [List.take_length]
      exact hs.imp (fun h => Int.le_of_lt h)
    · rintro e w' ⟨rfl, q, rfl⟩
      rw [List.take_length]
      exact ⟨rfl, (Ext.refl _).drewN _⟩

theorem ints_take (l : List Int) (i : Nat) : (encs inc l).take i = encs inc (l.take i) := by rw [encs_inc, encs_inc, List.map_take]
theorem ints_drop (l : List Int) (i : Nat) : (encs inc l).drop i = encs inc (l.drop i) := by rw [encs_inc, encs_inc, List.map_drop]
theorem ints_one (l : List Int) : ∀ u ∈ encs inc l, u.oneCell' = true := by
  intro u hu
  rw [encs_inc, List.mem_map] at hu
  obtain ⟨y, -, rfl⟩ := hu
  rfl

theorem list_grow {α : Type} (cs zs : List α) (i : Nat) (x : α) (hi : i < cs.length) (hz : zs.length = cs.length + 1 - i) :
    ((cs.take i ++ zs).take i ++ [x] ++ (cs.take i ++ zs).drop (i + [x].length)).take (i + 1) ++ cs.drop i ++ ((cs.take i ++ zs).take i ++ [x] ++ (cs.take i ++ zs).drop (i + [x].length)).drop (i + 1 + (cs.drop i).length) = cs.take i ++ [x] ++ cs.drop i := by
  have h1 : (cs.take i).length = i := by rw [List.length_take]; omega
  rw [List.take_left' h1]
  have h2 : (cs.take i ++ [x]).length = i + 1 := by simp [h1]
  rw [List.take_left' h2]
  rw [List.drop_of_length_le (l := cs.take i ++ [x] ++ _) (by simp only [List.length_append, List.length_drop, h2, h1, hz, List.length_singleton]; omega), List.append_nil]

theorem own_grown (W : World) (base : Nat) (hbW : base ≤ W.heap.size) (cs : List Value) (n G : Nat) (hn : cs.length = n) (hG : n ≤ G) (hm : G ≤ maxLen) :
    (W.alloc (.cells (cs.toArray ++ Builtin.zeroCells (Value.int .i64 0).cells (G - n)) 3)).ownsRow base 3 1 (.slice (some ⟨W.heap.size, 0, none⟩) n G) n cs := by
  subst hn
  have h := own_alloc (w := W) (base := base) (e := 3) (size := 1) (n := cs.length) (cap := G) (cur := cs.toArray ++ Builtin.zeroCells (Value.int .i64 0).cells (G - cs.length)) hbW hG hm (by simp [Builtin.zeroCells, Value.cells]; omega)
  rw [show (cs.toArray ++ Builtin.zeroCells (Value.int .i64 0).cells (G - cs.length)).toList.take (cs.length * 1) = cs from by simp] at h
  exact h

set_option maxHeartbeats 2000000 in
theorem Insert_it (l : List Int) (i : Nat) (hi : i ≤ l.length) (x : Int) (v : Value) (base : Nat) (w : World) (ho : OwnL 3 1 inc base w v l) (hbw : base ≤ w.heap.size) (hl : l.length ≤ 1000) :
    Calls Try.prog 86 #[v, .int .i64 i, .slice (some ⟨w.heap.size, 0, none⟩) 1 1] (w.alloc (.cells #[.int .i64 x] 3)) fun e w' => ∃ v', e = .returned v' ∧ OwnL 3 1 inc base w' v' (l.take i ++ x :: l.drop i) ∧ w.grownBy w' v.ownBlock ∧ (v'.ownBlock = v.ownBlock ∨ ∀ k, v'.ownBlock = some k → w.heap.size ≤ k) := by
  have hoA := ho.alloc (.cells #[.int .i64 x] 3)
  have hgA : w.grownBy (w.alloc (.cells #[.int .i64 x] 3)) v.ownBlock := World.grownBy_alloc _ _ _
  have hcx : (w.alloc (.cells #[.int .i64 x] 3)).cell? ⟨w.heap.size, 0, none⟩ = some (.int .i64 x) := Row.new.2.1 0
  have hfx : ∀ o, (w.alloc (.cells #[.int .i64 x] 3)).frozen? ⟨w.heap.size, o, none⟩ = false := Row.new.2.2
  have hvs : ∀ j u, ([.int .i64 x] : List Value)[j]? = some u → (w.alloc (.cells #[.int .i64 x] 3)).cell? ⟨w.heap.size, 0 + j, none⟩ = some u := by
    intro j u hj
    cases j with
    | zero => simp at hj; subst hj; exact hcx
    | succ j => simp at hj
  have h1v : ∀ u ∈ ([.int .i64 x] : List Value), u.oneCell' = true := by intro u hu; simp at hu; subst hu; rfl
  have hsh : (w.alloc (.cells #[.int .i64 x] 3)).shape? w.heap.size = some (3, 1) := by
    have h := heap_alloc_new w (.cells #[.int .i64 x] 3)
    unfold World.shape?
    simp only [h]
    rfl
  have hsz : w.heap.size < (w.alloc (.cells #[.int .i64 x] 3)).heap.size := by simp
  generalize w.alloc (.cells #[.int .i64 x] 3) = W at *
  have hlen : (encs inc l).length = l.length := by rw [encs_inc, List.length_map]
  have hfin : encs inc (l.take i) ++ [.int .i64 x] ++ encs inc (l.drop i) = encs inc (l.take i ++ x :: l.drop i) := by simp [encs_inc]
  have hfl : (l.take i ++ x :: l.drop i).length = l.length + 1 := by simp; omega
  unfold OwnL at hoA ⊢
  rw [hfl, ← hfin]
  have hbW : base ≤ W.heap.size := by omega
  rcases hoA.2 with ⟨rfl, h0⟩ | ⟨b, cap, cur, rfl, hb, hg, hnc, hcm, hcs, htake⟩
  · have hn : l = [] := List.eq_nil_of_length_eq_zero h0
    subst hn
    have hi0 : i = 0 := by simpa using hi
    subst hi0
    refine Calls.mono (Any2.slices_Insert_int_end_grow inLays none 0 0 w.heap.size 0 1 1 [] [.int .i64 x] W (by omega) (by omega) (by omega) (by omega) rfl rfl (fun _ => rfl) (fun a h => by cases h) hvs h1v) ?_
    rintro e w' ⟨rfl, rfl⟩
    refine ⟨_, rfl, ?_, ?_⟩
    · exact own_grown W.drew base hbW [.int .i64 x] 1 _ rfl (grownCap_ge _ _ _ _) (grownCap_le_maxLen _ _ _ _ (by unfold maxLen; omega))
    · exact ⟨(hgA.trans (drew_grown _ _)).trans (World.grownBy_alloc _ _ _), .inr (fun k hk => by simp [Value.ownBlock] at hk; omega)⟩
  · have hco : ∀ o, W.cell? ⟨b, o, none⟩ = cur[o]? := fun o => cell_of_row W b o cur _ (0, 0) hg
    have hfo : ∀ o, W.frozen? ⟨b, o, none⟩ = false := by
      intro o
      unfold World.frozen?
      simp only [hg]
      simp
    have hcap : cap ≤ 9223372036854775807 := by unfold maxLen at hcm; omega
    have hbw2 : b < w.heap.size := by
      have := (ho.lt b (by simp [Value.ownBlock])).2
      exact this
    have hne : w.heap.size ≠ b := by omega
    have hxs : ∀ j u, (encs inc l)[j]? = some u → W.cell? ⟨b, 0 + j, none⟩ = some u := by
      intro j u hu
      rw [Nat.zero_add, hco, ← Array.getElem?_toList]
      rw [← htake, List.getElem?_take] at hu
      split at hu
      · exact hu
      · cases hu
    have hblk : (Value.slice (some ⟨b, 0, none⟩) l.length cap).ownBlock = some b := rfl
    rw [hblk] at hgA ⊢
    have hgd : w.grownBy W.drew (some b) := hgA.trans (drew_grown _ _)
    by_cases hroom : l.length + 1 ≤ cap
    · obtain ⟨ys, hys, hL⟩ := own_longer hoA hroom
      have hsp : ∀ j, j < l.length + 1 → (W.cell? ⟨b, 0 + j, none⟩).isSome = true := by
        intro j hj
        rw [hco, Array.getElem?_eq_getElem (by omega)]
        rfl
      by_cases hin : i = l.length
      · subst hin
        refine Calls.mono (Any2.slices_Insert_int_end_room inLays b 0 l.length cap w.heap.size 0 1 1 [.int .i64 x] W (by omega) hroom hcap rfl (fun j hj => by rw [Nat.add_assoc]; exact hsp _ (by omega)) (fun j hj => hfo _) hvs h1v) ?_
        rintro e w' ⟨rfl, rfl⟩
        refine ⟨_, rfl, ?_, hgA.trans (setCells_grown _ _ _ _), .inl rfl⟩
        have h := own_setCells [.int .i64 x] (0 + l.length) W _ hL (by simp [hlen, hys])
        rw [show (encs inc l ++ ys).take (0 + l.length) ++ [Value.int .i64 x] ++ (encs inc l ++ ys).drop (0 + l.length + [Value.int .i64 x].length) = encs inc (l.take l.length) ++ [Value.int .i64 x] ++ encs inc (l.drop l.length) from by
          rw [Nat.zero_add, List.take_append_of_le_length (by omega), ← hlen, List.take_length, List.drop_of_length_le (by simp [hys]), hlen, List.take_length, List.drop_length]
          simp [encs]] at h
        exact h
      · have hilt : i < l.length := by omega
        refine Calls.mono (Any2.slices_Insert_int_shift inLays b 0 l.length cap i w.heap.size 0 1 1 (encs inc l) [.int .i64 x] W hilt (by omega) hroom hcap hne hlen rfl hxs hsp (fun j hj => hfo _) hvs (ints_one l) h1v 3 3 1 cur.size hsh (by simp [World.shape?, hg]) (by omega) (hfx 0) (hfx 1)) ?_
        rintro e w' ⟨rfl, rfl⟩
        refine ⟨_, rfl, ?_, (hgd.trans (setCells_grown _ _ _ _)).trans (setCells_grown _ _ _ _), .inl rfl⟩
        have hL2 : W.drew.ownsRow base 3 1 (.slice (some ⟨b, 0, none⟩) (l.length + 1) cap) (l.length + 1) (encs inc l ++ ys) := hL
        have h1 := own_setCells ((encs inc l).drop i) (0 + (i + 1)) W.drew _ hL2 (by simp [hlen, hys]; omega)
        have h2 := own_setCells [.int .i64 x] (0 + i) _ _ h1 (by simp [hlen, hys]; omega)
        refine Eq.mp (congrArg (fun z => World.ownsRow _ base _ 1 _ _ z) ?_) h2
        simp only [Nat.zero_add, List.length_drop, hlen]
        rw [List.drop_of_length_le (l := encs inc l ++ ys) (by simp [hlen, hys]; omega), List.append_nil, ints_drop]
        rw [show (encs inc l ++ ys).take (i + 1) = (encs inc l).take (i + 1) from List.take_append_of_le_length (by omega), ints_take]
        rw [List.take_append_of_le_length (by rw [← ints_take, List.length_take]; omega), ints_take, List.take_take, Nat.min_eq_left (by omega)]
        congr 1
        rw [List.drop_append, List.drop_of_length_le (by rw [← ints_take, List.length_take]; exact Nat.min_le_left _ _), List.nil_append]
        rw [← ints_take, List.length_take, hlen, Nat.min_eq_left (by omega)]
        simp
    · have hcn : cap < l.length + 1 := by omega
      by_cases hin : i = l.length
      · subst hin
        refine Calls.mono (Any2.slices_Insert_int_end_grow inLays (some ⟨b, 0, none⟩) l.length cap w.heap.size 0 1 1 (encs inc l) [.int .i64 x] W (by omega) hnc hcn (by omega) hlen rfl (fun h => by cases h) (fun a ha j u hu => by
          injection ha with ha
          subst ha
          rw [show (⟨b, 0, none⟩ : Addr).add j = ⟨b, 0 + j, none⟩ from by unfold Addr.add; split <;> simp_all]
          exact hxs j u hu) hvs h1v) ?_
        rintro e w' ⟨rfl, rfl⟩
        refine ⟨_, rfl, ?_, hgd.trans (World.grownBy_alloc _ _ _), .inr (fun k hk => by simp [Value.ownBlock] at hk; omega)⟩
        have h := own_grown W.drew base hbW (encs inc l ++ [.int .i64 x]) (l.length + 1) _ (by simp [hlen]) (grownCap_ge W (l.length + 1) cap 3) (grownCap_le_maxLen _ _ _ _ (by unfold maxLen; omega))
        rw [List.take_length, List.drop_length, encs_nil, List.append_nil]
        exact h
      · have hilt : i < l.length := by omega
        refine Calls.mono (Any2.slices_Insert_int_grow inLays b 0 l.length cap i w.heap.size 0 1 1 (encs inc l) [.int .i64 x] W hilt (by omega) hnc hcn (by omega) hlen rfl hxs hvs (ints_one l) h1v) ?_
        rintro e w' ⟨rfl, rfl⟩
        have hg1 := grownCap_ge W (l.length + 1) cap 3
        have hg2 : grownCap W (l.length + 1) cap 3 ≤ maxLen := grownCap_le_maxLen _ _ _ _ (by unfold maxLen; omega)
        refine ⟨_, rfl, ?_, ?_, .inr (fun k hk => by simp [Value.ownBlock] at hk; omega)⟩
        · change World.ownsRow _ base 3 1 (.slice (some ⟨W.heap.size, 0, none⟩) (l.length + 1) (grownCap W (l.length + 1) cap 3)) (l.length + 1) _
          change World.ownsRow ((((W.alloc (.cells (((encs inc l).take i).toArray ++ Builtin.zeroCells (Value.int .i64 0).cells (l.length + 1 - i) ++ Builtin.zeroCells (Value.int .i64 0).cells (grownCap W (l.length + 1) cap 3 - (l.length + 1))) 3)).drew.setCells W.heap.size i [.int .i64 x]).drew).setCells W.heap.size (i + 1) ((encs inc l).drop i)) base 3 1 _ _ _
          generalize grownCap W (l.length + 1) cap 3 = G at hg1 hg2 ⊢
          have htl : ((encs inc l).take i).length = i := by rw [List.length_take, hlen]; omega
          have h0 := own_alloc (w := W) (base := base) (e := 3) (size := 1) (n := l.length + 1) (cap := G) (cur := ((encs inc l).take i).toArray ++ Builtin.zeroCells (Value.int .i64 0).cells (l.length + 1 - i) ++ Builtin.zeroCells (Value.int .i64 0).cells (G - (l.length + 1))) hbW hg1 hg2 (by simp [Builtin.zeroCells, Value.cells, hlen]; omega)
          have hz : (((encs inc l).take i).toArray ++ Builtin.zeroCells (Value.int .i64 0).cells (l.length + 1 - i) ++ Builtin.zeroCells (Value.int .i64 0).cells (G - (l.length + 1))).toList.take ((l.length + 1) * 1) = (encs inc l).take i ++ (Builtin.zeroCells (Value.int .i64 0).cells (l.length + 1 - i)).toList := by
            rw [Array.toList_append, Array.toList_append, List.take_left']
            simp [Builtin.zeroCells, Value.cells]
            omega
          rw [hz] at h0
          have h1 := own_setCells [.int .i64 x] i _ _ (show World.ownsRow (W.alloc _).drew base 3 1 _ _ _ from h0) (by simp [hlen, Builtin.zeroCells, Value.cells]; omega)
          have h2 := own_setCells ((encs inc l).drop i) (i + 1) _ _ (show World.ownsRow (World.setCells (W.alloc _).drew W.heap.size i [.int .i64 x]).drew base 3 1 _ _ _ from h1) (by simp [hlen, Builtin.zeroCells, Value.cells]; omega)
          rw [list_grow (encs inc l) _ i _ (by omega) (by simp [hlen, Builtin.zeroCells, Value.cells])] at h2
          rw [← ints_take, ← ints_drop]
          exact h2
        · have ha : W.grownBy (W.alloc (.cells (((encs inc l).take i).toArray ++ Builtin.zeroCells (Value.int .i64 0).cells (l.length + 1 - i) ++ Builtin.zeroCells (Value.int .i64 0).cells (grownCap W (l.length + 1) cap 3 - (l.length + 1))) 3)).drew (some b) := (World.grownBy_alloc _ _ _).trans (drew_grown _ _)
          have hlt : w.heap.size ≤ W.heap.size := by omega
          exact hgA.trans ((ha.andThen ((setCells_grown W.heap.size _ _ _).trans (drew_grown _ _)) (fun j hj => by injection hj with hj; subst hj; exact .inl (Nat.le_refl _))).andThen (setCells_grown W.heap.size _ _ _) (fun j hj => by injection hj with hj; subst hj; exact .inl (Nat.le_refl _)))
end Go.Proofs.Ythollackhkiofaa
