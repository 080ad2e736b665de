/- station.New: three gates, three views. -/
import Derived.BigRegion
import Derived.Test.YthollackhkiofaaView0
import Derived.Test.YthollackhkiofaaApp
namespace Go.Proofs.Ythollackhkiofaa
set_option linter.unusedSimpArgs false
set_option linter.unusedVariables false
open Go Go.RowKit Lb

/-- a gate as it lies in memory: its two slices are values -/
structure Gv where
  id : Int
  zone : Int
  seq : Int
  alone : Value
  ver : Int
  ids : Value
  left : Int
  untl : Int
instance : Inhabited Gv := ⟨⟨0, 0, 0, .slice none 0 0, 0, .slice none 0 0, 0, 0⟩⟩
def gvc (g : Gv) : Array Value := #[.int .i64 g.id, .int .i64 g.zone, .int .i64 g.seq, g.alone, .int .i64 g.ver, g.ids, .int .i64 g.left, .int .i64 g.untl]
theorem gvc_size (g : Gv) : (gvc g).size = 8 := rfl
theorem info_gt : (Try.prog.info? 60).map (fun i => (i.zero, i.size, i.bytes)) = some (some (.agg #[.int .i64 0, .int .i64 0, .int .i64 0, .slice none 0 0, .int .i64 0, .slice none 0 0, .int .i64 0, .int .i64 0]), 8, 96) := by kernel_rfl
theorem info_vw0 : (Try.prog.info? 39).map (fun i => (i.zero, i.size, i.bytes)) = some (some (.agg #[.int .i64 0, .int .i64 0, .bool false]), 3, 24) := by kernel_rfl
def newGate (i z : Int) : Gv := ⟨i, z, 0, .slice none 0 0, 0, .slice none 0 0, 9, 100⟩
def newGates : List Gv := [newGate 0 1, newGate 1 2, newGate 2 4]
def newViews : List Vw := [⟨0, 0, true⟩, ⟨0, 0, true⟩, ⟨0, 0, true⟩]
theorem gate_one (i z : Int) : ∀ u ∈ encs gvc [newGate i z], u.oneCell' = true := by
  intro u hu
  simp [encs, gvc, newGate] at hu
  (rcases hu with rfl | rfl | rfl | rfl | rfl | rfl | rfl | rfl) <;> rfl
theorem view_one : ∀ u ∈ encs vwc [⟨0, 0, true⟩], u.oneCell' = true := by
  intro u hu
  simp [encs, vwc] at hu
  (rcases hu with rfl | rfl | rfl) <;> rfl

set_option maxRecDepth 100000 in
set_option maxHeartbeats 8000000 in
theorem station_New (w : World) :
    Calls Try.prog 47 #[] w fun e w' => ∃ gs vs, e = .returned (.agg #[.slice none 0 0, .slice none 0 0, .slice none 0 0, .int .i64 0, .slice none 0 0, gs, vs]) ∧ Ext w w' ∧ OwnL 60 8 gvc w.heap.size w' gs newGates ∧ OwnL 39 3 vwc w.heap.size w' vs newViews := by
  obtain ⟨i0, hi, hz0, hz1, hz2⟩ := info_parts info_gt
  obtain ⟨j0, ji, jz0, jz1, jz2⟩ := info_parts info_vw0
  go_enter Try.func47, Try.ntmps47
  go_wp2_with fail
  go_loopg [2, 3] 3 (fun gg _ s3 wr => ∃ (k : Nat) (A : Option Addr) (c : Nat), k ≤ 3 ∧ 3 - k ≤ gg ∧ s3 = .int .i64 k ∧ Aside (Ext w wr ∧ Row wr (w.heap.size + 1) #[.slice none 0 0, .slice none 0 0, .slice none 0 0, .int .i64 0, .slice none 0 0, .slice A k c, .slice none 0 0] ∧ (∃ cs, Row wr w.heap.size cs ∧ cs.size = 7)) ∧ Aside (OwnL 60 8 gvc (w.heap.size + 1 + 1) wr (.slice A k c) (newGates.take k)))
  case atStart => exact ⟨0, none, 0, by omega, by omega, rfl, ⟨((Ext.refl _).alloc _).alloc _, Row.newAt (by simp), ⟨_, (Row.newAt rfl).alloc, rfl⟩⟩, OwnL.nil⟩
  case round =>
    obtain ⟨k, A, c, hk, hg, rfl, HA, HB⟩ := hrel
    have h4 : k = 0 ∨ k = 1 ∨ k = 2 ∨ k = 3 := by omega
    have hq := HA.out.2.1.2.1
    have hf := HA.out.2.1.2.2
    have hlt := HA.out.2.1.1
    have HA2 := Lib.hid HA.out
    have HB2 := Lib.hid HB.out
    clear HA HB
    rcases h4 with rfl | rfl | rfl | rfl
    · go_wp2_with fail
      go_region_law (refine step_append_rd (enc := gvc) (k := 8) _ rfl (.tmp 7) (.tmp 13) 83 rfl (w.heap.size + 1 + 1) 60 i0 (.agg #[.int .i64 0, .int .i64 0, .int .i64 0, .slice none 0 0, .int .i64 0, .slice none 0 0, .int .i64 0, .int .i64 0]) 96 Try.underlying83 hi hz0 hz1 hz2 rfl (by decide) gvc_size (.slice A 0 c) (newGates.take 0) (by simp [Act.eval, Act.put]) (HB2.out.drew.alloc _) (.slice (some ⟨wr.heap.size, 0, none⟩) 1 1) [newGate 0 1] (by simp [Act.eval, Act.put]) (RdL.lit (enc := gvc) (newGate 0 1) rfl rfl) (gate_one 0 1) (by unfold maxLen; simp [newGates]) (by simp [newGates]) (by simp; omega) ?_; intro v' w' ho' hg' hn'; obtain ⟨A', c', rfl⟩ := ho'.form; have hr' := Row.grown (g := w.heap.size + 1) (HA2.out.2.1.drew.alloc) hg' (fun h => by have := (HB2.out.lt _ h.symm).1; omega); have HE' := Lib.hid (Ext.grown (HA2.out.1.drew.alloc _) hg' (fun j hj => by have := (HB2.out.lt j hj).1; omega)); have HC' := Lib.hid (HA2.out.2.2.imp (fun cs h => And.intro (Row.grown (g := w.heap.size) (h.1.drew.alloc) hg' (fun h => by have := (HB2.out.lt _ h.symm).1; omega)) h.2)); have HR' := Lib.hid hr'; have HO' := Lib.hid ho'; have hq' := hr'.2.1; have hf' := hr'.2.2; have hlt' := hr'.1; clear hr' hg' hn' ho')
      all_goals
        go_wp2_with fail
        go_roundg (3 - 1)
        case measure => omega
        case rel =>
          obtain ⟨cs, hcs, hcz⟩ := HC'.out
          refine ⟨1, A', c', by omega, by omega, by go_num, ⟨HE'.out.setCell (by simp) _, ?_, ⟨cs, Row.far (by simp) hcs, hcz⟩⟩, OwnL.setC (by simp) HO'.out⟩
          have := HR'.out.set_ (i := 5) (u := .slice A' 1 c')
          simpa [newGates] using this
    · go_wp2_with fail
      go_region_law (refine step_append_rd (enc := gvc) (k := 8) _ rfl (.tmp 7) (.tmp 13) 83 rfl (w.heap.size + 1 + 1) 60 i0 (.agg #[.int .i64 0, .int .i64 0, .int .i64 0, .slice none 0 0, .int .i64 0, .slice none 0 0, .int .i64 0, .int .i64 0]) 96 Try.underlying83 hi hz0 hz1 hz2 rfl (by decide) gvc_size (.slice A 1 c) (newGates.take 1) (by simp [Act.eval, Act.put]) (HB2.out.drew.alloc _) (.slice (some ⟨wr.heap.size, 0, none⟩) 1 1) [newGate 1 2] (by simp [Act.eval, Act.put]) (RdL.lit (enc := gvc) (newGate 1 2) rfl rfl) (gate_one 1 2) (by unfold maxLen; simp [newGates]) (by simp [newGates]) (by simp; omega) ?_; intro v' w' ho' hg' hn'; obtain ⟨A', c', rfl⟩ := ho'.form; have hr' := Row.grown (g := w.heap.size + 1) (HA2.out.2.1.drew.alloc) hg' (fun h => by have := (HB2.out.lt _ h.symm).1; omega); have HE' := Lib.hid (Ext.grown (HA2.out.1.drew.alloc _) hg' (fun j hj => by have := (HB2.out.lt j hj).1; omega)); have HC' := Lib.hid (HA2.out.2.2.imp (fun cs h => And.intro (Row.grown (g := w.heap.size) (h.1.drew.alloc) hg' (fun h => by have := (HB2.out.lt _ h.symm).1; omega)) h.2)); have HR' := Lib.hid hr'; have HO' := Lib.hid ho'; have hq' := hr'.2.1; have hf' := hr'.2.2; have hlt' := hr'.1; clear hr' hg' hn' ho')
      all_goals
        go_wp2_with fail
        go_roundg (3 - 2)
        case measure => omega
        case rel =>
          obtain ⟨cs, hcs, hcz⟩ := HC'.out
          refine ⟨2, A', c', by omega, by omega, by go_num, ⟨HE'.out.setCell (by simp) _, ?_, ⟨cs, Row.far (by simp) hcs, hcz⟩⟩, OwnL.setC (by simp) HO'.out⟩
          have := HR'.out.set_ (i := 5) (u := .slice A' 2 c')
          simpa [newGates] using this
    · go_wp2_with fail
      go_region_law (refine step_append_rd (enc := gvc) (k := 8) _ rfl (.tmp 7) (.tmp 13) 83 rfl (w.heap.size + 1 + 1) 60 i0 (.agg #[.int .i64 0, .int .i64 0, .int .i64 0, .slice none 0 0, .int .i64 0, .slice none 0 0, .int .i64 0, .int .i64 0]) 96 Try.underlying83 hi hz0 hz1 hz2 rfl (by decide) gvc_size (.slice A 2 c) (newGates.take 2) (by simp [Act.eval, Act.put]) (HB2.out.drew.alloc _) (.slice (some ⟨wr.heap.size, 0, none⟩) 1 1) [newGate 2 4] (by simp [Act.eval, Act.put]) (RdL.lit (enc := gvc) (newGate 2 4) rfl rfl) (gate_one 2 4) (by unfold maxLen; simp [newGates]) (by simp [newGates]) (by simp; omega) ?_; intro v' w' ho' hg' hn'; obtain ⟨A', c', rfl⟩ := ho'.form; have hr' := Row.grown (g := w.heap.size + 1) (HA2.out.2.1.drew.alloc) hg' (fun h => by have := (HB2.out.lt _ h.symm).1; omega); have HE' := Lib.hid (Ext.grown (HA2.out.1.drew.alloc _) hg' (fun j hj => by have := (HB2.out.lt j hj).1; omega)); have HC' := Lib.hid (HA2.out.2.2.imp (fun cs h => And.intro (Row.grown (g := w.heap.size) (h.1.drew.alloc) hg' (fun h => by have := (HB2.out.lt _ h.symm).1; omega)) h.2)); have HR' := Lib.hid hr'; have HO' := Lib.hid ho'; have hq' := hr'.2.1; have hf' := hr'.2.2; have hlt' := hr'.1; clear hr' hg' hn' ho')
      all_goals
        go_wp2_with fail
        go_roundg (3 - 3)
        case measure => omega
        case rel =>
          obtain ⟨cs, hcs, hcz⟩ := HC'.out
          refine ⟨3, A', c', by omega, by omega, by go_num, ⟨HE'.out.setCell (by simp) _, ?_, ⟨cs, Row.far (by simp) hcs, hcz⟩⟩, OwnL.setC (by simp) HO'.out⟩
          have := HR'.out.set_ (i := 5) (u := .slice A' 3 c')
          simpa [newGates] using this
    · obtain ⟨cs0, hc0, hz0'⟩ := HA2.out.2.2
      have HC0 := Lib.hid hc0
      go_wp2_with fail
      go_loopg [17] 3 (fun gg s17 wq => ∃ (k : Nat) (A2 : Option Addr) (c2 : Nat), k ≤ 3 ∧ 3 - k ≤ gg ∧ s17 = .int .i64 k ∧ Aside (Ext w wq ∧ Row wq (w.heap.size + 1) #[.slice none 0 0, .slice none 0 0, .slice none 0 0, .int .i64 0, .slice none 0 0, .slice A 3 c, .slice A2 k c2] ∧ Row wq w.heap.size cs0) ∧ Aside (OwnL 60 8 gvc (w.heap.size + 1 + 1) wq (.slice A 3 c) newGates ∧ OwnL 39 3 vwc (w.heap.size + 1 + 1) wq (.slice A2 k c2) (newViews.take k) ∧ (∀ q, (Value.slice A2 k c2).ownBlock = some q → (Value.slice A 3 c).ownBlock ≠ some q)))
      case atStart => exact ⟨0, none, 0, by omega, by omega, rfl, ⟨HA2.out.1, HA2.out.2.1, HC0.out⟩, HB2.out, OwnL.nil, fun q h => by cases h⟩
      case round =>
        obtain ⟨k, A2, c2, hk, hg, rfl, HA, HB⟩ := hrel
        have hq := HA.out.2.1.2.1
        have hf := HA.out.2.1.2.2
        have hlt := HA.out.2.1.1
        have hq0 := HA.out.2.2.2.1
        have hf0 := HA.out.2.2.2.2
        have hlt0 := HA.out.2.2.1
        have HA3 := Lib.hid HA.out
        have HB3 := Lib.hid HB.out
        clear HA HB HA2 HB2
        by_cases hlt3 : k < 3
        · have hlt' : (k : Int) < 3 := by omega
          have hw2 := HA3.out.1.size
          go_wp2_with (at_builtin; refine wpList_append_rd (enc := vwc) (k := 3) _ rfl _ _ 22 rfl (w.heap.size + 1 + 1) 39 j0 (.agg #[.int .i64 0, .int .i64 0, .bool false]) 24 Try.underlying22 ji jz0 jz1 jz2 rfl (by decide) vwc_size _ (newViews.take k) rfl (HB3.out.2.1.alloc _) _ [⟨0, 0, true⟩] rfl (RdL.lit (enc := vwc) ⟨0, 0, true⟩ ?qa0 ?qa1) view_one ?qa3 ?qa4 ?qa5 ?_)
          case qa0 => rfl
          case qa1 => rfl
          case qa3 => unfold maxLen; simp; omega
          case qa4 => simp; omega
          case qa5 => simp only [World.size_alloc]; omega
          intro v' w' ho' hg' hn'
          have ht : newViews.take k ++ [⟨0, 0, true⟩] = newViews.take (k + 1) := by
            have h3 : k = 0 ∨ k = 1 ∨ k = 2 := by omega
            rcases h3 with rfl | rfl | rfl <;> rfl
          have hl : (newViews.take (k + 1)).length = k + 1 := by rw [List.length_take]; simp [newViews]; omega
          rw [ht] at ho'
          obtain ⟨A', c', rfl⟩ := ho'.form
          rw [hl] at ho' hn' ⊢
          have hfar : ∀ b, b < w.heap.size + 1 + 1 → some b ≠ (Value.slice A2 k c2).ownBlock := fun b hb h => by
            have := (HB3.out.2.1.lt _ h.symm).1
            omega
          have hE' : Ext w w' := Ext.grown (HA3.out.1.alloc _) hg' (fun j hj => by have := (HB3.out.2.1.lt j hj).1; omega)
          have hr' := Row.grown (g := w.heap.size + 1) (HA3.out.2.1.alloc) hg' (hfar _ (by omega))
          have hr0 := Row.grown (g := w.heap.size) (HA3.out.2.2.alloc) hg' (hfar _ (by omega))
          have hgk : OwnL 60 8 gvc (w.heap.size + 1 + 1) w' (.slice A 3 c) newGates := (HB3.out.1.alloc _).kept hg' (.inr (fun h => by
            cases hA2 : (Value.slice A2 k c2).ownBlock with
            | none =>
              rw [hA2] at h
              have hz := HB3.out.1.2
              rcases hz with ⟨hz, hz0⟩ | ⟨gg, cap, cur, hz, -⟩
              · simp [newGates] at hz0
              · rw [hz] at h; cases h
            | some q => exact HB3.out.2.2 q hA2 (h.trans hA2)))
          have hne : ∀ q, (Value.slice A' (k + 1) c').ownBlock = some q → (Value.slice A 3 c).ownBlock ≠ some q := by
            intro q hq2 hq3
            rcases hn' with h | h
            · exact HB3.out.2.2 q (by rw [← h]; exact hq2) hq3
            · rw [h] at hq2
              injection hq2 with hq2
              have := (HB3.out.1.lt _ hq3).2
              (try simp only [World.size_alloc] at hq2)
              (try simp only [World.size_alloc] at this)
              omega
          have HE' := Lib.hid hE'
          have HR' := Lib.hid hr'
          have HR0 := Lib.hid hr0
          have HO' := Lib.hid (And.intro hgk (And.intro ho' hne))
          have hq' := hr'.2.1
          have hf' := hr'.2.2
          have hlt2 := hr'.1
          have hlt0' := hr0.1
          clear hE' hr' hr0 hgk hne hg' hn' ho' ht hl hfar
          go_wp2_with fail
          go_roundg (3 - (k + 1))
          case measure => omega
          case rel =>
            refine ⟨k + 1, A', c', by omega, by omega, by go_num, ⟨HE'.out.setCell (by simp) _, ?_, Row.far (by simp) HR0.out⟩, OwnL.setC (by simp) HO'.out.1, OwnL.setC (by simp) HO'.out.2.1, HO'.out.2.2⟩
            have := HR'.out.set_ (i := 6) (u := .slice A' (k + 1) c')
            simpa using this
        · have hk3 : k = 3 := by omega
          subst hk3
          match cs0, hz0' with
          | ⟨[z0, z1, z2, z3, z4, z5, z6]⟩, _ =>
            go_wp2_with fail
            refine bodyPost_ret (v := .agg #[.slice none 0 0, .slice none 0 0, .slice none 0 0, .int .i64 0, .slice none 0 0, .slice A 3 c, .slice A2 3 c2]) (by simp [results, Try.results47, go_sem, *]) rfl ⟨_, _, rfl, ?_, ?_, ?_⟩
            · repeat (refine Ext.setCell ?_ (Nat.le_refl _) _)
              exact HA3.out.1
            · refine OwnL.lower (base := w.heap.size + 1 + 1) ?_ (by omega)
              repeat (refine OwnL.setC (by simp <;> omega) ?_)
              exact HB3.out.1
            · refine OwnL.lower (base := w.heap.size + 1 + 1) ?_ (by omega)
              repeat (refine OwnL.setC (by simp <;> omega) ?_)
              exact HB3.out.2.1
end Go.Proofs.Ythollackhkiofaa
