/- code.values. -/
import Derived.Test.YtglifpoiildpfaaCodeE
import Derived.Test.YtglifpoiildpfaaTickB
namespace Go.Proofs.Ytglifpoiildpfaa
set_option linter.unusedSimpArgs false
set_option linter.unusedVariables false
open Go Go.RowKit Lb

theorem info_int : (Try.prog.info? 3).map (fun i => (i.zero, i.size, i.bytes)) = some (some (.int .i64 0), 1, 8) := by kernel_rfl
def vals (l : List UInt8) : List Value := l.map fun c => .int .i64 (valueOf c)
theorem areSigns_snoc (l : List UInt8) (k : Nat) (h : k < l.length) : areSigns (l.take (k + 1)) = (areSigns (l.take k) && decide (0 ≤ valueOf l[k])) := by
  unfold areSigns
  rw [List.take_succ_eq_append_getElem h, List.all_append]
  simp only [List.all_cons, List.all_nil, Bool.and_true]
theorem vals_snoc (l : List UInt8) (k : Nat) (h : k < l.length) : vals (l.take (k + 1)) = vals (l.take k) ++ [.int .i64 (valueOf l[k])] := by
  unfold vals
  rw [List.take_succ_eq_append_getElem h, List.map_append]
  rfl
theorem areSigns_bad {l : List UInt8} {k : Nat} (h : k < l.length) (hv : valueOf l[k] < 0) : areSigns l = false := by
  unfold areSigns
  rw [List.all_eq_false]
  exact ⟨l[k], List.getElem_mem h, by simp; omega⟩

set_option maxHeartbeats 4000000 in
theorem code_values (l : List UInt8) (hl : l.length ≤ 1048576) (w : World) :
    Calls Try.prog 50 #[.string (bs l)] w fun e w' => Ext w w' ∧ ((areSigns l = false ∧ e = .returned (.tuple #[.slice none 0 0, .bool false])) ∨
      (areSigns l = true ∧ ∃ v, e = .returned (.tuple #[v, .bool true]) ∧ w'.ownsRow w.heap.size 3 1 v l.length (vals l))) := by
  obtain ⟨i0, hi, hz0, hz1, hz2⟩ := info_parts info_int
  have hsz := bs_size l
  have hx := fun c w => idx_sign c w
  have HX := Lib.hid hx
  clear hx
  go_enter Try.func50, Try.ntmps50
  go_wp2
  go_loopg [2, 3, 4, 5, 6, 9] l.length (fun gg _ _ s4 _ _ s9 wr => ∃ (k : Nat), k ≤ l.length ∧ l.length - k ≤ gg ∧ s9 = .int .i64 k ∧ Aside (areSigns (l.take k) = true) ∧ Aside (Ext w wr ∧ wr.ownsRow w.heap.size 3 1 s4 k (vals (l.take k))))
  case atStart => exact ⟨0, by omega, by omega, rfl, rfl, Ext.refl _, World.ownsRow_nil _ _ _ _⟩
  case round =>
    obtain ⟨k, hk, hg, rfl, HA, HB⟩ := hrel
    by_cases hlt : k < l.length
    · have hlt' : (k : Int) < (l.length : Int) := by omega
      have hltn : k < (bs l).size := by omega
      have hget : (bs l)[k]'hltn = l[k] := rfl
      have has := areSigns_snoc l k hlt
      have hvs := vals_snoc l k hlt
      have hbad := areSigns_bad (l := l) (k := k) hlt
      rw [HA.out, Bool.true_and] at has
      generalize l[k] = x at hget has hvs hbad
      generalize hy : valueOf x = y at has hvs hbad
      have HY := Lib.hid hy
      have HAS := Lib.hid has
      have HVS := Lib.hid hvs
      have HBD := Lib.hid hbad
      have hsz1 := HB.out.1.size
      clear has hvs hbad hy HA
      by_cases hy0 : y < 0
      · go_wp2_with (go_at_call 58; refine ((HX.out x _).mono ?_); rintro e w1 ⟨rfl, rfl⟩; rw [HY.out])
        go_ret2
        exact ⟨HB.out.1, .inl ⟨HBD.out hy0, rfl⟩⟩
      · obtain ⟨v, rfl⟩ : ∃ v, v = u4 := ⟨u4, rfl⟩
        have HO : Hid (wr.ownsRow w.heap.size 3 1 v k (vals (l.take k))) := HB.out.2
        go_wp2_with (first | (go_at_call 58; refine ((HX.out x _).mono ?_); rintro e w1 ⟨rfl, rfl⟩; rw [HY.out]) | (at_builtin; refine wpList_append_own _ rfl _ _ 63 rfl w.heap.size 3 i0 (.int .i64 0) 1 8 Try.underlying63 hi hz0 hz1 hz2 rfl (by decide) v k (vals (l.take k)) rfl (HO.out.alloc _) ⟨w1.heap.size, 0, none⟩ 1 1 [.int .i64 y] rfl rfl ?c1 ?c2 ?c3 ?c4 ?c5 ?_))
        case c1 =>
          intro j u hj
          match j, hj with
          | 0, hj => simp at hj; subst hj; simp [go_sem]
          | j + 1, hj => simp at hj
        case c2 => intro u hu; simp at hu; subst hu; rfl
        case c3 => unfold maxLen; omega
        case c4 => omega
        case c5 => simp; omega
        intro v' w2 hown hgrow _
        have HN := Lib.hid hown
        have HG := Lib.hid hgrow
        clear hown hgrow
        go_wp2
        go_roundg (l.length - (k + 1))
        case measure => omega
        case rel =>
          refine ⟨k + 1, by omega, by omega, by go_num, ?_, ?_, ?_⟩
          · rw [HAS.out]; exact decide_eq_true (by omega)
          · exact (HB.out.1.alloc _).grown HG.out (fun q e => (HO.out.lt q e).1)
          · rw [HVS.out]; exact HN.out
    · have hkl : k = l.length := by omega
      have hge : ¬ (k : Int) < (l.length : Int) := by omega
      have hA := HA.out
      have hO := HB.out.2
      have HE := Lib.hid HB.out.1
      subst hkl
      rw [List.take_length] at hA hO
      have HA2 := Lib.hid hA
      have HO2 := Lib.hid hO
      clear hA hO HA HB
      go_wp2
      go_ret2
      exact ⟨HE.out, .inr ⟨HA2.out, _, rfl, HO2.out⟩⟩
end Go.Proofs.Ytglifpoiildpfaa
