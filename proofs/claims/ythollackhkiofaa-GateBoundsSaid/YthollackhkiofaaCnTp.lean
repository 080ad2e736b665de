/- slices.Clone over records. -/
import Derived.Test.YthollackhkiofaaOwn
import Derived.Lib.SliceRun
import Derived.Lib.Walk
namespace Go.Proofs.Ythollackhkiofaa
set_option linter.unusedSimpArgs false
set_option linter.unusedVariables false
set_option maxRecDepth 100000
open Go Go.RowKit Lb

theorem info_tp : (Try.prog.info? 64).map (fun i => (i.zero, i.size, i.bytes)) = some (some (.agg #[.int .i64 0, .int .i64 0, .int .i64 0, .int .i64 0, .int .i64 0]), 5, 40) := by kernel_rfl

set_option maxHeartbeats 2000000 in
set_option maxRecDepth 100000 in
/-- slices.Clone: the same records in a row of the call's own. -/
theorem Clone_tp (l : List Tp) (v : Value) (w : World) (hr : RdL 5 tpc w v l) (hb : l.length * 40 ≤ 140737488355328) :
    Calls Try.prog 87 #[v] w fun e w' => ∃ v', e = .returned v' ∧ Ext w w' ∧ OwnL 64 5 tpc w.heap.size w' v' l := by
  obtain ⟨i0, hi, hz0, hz1, hz2⟩ := info_parts info_tp
  obtain ⟨A, c, rfl, h1, h2, h3⟩ := hr
  have hlen := encs_length (enc := tpc) (k := 5) (fun _ => rfl) l
  have hm : l.length ≤ maxLen := Nat.le_trans h1 h2
  cases A with
  | none =>
    have hl : l = [] := by
      cases l with
      | nil => rfl
      | cons x l =>
        obtain ⟨b, o, h, _⟩ := h3 (by simp)
        cases h
    subst hl
    clear h3 h1 h2 hlen
    have hq : ∀ (w : World) (a : Option Addr) (n c n' c' : Nat), (binOp .eql 56 (.slice a n c) (.slice none n' c')).run Try.prog w = .ok (.bool a.isNone) w := fun w a n c n' c' => Lib.run_eql_slice_nil w _ _ a n c n' c' Try.underlying56
    go_enter Try.func87, Try.ntmps87
    go_wp2_with fail
    go_ret
    exact ⟨_, rfl, Ext.refl _, OwnL.nil⟩
  | some ad =>
    have hnews : ∀ j u, (encs tpc l)[j]? = some u → w.cell? (ad.add j) = some u := by
      intro j u hu
      have hj : j < (encs tpc l).length := (List.getElem?_eq_some_iff.1 hu).1
      have hj2 : j / 5 < l.length := by omega
      obtain ⟨b, o, hA, hb, hc⟩ := h3 (by omega)
      injection hA with hA
      subst hA
      have hg := encs_get (enc := tpc) (k := 5) (fun _ => rfl) l (j / 5) (j % 5) hj2 (by omega)
      rw [show j / 5 * 5 + j % 5 = j from by omega, hu] at hg
      have := hc (j / 5) hj2 (j % 5) u (by rw [show l[j / 5]! = l[j / 5] from getElem!_pos l (j / 5) hj2]; exact hg.symm)
      rw [show o + j / 5 * 5 + j % 5 = o + j from by omega] at this
      rwa [show (⟨b, o, none⟩ : Addr).add j = ⟨b, o + j, none⟩ from by unfold Addr.add; split <;> simp_all]
    have hone : ∀ u ∈ encs tpc l, u.oneCell' = true := by
      intro u hu
      obtain ⟨x, -, hx⟩ := List.mem_flatMap.1 hu
      simp [tpc] at hx
      (rcases hx with rfl | rfl | rfl | rfl | rfl) <;> rfl
    have hq : ∀ (w : World) (a : Option Addr) (n c n' c' : Nat), (binOp .eql 56 (.slice a n c) (.slice none n' c')).run Try.prog w = .ok (.bool a.isNone) w := fun w a n c n' c' => Lib.run_eql_slice_nil w _ _ a n c n' c' Try.underlying56
    have HN := Lib.hid hnews
    have HL := Lib.hid hlen
    clear h3 hnews hlen
    go_enter Try.func87, Try.ntmps87
    go_wp2_with (at_builtin; refine wpList_append_own _ rfl _ _ 56 rfl w.heap.size 64 i0 (.agg #[.int .i64 0, .int .i64 0, .int .i64 0, .int .i64 0, .int .i64 0]) 5 40 Try.underlying56 hi hz0 hz1 hz2 rfl (by decide) _ _ _ rfl (World.ownsRow_made w #[] 0 (Nat.le_refl _) (Nat.zero_le _) (by simp)) ad l.length c (encs tpc l) rfl ?qc1 ?qc2 ?qc3 ?qc4 ?qc5 ?qc6 ?_)
    case qc1 => exact HL.out
    case qc2 =>
      intro j u hj
      exact Lib.cell?_alloc_some _ (HN.out j u hj)
    case qc3 => exact hone
    case qc4 => rw [Nat.zero_add]; exact hm
    case qc5 => rw [Nat.zero_add]; exact hb
    case qc6 => simp
    intro v' w1 hown hgrow hnil
    go_wp2
    go_ret
    refine ⟨v', rfl, ?_, ?_⟩
    · exact ((Ext.refl w).alloc _).grown hgrow (by intro k hk; simp [Value.ownBlock] at hk; omega)
    · unfold OwnL; simpa using hown

end Go.Proofs.Ythollackhkiofaa
