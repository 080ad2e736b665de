import Derived.Test.YtglifpoiildpfaaTickG
import Derived.Deep.RegionHeld3
namespace Go.Proofs.Ytglifpoiildpfaa
set_option linter.unusedSimpArgs false
set_option linter.unusedVariables false
open Go Go.RowKit Lb

set_option maxHeartbeats 1000000 in
theorem ref_TicketOf_no (l : List UInt8) (hl : l.length ≠ 8) (w : World) :
    Calls Try.prog 17 #[.string (bs l)] w fun e w' =>
      e = .returned (.tuple #[.agg (tkc tk0), .int .i64 1]) ∧ Ext w w' := by
  have hb : (((bs l).size : Int) != 8) = true := by rw [bs_size, bne_iff_ne]; omega
  go_enter Try.func17, Try.ntmps17
  go_wp2_with fail
  refine bodyPost_ret (v := .tuple #[.agg (tkc tk0), .int .i64 1]) (by simp [results, Try.results17, go_sem, tkc, tk0]) rfl ⟨rfl, ?_⟩
  repeat (first | (with_reducible exact Ext.refl _) | (with_reducible refine Ext.alloc ?_ _) | (with_reducible apply Ext.setC; focus (simp <;> omega)) | (with_reducible refine Ext.drew ?_) | (with_reducible refine Ext.drewN ?_ _) | (with_reducible refine Ext.trans ?_ (Hid.out ‹Hid (Ext _ _)›)))

theorem take_one {P : Program} {md : Region.Mode} {ops : Array Oper} {Q : Exit → Act → World → Prop} {S : World → Prop} {i fuel : Nat} {listed : Array Bool} {a : Act} {w : World}
    (hs : Region.noSelect ops = true) (hf : Region.free md ops listed i = true) (hr : (Region.ready md ops listed).contains i = true)
    (hQ : ∀ c a d v w, Q (.panic c) (Act.put a d v) w → Q (.panic c) a w) (hS : S w)
    (h : ∃ oi, ops[i]? = some oi ∧ ∃ v, YieldsIf P ops S oi v a ∧ wpAnyH P md ops Q S fuel (listed.setIfInBounds i true) (a.put oi.dst v) w) : wpAnyH P md ops Q S (fuel + 1) listed a w := by
  obtain ⟨oi, hi, v, hy, hh⟩ := h
  exact wpAnyH_take hi hs hf hr (fun c a w hh => hQ c a _ _ w hh) hy hS hh

theorem bs_index (l : List UInt8) (k : Nat) (h : k < l.length) (W : World) : (Instr.index 9 (.string (bs l)) (.int .i64 k)).run Try.prog W = .ok (.int .u8 (l[k]'h).toNat) W := by
  have h1 : k < (bs l).size := by rw [bs_size]; exact h
  have h2 : (k : Int) < ((bs l).size : Int) := by omega
  have h3 : (0 : Int) ≤ (k : Int) := by omega
  simp [go_sem, h1, h2, h3]
  rfl

set_option maxRecDepth 100000 in
set_option maxHeartbeats 2000000 in
theorem ref_TicketOf_ok (b0 b1 b2 b3 b4 b5 b6 b7 : UInt8) (w : World) :
    Calls Try.prog 17 #[.string (bs [b0, b1, b2, b3, b4, b5, b6, b7])] w fun e w' =>
      e = .returned (.tuple #[.agg (tkc (decodeTk [b0, b1, b2, b3, b4, b5, b6, b7]).1), .int .i64 (decodeTk [b0, b1, b2, b3, b4, b5, b6, b7]).2]) ∧ Ext w w' := by
  have hb : (((bs [b0, b1, b2, b3, b4, b5, b6, b7]).size : Int) != 8) = false := by rw [bs_size]; rfl
  have hdec : decodeTk [b0, b1, b2, b3, b4, b5, b6, b7] = if ckTicket ⟨256 * (b0.toNat : Int) + b1.toNat, (b6.toNat : Int) / 16, 256 * (b2.toNat : Int) + b3.toNat, 256 * (b4.toNat : Int) + b5.toNat, (b6.toNat : Int) % 16, b7.toNat⟩ ≠ 0 then (tk0, ckTicket ⟨256 * (b0.toNat : Int) + b1.toNat, (b6.toNat : Int) / 16, 256 * (b2.toNat : Int) + b3.toNat, 256 * (b4.toNat : Int) + b5.toNat, (b6.toNat : Int) % 16, b7.toNat⟩) else (⟨256 * (b0.toNat : Int) + b1.toNat, (b6.toNat : Int) / 16, 256 * (b2.toNat : Int) + b3.toNat, 256 * (b4.toNat : Int) + b5.toNat, (b6.toNat : Int) % 16, b7.toNat⟩, 0) := by
    simp only [decodeTk, decTk, Int.mul_comm]
  have hdH := Lib.hid hdec
  clear hdec
  have x0 : ∀ W : World, (Instr.index 9 (.string (bs [b0, b1, b2, b3, b4, b5, b6, b7])) (.int .i64 0)).run Try.prog W = .ok (.int .u8 b0.toNat) W := bs_index [b0, b1, b2, b3, b4, b5, b6, b7] 0 (by simp)
  have u0 := b0.toNat_lt
  have x1 : ∀ W : World, (Instr.index 9 (.string (bs [b0, b1, b2, b3, b4, b5, b6, b7])) (.int .i64 1)).run Try.prog W = .ok (.int .u8 b1.toNat) W := bs_index [b0, b1, b2, b3, b4, b5, b6, b7] 1 (by simp)
  have u1 := b1.toNat_lt
  have x2 : ∀ W : World, (Instr.index 9 (.string (bs [b0, b1, b2, b3, b4, b5, b6, b7])) (.int .i64 2)).run Try.prog W = .ok (.int .u8 b2.toNat) W := bs_index [b0, b1, b2, b3, b4, b5, b6, b7] 2 (by simp)
  have u2 := b2.toNat_lt
  have x3 : ∀ W : World, (Instr.index 9 (.string (bs [b0, b1, b2, b3, b4, b5, b6, b7])) (.int .i64 3)).run Try.prog W = .ok (.int .u8 b3.toNat) W := bs_index [b0, b1, b2, b3, b4, b5, b6, b7] 3 (by simp)
  have u3 := b3.toNat_lt
  have x4 : ∀ W : World, (Instr.index 9 (.string (bs [b0, b1, b2, b3, b4, b5, b6, b7])) (.int .i64 4)).run Try.prog W = .ok (.int .u8 b4.toNat) W := bs_index [b0, b1, b2, b3, b4, b5, b6, b7] 4 (by simp)
  have u4 := b4.toNat_lt
  have x5 : ∀ W : World, (Instr.index 9 (.string (bs [b0, b1, b2, b3, b4, b5, b6, b7])) (.int .i64 5)).run Try.prog W = .ok (.int .u8 b5.toNat) W := bs_index [b0, b1, b2, b3, b4, b5, b6, b7] 5 (by simp)
  have u5 := b5.toNat_lt
  have x6 : ∀ W : World, (Instr.index 9 (.string (bs [b0, b1, b2, b3, b4, b5, b6, b7])) (.int .i64 6)).run Try.prog W = .ok (.int .u8 b6.toNat) W := bs_index [b0, b1, b2, b3, b4, b5, b6, b7] 6 (by simp)
  have u6 := b6.toNat_lt
  have x7 : ∀ W : World, (Instr.index 9 (.string (bs [b0, b1, b2, b3, b4, b5, b6, b7])) (.int .i64 7)).run Try.prog W = .ok (.int .u8 b7.toNat) W := bs_index [b0, b1, b2, b3, b4, b5, b6, b7] 7 (by simp)
  have u7 := b7.toNat_lt
  have W0 : IntKind.i64.wrap (b0.toNat : Int) = (b0.toNat : Int) := IntWalk.i64_in _ (by omega)
  have W1 : IntKind.i64.wrap (b1.toNat : Int) = (b1.toNat : Int) := IntWalk.i64_in _ (by omega)
  have W2 : IntKind.i64.wrap (b2.toNat : Int) = (b2.toNat : Int) := IntWalk.i64_in _ (by omega)
  have W3 : IntKind.i64.wrap (b3.toNat : Int) = (b3.toNat : Int) := IntWalk.i64_in _ (by omega)
  have W4 : IntKind.i64.wrap (b4.toNat : Int) = (b4.toNat : Int) := IntWalk.i64_in _ (by omega)
  have W5 : IntKind.i64.wrap (b5.toNat : Int) = (b5.toNat : Int) := IntWalk.i64_in _ (by omega)
  have W6 : IntKind.i64.wrap (b6.toNat : Int) = (b6.toNat : Int) := IntWalk.i64_in _ (by omega)
  have W7 : IntKind.i64.wrap (b7.toNat : Int) = (b7.toNat : Int) := IntWalk.i64_in _ (by omega)
  have M0 : IntKind.i64.wrap (256 * (b0.toNat : Int)) = 256 * (b0.toNat : Int) := IntWalk.i64_in _ (by omega)
  have A0 : IntKind.i64.wrap (256 * (b0.toNat : Int) + (b1.toNat : Int)) = 256 * (b0.toNat : Int) + (b1.toNat : Int) := IntWalk.i64_in _ (by omega)
  have M2 : IntKind.i64.wrap (256 * (b2.toNat : Int)) = 256 * (b2.toNat : Int) := IntWalk.i64_in _ (by omega)
  have A2 : IntKind.i64.wrap (256 * (b2.toNat : Int) + (b3.toNat : Int)) = 256 * (b2.toNat : Int) + (b3.toNat : Int) := IntWalk.i64_in _ (by omega)
  have M4 : IntKind.i64.wrap (256 * (b4.toNat : Int)) = 256 * (b4.toNat : Int) := IntWalk.i64_in _ (by omega)
  have A4 : IntKind.i64.wrap (256 * (b4.toNat : Int) + (b5.toNat : Int)) = 256 * (b4.toNat : Int) + (b5.toNat : Int) := IntWalk.i64_in _ (by omega)
  have Q6 : IntKind.i64.wrap ((b6.toNat : Int).tdiv 16) = (b6.toNat : Int) / 16 := by rw [Int.tdiv_eq_ediv_of_nonneg (by omega)]; exact IntWalk.i64_in _ (by omega)
  have R6 : (b6.toNat : Int).tmod 16 = (b6.toNat : Int) % 16 := Int.tmod_eq_emod_of_nonneg (by omega)
  go_enter Try.func17, Try.ntmps17
  go_wp2_with fail
  refine wp_region_held_drew (S := fun _ => True) (by kernel_rfl) trivial (fun hS => ?_)
  simp only [List.size_toArray, List.length_cons, List.length_nil, Nat.reduceAdd, Array.replicate_succ, Array.replicate_zero, List.push_toArray, List.nil_append, List.cons_append]
  refine take_one (i := 0) (by kernel_rfl) (by kernel_rfl) (by kernel_rfl) (fun _ _ d _ _ h => by cases d <;> exact h) hS ⟨_, rfl, ?_⟩
  simp only [List.getElem_toArray, List.getElem_cons_zero, List.getElem_cons_succ]
  refine ⟨?_, Or.inl ⟨by rfl, ?hy0⟩, ?rest0⟩
  case hy0 => intro w hSw; go_simp; (try with_reducible rfl)
  simp only [Act.put, List.setIfInBounds_toArray, List.set_cons_zero, List.set_cons_succ]
  refine take_one (i := 1) (by kernel_rfl) (by kernel_rfl) (by kernel_rfl) (fun _ _ d _ _ h => by cases d <;> exact h) hS ⟨_, rfl, ?_⟩
  simp only [List.getElem_toArray, List.getElem_cons_zero, List.getElem_cons_succ]
  refine ⟨?_, Or.inl ⟨by rfl, ?hy1⟩, ?rest1⟩
  case hy1 => intro w hSw; go_simp; (try with_reducible rfl)
  simp only [Act.put, List.setIfInBounds_toArray, List.set_cons_zero, List.set_cons_succ]
  refine take_one (i := 2) (by kernel_rfl) (by kernel_rfl) (by kernel_rfl) (fun _ _ d _ _ h => by cases d <;> exact h) hS ⟨_, rfl, ?_⟩
  simp only [List.getElem_toArray, List.getElem_cons_zero, List.getElem_cons_succ]
  refine ⟨?_, Or.inl ⟨by rfl, ?hy2⟩, ?rest2⟩
  case hy2 => intro w hSw; go_simp; (try with_reducible rfl)
  simp only [Act.put, List.setIfInBounds_toArray, List.set_cons_zero, List.set_cons_succ]
  refine take_one (i := 3) (by kernel_rfl) (by kernel_rfl) (by kernel_rfl) (fun _ _ d _ _ h => by cases d <;> exact h) hS ⟨_, rfl, ?_⟩
  simp only [List.getElem_toArray, List.getElem_cons_zero, List.getElem_cons_succ]
  refine ⟨?_, Or.inl ⟨by rfl, ?hy3⟩, ?rest3⟩
  case hy3 => intro w hSw; go_simp; (try with_reducible rfl)
  simp only [Act.put, List.setIfInBounds_toArray, List.set_cons_zero, List.set_cons_succ]
  refine take_one (i := 4) (by kernel_rfl) (by kernel_rfl) (by kernel_rfl) (fun _ _ d _ _ h => by cases d <;> exact h) hS ⟨_, rfl, ?_⟩
  simp only [List.getElem_toArray, List.getElem_cons_zero, List.getElem_cons_succ]
  refine ⟨?_, Or.inl ⟨by rfl, ?hy4⟩, ?rest4⟩
  case hy4 => intro w hSw; go_simp; (try with_reducible rfl)
  simp only [Act.put, List.setIfInBounds_toArray, List.set_cons_zero, List.set_cons_succ]
  refine take_one (i := 5) (by kernel_rfl) (by kernel_rfl) (by kernel_rfl) (fun _ _ d _ _ h => by cases d <;> exact h) hS ⟨_, rfl, ?_⟩
  simp only [List.getElem_toArray, List.getElem_cons_zero, List.getElem_cons_succ]
  refine ⟨?_, Or.inl ⟨by rfl, ?hy5⟩, ?rest5⟩
  case hy5 => intro w hSw; go_simp; (try with_reducible rfl)
  simp only [Act.put, List.setIfInBounds_toArray, List.set_cons_zero, List.set_cons_succ]
  refine take_one (i := 6) (by kernel_rfl) (by kernel_rfl) (by kernel_rfl) (fun _ _ d _ _ h => by cases d <;> exact h) hS ⟨_, rfl, ?_⟩
  simp only [List.getElem_toArray, List.getElem_cons_zero, List.getElem_cons_succ]
  refine ⟨?_, Or.inl ⟨by rfl, ?hy6⟩, ?rest6⟩
  case hy6 => intro w hSw; go_simp; (try with_reducible rfl)
  simp only [Act.put, List.setIfInBounds_toArray, List.set_cons_zero, List.set_cons_succ]
  refine take_one (i := 7) (by kernel_rfl) (by kernel_rfl) (by kernel_rfl) (fun _ _ d _ _ h => by cases d <;> exact h) hS ⟨_, rfl, ?_⟩
  simp only [List.getElem_toArray, List.getElem_cons_zero, List.getElem_cons_succ]
  refine ⟨?_, Or.inl ⟨by rfl, ?hy7⟩, ?rest7⟩
  case hy7 => intro w hSw; go_simp; (try with_reducible rfl)
  simp only [Act.put, List.setIfInBounds_toArray, List.set_cons_zero, List.set_cons_succ]
  refine take_one (i := 8) (by kernel_rfl) (by kernel_rfl) (by kernel_rfl) (fun _ _ d _ _ h => by cases d <;> exact h) hS ⟨_, rfl, ?_⟩
  simp only [List.getElem_toArray, List.getElem_cons_zero, List.getElem_cons_succ]
  refine ⟨?_, Or.inl ⟨by rfl, ?hy8⟩, ?rest8⟩
  case hy8 => intro w hSw; go_simp; (try with_reducible rfl)
  simp only [Act.put, List.setIfInBounds_toArray, List.set_cons_zero, List.set_cons_succ]
  refine take_one (i := 9) (by kernel_rfl) (by kernel_rfl) (by kernel_rfl) (fun _ _ d _ _ h => by cases d <;> exact h) hS ⟨_, rfl, ?_⟩
  simp only [List.getElem_toArray, List.getElem_cons_zero, List.getElem_cons_succ]
  refine ⟨?_, Or.inl ⟨by rfl, ?hy9⟩, ?rest9⟩
  case hy9 => intro w hSw; go_simp; (try with_reducible rfl)
  simp only [Act.put, List.setIfInBounds_toArray, List.set_cons_zero, List.set_cons_succ]
  refine take_one (i := 10) (by kernel_rfl) (by kernel_rfl) (by kernel_rfl) (fun _ _ d _ _ h => by cases d <;> exact h) hS ⟨_, rfl, ?_⟩
  simp only [List.getElem_toArray, List.getElem_cons_zero, List.getElem_cons_succ]
  refine ⟨?_, Or.inl ⟨by rfl, ?hy10⟩, ?rest10⟩
  case hy10 => intro w hSw; go_simp; (try with_reducible rfl)
  simp only [Act.put, List.setIfInBounds_toArray, List.set_cons_zero, List.set_cons_succ]
  refine take_one (i := 11) (by kernel_rfl) (by kernel_rfl) (by kernel_rfl) (fun _ _ d _ _ h => by cases d <;> exact h) hS ⟨_, rfl, ?_⟩
  simp only [List.getElem_toArray, List.getElem_cons_zero, List.getElem_cons_succ]
  refine ⟨?_, Or.inl ⟨by rfl, ?hy11⟩, ?rest11⟩
  case hy11 => intro w hSw; go_simp; (try with_reducible rfl)
  simp only [Act.put, List.setIfInBounds_toArray, List.set_cons_zero, List.set_cons_succ]
  refine take_one (i := 12) (by kernel_rfl) (by kernel_rfl) (by kernel_rfl) (fun _ _ d _ _ h => by cases d <;> exact h) hS ⟨_, rfl, ?_⟩
  simp only [List.getElem_toArray, List.getElem_cons_zero, List.getElem_cons_succ]
  refine ⟨?_, Or.inl ⟨by rfl, ?hy12⟩, ?rest12⟩
  case hy12 => intro w hSw; go_simp; (try with_reducible rfl)
  simp only [Act.put, List.setIfInBounds_toArray, List.set_cons_zero, List.set_cons_succ]
  refine take_one (i := 13) (by kernel_rfl) (by kernel_rfl) (by kernel_rfl) (fun _ _ d _ _ h => by cases d <;> exact h) hS ⟨_, rfl, ?_⟩
  simp only [List.getElem_toArray, List.getElem_cons_zero, List.getElem_cons_succ]
  refine ⟨?_, Or.inl ⟨by rfl, ?hy13⟩, ?rest13⟩
  case hy13 => intro w hSw; go_simp; (try with_reducible rfl)
  simp only [Act.put, List.setIfInBounds_toArray, List.set_cons_zero, List.set_cons_succ]
  refine take_one (i := 14) (by kernel_rfl) (by kernel_rfl) (by kernel_rfl) (fun _ _ d _ _ h => by cases d <;> exact h) hS ⟨_, rfl, ?_⟩
  simp only [List.getElem_toArray, List.getElem_cons_zero, List.getElem_cons_succ]
  refine ⟨?_, Or.inl ⟨by rfl, ?hy14⟩, ?rest14⟩
  case hy14 => intro w hSw; go_simp; (try with_reducible rfl)
  simp only [Act.put, List.setIfInBounds_toArray, List.set_cons_zero, List.set_cons_succ]
  refine take_one (i := 15) (by kernel_rfl) (by kernel_rfl) (by kernel_rfl) (fun _ _ d _ _ h => by cases d <;> exact h) hS ⟨_, rfl, ?_⟩
  simp only [List.getElem_toArray, List.getElem_cons_zero, List.getElem_cons_succ]
  refine ⟨?_, Or.inl ⟨by rfl, ?hy15⟩, ?rest15⟩
  case hy15 => intro w hSw; go_simp; (try with_reducible rfl)
  simp only [Act.put, List.setIfInBounds_toArray, List.set_cons_zero, List.set_cons_succ]
  refine take_one (i := 16) (by kernel_rfl) (by kernel_rfl) (by kernel_rfl) (fun _ _ d _ _ h => by cases d <;> exact h) hS ⟨_, rfl, ?_⟩
  simp only [List.getElem_toArray, List.getElem_cons_zero, List.getElem_cons_succ]
  refine ⟨?_, Or.inl ⟨by rfl, ?hy16⟩, ?rest16⟩
  case hy16 => intro w hSw; go_simp; (try with_reducible rfl)
  simp only [Act.put, List.setIfInBounds_toArray, List.set_cons_zero, List.set_cons_succ]
  refine take_one (i := 17) (by kernel_rfl) (by kernel_rfl) (by kernel_rfl) (fun _ _ d _ _ h => by cases d <;> exact h) hS ⟨_, rfl, ?_⟩
  simp only [List.getElem_toArray, List.getElem_cons_zero, List.getElem_cons_succ]
  refine ⟨?_, Or.inl ⟨by rfl, ?hy17⟩, ?rest17⟩
  case hy17 => intro w hSw; go_simp; (try with_reducible rfl)
  simp only [Act.put, List.setIfInBounds_toArray, List.set_cons_zero, List.set_cons_succ]
  refine take_one (i := 18) (by kernel_rfl) (by kernel_rfl) (by kernel_rfl) (fun _ _ d _ _ h => by cases d <;> exact h) hS ⟨_, rfl, ?_⟩
  simp only [List.getElem_toArray, List.getElem_cons_zero, List.getElem_cons_succ]
  refine ⟨?_, Or.inl ⟨by rfl, ?hy18⟩, ?rest18⟩
  case hy18 => intro w hSw; go_simp; (try with_reducible rfl)
  simp only [Act.put, List.setIfInBounds_toArray, List.set_cons_zero, List.set_cons_succ]
  refine take_one (i := 19) (by kernel_rfl) (by kernel_rfl) (by kernel_rfl) (fun _ _ d _ _ h => by cases d <;> exact h) hS ⟨_, rfl, ?_⟩
  simp only [List.getElem_toArray, List.getElem_cons_zero, List.getElem_cons_succ]
  refine ⟨?_, Or.inl ⟨by rfl, ?hy19⟩, ?rest19⟩
  case hy19 => intro w hSw; go_simp; (try with_reducible rfl)
  simp only [Act.put, List.setIfInBounds_toArray, List.set_cons_zero, List.set_cons_succ]
  refine take_one (i := 20) (by kernel_rfl) (by kernel_rfl) (by kernel_rfl) (fun _ _ d _ _ h => by cases d <;> exact h) hS ⟨_, rfl, ?_⟩
  simp only [List.getElem_toArray, List.getElem_cons_zero, List.getElem_cons_succ]
  refine ⟨?_, Or.inl ⟨by rfl, ?hy20⟩, ?rest20⟩
  case hy20 => intro w hSw; go_simp; (try with_reducible rfl)
  simp only [Act.put, List.setIfInBounds_toArray, List.set_cons_zero, List.set_cons_succ]
  refine take_one (i := 21) (by kernel_rfl) (by kernel_rfl) (by kernel_rfl) (fun _ _ d _ _ h => by cases d <;> exact h) hS ⟨_, rfl, ?_⟩
  simp only [List.getElem_toArray, List.getElem_cons_zero, List.getElem_cons_succ]
  refine ⟨?_, Or.inl ⟨by rfl, ?hy21⟩, ?rest21⟩
  case hy21 => intro w hSw; go_simp; (try with_reducible rfl)
  simp only [Act.put, List.setIfInBounds_toArray, List.set_cons_zero, List.set_cons_succ]
  refine take_one (i := 22) (by kernel_rfl) (by kernel_rfl) (by kernel_rfl) (fun _ _ d _ _ h => by cases d <;> exact h) hS ⟨_, rfl, ?_⟩
  simp only [List.getElem_toArray, List.getElem_cons_zero, List.getElem_cons_succ]
  refine ⟨?_, Or.inl ⟨by rfl, ?hy22⟩, ?rest22⟩
  case hy22 => intro w hSw; go_simp; (try with_reducible rfl)
  simp only [Act.put, List.setIfInBounds_toArray, List.set_cons_zero, List.set_cons_succ]
  refine take_one (i := 23) (by kernel_rfl) (by kernel_rfl) (by kernel_rfl) (fun _ _ d _ _ h => by cases d <;> exact h) hS ⟨_, rfl, ?_⟩
  simp only [List.getElem_toArray, List.getElem_cons_zero, List.getElem_cons_succ]
  refine ⟨?_, Or.inl ⟨by rfl, ?hy23⟩, ?rest23⟩
  case hy23 => intro w hSw; go_simp; (try with_reducible rfl)
  simp only [Act.put, List.setIfInBounds_toArray, List.set_cons_zero, List.set_cons_succ]
  refine take_one (i := 24) (by kernel_rfl) (by kernel_rfl) (by kernel_rfl) (fun _ _ d _ _ h => by cases d <;> exact h) hS ⟨_, rfl, ?_⟩
  simp only [List.getElem_toArray, List.getElem_cons_zero, List.getElem_cons_succ]
  refine ⟨?_, Or.inl ⟨by rfl, ?hy24⟩, ?rest24⟩
  case hy24 => intro w hSw; go_simp; (try with_reducible rfl)
  simp only [Act.put, List.setIfInBounds_toArray, List.set_cons_zero, List.set_cons_succ]
  refine take_one (i := 25) (by kernel_rfl) (by kernel_rfl) (by kernel_rfl) (fun _ _ d _ _ h => by cases d <;> exact h) hS ⟨_, rfl, ?_⟩
  simp only [List.getElem_toArray, List.getElem_cons_zero, List.getElem_cons_succ]
  refine ⟨?_, Or.inl ⟨by rfl, ?hy25⟩, ?rest25⟩
  case hy25 => intro w hSw; go_simp; (try with_reducible rfl)
  simp only [Act.put, List.setIfInBounds_toArray, List.set_cons_zero, List.set_cons_succ]
  refine take_one (i := 26) (by kernel_rfl) (by kernel_rfl) (by kernel_rfl) (fun _ _ d _ _ h => by cases d <;> exact h) hS ⟨_, rfl, ?_⟩
  simp only [List.getElem_toArray, List.getElem_cons_zero, List.getElem_cons_succ]
  refine ⟨?_, Or.inl ⟨by rfl, ?hy26⟩, ?rest26⟩
  case hy26 => intro w hSw; go_simp; (try with_reducible rfl)
  simp only [Act.put, List.setIfInBounds_toArray, List.set_cons_zero, List.set_cons_succ]
  refine take_one (i := 27) (by kernel_rfl) (by kernel_rfl) (by kernel_rfl) (fun _ _ d _ _ h => by cases d <;> exact h) hS ⟨_, rfl, ?_⟩
  simp only [List.getElem_toArray, List.getElem_cons_zero, List.getElem_cons_succ]
  refine ⟨?_, Or.inl ⟨by rfl, ?hy27⟩, ?rest27⟩
  case hy27 => intro w hSw; go_simp; (try with_reducible rfl)
  simp only [Act.put, List.setIfInBounds_toArray, List.set_cons_zero, List.set_cons_succ]
  refine take_one (i := 28) (by kernel_rfl) (by kernel_rfl) (by kernel_rfl) (fun _ _ d _ _ h => by cases d <;> exact h) hS ⟨_, rfl, ?_⟩
  simp only [List.getElem_toArray, List.getElem_cons_zero, List.getElem_cons_succ]
  refine ⟨?_, Or.inl ⟨by rfl, ?hy28⟩, ?rest28⟩
  case hy28 => intro w hSw; go_simp; (try with_reducible rfl)
  simp only [Act.put, List.setIfInBounds_toArray, List.set_cons_zero, List.set_cons_succ]
  refine take_one (i := 29) (by kernel_rfl) (by kernel_rfl) (by kernel_rfl) (fun _ _ d _ _ h => by cases d <;> exact h) hS ⟨_, rfl, ?_⟩
  simp only [List.getElem_toArray, List.getElem_cons_zero, List.getElem_cons_succ]
  refine ⟨?_, Or.inl ⟨by rfl, ?hy29⟩, ?rest29⟩
  case hy29 => intro w hSw; go_simp; (try with_reducible rfl)
  simp only [Act.put, List.setIfInBounds_toArray, List.set_cons_zero, List.set_cons_succ]
  refine take_one (i := 30) (by kernel_rfl) (by kernel_rfl) (by kernel_rfl) (fun _ _ d _ _ h => by cases d <;> exact h) hS ⟨_, rfl, ?_⟩
  simp only [List.getElem_toArray, List.getElem_cons_zero, List.getElem_cons_succ]
  refine ⟨?_, Or.inl ⟨by rfl, ?hy30⟩, ?rest30⟩
  case hy30 => intro w hSw; go_simp; (try with_reducible rfl)
  simp only [Act.put, List.setIfInBounds_toArray, List.set_cons_zero, List.set_cons_succ]
  refine take_one (i := 31) (by kernel_rfl) (by kernel_rfl) (by kernel_rfl) (fun _ _ d _ _ h => by cases d <;> exact h) hS ⟨_, rfl, ?_⟩
  simp only [List.getElem_toArray, List.getElem_cons_zero, List.getElem_cons_succ]
  refine ⟨?_, Or.inl ⟨by rfl, ?hy31⟩, ?rest31⟩
  case hy31 => intro w hSw; go_simp; (try with_reducible rfl)
  simp only [Act.put, List.setIfInBounds_toArray, List.set_cons_zero, List.set_cons_succ]
  refine take_one (i := 32) (by kernel_rfl) (by kernel_rfl) (by kernel_rfl) (fun _ _ d _ _ h => by cases d <;> exact h) hS ⟨_, rfl, ?_⟩
  simp only [List.getElem_toArray, List.getElem_cons_zero, List.getElem_cons_succ]
  refine ⟨?_, Or.inl ⟨by rfl, ?hy32⟩, ?rest32⟩
  case hy32 => intro w hSw; go_simp; (try with_reducible rfl)
  simp only [Act.put, List.setIfInBounds_toArray, List.set_cons_zero, List.set_cons_succ]
  refine take_one (i := 33) (by kernel_rfl) (by kernel_rfl) (by kernel_rfl) (fun _ _ d _ _ h => by cases d <;> exact h) hS ⟨_, rfl, ?_⟩
  simp only [List.getElem_toArray, List.getElem_cons_zero, List.getElem_cons_succ]
  refine ⟨?_, Or.inl ⟨by rfl, ?hy33⟩, ?rest33⟩
  case hy33 => intro w hSw; go_simp; (try with_reducible rfl)
  simp only [Act.put, List.setIfInBounds_toArray, List.set_cons_zero, List.set_cons_succ]
  refine take_one (i := 34) (by kernel_rfl) (by kernel_rfl) (by kernel_rfl) (fun _ _ d _ _ h => by cases d <;> exact h) hS ⟨_, rfl, ?_⟩
  simp only [List.getElem_toArray, List.getElem_cons_zero, List.getElem_cons_succ]
  refine ⟨?_, Or.inl ⟨by rfl, ?hy34⟩, ?rest34⟩
  case hy34 => intro w hSw; go_simp; (try with_reducible rfl)
  simp only [Act.put, List.setIfInBounds_toArray, List.set_cons_zero, List.set_cons_succ]
  refine take_one (i := 35) (by kernel_rfl) (by kernel_rfl) (by kernel_rfl) (fun _ _ d _ _ h => by cases d <;> exact h) hS ⟨_, rfl, ?_⟩
  simp only [List.getElem_toArray, List.getElem_cons_zero, List.getElem_cons_succ]
  refine ⟨?_, Or.inl ⟨by rfl, ?hy35⟩, ?rest35⟩
  case hy35 => intro w hSw; go_simp; (try with_reducible rfl)
  simp only [Act.put, List.setIfInBounds_toArray, List.set_cons_zero, List.set_cons_succ]
  refine wpAnyH_ready (rs := [36]) (by kernel_rfl) (by simp) ?_
  refine AllReadyH.cons rfl (fun K hK => ?_) AllReadyH.nil
  go_simp
  refine hK.out _ _ trivial (fun _ => ?_)
  clear hK K
  simp only [Act.put, List.setIfInBounds_toArray, List.set_cons_zero, List.set_cons_succ]
  refine wpAnyH_ready (rs := [37]) (by kernel_rfl) (by simp) ?_
  refine AllReadyH.cons rfl (fun K hK => ?_) AllReadyH.nil
  go_simp
  refine hK.out _ _ trivial (fun _ => ?_)
  clear hK K
  simp only [Act.put, List.setIfInBounds_toArray, List.set_cons_zero, List.set_cons_succ]
  refine wpAnyH_done (by kernel_rfl) ?_ _
  have hdec := hdH.out
  clear hdH x0 x1 x2 x3 x4 x5 x6 x7 W0 W1 W2 W3 W4 W5 W6 W7 M0 M2 M4 A0 A2 A4 Q6 R6 hb
  have hk := ref_CheckTicket ⟨256 * (b0.toNat : Int) + b1.toNat, (b6.toNat : Int) / 16, 256 * (b2.toNat : Int) + b3.toNat, 256 * (b4.toNat : Int) + b5.toNat, (b6.toNat : Int) % 16, b7.toNat⟩
  by_cases h0 : ckTicket ⟨256 * (b0.toNat : Int) + b1.toNat, (b6.toNat : Int) / 16, 256 * (b2.toNat : Int) + b3.toNat, 256 * (b4.toNat : Int) + b5.toNat, (b6.toNat : Int) % 16, b7.toNat⟩ = 0
  · rw [h0] at hk
    rw [if_neg (by simpa using h0)] at hdec
    have HK := Lib.hid hk
    have HD := Lib.hid hdec
    clear hk h0 hdec
    go_wp2_with fail
    (refine (HK.out _).mono ?_; rintro e w1 ⟨rfl, h1⟩; have H1 := Lib.hid h1; have hz1 := h1.size; clear h1; (try simp only [World.size_alloc, size_set, World.heap_drewN, size_drew] at hz1); apply Row.use (w := w1) (g := w.heap.size); (focus (repeat (first | (with_reducible exact Hid.out ‹Hid (Row _ _ _)›) | (with_reducible exact Row.newAt rfl) | (with_reducible apply Row.newAt; (simp; done)) | (with_reducible apply Row.set_) | (with_reducible apply Row.far; focus (simp <;> omega)) | (with_reducible apply Row.alloc) | (with_reducible apply Row.drew) | (with_reducible apply Row.drewN) | (with_reducible apply Row.ext (Hid.out ‹Hid (Ext _ _)›))))); intro q1_0 f1_0 l1_0 R1_0; (try simp only [List.setIfInBounds_toArray, List.set_cons_zero, List.set_cons_succ] at q1_0 R1_0); apply Row.use (w := w1) (g := w.heap.size + 1); (focus (repeat (first | (with_reducible exact Hid.out ‹Hid (Row _ _ _)›) | (with_reducible exact Row.newAt rfl) | (with_reducible apply Row.newAt; (simp; done)) | (with_reducible apply Row.set_) | (with_reducible apply Row.far; focus (simp <;> omega)) | (with_reducible apply Row.alloc) | (with_reducible apply Row.drew) | (with_reducible apply Row.drewN) | (with_reducible apply Row.ext (Hid.out ‹Hid (Ext _ _)›))))); intro q1_1 f1_1 l1_1 R1_1; (try simp only [List.setIfInBounds_toArray, List.set_cons_zero, List.set_cons_succ] at q1_1 R1_1))
    go_wp2_with fail
    refine bodyPost_ret (v := .tuple #[.agg (tkc ⟨256 * (b0.toNat : Int) + b1.toNat, (b6.toNat : Int) / 16, 256 * (b2.toNat : Int) + b3.toNat, 256 * (b4.toNat : Int) + b5.toNat, (b6.toNat : Int) % 16, b7.toNat⟩), .int .i64 0]) (by simp [results, Try.results17, go_sem, q1_0, q1_1, l1_0, l1_1, tkc]) rfl ⟨by rw [HD.out], ?_⟩
    repeat (first | (with_reducible exact Ext.refl _) | (with_reducible refine Ext.alloc ?_ _) | (with_reducible apply Ext.setC; focus (simp <;> omega)) | (with_reducible refine Ext.drew ?_) | (with_reducible refine Ext.drewN ?_ _) | (with_reducible refine Ext.trans ?_ (Hid.out ‹Hid (Ext _ _)›)))
  · have hb : (ckTicket ⟨256 * (b0.toNat : Int) + b1.toNat, (b6.toNat : Int) / 16, 256 * (b2.toNat : Int) + b3.toNat, 256 * (b4.toNat : Int) + b5.toNat, (b6.toNat : Int) % 16, b7.toNat⟩ != 0) = true := by simpa using h0
    rw [if_pos h0] at hdec
    generalize ckTicket ⟨256 * (b0.toNat : Int) + b1.toNat, (b6.toNat : Int) / 16, 256 * (b2.toNat : Int) + b3.toNat, 256 * (b4.toNat : Int) + b5.toNat, (b6.toNat : Int) % 16, b7.toNat⟩ = r at hk hb hdec
    have HK := Lib.hid hk
    have HD := Lib.hid hdec
    clear hk h0 hdec
    go_wp2_with fail
    (refine (HK.out _).mono ?_; rintro e w1 ⟨rfl, h1⟩; have H1 := Lib.hid h1; have hz1 := h1.size; clear h1; (try simp only [World.size_alloc, size_set, World.heap_drewN, size_drew] at hz1); apply Row.use (w := w1) (g := w.heap.size); (focus (repeat (first | (with_reducible exact Hid.out ‹Hid (Row _ _ _)›) | (with_reducible exact Row.newAt rfl) | (with_reducible apply Row.newAt; (simp; done)) | (with_reducible apply Row.set_) | (with_reducible apply Row.far; focus (simp <;> omega)) | (with_reducible apply Row.alloc) | (with_reducible apply Row.drew) | (with_reducible apply Row.drewN) | (with_reducible apply Row.ext (Hid.out ‹Hid (Ext _ _)›))))); intro q1_0 f1_0 l1_0 R1_0; (try simp only [List.setIfInBounds_toArray, List.set_cons_zero, List.set_cons_succ] at q1_0 R1_0); apply Row.use (w := w1) (g := w.heap.size + 1); (focus (repeat (first | (with_reducible exact Hid.out ‹Hid (Row _ _ _)›) | (with_reducible exact Row.newAt rfl) | (with_reducible apply Row.newAt; (simp; done)) | (with_reducible apply Row.set_) | (with_reducible apply Row.far; focus (simp <;> omega)) | (with_reducible apply Row.alloc) | (with_reducible apply Row.drew) | (with_reducible apply Row.drewN) | (with_reducible apply Row.ext (Hid.out ‹Hid (Ext _ _)›))))); intro q1_1 f1_1 l1_1 R1_1; (try simp only [List.setIfInBounds_toArray, List.set_cons_zero, List.set_cons_succ] at q1_1 R1_1))
    go_wp2_with fail
    refine bodyPost_ret (v := .tuple #[.agg (tkc tk0), .int .i64 r]) (by simp [results, Try.results17, go_sem, q1_0, q1_1, l1_0, l1_1, tkc, tk0]) rfl ⟨by rw [HD.out], ?_⟩
    repeat (first | (with_reducible exact Ext.refl _) | (with_reducible refine Ext.alloc ?_ _) | (with_reducible apply Ext.setC; focus (simp <;> omega)) | (with_reducible refine Ext.drew ?_) | (with_reducible refine Ext.drewN ?_ _) | (with_reducible refine Ext.trans ?_ (Hid.out ‹Hid (Ext _ _)›)))

theorem ref_TicketOf (l : List UInt8) (w : World) :
    Calls Try.prog 17 #[.string (bs l)] w fun e w' =>
      e = .returned (.tuple #[.agg (tkc (decodeTk l).1), .int .i64 (decodeTk l).2]) ∧ Ext w w' := by
  by_cases hl : l.length = 8
  · match l, hl with
    | [b0, b1, b2, b3, b4, b5, b6, b7], _ => exact ref_TicketOf_ok b0 b1 b2 b3 b4 b5 b6 b7 w
  · have : decTk l = none := by
      unfold decTk
      split
      · simp at hl
      · rfl
    unfold decodeTk
    rw [this]
    exact ref_TicketOf_no l hl w
end Go.Proofs.Ytglifpoiildpfaa
