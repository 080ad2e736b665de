/- StationSafe: for every input the law returns true, and each argument reads afterwards as it read before. No condition. -/
import Derived.Test.YteojjbhadgkfgaaGreatRows
import Derived.Test.YteojjbhadgkfgaaGreatMj
import Derived.Test.YteojjbhadgkfgaaGreatMja
import Derived.Test.YteojjbhadgkfgaaGreatMia
import Derived.Test.YteojjbhadgkfgaaGreatMs
import Derived.Test.YteojjbhadgkfgaaGreatMo
/- StationSafe: joined. -/
namespace Go.Proofs.YteojjbhadgkfgaaGreat
set_option linter.unusedSimpArgs false
set_option linter.unusedVariables false
set_option maxRecDepth 100000
open Go Go.RowKit Lb

set_option maxHeartbeats 64000000 in
theorem law_StationSafe (s : St) (x : Sv) (id g time : Int) (w : World) (hr : RdS w x s) :
  Calls Tryz.prog 4 #[.agg (sta s x), .int .i64 id, .int .i64 g, .int .i64 time] w fun e w' => e = .returned (.bool true) ∧ Ext w w' := by
 by_cases h0 : (tapSt s id g time).2.2 = 0
 ·by_cases hv : (tapSt s id g time).2.1 = 0
  ·exact law_StationSafe_alone s x id g time w hr h0 hv
  ·exact law_StationSafe_led s x id g time w hr h0 hv
 ·exact law_StationSafe_err s x id g time w hr h0
end Go.Proofs.YteojjbhadgkfgaaGreat

namespace Go.Proofs.YteojjbhadgkfgaaGreat
set_option linter.unusedSimpArgs false
set_option linter.unusedVariables false
open Go.ChangeShapes Go.WideShapes Go.ChangeAt Go.RowKit
open Go.ChangeMaps (open_string shut_string)

set_option maxRecDepth 100000 in
theorem stationSafe_lifted (os : Os) (started : os.Started) (H : Type) (enc : TypeId × Value → H) :
  ReturnsInHanded {} Tryz.checked os 4 .any (Rows.stationSafeSpec.pre6 enc Tryz.prog Tryz.f4 Rows.stationSafeRow.domain false) (Rows.stationSafeSpec.post enc Tryz.prog Tryz.f4 false true false false) := by
 refine returnsInHanded_of_change (C := Tryz.checked) own started (by kernel_rfl) Tryz.func4
  (ChangeSpec.witness6 (enc := enc) (C := Tryz.checked) false ⟨#[], #[.agg #[.slice none 0 0, .slice none 0 0, .slice none 0 0, .int .i64 0, .slice none 0 0, .slice none 0 0, .slice none 0 0], .int .i64 0, .int .i64 0, .int .i64 0], []⟩ 8 (by kernel_rfl) (by kernel_rfl) (by kernel_rfl) (by kernel_rfl)) ?_
 intro W base args ds gs before hval0 hW hcnd _
 have hval : ∀ (j : Nat) t v, Tryz.f4.params[j]? = some t → args[j]? = some v → Value.okWide Tryz.prog W .any base t v := hval0
 have hW' := hW
 obtain ⟨p, q, hA0, hV, rfl, hfz, hnd⟩ := hW
 have hA : DataW.TrodAll enc Tryz.prog W 0 (fun _ => true) true Tryz.f4.params.toList args.toList ds p := hA0
 rw [Tryz.params4] at hA hval
 obtain ⟨v0, vs0, d0, ds0, p0, q0, hargs, rfl, rfl, h0, r0⟩ := trodAll_cons hA
 obtain ⟨v1, vs1, d1, ds1, p1, q1, rfl, rfl, rfl, h1, r1⟩ := trodAll_cons r0
 obtain ⟨v2, vs2, d2, ds2, p2, q2, rfl, rfl, rfl, h2, r2⟩ := trodAll_cons r1
 obtain ⟨v3, vs3, d3, ds3, p3, q3, rfl, rfl, rfl, h3, r3⟩ := trodAll_cons r2
 obtain ⟨rfl, rfl, rfl⟩ := trodAll_nil r3
 obtain rfl : args = #[v0, v1, v2, v3] := by cases args; simp_all
 obtain ⟨rfl, rfl⟩ := trodVars_none hV
 have k0 := h0
 have lt0 : ∀ x ∈ p0, x.block < W.heap.size := by obtain ⟨m, hm⟩ := k0; exact DataW.trod_lt m _ _ _ hm
 have k1 := h1
 have lt1 : ∀ x ∈ p1, x.block < W.heap.size := by obtain ⟨m, hm⟩ := k1; exact DataW.trod_lt m _ _ _ hm
 have k2 := h2
 have lt2 : ∀ x ∈ p2, x.block < W.heap.size := by obtain ⟨m, hm⟩ := k2; exact DataW.trod_lt m _ _ _ hm
 have k3 := h3
 have lt3 : ∀ x ∈ p3, x.block < W.heap.size := by obtain ⟨m, hm⟩ := k3; exact DataW.trod_lt m _ _ _ hm
 obtain ⟨t0, x0, rfl, e0⟩ := open_st (hval 0 32 v0 rfl rfl) h0
 obtain ⟨a1, rfl, b1⟩ := open_i64 (hval 1 3 v1 rfl rfl) h1
 obtain ⟨a2, rfl, b2⟩ := open_i64 (hval 2 3 v2 rfl rfl) h2
 obtain ⟨a3, rfl, b3⟩ := open_i64 (hval 3 3 v3 rfl rfl) h3
 clear hA0 hval0
 refine (law_StationSafe t0 x0 a1 a2 a3 W e0).mono fun e W' ⟨he, bel⟩ => ?_
 subst he
 exact ⟨_, rfl, _, _, _, [], _, [], hW', trodAll_mk1 (shut_bool Tryz.underlying4 _), (trodAll_cons_mk (Below.trod laidOut (by kernel_rfl) (of_decide_eq_true (by kernel_rfl)) k0 bel lt0) (trodAll_cons_mk (Below.trod laidOut (by kernel_rfl) (of_decide_eq_true (by kernel_rfl)) k1 bel lt1) (trodAll_cons_mk (Below.trod laidOut (by kernel_rfl) (of_decide_eq_true (by kernel_rfl)) k2 bel lt2) (trodAll_cons_mk (Below.trod laidOut (by kernel_rfl) (of_decide_eq_true (by kernel_rfl)) k3 bel lt3) trodAll_mk0)))), rfl, bel.frame _, fun h => by cases h⟩

theorem stationSafe_holds : Rows.StationSafeSaid :=
 OpenClaim.holds_of_wide 4 Tryz.f4 rfl rfl rfl rfl rfl rfl rfl ⟨rfl, rfl, rfl, rfl, rfl⟩ rfl rfl rfl rfl rfl (by kernel_rfl) Tryz.func4 (by kernel_rfl)
  (of_decide_eq_true (by kernel_rfl)) (by unfold Func.isWrapper; first | (rw [if_pos (by decide +kernel)]; kernel_rfl) | (rw [if_neg (by decide +kernel)]; exact ⟨rfl, rfl⟩))
  (fun os started H enc _ => stationSafe_lifted os started H enc)

end Go.Proofs.YteojjbhadgkfgaaGreat
