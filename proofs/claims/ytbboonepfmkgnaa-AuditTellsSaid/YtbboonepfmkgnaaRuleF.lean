/- rule.Raw gives the judge's answer. -/
import Derived.Test.YtbboonepfmkgnaaRuleE
namespace Go.Proofs.Ytbboonepfmkgnaa
set_option linter.unusedSimpArgs false
set_option linter.unusedVariables false
set_option maxRecDepth 100000
open Go Go.RowKit Lb

set_option maxHeartbeats 2000000 in
theorem rule_Raw (t : Tk) (was : List Tp) (rides : Int) (p : Tp) (v : Value) (w : World) (hr : RdL 5 tpc w v was) (h0 : 0 ≤ t.zones) (h1 : t.zones < 16) (hz : isZone p.zone = true)
    (ht0 : 0 ≤ p.time) (ht1 : p.time ≤ 9999) (hw : ∀ x ∈ was, 0 ≤ x.time ∧ x.time ≤ 9999) :
    Calls Try.prog 83 #[.agg (tkc t), v, .int .i64 rides, .agg (tpc p)] w fun e w' => e = .returned (.tuple #[.int .i64 (judge t (lastTime was) rides p).1, .int .i64 (judge t (lastTime was) rides p).2]) ∧ Ext w w' := by
  obtain ⟨A, c, rfl, hl1, hl2, hl3⟩ := hr
  unfold maxLen at hl2
  rcases List.eq_nil_or_concat was with rfl | ⟨init, x, rfl⟩
  · have hs := fun g w hr => judge_say t none none rides p g w hr h0 h1 hz (fun w1 e => judge_goesOn_no t rides p.time g w1 (hr.ext e))
    have hl : lastTime [] = none := rfl
    rw [hl]
    generalize judge t none rides p = res at hs
    obtain ⟨a, b, c, d, y, f⟩ := t
    obtain ⟨pt, pg, ps, pti, pz⟩ := p
    unfold tkc
    have HS := Lib.hid hs
    clear hs h0 h1 hz ht0 ht1 hw hl hl1 hl2 hl3
    unfold tpc jgc at HS
    unfold tpc
    go_enter Try.func83, Try.ntmps83
    go_wp2_with fail
    refine (HS.out (w.heap.size + 1 + 1) _ ?hr1).mono ?_
    case hr1 => exact Row.newAt (by simp)
    rintro e w1 ⟨rfl, h1⟩
    have H1 := Lib.hid h1
    clear h1
    go_wp2_with fail
    go_ret2
    refine ⟨rfl, ?_⟩
    repeat (first | (with_reducible exact Ext.refl _) | (with_reducible refine Ext.alloc ?_ _) | (with_reducible apply Ext.setC; focus (simp <;> omega)) | (with_reducible refine Ext.drew ?_) | (with_reducible refine Ext.drewN ?_ _) | (with_reducible refine Ext.trans ?_ (Hid.out ‹Hid (Ext _ _)›)))
  · obtain ⟨b0, o, rfl, hb, hcell⟩ := hl3 (by simp)
    have hx := hcell init.length (by simp) 3 (.int .i64 x.time) (by simp [tpc])
    have hwx := hw x (by simp)
    have hl : lastTime (init ++ [x]) = some x.time := by simp [lastTime]
    have hlen : (init ++ [x]).length = init.length + 1 := by simp
    have hs := fun (g : Nat) (w : World) (hr : Row w g (jgc t (some ⟨b0, o + init.length * 5, none⟩) rides)) (hc : ∀ w1, Ext w w1 → w1.cell? ⟨b0, o + init.length * 5 + 3, none⟩ = some (.int .i64 x.time)) => judge_say t (some ⟨b0, o + init.length * 5, none⟩) (some x.time) rides p g w hr h0 h1 hz (fun w1 e => judge_goesOn_yes t rides p.time x.time g b0 (o + init.length * 5) w1 (hr.ext e) (hc w1 e) hwx.1 hwx.2 ht0 ht1)
    simp only [List.concat_eq_append] at *
    rw [hl]
    rw [hlen] at hl1 ⊢
    generalize judge t (some x.time) rides p = res at hs
    generalize init.length = n at *
    generalize x.time = tm at *
    obtain ⟨a, b, c', d, y, f⟩ := t
    obtain ⟨pt, pg, ps, pti, pz⟩ := p
    unfold tkc
    have HS := Lib.hid hs
    have HX := Lib.hid hx
    clear hs h0 h1 hz ht0 ht1 hw hl hl3 hcell hx hwx hlen
    unfold tpc jgc at HS
    unfold tpc
    go_enter Try.func83, Try.ntmps83
    go_wp2_with fail
    refine (HS.out (w.heap.size + 1 + 1) _ ?hra ?hrb).mono ?_
    case hra => exact Row.newAt (by simp)
    case hrb =>
      intro w1 hE
      have hE2 : Ext w w1 := ((((Ext.refl w).alloc _).alloc _).alloc _).trans hE
      exact (hE2.cells b0 _ hb).trans HX.out
    rintro e w1 ⟨rfl, h1⟩
    have H1 := Lib.hid h1
    clear h1
    go_wp2_with fail
    go_ret2
    refine ⟨rfl, ?_⟩
    repeat (first | (with_reducible exact Ext.refl _) | (with_reducible refine Ext.alloc ?_ _) | (with_reducible apply Ext.setC; focus (simp <;> omega)) | (with_reducible refine Ext.drew ?_) | (with_reducible refine Ext.drewN ?_ _) | (with_reducible refine Ext.trans ?_ (Hid.out ‹Hid (Ext _ _)›)))
end Go.Proofs.Ytbboonepfmkgnaa
