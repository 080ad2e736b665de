/- Mj: parts of the proofs, laid together. -/
import Derived.Test.YteojjbhadgkfgaaGreatMu
import Derived.Test.YteojjbhadgkfgaaGreatMs
import Derived.Test.YteojjbhadgkfgaaGreatMw
import Derived.Test.YteojjbhadgkfgaaGreatMl
import Derived.Test.YteojjbhadgkfgaaGreatMr
/- StationAlone: the walk. -/
namespace Go.Proofs.YteojjbhadgkfgaaGreat
set_option linter.unusedSimpArgs false
set_option linter.unusedVariables false
set_option maxRecDepth 100000
open Go Go.RowKit Lb

theorem tickets_le {s : St} (r : RightS s) : s.ledger.tickets.length ≤ 12 := by have := (right_iff.1 r.ledger).1; omega
end Go.Proofs.YteojjbhadgkfgaaGreat

/- StationSafe: a tap that fails. -/
namespace Go.Proofs.YteojjbhadgkfgaaGreat
set_option linter.unusedSimpArgs false
set_option linter.unusedVariables false
set_option maxRecDepth 100000
open Go Go.RowKit Lb

set_option maxHeartbeats 64000000 in
theorem law_StationSafe_err (s : St) (x : Sv) (id g time : Int) (w : World) (hr : RdS w x s) (h0 : (tapSt s id g time).2.2 ≠ 0) :
  Calls Tryz.prog 4 #[.agg (sta s x), .int .i64 id, .int .i64 g, .int .i64 time] w fun e w' => e = .returned (.bool true) ∧ Ext w w' := by
 have KT := Lib.hid (fun (w' : World) (h : Ext w w') => station_Tap s x id g time w' (hr.ext h))
 obtain ⟨hea, heb⟩ := safe_err h0
 generalize tapSt s id g time = T at *
 obtain ⟨T1, T2, T3⟩ := T
 simp only at h0 hea heb KT
 subst hea
 have h3b : (T3 != 0) = true := by simpa using h0
 obtain ⟨A0, c0, e0, -, -⟩ := hr.tk.form
 obtain ⟨A1, c1, e1, -, -⟩ := hr.tp.form
 obtain ⟨A2, c2, e2, -, -⟩ := hr.vd.form
 obtain ⟨A3, c3, e3, -, -⟩ := hr.dn.form
 obtain ⟨A4, c4, e4, hc4, -⟩ := hr.gt.form
 obtain ⟨A5, c5, e5, -, -⟩ := hr.vw.form
 obtain ⟨s0, s1, s2, si, sg, sv⟩ := x
 simp only at e0 e1 e2 e3 e4 e5
 subst e0 e1 e2 e3 e4 e5
 clear hr hc4 h0
 unfold sta at KT ⊢
 simp only at KT ⊢
 go_enter Tryz.func4, Tryz.ntmps4
 go_wp2_with fail
 refine (KT.out _ (by exact extA)).mono ?_
 rintro e w1 ⟨⟨t0, t1, t2, ti, tg, tv⟩, rfl, h1, ho⟩
 obtain ⟨B0, kB0, rfl⟩ : ∃ B d, t0 = .slice B 0 d := ho.tk.form
 obtain ⟨B1, kB1, rfl⟩ : ∃ B d, t1 = .slice B 0 d := ho.tp.form
 obtain ⟨B2, kB2, rfl⟩ : ∃ B d, t2 = .slice B 0 d := ho.vd.form
 obtain ⟨B3, kB3, rfl⟩ : ∃ B d, ti = .slice B 0 d := ho.dn.form
 obtain ⟨B4, kB4, rfl⟩ : ∃ B d, tg = .slice B 0 d := ho.gt.form
 obtain ⟨B5, kB5, rfl⟩ : ∃ B d, tv = .slice B 0 d := ho.vw.form
 have H1 := Lib.hid h1
 have hz1 := h1.size
 clear h1 ho KT
 rw [show (st0.denied.version) = 0 from rfl]
 (apply Row.use (w := w1) (g := w.heap.size); (focus (exact rowA)); intro q1_0 f1_0 l1_0 R1_0; (try simp only [lSet] at q1_0 R1_0))
 go_wp2_with fail
 (refine (law_stationBegun _).mono ?_; rintro e w2 ⟨rfl, h2⟩; have H2 := Lib.hid h2; have hz2 := h2.size; clear h2; (try simp only [World.size_alloc, size_set, World.heap_drewN, size_drew] at hz2); apply Row.use (w := w2) (g := w.heap.size); (focus (exact rowA)); intro q2_0 f2_0 l2_0 R2_0; (try simp only [lSet] at q2_0 R2_0); apply Row.use (w := w2) (g := w1.heap.size); (focus (exact rowA)); intro q2_1 f2_1 l2_1 R2_1; (try simp only [lSet] at q2_1 R2_1))
 go_wp2_with fail
 (refine (law_gateBegun _).mono ?_; rintro e w3 ⟨rfl, h3⟩; have H3 := Lib.hid h3; have hz3 := h3.size; clear h3; (try simp only [World.size_alloc, size_set, World.heap_drewN, size_drew] at hz3); apply Row.use (w := w3) (g := w.heap.size); (focus (exact rowA)); intro q3_0 f3_0 l3_0 R3_0; (try simp only [lSet] at q3_0 R3_0); apply Row.use (w := w3) (g := w1.heap.size); (focus (exact rowA)); intro q3_1 f3_1 l3_1 R3_1; (try simp only [lSet] at q3_1 R3_1))
 rcases heb with rfl | rfl
 ·go_wp2_with fail
  go_ret
  exact ⟨rfl, (show Ext w _ by exact extA)⟩
 ·go_wp2_with fail
  go_ret
  exact ⟨rfl, (show Ext w _ by exact extA)⟩
end Go.Proofs.YteojjbhadgkfgaaGreat
