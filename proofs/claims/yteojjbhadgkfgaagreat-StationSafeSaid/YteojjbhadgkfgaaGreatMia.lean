/- Mia: parts of the proofs, laid together. -/
import Derived.Test.YteojjbhadgkfgaaGreatMi
/- StationSafe: a tap that is let through alone: from the look at the gate on. -/
namespace Go.Proofs.YteojjbhadgkfgaaGreat
set_option linter.unusedSimpArgs false
set_option linter.unusedVariables false
set_option maxRecDepth 100000
open Go Go.RowKit Lb

theorem any_listed {P : Program} {l : Array Oper} {Q : Exit → Act → World → Prop} {md : Region.Mode} {S : World → Prop} {n fuel : Nat} {l1 l2 : Array Bool} {a : Act} {w : World} (h : l1 = l2) (k : wpAnyT P md l (NoPanic Q) S n fuel l2 a w) : wpAnyT P md l (NoPanic Q) S n fuel l1 a w := h ▸ k
theorem split7 {G : World → Nat → Nat → Option Addr → Nat → Option Addr → Nat → Prop} {goal : Prop} (main : (∀ a b c d e f g, G a b c d e f g) → goal) (pf : ∀ a b c d e f g, G a b c d e f g) : goal := main pf
set_option maxHeartbeats 64000000 in
theorem safeP2 (s : St) (id time : Int) : (safeP1 s id time).1 := by
 delta safeP1
 intro e1 e2 e3 K e4 e5 e6 e7 e8 e9 w hpos m hm3 hlt hrl htl htp TG hl3 hlt' hmi hmN hmF hmG hwt htk0 c0 A1 c1 A2 c2 A3 c3 c4 A5 c5 hcap bs os hbs Q1 hm0 hmg w1 B0 kB0 B1 kB1 B2 kB2 B3 kB3 kB4 B5 kB5 bt ot hbt hc4' w2 hz2 w3 hz3 HW3 H13 hbs3 hbt3 hvs W hzW lb_0 lb_1 HWW w4 w5 w6 ih1 gk wr u8 u110 u111 u112 u113 u114 u115 u116 u117 u118 u119 u120 u121 u122 u123 u124 u125 u126 u127 u128 u129 u130 ia1 k hk hg HE HEX fr_0 lr_0 fr_1 lr_1 hlt3 hk3 hbsr hbtr A8 c8 A9 c9 B8 d8 B9 d9 HWR HXT HVZ tk Rb_1 qr_1 Rr_1 n hn bk ok ck hbk hz1 Rb_0 qr_0 Rr_0 KA hnc hn' z0 z1 z2 z3 z4 z5 hmax P0 P1 P2 P3 P4 HSL G0 G1 G2 G3 G6 G7 G4 G5 m0 m1 m2 m4 m6 m7 m3 m5 HSG x0 x1 xq al x6 x7 gv gi hsq9 hsq0 hwr k0 k1 k2 k4 k6 k7 k3 k5 ia2 hseq hseq' KTap ia3 ia4 ia5
 (apply wp_gen1 (w0 := wr) (g0 := w.heap.size); (focus (exact rowA)); (focus (exact extA)); intro W HW hzW Rz_0; (try simp only [lSet, World.size_alloc, size_set, World.heap_drewN, size_drew] at hzW Rz_0); have lz_0 := Rz_0.out.size)
 have HK := Lib.hid (fun (w' : World) (h : Ext W w') => And.intro (Row.ext h Rz_0.out).2.1 (And.intro (((HW.out.trans h).cells _ _ hbsr).trans k0) (And.intro (((HW.out.trans h).cells _ _ hbsr).trans k1) (And.intro (((HW.out.trans h).cells _ _ hbsr).trans k2) (And.intro (((HW.out.trans h).cells _ _ hbsr).trans k3) (And.intro (((HW.out.trans h).cells _ _ hbsr).trans k4) (And.intro (((HW.out.trans h).cells _ _ hbsr).trans k5) (And.intro (((HW.out.trans h).cells _ _ hbsr).trans k6) (And.intro (((HW.out.trans h).cells _ _ hbsr).trans k7) (And.intro (((HW.out.trans h).cells _ _ hbk).trans z0) (And.intro (((HW.out.trans h).cells _ _ hbk).trans z1) (And.intro (((HW.out.trans h).cells _ _ hbk).trans z2) (And.intro (((HW.out.trans h).cells _ _ hbk).trans z3) (And.intro (((HW.out.trans h).cells _ _ hbk).trans z4) ((((HW.out.trans h).cells _ _ hbk).trans z5))))))))))))))))
 clear k0 k1 k2 k3 k4 k5 k6 k7 z0 z1 z2 z3 z4 z5
 have HWRW := Lib.hid (And.intro trivial HW.out)
 (refine T_begin (fun w' => Ext W w') 26 (by kernel_rfl) ((Ext.refl _).drew) (fun hS => ?_); simp only [List.length_cons, List.length_nil])
 (refine tkA 0 HK hS ?_; (try simp only [Act.put, lSet]); refine tkA 1 HK hS ?_; (try simp only [Act.put, lSet]); refine tkA 2 HK hS ?_; (try simp only [Act.put, lSet]); refine tkA 3 HK hS ?_; (try simp only [Act.put, lSet]); refine tkA 4 HK hS ?_; (try simp only [Act.put, lSet]); refine tkA 5 HK hS ?_; (try simp only [Act.put, lSet]); refine tkA 6 HK hS ?_; (try simp only [Act.put, lSet]); refine tkA 7 HK hS ?_; (try simp only [Act.put, lSet]); refine tkA 8 HK hS ?_; (try simp only [Act.put, lSet]); refine tkA 9 HK hS ?_; (try simp only [Act.put, lSet]); refine tkA 10 HK hS ?_; (try simp only [Act.put, lSet]); refine tkA 11 HK hS ?_; (try simp only [Act.put, lSet]); refine tkA 16 HK hS ?_; (try simp only [Act.put, lSet]))
 have HS0 := Lib.hid hS
 clear hS
 apply split7
 ·intro key
  refine any_genP (S2 := fun X => Ext W X) HS0.out ?_
  intro X1 hX
  have hXX1 := hX.out
  have HX1 := Lib.hid hXX1
  have hzX1 := hXX1.size
  clear hX hXX1
  refine T_three (i := 12) (j := 22) (k := 23) rfl rfl rfl (by kernel_rfl) rfl rfl rfl (fun K hK => ?_) (fun K hK => ?_) (fun K hK => ?_)
  ·go_simp
   refine (KA.out _ (HWRW.out.2.trans (show Ext W _ by exact extA))).mono ?_
   rintro e y2 ⟨rfl, h1⟩
   have Hy2 := Lib.hid h1
   have HWy2 := Lib.hid (And.intro trivial (HX1.out.trans h1))
   clear h1
   go_simp
   refine hK.out _ _ (.inr HWy2.out.2) ?_
   clear hK
   (try simp only [Act.put, lSet])
   refine any_genP (S2 := fun X => Ext W X) HWy2.out.2 ?_
   intro X2 hX
   have hx := hX.out
   have HX2 := Lib.hid hx
   have hzX2 := hx.size
   have hS : Ext W X2 := hx
   clear hX hx
   (refine tkA 13 HK hS ?_; (try simp only [Act.put, lSet]); refine tkA 14 HK hS ?_; (try simp only [Act.put, lSet]); refine tkA 15 HK hS ?_; (try simp only [Act.put, lSet]))
   clear hS
   refine T_three (i := 17) (j := 22) (k := 23) rfl rfl rfl (by kernel_rfl) rfl rfl rfl (fun K hK => ?_) (fun K hK => ?_) (fun K hK => ?_)
   ·go_simp
    refine (KTap.out _ (HWRW.out.2.trans (show Ext W _ by exact extA))).mono ?_
    rintro e y3 ⟨sa6, si6, rfl, h1, o1, o2⟩
    obtain ⟨C8, f8, rfl⟩ := o1.form
    obtain ⟨C9, f9, rfl⟩ := o2.form
    have Hy3 := Lib.hid h1
    have HWy3 := Lib.hid (And.intro trivial (HX2.out.trans h1))
    have HNoA := Lib.hid (show OwnL 57 5 tpc W.heap.size y3 (.slice C8 G3.length f8) G3 from o1.lower (by omega))
    have HNoI := Lib.hid (show OwnL 3 1 inc W.heap.size y3 (.slice C9 G5.length f9) G5 from o2.lower (by omega))
    clear h1
    have HO1 := Lib.hid o1
    clear o1 o2
    go_simp
    refine hK.out _ _ (.inr HWy3.out.2) ?_
    clear hK
    (try simp only [Act.put, lSet])
    refine any_genP (S2 := fun X => Ext W X ∧ OwnL 57 5 tpc W.heap.size X (.slice C8 G3.length f8) G3 ∧ OwnL 3 1 inc W.heap.size X (.slice C9 G5.length f9) G5) ⟨HWy3.out.2, HNoA.out, HNoI.out⟩ ?_
    intro X3 hX
    obtain ⟨hx, hfoA, hfoI⟩ := hX.out
    have HX3 := Lib.hid hx
    have hzX3 := hx.size
    have HFoA := Lib.hid hfoA
    clear hfoA
    have HFoI := Lib.hid hfoI
    clear hfoI
    have hS : Ext W X3 := hx
    clear hX hx
    (refine tkP 18 ?_; (try simp only [Act.put, lSet]); refine tkP 19 ?_; (try simp only [Act.put, lSet]); refine tkP 20 ?_; (try simp only [Act.put, lSet]); refine tkP 21 ?_; (try simp only [Act.put, lSet]))
    clear hS
    refine T_two (i := 22) (j := 23) rfl rfl (by kernel_rfl) rfl rfl (fun K hK => ?_) (fun K hK => ?_)
    ·go_simp
     refine hK.out _ _ (.inr (show Ext W _ by exact extA)) ?_
     clear hK
     (try simp only [Act.put, lSet])
     obtain ⟨ga, hgga⟩ : ∃ g, g = X3.heap.size := ⟨_, rfl⟩
     rw [← hgga]
     have hwga : W.heap.size ≤ ga := by omega
     refine any_genP (S2 := fun X => Ext W X ∧ OwnL 57 5 tpc W.heap.size X (.slice C8 G3.length f8) G3 ∧ OwnL 3 1 inc W.heap.size X (.slice C9 G5.length f9) G5 ∧ Bx X ga 52 #[.int .i64 0, .int .i64 0, .int .i64 0, .slice none 0 0, .int .i64 0, .slice none 0 0, .int .i64 0, .int .i64 0]) ⟨(by exact extA), (HFoA.out.ext ((Ext.refl _).alloc _)), (HFoI.out.ext ((Ext.refl _).alloc _)), (Bx.newAt hgga)⟩ ?_
     intro X4 hX
     clear HFoA HFoI
     obtain ⟨hx, hfoA, hfoI, hfbga⟩ := hX.out
     have HX4 := Lib.hid hx
     have hzX4 := hx.size
     have HFoA := Lib.hid hfoA
     clear hfoA
     have HFoI := Lib.hid hfoI
     clear hfoI
     have HFbga := Lib.hid hfbga
     have qbga := hfbga.row.2.1
     have fbga := hfbga.row.2.2
     have lbga := hfbga.lt
     clear hfbga
     clear hX hx
     refine T_only (i := 23) rfl (by kernel_rfl) rfl (fun K hK => ?_)
     go_simp
     refine hK.out _ _ (.inr (show Ext W _ by exact extA)) ?_
     clear hK
     (try simp only [Act.put, lSet])
     obtain ⟨gb, hggb⟩ : ∃ g, g = X4.heap.size := ⟨_, rfl⟩
     rw [← hggb]
     have hwgb : W.heap.size ≤ gb := by omega
     have hnegagb : ga ≠ gb := by have := HFbga.out.lt; omega
     have hnegbga : gb ≠ ga := fun h => hnegagb h.symm
     have hsep : ∀ q, (Value.slice C8 G3.length f8).ownBlock = some q → q ≠ gb := fun q hq h => by have := (HFoA.out.lt q hq).2; omega
     refine any_genP (S2 := fun X => Ext W X ∧ OwnL 57 5 tpc W.heap.size X (.slice C8 G3.length f8) G3 ∧ OwnL 3 1 inc W.heap.size X (.slice C9 G5.length f9) G5 ∧ Bx X ga 52 #[.int .i64 0, .int .i64 0, .int .i64 0, .slice none 0 0, .int .i64 0, .slice none 0 0, .int .i64 0, .int .i64 0] ∧ Bx X gb 57 #[.int .i64 0, .int .i64 0, .int .i64 0, .int .i64 0, .int .i64 0]) ⟨(by exact extA), (HFoA.out.ext ((Ext.refl _).alloc _)), (HFoI.out.ext ((Ext.refl _).alloc _)), (HFbga.out.ext ((Ext.refl _).alloc _)), (Bx.newAt hggb)⟩ ?_
     intro X5 hX
     clear HFoA HFoI HFbga
     clear qbga fbga lbga
     obtain ⟨hx, hfoA, hfoI, hfbga, hfbgb⟩ := hX.out
     have HX5 := Lib.hid hx
     have hzX5 := hx.size
     have HFoA := Lib.hid hfoA
     clear hfoA
     have HFoI := Lib.hid hfoI
     clear hfoI
     have HFbga := Lib.hid hfbga
     have qbga := hfbga.row.2.1
     have fbga := hfbga.row.2.2
     have lbga := hfbga.lt
     clear hfbga
     have HFbgb := Lib.hid hfbgb
     have qbgb := hfbgb.row.2.1
     have fbgb := hfbgb.row.2.2
     have lbgb := hfbgb.lt
     clear hfbgb
     clear hX hx
     have HALL := Lib.hid (show Ext W X5 ∧ W.heap.size ≤ ga ∧ W.heap.size ≤ gb ∧ ga ≠ gb ∧ (∀ q, (Value.slice C8 G3.length f8).ownBlock = some q → q ≠ gb) ∧ Bx X5 ga 52 #[.int .i64 0, .int .i64 0, .int .i64 0, .slice none 0 0, .int .i64 0, .slice none 0 0, .int .i64 0, .int .i64 0] ∧ Bx X5 gb 57 #[.int .i64 0, .int .i64 0, .int .i64 0, .int .i64 0, .int .i64 0] ∧ OwnL 57 5 tpc W.heap.size X5 (.slice C8 G3.length f8) G3 ∧ OwnL 3 1 inc W.heap.size X5 (.slice C9 G5.length f9) G5 from ⟨HX5.out, hwga, hwgb, hnegagb, hsep, HFbga.out, HFbgb.out, HFoA.out, HFoI.out⟩)
     try rw [← hgga]
     try rw [← hggb]
     refine any_listed (l2 := #[true, true, true, true, true, true, true, true, true, true, true, true, true, true, true, true, true, true, true, true, true, true, true, true, false, false, false]) (by kernel_rfl) ?_
     revert HALL
     exact key X5 ga gb C8 f8 C9 f9
    ·go_simp
     refine hK.out _ _ (.inr (show Ext W _ by exact extA)) ?_
     clear hK
     (try simp only [Act.put, lSet])
     obtain ⟨gb, hggb⟩ : ∃ g, g = X3.heap.size := ⟨_, rfl⟩
     rw [← hggb]
     have hwgb : W.heap.size ≤ gb := by omega
     have hsep : ∀ q, (Value.slice C8 G3.length f8).ownBlock = some q → q ≠ gb := fun q hq h => by have := (HFoA.out.lt q hq).2; omega
     refine any_genP (S2 := fun X => Ext W X ∧ OwnL 57 5 tpc W.heap.size X (.slice C8 G3.length f8) G3 ∧ OwnL 3 1 inc W.heap.size X (.slice C9 G5.length f9) G5 ∧ Bx X gb 57 #[.int .i64 0, .int .i64 0, .int .i64 0, .int .i64 0, .int .i64 0]) ⟨(by exact extA), (HFoA.out.ext ((Ext.refl _).alloc _)), (HFoI.out.ext ((Ext.refl _).alloc _)), (Bx.newAt hggb)⟩ ?_
     intro X6 hX
     clear HFoA HFoI
     obtain ⟨hx, hfoA, hfoI, hfbgb⟩ := hX.out
     have HX6 := Lib.hid hx
     have hzX6 := hx.size
     have HFoA := Lib.hid hfoA
     clear hfoA
     have HFoI := Lib.hid hfoI
     clear hfoI
     have HFbgb := Lib.hid hfbgb
     have qbgb := hfbgb.row.2.1
     have fbgb := hfbgb.row.2.2
     have lbgb := hfbgb.lt
     clear hfbgb
     clear hX hx
     refine T_only (i := 22) rfl (by kernel_rfl) rfl (fun K hK => ?_)
     go_simp
     refine hK.out _ _ (.inr (show Ext W _ by exact extA)) ?_
     clear hK
     (try simp only [Act.put, lSet])
     obtain ⟨ga, hgga⟩ : ∃ g, g = X6.heap.size := ⟨_, rfl⟩
     rw [← hgga]
     have hwga : W.heap.size ≤ ga := by omega
     have hnegbga : gb ≠ ga := by have := HFbgb.out.lt; omega
     have hnegagb : ga ≠ gb := fun h => hnegbga h.symm
     refine any_genP (S2 := fun X => Ext W X ∧ OwnL 57 5 tpc W.heap.size X (.slice C8 G3.length f8) G3 ∧ OwnL 3 1 inc W.heap.size X (.slice C9 G5.length f9) G5 ∧ Bx X gb 57 #[.int .i64 0, .int .i64 0, .int .i64 0, .int .i64 0, .int .i64 0] ∧ Bx X ga 52 #[.int .i64 0, .int .i64 0, .int .i64 0, .slice none 0 0, .int .i64 0, .slice none 0 0, .int .i64 0, .int .i64 0]) ⟨(by exact extA), (HFoA.out.ext ((Ext.refl _).alloc _)), (HFoI.out.ext ((Ext.refl _).alloc _)), (HFbgb.out.ext ((Ext.refl _).alloc _)), (Bx.newAt hgga)⟩ ?_
     intro X7 hX
     clear HFoA HFoI HFbgb
     clear qbgb fbgb lbgb
     obtain ⟨hx, hfoA, hfoI, hfbgb, hfbga⟩ := hX.out
     have HX7 := Lib.hid hx
     have hzX7 := hx.size
     have HFoA := Lib.hid hfoA
     clear hfoA
     have HFoI := Lib.hid hfoI
     clear hfoI
     have HFbgb := Lib.hid hfbgb
     have qbgb := hfbgb.row.2.1
     have fbgb := hfbgb.row.2.2
     have lbgb := hfbgb.lt
     clear hfbgb
     have HFbga := Lib.hid hfbga
     have qbga := hfbga.row.2.1
     have fbga := hfbga.row.2.2
     have lbga := hfbga.lt
     clear hfbga
     clear hX hx
     have HALL := Lib.hid (show Ext W X7 ∧ W.heap.size ≤ ga ∧ W.heap.size ≤ gb ∧ ga ≠ gb ∧ (∀ q, (Value.slice C8 G3.length f8).ownBlock = some q → q ≠ gb) ∧ Bx X7 ga 52 #[.int .i64 0, .int .i64 0, .int .i64 0, .slice none 0 0, .int .i64 0, .slice none 0 0, .int .i64 0, .int .i64 0] ∧ Bx X7 gb 57 #[.int .i64 0, .int .i64 0, .int .i64 0, .int .i64 0, .int .i64 0] ∧ OwnL 57 5 tpc W.heap.size X7 (.slice C8 G3.length f8) G3 ∧ OwnL 3 1 inc W.heap.size X7 (.slice C9 G5.length f9) G5 from ⟨HX7.out, hwga, hwgb, hnegagb, hsep, HFbga.out, HFbgb.out, HFoA.out, HFoI.out⟩)
     try rw [← hgga]
     try rw [← hggb]
     refine any_listed (l2 := #[true, true, true, true, true, true, true, true, true, true, true, true, true, true, true, true, true, true, true, true, true, true, true, true, false, false, false]) (by kernel_rfl) ?_
     revert HALL
     exact key X7 ga gb C8 f8 C9 f9
   ·go_simp
    refine hK.out _ _ (.inr (show Ext W _ by exact extA)) ?_
    clear hK
    (try simp only [Act.put, lSet])
    obtain ⟨ga, hgga⟩ : ∃ g, g = X2.heap.size := ⟨_, rfl⟩
    rw [← hgga]
    have hwga : W.heap.size ≤ ga := by omega
    refine any_genP (S2 := fun X => Ext W X ∧ Bx X ga 52 #[.int .i64 0, .int .i64 0, .int .i64 0, .slice none 0 0, .int .i64 0, .slice none 0 0, .int .i64 0, .int .i64 0]) ⟨(by exact extA), (Bx.newAt hgga)⟩ ?_
    intro X8 hX
    obtain ⟨hx, hfbga⟩ := hX.out
    have HX8 := Lib.hid hx
    have hzX8 := hx.size
    have HFbga := Lib.hid hfbga
    have qbga := hfbga.row.2.1
    have fbga := hfbga.row.2.2
    have lbga := hfbga.lt
    clear hfbga
    clear hX hx
    refine T_two (i := 17) (j := 23) rfl rfl (by kernel_rfl) rfl rfl (fun K hK => ?_) (fun K hK => ?_)
    ·go_simp
     refine (KTap.out _ (HWRW.out.2.trans (show Ext W _ by exact extA))).mono ?_
     rintro e y9 ⟨sa6, si6, rfl, h1, o1, o2⟩
     obtain ⟨C8, f8, rfl⟩ := o1.form
     obtain ⟨C9, f9, rfl⟩ := o2.form
     have Hy9 := Lib.hid h1
     have HWy9 := Lib.hid (And.intro trivial (HX8.out.trans h1))
     have HNoA := Lib.hid (show OwnL 57 5 tpc W.heap.size y9 (.slice C8 G3.length f8) G3 from o1.lower (by omega))
     have HNoI := Lib.hid (show OwnL 3 1 inc W.heap.size y9 (.slice C9 G5.length f9) G5 from o2.lower (by omega))
     clear h1
     have HO1 := Lib.hid o1
     clear o1 o2
     go_simp
     refine hK.out _ _ (.inr HWy9.out.2) ?_
     clear hK
     (try simp only [Act.put, lSet])
     refine any_genP (S2 := fun X => Ext W X ∧ Bx X ga 52 #[.int .i64 0, .int .i64 0, .int .i64 0, .slice none 0 0, .int .i64 0, .slice none 0 0, .int .i64 0, .int .i64 0] ∧ OwnL 57 5 tpc W.heap.size X (.slice C8 G3.length f8) G3 ∧ OwnL 3 1 inc W.heap.size X (.slice C9 G5.length f9) G5) ⟨HWy9.out.2, (HFbga.out.ext Hy9.out), HNoA.out, HNoI.out⟩ ?_
     intro X9 hX
     clear HFbga
     clear qbga fbga lbga
     obtain ⟨hx, hfbga, hfoA, hfoI⟩ := hX.out
     have HX9 := Lib.hid hx
     have hzX9 := hx.size
     have HFbga := Lib.hid hfbga
     have qbga := hfbga.row.2.1
     have fbga := hfbga.row.2.2
     have lbga := hfbga.lt
     clear hfbga
     have HFoA := Lib.hid hfoA
     clear hfoA
     have HFoI := Lib.hid hfoI
     clear hfoI
     have hS : Ext W X9 := hx
     clear hX hx
     (refine tkP 18 ?_; (try simp only [Act.put, lSet]); refine tkP 19 ?_; (try simp only [Act.put, lSet]); refine tkP 20 ?_; (try simp only [Act.put, lSet]); refine tkP 21 ?_; (try simp only [Act.put, lSet]))
     clear hS
     refine T_only (i := 23) rfl (by kernel_rfl) rfl (fun K hK => ?_)
     go_simp
     refine hK.out _ _ (.inr (show Ext W _ by exact extA)) ?_
     clear hK
     (try simp only [Act.put, lSet])
     obtain ⟨gb, hggb⟩ : ∃ g, g = X9.heap.size := ⟨_, rfl⟩
     rw [← hggb]
     have hwgb : W.heap.size ≤ gb := by omega
     have hnegagb : ga ≠ gb := by have := HFbga.out.lt; omega
     have hnegbga : gb ≠ ga := fun h => hnegagb h.symm
     have hsep : ∀ q, (Value.slice C8 G3.length f8).ownBlock = some q → q ≠ gb := fun q hq h => by have := (HFoA.out.lt q hq).2; omega
     refine any_genP (S2 := fun X => Ext W X ∧ Bx X ga 52 #[.int .i64 0, .int .i64 0, .int .i64 0, .slice none 0 0, .int .i64 0, .slice none 0 0, .int .i64 0, .int .i64 0] ∧ OwnL 57 5 tpc W.heap.size X (.slice C8 G3.length f8) G3 ∧ OwnL 3 1 inc W.heap.size X (.slice C9 G5.length f9) G5 ∧ Bx X gb 57 #[.int .i64 0, .int .i64 0, .int .i64 0, .int .i64 0, .int .i64 0]) ⟨(by exact extA), (HFbga.out.ext ((Ext.refl _).alloc _)), (HFoA.out.ext ((Ext.refl _).alloc _)), (HFoI.out.ext ((Ext.refl _).alloc _)), (Bx.newAt hggb)⟩ ?_
     intro X10 hX
     clear HFbga HFoA HFoI
     clear qbga fbga lbga
     obtain ⟨hx, hfbga, hfoA, hfoI, hfbgb⟩ := hX.out
     have HX10 := Lib.hid hx
     have hzX10 := hx.size
     have HFbga := Lib.hid hfbga
     have qbga := hfbga.row.2.1
     have fbga := hfbga.row.2.2
     have lbga := hfbga.lt
     clear hfbga
     have HFoA := Lib.hid hfoA
     clear hfoA
     have HFoI := Lib.hid hfoI
     clear hfoI
     have HFbgb := Lib.hid hfbgb
     have qbgb := hfbgb.row.2.1
     have fbgb := hfbgb.row.2.2
     have lbgb := hfbgb.lt
     clear hfbgb
     clear hX hx
     have HALL := Lib.hid (show Ext W X10 ∧ W.heap.size ≤ ga ∧ W.heap.size ≤ gb ∧ ga ≠ gb ∧ (∀ q, (Value.slice C8 G3.length f8).ownBlock = some q → q ≠ gb) ∧ Bx X10 ga 52 #[.int .i64 0, .int .i64 0, .int .i64 0, .slice none 0 0, .int .i64 0, .slice none 0 0, .int .i64 0, .int .i64 0] ∧ Bx X10 gb 57 #[.int .i64 0, .int .i64 0, .int .i64 0, .int .i64 0, .int .i64 0] ∧ OwnL 57 5 tpc W.heap.size X10 (.slice C8 G3.length f8) G3 ∧ OwnL 3 1 inc W.heap.size X10 (.slice C9 G5.length f9) G5 from ⟨HX10.out, hwga, hwgb, hnegagb, hsep, HFbga.out, HFbgb.out, HFoA.out, HFoI.out⟩)
     try rw [← hgga]
     try rw [← hggb]
     refine any_listed (l2 := #[true, true, true, true, true, true, true, true, true, true, true, true, true, true, true, true, true, true, true, true, true, true, true, true, false, false, false]) (by kernel_rfl) ?_
     revert HALL
     exact key X10 ga gb C8 f8 C9 f9
    ·go_simp
     refine hK.out _ _ (.inr (show Ext W _ by exact extA)) ?_
     clear hK
     (try simp only [Act.put, lSet])
     obtain ⟨gb, hggb⟩ : ∃ g, g = X8.heap.size := ⟨_, rfl⟩
     rw [← hggb]
     have hwgb : W.heap.size ≤ gb := by omega
     have hnegagb : ga ≠ gb := by have := HFbga.out.lt; omega
     have hnegbga : gb ≠ ga := fun h => hnegagb h.symm
     refine any_genP (S2 := fun X => Ext W X ∧ Bx X ga 52 #[.int .i64 0, .int .i64 0, .int .i64 0, .slice none 0 0, .int .i64 0, .slice none 0 0, .int .i64 0, .int .i64 0] ∧ Bx X gb 57 #[.int .i64 0, .int .i64 0, .int .i64 0, .int .i64 0, .int .i64 0]) ⟨(by exact extA), (HFbga.out.ext ((Ext.refl _).alloc _)), (Bx.newAt hggb)⟩ ?_
     intro X11 hX
     clear HFbga
     clear qbga fbga lbga
     obtain ⟨hx, hfbga, hfbgb⟩ := hX.out
     have HX11 := Lib.hid hx
     have hzX11 := hx.size
     have HFbga := Lib.hid hfbga
     have qbga := hfbga.row.2.1
     have fbga := hfbga.row.2.2
     have lbga := hfbga.lt
     clear hfbga
     have HFbgb := Lib.hid hfbgb
     have qbgb := hfbgb.row.2.1
     have fbgb := hfbgb.row.2.2
     have lbgb := hfbgb.lt
     clear hfbgb
     clear hX hx
     refine T_only (i := 17) rfl (by kernel_rfl) rfl (fun K hK => ?_)
     go_simp
     refine (KTap.out _ (HWRW.out.2.trans (show Ext W _ by exact extA))).mono ?_
     rintro e y12 ⟨sa6, si6, rfl, h1, o1, o2⟩
     obtain ⟨C8, f8, rfl⟩ := o1.form
     obtain ⟨C9, f9, rfl⟩ := o2.form
     have Hy12 := Lib.hid h1
     have HWy12 := Lib.hid (And.intro trivial (HX11.out.trans h1))
     have HNoA := Lib.hid (show OwnL 57 5 tpc W.heap.size y12 (.slice C8 G3.length f8) G3 from o1.lower (by omega))
     have HNoI := Lib.hid (show OwnL 3 1 inc W.heap.size y12 (.slice C9 G5.length f9) G5 from o2.lower (by omega))
     clear h1
     have hsep : ∀ q, (Value.slice C8 G3.length f8).ownBlock = some q → q ≠ gb := fun q hq h => by have := (o1.lt q hq).1; have := HFbgb.out.lt; omega
     clear o1 o2
     go_simp
     refine hK.out _ _ (.inr HWy12.out.2) ?_
     clear hK
     (try simp only [Act.put, lSet])
     refine any_genP (S2 := fun X => Ext W X ∧ Bx X ga 52 #[.int .i64 0, .int .i64 0, .int .i64 0, .slice none 0 0, .int .i64 0, .slice none 0 0, .int .i64 0, .int .i64 0] ∧ Bx X gb 57 #[.int .i64 0, .int .i64 0, .int .i64 0, .int .i64 0, .int .i64 0] ∧ OwnL 57 5 tpc W.heap.size X (.slice C8 G3.length f8) G3 ∧ OwnL 3 1 inc W.heap.size X (.slice C9 G5.length f9) G5) ⟨HWy12.out.2, (HFbga.out.ext Hy12.out), (HFbgb.out.ext Hy12.out), HNoA.out, HNoI.out⟩ ?_
     intro X12 hX
     clear HFbga HFbgb
     clear qbga fbga lbga qbgb fbgb lbgb
     obtain ⟨hx, hfbga, hfbgb, hfoA, hfoI⟩ := hX.out
     have HX12 := Lib.hid hx
     have hzX12 := hx.size
     have HFbga := Lib.hid hfbga
     have qbga := hfbga.row.2.1
     have fbga := hfbga.row.2.2
     have lbga := hfbga.lt
     clear hfbga
     have HFbgb := Lib.hid hfbgb
     have qbgb := hfbgb.row.2.1
     have fbgb := hfbgb.row.2.2
     have lbgb := hfbgb.lt
     clear hfbgb
     have HFoA := Lib.hid hfoA
     clear hfoA
     have HFoI := Lib.hid hfoI
     clear hfoI
     have hS : Ext W X12 := hx
     clear hX hx
     (refine tkP 18 ?_; (try simp only [Act.put, lSet]); refine tkP 19 ?_; (try simp only [Act.put, lSet]); refine tkP 20 ?_; (try simp only [Act.put, lSet]); refine tkP 21 ?_; (try simp only [Act.put, lSet]))
     clear hS
     have HALL := Lib.hid (show Ext W X12 ∧ W.heap.size ≤ ga ∧ W.heap.size ≤ gb ∧ ga ≠ gb ∧ (∀ q, (Value.slice C8 G3.length f8).ownBlock = some q → q ≠ gb) ∧ Bx X12 ga 52 #[.int .i64 0, .int .i64 0, .int .i64 0, .slice none 0 0, .int .i64 0, .slice none 0 0, .int .i64 0, .int .i64 0] ∧ Bx X12 gb 57 #[.int .i64 0, .int .i64 0, .int .i64 0, .int .i64 0, .int .i64 0] ∧ OwnL 57 5 tpc W.heap.size X12 (.slice C8 G3.length f8) G3 ∧ OwnL 3 1 inc W.heap.size X12 (.slice C9 G5.length f9) G5 from ⟨HX12.out, hwga, hwgb, hnegagb, hsep, HFbga.out, HFbgb.out, HFoA.out, HFoI.out⟩)
     try rw [← hgga]
     try rw [← hggb]
     refine any_listed (l2 := #[true, true, true, true, true, true, true, true, true, true, true, true, true, true, true, true, true, true, true, true, true, true, true, true, false, false, false]) (by kernel_rfl) ?_
     revert HALL
     exact key X12 ga gb C8 f8 C9 f9
   ·go_simp
    refine hK.out _ _ (.inr (show Ext W _ by exact extA)) ?_
    clear hK
    (try simp only [Act.put, lSet])
    obtain ⟨gb, hggb⟩ : ∃ g, g = X2.heap.size := ⟨_, rfl⟩
    rw [← hggb]
    have hwgb : W.heap.size ≤ gb := by omega
    refine any_genP (S2 := fun X => Ext W X ∧ Bx X gb 57 #[.int .i64 0, .int .i64 0, .int .i64 0, .int .i64 0, .int .i64 0]) ⟨(by exact extA), (Bx.newAt hggb)⟩ ?_
    intro X13 hX
    obtain ⟨hx, hfbgb⟩ := hX.out
    have HX13 := Lib.hid hx
    have hzX13 := hx.size
    have HFbgb := Lib.hid hfbgb
    have qbgb := hfbgb.row.2.1
    have fbgb := hfbgb.row.2.2
    have lbgb := hfbgb.lt
    clear hfbgb
    clear hX hx
    refine T_two (i := 17) (j := 22) rfl rfl (by kernel_rfl) rfl rfl (fun K hK => ?_) (fun K hK => ?_)
    ·go_simp
     refine (KTap.out _ (HWRW.out.2.trans (show Ext W _ by exact extA))).mono ?_
     rintro e y14 ⟨sa6, si6, rfl, h1, o1, o2⟩
     obtain ⟨C8, f8, rfl⟩ := o1.form
     obtain ⟨C9, f9, rfl⟩ := o2.form
     have Hy14 := Lib.hid h1
     have HWy14 := Lib.hid (And.intro trivial (HX13.out.trans h1))
     have HNoA := Lib.hid (show OwnL 57 5 tpc W.heap.size y14 (.slice C8 G3.length f8) G3 from o1.lower (by omega))
     have HNoI := Lib.hid (show OwnL 3 1 inc W.heap.size y14 (.slice C9 G5.length f9) G5 from o2.lower (by omega))
     clear h1
     have hsep : ∀ q, (Value.slice C8 G3.length f8).ownBlock = some q → q ≠ gb := fun q hq h => by have := (o1.lt q hq).1; have := HFbgb.out.lt; omega
     clear o1 o2
     go_simp
     refine hK.out _ _ (.inr HWy14.out.2) ?_
     clear hK
     (try simp only [Act.put, lSet])
     refine any_genP (S2 := fun X => Ext W X ∧ Bx X gb 57 #[.int .i64 0, .int .i64 0, .int .i64 0, .int .i64 0, .int .i64 0] ∧ OwnL 57 5 tpc W.heap.size X (.slice C8 G3.length f8) G3 ∧ OwnL 3 1 inc W.heap.size X (.slice C9 G5.length f9) G5) ⟨HWy14.out.2, (HFbgb.out.ext Hy14.out), HNoA.out, HNoI.out⟩ ?_
     intro X14 hX
     clear HFbgb
     clear qbgb fbgb lbgb
     obtain ⟨hx, hfbgb, hfoA, hfoI⟩ := hX.out
     have HX14 := Lib.hid hx
     have hzX14 := hx.size
     have HFbgb := Lib.hid hfbgb
     have qbgb := hfbgb.row.2.1
     have fbgb := hfbgb.row.2.2
     have lbgb := hfbgb.lt
     clear hfbgb
     have HFoA := Lib.hid hfoA
     clear hfoA
     have HFoI := Lib.hid hfoI
     clear hfoI
     have hS : Ext W X14 := hx
     clear hX hx
     (refine tkP 18 ?_; (try simp only [Act.put, lSet]); refine tkP 19 ?_; (try simp only [Act.put, lSet]); refine tkP 20 ?_; (try simp only [Act.put, lSet]); refine tkP 21 ?_; (try simp only [Act.put, lSet]))
     clear hS
     refine T_only (i := 22) rfl (by kernel_rfl) rfl (fun K hK => ?_)
     go_simp
     refine hK.out _ _ (.inr (show Ext W _ by exact extA)) ?_
     clear hK
     (try simp only [Act.put, lSet])
     obtain ⟨ga, hgga⟩ : ∃ g, g = X14.heap.size := ⟨_, rfl⟩
     rw [← hgga]
     have hwga : W.heap.size ≤ ga := by omega
     have hnegbga : gb ≠ ga := by have := HFbgb.out.lt; omega
     have hnegagb : ga ≠ gb := fun h => hnegbga h.symm
     refine any_genP (S2 := fun X => Ext W X ∧ Bx X gb 57 #[.int .i64 0, .int .i64 0, .int .i64 0, .int .i64 0, .int .i64 0] ∧ OwnL 57 5 tpc W.heap.size X (.slice C8 G3.length f8) G3 ∧ OwnL 3 1 inc W.heap.size X (.slice C9 G5.length f9) G5 ∧ Bx X ga 52 #[.int .i64 0, .int .i64 0, .int .i64 0, .slice none 0 0, .int .i64 0, .slice none 0 0, .int .i64 0, .int .i64 0]) ⟨(by exact extA), (HFbgb.out.ext ((Ext.refl _).alloc _)), (HFoA.out.ext ((Ext.refl _).alloc _)), (HFoI.out.ext ((Ext.refl _).alloc _)), (Bx.newAt hgga)⟩ ?_
     intro X15 hX
     clear HFbgb HFoA HFoI
     clear qbgb fbgb lbgb
     obtain ⟨hx, hfbgb, hfoA, hfoI, hfbga⟩ := hX.out
     have HX15 := Lib.hid hx
     have hzX15 := hx.size
     have HFbgb := Lib.hid hfbgb
     have qbgb := hfbgb.row.2.1
     have fbgb := hfbgb.row.2.2
     have lbgb := hfbgb.lt
     clear hfbgb
     have HFoA := Lib.hid hfoA
     clear hfoA
     have HFoI := Lib.hid hfoI
     clear hfoI
     have HFbga := Lib.hid hfbga
     have qbga := hfbga.row.2.1
     have fbga := hfbga.row.2.2
     have lbga := hfbga.lt
     clear hfbga
     clear hX hx
     have HALL := Lib.hid (show Ext W X15 ∧ W.heap.size ≤ ga ∧ W.heap.size ≤ gb ∧ ga ≠ gb ∧ (∀ q, (Value.slice C8 G3.length f8).ownBlock = some q → q ≠ gb) ∧ Bx X15 ga 52 #[.int .i64 0, .int .i64 0, .int .i64 0, .slice none 0 0, .int .i64 0, .slice none 0 0, .int .i64 0, .int .i64 0] ∧ Bx X15 gb 57 #[.int .i64 0, .int .i64 0, .int .i64 0, .int .i64 0, .int .i64 0] ∧ OwnL 57 5 tpc W.heap.size X15 (.slice C8 G3.length f8) G3 ∧ OwnL 3 1 inc W.heap.size X15 (.slice C9 G5.length f9) G5 from ⟨HX15.out, hwga, hwgb, hnegagb, hsep, HFbga.out, HFbgb.out, HFoA.out, HFoI.out⟩)
     try rw [← hgga]
     try rw [← hggb]
     refine any_listed (l2 := #[true, true, true, true, true, true, true, true, true, true, true, true, true, true, true, true, true, true, true, true, true, true, true, true, false, false, false]) (by kernel_rfl) ?_
     revert HALL
     exact key X15 ga gb C8 f8 C9 f9
    ·go_simp
     refine hK.out _ _ (.inr (show Ext W _ by exact extA)) ?_
     clear hK
     (try simp only [Act.put, lSet])
     obtain ⟨ga, hgga⟩ : ∃ g, g = X13.heap.size := ⟨_, rfl⟩
     rw [← hgga]
     have hwga : W.heap.size ≤ ga := by omega
     have hnegbga : gb ≠ ga := by have := HFbgb.out.lt; omega
     have hnegagb : ga ≠ gb := fun h => hnegbga h.symm
     refine any_genP (S2 := fun X => Ext W X ∧ Bx X gb 57 #[.int .i64 0, .int .i64 0, .int .i64 0, .int .i64 0, .int .i64 0] ∧ Bx X ga 52 #[.int .i64 0, .int .i64 0, .int .i64 0, .slice none 0 0, .int .i64 0, .slice none 0 0, .int .i64 0, .int .i64 0]) ⟨(by exact extA), (HFbgb.out.ext ((Ext.refl _).alloc _)), (Bx.newAt hgga)⟩ ?_
     intro X16 hX
     clear HFbgb
     clear qbgb fbgb lbgb
     obtain ⟨hx, hfbgb, hfbga⟩ := hX.out
     have HX16 := Lib.hid hx
     have hzX16 := hx.size
     have HFbgb := Lib.hid hfbgb
     have qbgb := hfbgb.row.2.1
     have fbgb := hfbgb.row.2.2
     have lbgb := hfbgb.lt
     clear hfbgb
     have HFbga := Lib.hid hfbga
     have qbga := hfbga.row.2.1
     have fbga := hfbga.row.2.2
     have lbga := hfbga.lt
     clear hfbga
     clear hX hx
     refine T_only (i := 17) rfl (by kernel_rfl) rfl (fun K hK => ?_)
     go_simp
     refine (KTap.out _ (HWRW.out.2.trans (show Ext W _ by exact extA))).mono ?_
     rintro e y17 ⟨sa6, si6, rfl, h1, o1, o2⟩
     obtain ⟨C8, f8, rfl⟩ := o1.form
     obtain ⟨C9, f9, rfl⟩ := o2.form
     have Hy17 := Lib.hid h1
     have HWy17 := Lib.hid (And.intro trivial (HX16.out.trans h1))
     have HNoA := Lib.hid (show OwnL 57 5 tpc W.heap.size y17 (.slice C8 G3.length f8) G3 from o1.lower (by omega))
     have HNoI := Lib.hid (show OwnL 3 1 inc W.heap.size y17 (.slice C9 G5.length f9) G5 from o2.lower (by omega))
     clear h1
     have hsep : ∀ q, (Value.slice C8 G3.length f8).ownBlock = some q → q ≠ gb := fun q hq h => by have := (o1.lt q hq).1; have := HFbgb.out.lt; omega
     clear o1 o2
     go_simp
     refine hK.out _ _ (.inr HWy17.out.2) ?_
     clear hK
     (try simp only [Act.put, lSet])
     refine any_genP (S2 := fun X => Ext W X ∧ Bx X gb 57 #[.int .i64 0, .int .i64 0, .int .i64 0, .int .i64 0, .int .i64 0] ∧ Bx X ga 52 #[.int .i64 0, .int .i64 0, .int .i64 0, .slice none 0 0, .int .i64 0, .slice none 0 0, .int .i64 0, .int .i64 0] ∧ OwnL 57 5 tpc W.heap.size X (.slice C8 G3.length f8) G3 ∧ OwnL 3 1 inc W.heap.size X (.slice C9 G5.length f9) G5) ⟨HWy17.out.2, (HFbgb.out.ext Hy17.out), (HFbga.out.ext Hy17.out), HNoA.out, HNoI.out⟩ ?_
     intro X17 hX
     clear HFbgb HFbga
     clear qbgb fbgb lbgb qbga fbga lbga
     obtain ⟨hx, hfbgb, hfbga, hfoA, hfoI⟩ := hX.out
     have HX17 := Lib.hid hx
     have hzX17 := hx.size
     have HFbgb := Lib.hid hfbgb
     have qbgb := hfbgb.row.2.1
     have fbgb := hfbgb.row.2.2
     have lbgb := hfbgb.lt
     clear hfbgb
     have HFbga := Lib.hid hfbga
     have qbga := hfbga.row.2.1
     have fbga := hfbga.row.2.2
     have lbga := hfbga.lt
     clear hfbga
     have HFoA := Lib.hid hfoA
     clear hfoA
     have HFoI := Lib.hid hfoI
     clear hfoI
     have hS : Ext W X17 := hx
     clear hX hx
     (refine tkP 18 ?_; (try simp only [Act.put, lSet]); refine tkP 19 ?_; (try simp only [Act.put, lSet]); refine tkP 20 ?_; (try simp only [Act.put, lSet]); refine tkP 21 ?_; (try simp only [Act.put, lSet]))
     clear hS
     have HALL := Lib.hid (show Ext W X17 ∧ W.heap.size ≤ ga ∧ W.heap.size ≤ gb ∧ ga ≠ gb ∧ (∀ q, (Value.slice C8 G3.length f8).ownBlock = some q → q ≠ gb) ∧ Bx X17 ga 52 #[.int .i64 0, .int .i64 0, .int .i64 0, .slice none 0 0, .int .i64 0, .slice none 0 0, .int .i64 0, .int .i64 0] ∧ Bx X17 gb 57 #[.int .i64 0, .int .i64 0, .int .i64 0, .int .i64 0, .int .i64 0] ∧ OwnL 57 5 tpc W.heap.size X17 (.slice C8 G3.length f8) G3 ∧ OwnL 3 1 inc W.heap.size X17 (.slice C9 G5.length f9) G5 from ⟨HX17.out, hwga, hwgb, hnegagb, hsep, HFbga.out, HFbgb.out, HFoA.out, HFoI.out⟩)
     try rw [← hgga]
     try rw [← hggb]
     refine any_listed (l2 := #[true, true, true, true, true, true, true, true, true, true, true, true, true, true, true, true, true, true, true, true, true, true, true, true, false, false, false]) (by kernel_rfl) ?_
     revert HALL
     exact key X17 ga gb C8 f8 C9 f9
  ·go_simp
   refine hK.out _ _ (.inr (show Ext W _ by exact extA)) ?_
   clear hK
   (try simp only [Act.put, lSet])
   obtain ⟨ga, hgga⟩ : ∃ g, g = X1.heap.size := ⟨_, rfl⟩
   rw [← hgga]
   have hwga : W.heap.size ≤ ga := by omega
   refine any_genP (S2 := fun X => Ext W X ∧ Bx X ga 52 #[.int .i64 0, .int .i64 0, .int .i64 0, .slice none 0 0, .int .i64 0, .slice none 0 0, .int .i64 0, .int .i64 0]) ⟨(by exact extA), (Bx.newAt hgga)⟩ ?_
   intro X18 hX
   obtain ⟨hx, hfbga⟩ := hX.out
   have HX18 := Lib.hid hx
   have hzX18 := hx.size
   have HFbga := Lib.hid hfbga
   have qbga := hfbga.row.2.1
   have fbga := hfbga.row.2.2
   have lbga := hfbga.lt
   clear hfbga
   clear hX hx
   refine T_two (i := 12) (j := 23) rfl rfl (by kernel_rfl) rfl rfl (fun K hK => ?_) (fun K hK => ?_)
   ·go_simp
    refine (KA.out _ (HWRW.out.2.trans (show Ext W _ by exact extA))).mono ?_
    rintro e y19 ⟨rfl, h1⟩
    have Hy19 := Lib.hid h1
    have HWy19 := Lib.hid (And.intro trivial (HX18.out.trans h1))
    clear h1
    go_simp
    refine hK.out _ _ (.inr HWy19.out.2) ?_
    clear hK
    (try simp only [Act.put, lSet])
    refine any_genP (S2 := fun X => Ext W X ∧ Bx X ga 52 #[.int .i64 0, .int .i64 0, .int .i64 0, .slice none 0 0, .int .i64 0, .slice none 0 0, .int .i64 0, .int .i64 0]) ⟨HWy19.out.2, (HFbga.out.ext Hy19.out)⟩ ?_
    intro X19 hX
    clear HFbga
    clear qbga fbga lbga
    obtain ⟨hx, hfbga⟩ := hX.out
    have HX19 := Lib.hid hx
    have hzX19 := hx.size
    have HFbga := Lib.hid hfbga
    have qbga := hfbga.row.2.1
    have fbga := hfbga.row.2.2
    have lbga := hfbga.lt
    clear hfbga
    have hS : Ext W X19 := hx
    clear hX hx
    (refine tkA 13 HK hS ?_; (try simp only [Act.put, lSet]); refine tkA 14 HK hS ?_; (try simp only [Act.put, lSet]); refine tkA 15 HK hS ?_; (try simp only [Act.put, lSet]))
    clear hS
    refine T_two (i := 17) (j := 23) rfl rfl (by kernel_rfl) rfl rfl (fun K hK => ?_) (fun K hK => ?_)
    ·go_simp
     refine (KTap.out _ (HWRW.out.2.trans (show Ext W _ by exact extA))).mono ?_
     rintro e y20 ⟨sa6, si6, rfl, h1, o1, o2⟩
     obtain ⟨C8, f8, rfl⟩ := o1.form
     obtain ⟨C9, f9, rfl⟩ := o2.form
     have Hy20 := Lib.hid h1
     have HWy20 := Lib.hid (And.intro trivial (HX19.out.trans h1))
     have HNoA := Lib.hid (show OwnL 57 5 tpc W.heap.size y20 (.slice C8 G3.length f8) G3 from o1.lower (by omega))
     have HNoI := Lib.hid (show OwnL 3 1 inc W.heap.size y20 (.slice C9 G5.length f9) G5 from o2.lower (by omega))
     clear h1
     have HO1 := Lib.hid o1
     clear o1 o2
     go_simp
     refine hK.out _ _ (.inr HWy20.out.2) ?_
     clear hK
     (try simp only [Act.put, lSet])
     refine any_genP (S2 := fun X => Ext W X ∧ Bx X ga 52 #[.int .i64 0, .int .i64 0, .int .i64 0, .slice none 0 0, .int .i64 0, .slice none 0 0, .int .i64 0, .int .i64 0] ∧ OwnL 57 5 tpc W.heap.size X (.slice C8 G3.length f8) G3 ∧ OwnL 3 1 inc W.heap.size X (.slice C9 G5.length f9) G5) ⟨HWy20.out.2, (HFbga.out.ext Hy20.out), HNoA.out, HNoI.out⟩ ?_
     intro X20 hX
     clear HFbga
     clear qbga fbga lbga
     obtain ⟨hx, hfbga, hfoA, hfoI⟩ := hX.out
     have HX20 := Lib.hid hx
     have hzX20 := hx.size
     have HFbga := Lib.hid hfbga
     have qbga := hfbga.row.2.1
     have fbga := hfbga.row.2.2
     have lbga := hfbga.lt
     clear hfbga
     have HFoA := Lib.hid hfoA
     clear hfoA
     have HFoI := Lib.hid hfoI
     clear hfoI
     have hS : Ext W X20 := hx
     clear hX hx
     (refine tkP 18 ?_; (try simp only [Act.put, lSet]); refine tkP 19 ?_; (try simp only [Act.put, lSet]); refine tkP 20 ?_; (try simp only [Act.put, lSet]); refine tkP 21 ?_; (try simp only [Act.put, lSet]))
     clear hS
     refine T_only (i := 23) rfl (by kernel_rfl) rfl (fun K hK => ?_)
     go_simp
     refine hK.out _ _ (.inr (show Ext W _ by exact extA)) ?_
     clear hK
     (try simp only [Act.put, lSet])
     obtain ⟨gb, hggb⟩ : ∃ g, g = X20.heap.size := ⟨_, rfl⟩
     rw [← hggb]
     have hwgb : W.heap.size ≤ gb := by omega
     have hnegagb : ga ≠ gb := by have := HFbga.out.lt; omega
     have hnegbga : gb ≠ ga := fun h => hnegagb h.symm
     have hsep : ∀ q, (Value.slice C8 G3.length f8).ownBlock = some q → q ≠ gb := fun q hq h => by have := (HFoA.out.lt q hq).2; omega
     refine any_genP (S2 := fun X => Ext W X ∧ Bx X ga 52 #[.int .i64 0, .int .i64 0, .int .i64 0, .slice none 0 0, .int .i64 0, .slice none 0 0, .int .i64 0, .int .i64 0] ∧ OwnL 57 5 tpc W.heap.size X (.slice C8 G3.length f8) G3 ∧ OwnL 3 1 inc W.heap.size X (.slice C9 G5.length f9) G5 ∧ Bx X gb 57 #[.int .i64 0, .int .i64 0, .int .i64 0, .int .i64 0, .int .i64 0]) ⟨(by exact extA), (HFbga.out.ext ((Ext.refl _).alloc _)), (HFoA.out.ext ((Ext.refl _).alloc _)), (HFoI.out.ext ((Ext.refl _).alloc _)), (Bx.newAt hggb)⟩ ?_
     intro X21 hX
     clear HFbga HFoA HFoI
     clear qbga fbga lbga
     obtain ⟨hx, hfbga, hfoA, hfoI, hfbgb⟩ := hX.out
     have HX21 := Lib.hid hx
     have hzX21 := hx.size
     have HFbga := Lib.hid hfbga
     have qbga := hfbga.row.2.1
     have fbga := hfbga.row.2.2
     have lbga := hfbga.lt
     clear hfbga
     have HFoA := Lib.hid hfoA
     clear hfoA
     have HFoI := Lib.hid hfoI
     clear hfoI
     have HFbgb := Lib.hid hfbgb
     have qbgb := hfbgb.row.2.1
     have fbgb := hfbgb.row.2.2
     have lbgb := hfbgb.lt
     clear hfbgb
     clear hX hx
     have HALL := Lib.hid (show Ext W X21 ∧ W.heap.size ≤ ga ∧ W.heap.size ≤ gb ∧ ga ≠ gb ∧ (∀ q, (Value.slice C8 G3.length f8).ownBlock = some q → q ≠ gb) ∧ Bx X21 ga 52 #[.int .i64 0, .int .i64 0, .int .i64 0, .slice none 0 0, .int .i64 0, .slice none 0 0, .int .i64 0, .int .i64 0] ∧ Bx X21 gb 57 #[.int .i64 0, .int .i64 0, .int .i64 0, .int .i64 0, .int .i64 0] ∧ OwnL 57 5 tpc W.heap.size X21 (.slice C8 G3.length f8) G3 ∧ OwnL 3 1 inc W.heap.size X21 (.slice C9 G5.length f9) G5 from ⟨HX21.out, hwga, hwgb, hnegagb, hsep, HFbga.out, HFbgb.out, HFoA.out, HFoI.out⟩)
     try rw [← hgga]
     try rw [← hggb]
     refine any_listed (l2 := #[true, true, true, true, true, true, true, true, true, true, true, true, true, true, true, true, true, true, true, true, true, true, true, true, false, false, false]) (by kernel_rfl) ?_
     revert HALL
     exact key X21 ga gb C8 f8 C9 f9
    ·go_simp
     refine hK.out _ _ (.inr (show Ext W _ by exact extA)) ?_
     clear hK
     (try simp only [Act.put, lSet])
     obtain ⟨gb, hggb⟩ : ∃ g, g = X19.heap.size := ⟨_, rfl⟩
     rw [← hggb]
     have hwgb : W.heap.size ≤ gb := by omega
     have hnegagb : ga ≠ gb := by have := HFbga.out.lt; omega
     have hnegbga : gb ≠ ga := fun h => hnegagb h.symm
     refine any_genP (S2 := fun X => Ext W X ∧ Bx X ga 52 #[.int .i64 0, .int .i64 0, .int .i64 0, .slice none 0 0, .int .i64 0, .slice none 0 0, .int .i64 0, .int .i64 0] ∧ Bx X gb 57 #[.int .i64 0, .int .i64 0, .int .i64 0, .int .i64 0, .int .i64 0]) ⟨(by exact extA), (HFbga.out.ext ((Ext.refl _).alloc _)), (Bx.newAt hggb)⟩ ?_
     intro X22 hX
     clear HFbga
     clear qbga fbga lbga
     obtain ⟨hx, hfbga, hfbgb⟩ := hX.out
     have HX22 := Lib.hid hx
     have hzX22 := hx.size
     have HFbga := Lib.hid hfbga
     have qbga := hfbga.row.2.1
     have fbga := hfbga.row.2.2
     have lbga := hfbga.lt
     clear hfbga
     have HFbgb := Lib.hid hfbgb
     have qbgb := hfbgb.row.2.1
     have fbgb := hfbgb.row.2.2
     have lbgb := hfbgb.lt
     clear hfbgb
     clear hX hx
     refine T_only (i := 17) rfl (by kernel_rfl) rfl (fun K hK => ?_)
     go_simp
     refine (KTap.out _ (HWRW.out.2.trans (show Ext W _ by exact extA))).mono ?_
     rintro e y23 ⟨sa6, si6, rfl, h1, o1, o2⟩
     obtain ⟨C8, f8, rfl⟩ := o1.form
     obtain ⟨C9, f9, rfl⟩ := o2.form
     have Hy23 := Lib.hid h1
     have HWy23 := Lib.hid (And.intro trivial (HX22.out.trans h1))
     have HNoA := Lib.hid (show OwnL 57 5 tpc W.heap.size y23 (.slice C8 G3.length f8) G3 from o1.lower (by omega))
     have HNoI := Lib.hid (show OwnL 3 1 inc W.heap.size y23 (.slice C9 G5.length f9) G5 from o2.lower (by omega))
     clear h1
     have hsep : ∀ q, (Value.slice C8 G3.length f8).ownBlock = some q → q ≠ gb := fun q hq h => by have := (o1.lt q hq).1; have := HFbgb.out.lt; omega
     clear o1 o2
     go_simp
     refine hK.out _ _ (.inr HWy23.out.2) ?_
     clear hK
     (try simp only [Act.put, lSet])
     refine any_genP (S2 := fun X => Ext W X ∧ Bx X ga 52 #[.int .i64 0, .int .i64 0, .int .i64 0, .slice none 0 0, .int .i64 0, .slice none 0 0, .int .i64 0, .int .i64 0] ∧ Bx X gb 57 #[.int .i64 0, .int .i64 0, .int .i64 0, .int .i64 0, .int .i64 0] ∧ OwnL 57 5 tpc W.heap.size X (.slice C8 G3.length f8) G3 ∧ OwnL 3 1 inc W.heap.size X (.slice C9 G5.length f9) G5) ⟨HWy23.out.2, (HFbga.out.ext Hy23.out), (HFbgb.out.ext Hy23.out), HNoA.out, HNoI.out⟩ ?_
     intro X23 hX
     clear HFbga HFbgb
     clear qbga fbga lbga qbgb fbgb lbgb
     obtain ⟨hx, hfbga, hfbgb, hfoA, hfoI⟩ := hX.out
     have HX23 := Lib.hid hx
     have hzX23 := hx.size
     have HFbga := Lib.hid hfbga
     have qbga := hfbga.row.2.1
     have fbga := hfbga.row.2.2
     have lbga := hfbga.lt
     clear hfbga
     have HFbgb := Lib.hid hfbgb
     have qbgb := hfbgb.row.2.1
     have fbgb := hfbgb.row.2.2
     have lbgb := hfbgb.lt
     clear hfbgb
     have HFoA := Lib.hid hfoA
     clear hfoA
     have HFoI := Lib.hid hfoI
     clear hfoI
     have hS : Ext W X23 := hx
     clear hX hx
     (refine tkP 18 ?_; (try simp only [Act.put, lSet]); refine tkP 19 ?_; (try simp only [Act.put, lSet]); refine tkP 20 ?_; (try simp only [Act.put, lSet]); refine tkP 21 ?_; (try simp only [Act.put, lSet]))
     clear hS
     have HALL := Lib.hid (show Ext W X23 ∧ W.heap.size ≤ ga ∧ W.heap.size ≤ gb ∧ ga ≠ gb ∧ (∀ q, (Value.slice C8 G3.length f8).ownBlock = some q → q ≠ gb) ∧ Bx X23 ga 52 #[.int .i64 0, .int .i64 0, .int .i64 0, .slice none 0 0, .int .i64 0, .slice none 0 0, .int .i64 0, .int .i64 0] ∧ Bx X23 gb 57 #[.int .i64 0, .int .i64 0, .int .i64 0, .int .i64 0, .int .i64 0] ∧ OwnL 57 5 tpc W.heap.size X23 (.slice C8 G3.length f8) G3 ∧ OwnL 3 1 inc W.heap.size X23 (.slice C9 G5.length f9) G5 from ⟨HX23.out, hwga, hwgb, hnegagb, hsep, HFbga.out, HFbgb.out, HFoA.out, HFoI.out⟩)
     try rw [← hgga]
     try rw [← hggb]
     refine any_listed (l2 := #[true, true, true, true, true, true, true, true, true, true, true, true, true, true, true, true, true, true, true, true, true, true, true, true, false, false, false]) (by kernel_rfl) ?_
     revert HALL
     exact key X23 ga gb C8 f8 C9 f9
   ·go_simp
    refine hK.out _ _ (.inr (show Ext W _ by exact extA)) ?_
    clear hK
    (try simp only [Act.put, lSet])
    obtain ⟨gb, hggb⟩ : ∃ g, g = X18.heap.size := ⟨_, rfl⟩
    rw [← hggb]
    have hwgb : W.heap.size ≤ gb := by omega
    have hnegagb : ga ≠ gb := by have := HFbga.out.lt; omega
    have hnegbga : gb ≠ ga := fun h => hnegagb h.symm
    refine any_genP (S2 := fun X => Ext W X ∧ Bx X ga 52 #[.int .i64 0, .int .i64 0, .int .i64 0, .slice none 0 0, .int .i64 0, .slice none 0 0, .int .i64 0, .int .i64 0] ∧ Bx X gb 57 #[.int .i64 0, .int .i64 0, .int .i64 0, .int .i64 0, .int .i64 0]) ⟨(by exact extA), (HFbga.out.ext ((Ext.refl _).alloc _)), (Bx.newAt hggb)⟩ ?_
    intro X24 hX
    clear HFbga
    clear qbga fbga lbga
    obtain ⟨hx, hfbga, hfbgb⟩ := hX.out
    have HX24 := Lib.hid hx
    have hzX24 := hx.size
    have HFbga := Lib.hid hfbga
    have qbga := hfbga.row.2.1
    have fbga := hfbga.row.2.2
    have lbga := hfbga.lt
    clear hfbga
    have HFbgb := Lib.hid hfbgb
    have qbgb := hfbgb.row.2.1
    have fbgb := hfbgb.row.2.2
    have lbgb := hfbgb.lt
    clear hfbgb
    clear hX hx
    refine T_only (i := 12) rfl (by kernel_rfl) rfl (fun K hK => ?_)
    go_simp
    refine (KA.out _ (HWRW.out.2.trans (show Ext W _ by exact extA))).mono ?_
    rintro e y25 ⟨rfl, h1⟩
    have Hy25 := Lib.hid h1
    have HWy25 := Lib.hid (And.intro trivial (HX24.out.trans h1))
    clear h1
    go_simp
    refine hK.out _ _ (.inr HWy25.out.2) ?_
    clear hK
    (try simp only [Act.put, lSet])
    refine any_genP (S2 := fun X => Ext W X ∧ Bx X ga 52 #[.int .i64 0, .int .i64 0, .int .i64 0, .slice none 0 0, .int .i64 0, .slice none 0 0, .int .i64 0, .int .i64 0] ∧ Bx X gb 57 #[.int .i64 0, .int .i64 0, .int .i64 0, .int .i64 0, .int .i64 0]) ⟨HWy25.out.2, (HFbga.out.ext Hy25.out), (HFbgb.out.ext Hy25.out)⟩ ?_
    intro X25 hX
    clear HFbga HFbgb
    clear qbga fbga lbga qbgb fbgb lbgb
    obtain ⟨hx, hfbga, hfbgb⟩ := hX.out
    have HX25 := Lib.hid hx
    have hzX25 := hx.size
    have HFbga := Lib.hid hfbga
    have qbga := hfbga.row.2.1
    have fbga := hfbga.row.2.2
    have lbga := hfbga.lt
    clear hfbga
    have HFbgb := Lib.hid hfbgb
    have qbgb := hfbgb.row.2.1
    have fbgb := hfbgb.row.2.2
    have lbgb := hfbgb.lt
    clear hfbgb
    have hS : Ext W X25 := hx
    clear hX hx
    (refine tkA 13 HK hS ?_; (try simp only [Act.put, lSet]); refine tkA 14 HK hS ?_; (try simp only [Act.put, lSet]); refine tkA 15 HK hS ?_; (try simp only [Act.put, lSet]))
    clear hS
    refine T_only (i := 17) rfl (by kernel_rfl) rfl (fun K hK => ?_)
    go_simp
    refine (KTap.out _ (HWRW.out.2.trans (show Ext W _ by exact extA))).mono ?_
    rintro e y26 ⟨sa6, si6, rfl, h1, o1, o2⟩
    obtain ⟨C8, f8, rfl⟩ := o1.form
    obtain ⟨C9, f9, rfl⟩ := o2.form
    have Hy26 := Lib.hid h1
    have HWy26 := Lib.hid (And.intro trivial (HX25.out.trans h1))
    have HNoA := Lib.hid (show OwnL 57 5 tpc W.heap.size y26 (.slice C8 G3.length f8) G3 from o1.lower (by omega))
    have HNoI := Lib.hid (show OwnL 3 1 inc W.heap.size y26 (.slice C9 G5.length f9) G5 from o2.lower (by omega))
    clear h1
    have hsep : ∀ q, (Value.slice C8 G3.length f8).ownBlock = some q → q ≠ gb := fun q hq h => by have := (o1.lt q hq).1; have := HFbgb.out.lt; omega
    clear o1 o2
    go_simp
    refine hK.out _ _ (.inr HWy26.out.2) ?_
    clear hK
    (try simp only [Act.put, lSet])
    refine any_genP (S2 := fun X => Ext W X ∧ Bx X ga 52 #[.int .i64 0, .int .i64 0, .int .i64 0, .slice none 0 0, .int .i64 0, .slice none 0 0, .int .i64 0, .int .i64 0] ∧ Bx X gb 57 #[.int .i64 0, .int .i64 0, .int .i64 0, .int .i64 0, .int .i64 0] ∧ OwnL 57 5 tpc W.heap.size X (.slice C8 G3.length f8) G3 ∧ OwnL 3 1 inc W.heap.size X (.slice C9 G5.length f9) G5) ⟨HWy26.out.2, (HFbga.out.ext Hy26.out), (HFbgb.out.ext Hy26.out), HNoA.out, HNoI.out⟩ ?_
    intro X26 hX
    clear HFbga HFbgb
    clear qbga fbga lbga qbgb fbgb lbgb
    obtain ⟨hx, hfbga, hfbgb, hfoA, hfoI⟩ := hX.out
    have HX26 := Lib.hid hx
    have hzX26 := hx.size
    have HFbga := Lib.hid hfbga
    have qbga := hfbga.row.2.1
    have fbga := hfbga.row.2.2
    have lbga := hfbga.lt
    clear hfbga
    have HFbgb := Lib.hid hfbgb
    have qbgb := hfbgb.row.2.1
    have fbgb := hfbgb.row.2.2
    have lbgb := hfbgb.lt
    clear hfbgb
    have HFoA := Lib.hid hfoA
    clear hfoA
    have HFoI := Lib.hid hfoI
    clear hfoI
    have hS : Ext W X26 := hx
    clear hX hx
    (refine tkP 18 ?_; (try simp only [Act.put, lSet]); refine tkP 19 ?_; (try simp only [Act.put, lSet]); refine tkP 20 ?_; (try simp only [Act.put, lSet]); refine tkP 21 ?_; (try simp only [Act.put, lSet]))
    clear hS
    have HALL := Lib.hid (show Ext W X26 ∧ W.heap.size ≤ ga ∧ W.heap.size ≤ gb ∧ ga ≠ gb ∧ (∀ q, (Value.slice C8 G3.length f8).ownBlock = some q → q ≠ gb) ∧ Bx X26 ga 52 #[.int .i64 0, .int .i64 0, .int .i64 0, .slice none 0 0, .int .i64 0, .slice none 0 0, .int .i64 0, .int .i64 0] ∧ Bx X26 gb 57 #[.int .i64 0, .int .i64 0, .int .i64 0, .int .i64 0, .int .i64 0] ∧ OwnL 57 5 tpc W.heap.size X26 (.slice C8 G3.length f8) G3 ∧ OwnL 3 1 inc W.heap.size X26 (.slice C9 G5.length f9) G5 from ⟨HX26.out, hwga, hwgb, hnegagb, hsep, HFbga.out, HFbgb.out, HFoA.out, HFoI.out⟩)
    try rw [← hgga]
    try rw [← hggb]
    refine any_listed (l2 := #[true, true, true, true, true, true, true, true, true, true, true, true, true, true, true, true, true, true, true, true, true, true, true, true, false, false, false]) (by kernel_rfl) ?_
    revert HALL
    exact key X26 ga gb C8 f8 C9 f9
  ·go_simp
   refine hK.out _ _ (.inr (show Ext W _ by exact extA)) ?_
   clear hK
   (try simp only [Act.put, lSet])
   obtain ⟨gb, hggb⟩ : ∃ g, g = X1.heap.size := ⟨_, rfl⟩
   rw [← hggb]
   have hwgb : W.heap.size ≤ gb := by omega
   refine any_genP (S2 := fun X => Ext W X ∧ Bx X gb 57 #[.int .i64 0, .int .i64 0, .int .i64 0, .int .i64 0, .int .i64 0]) ⟨(by exact extA), (Bx.newAt hggb)⟩ ?_
   intro X27 hX
   obtain ⟨hx, hfbgb⟩ := hX.out
   have HX27 := Lib.hid hx
   have hzX27 := hx.size
   have HFbgb := Lib.hid hfbgb
   have qbgb := hfbgb.row.2.1
   have fbgb := hfbgb.row.2.2
   have lbgb := hfbgb.lt
   clear hfbgb
   clear hX hx
   refine T_two (i := 12) (j := 22) rfl rfl (by kernel_rfl) rfl rfl (fun K hK => ?_) (fun K hK => ?_)
   ·go_simp
    refine (KA.out _ (HWRW.out.2.trans (show Ext W _ by exact extA))).mono ?_
    rintro e y28 ⟨rfl, h1⟩
    have Hy28 := Lib.hid h1
    have HWy28 := Lib.hid (And.intro trivial (HX27.out.trans h1))
    clear h1
    go_simp
    refine hK.out _ _ (.inr HWy28.out.2) ?_
    clear hK
    (try simp only [Act.put, lSet])
    refine any_genP (S2 := fun X => Ext W X ∧ Bx X gb 57 #[.int .i64 0, .int .i64 0, .int .i64 0, .int .i64 0, .int .i64 0]) ⟨HWy28.out.2, (HFbgb.out.ext Hy28.out)⟩ ?_
    intro X28 hX
    clear HFbgb
    clear qbgb fbgb lbgb
    obtain ⟨hx, hfbgb⟩ := hX.out
    have HX28 := Lib.hid hx
    have hzX28 := hx.size
    have HFbgb := Lib.hid hfbgb
    have qbgb := hfbgb.row.2.1
    have fbgb := hfbgb.row.2.2
    have lbgb := hfbgb.lt
    clear hfbgb
    have hS : Ext W X28 := hx
    clear hX hx
    (refine tkA 13 HK hS ?_; (try simp only [Act.put, lSet]); refine tkA 14 HK hS ?_; (try simp only [Act.put, lSet]); refine tkA 15 HK hS ?_; (try simp only [Act.put, lSet]))
    clear hS
    refine T_two (i := 17) (j := 22) rfl rfl (by kernel_rfl) rfl rfl (fun K hK => ?_) (fun K hK => ?_)
    ·go_simp
     refine (KTap.out _ (HWRW.out.2.trans (show Ext W _ by exact extA))).mono ?_
     rintro e y29 ⟨sa6, si6, rfl, h1, o1, o2⟩
     obtain ⟨C8, f8, rfl⟩ := o1.form
     obtain ⟨C9, f9, rfl⟩ := o2.form
     have Hy29 := Lib.hid h1
     have HWy29 := Lib.hid (And.intro trivial (HX28.out.trans h1))
     have HNoA := Lib.hid (show OwnL 57 5 tpc W.heap.size y29 (.slice C8 G3.length f8) G3 from o1.lower (by omega))
     have HNoI := Lib.hid (show OwnL 3 1 inc W.heap.size y29 (.slice C9 G5.length f9) G5 from o2.lower (by omega))
     clear h1
     have hsep : ∀ q, (Value.slice C8 G3.length f8).ownBlock = some q → q ≠ gb := fun q hq h => by have := (o1.lt q hq).1; have := HFbgb.out.lt; omega
     clear o1 o2
     go_simp
     refine hK.out _ _ (.inr HWy29.out.2) ?_
     clear hK
     (try simp only [Act.put, lSet])
     refine any_genP (S2 := fun X => Ext W X ∧ Bx X gb 57 #[.int .i64 0, .int .i64 0, .int .i64 0, .int .i64 0, .int .i64 0] ∧ OwnL 57 5 tpc W.heap.size X (.slice C8 G3.length f8) G3 ∧ OwnL 3 1 inc W.heap.size X (.slice C9 G5.length f9) G5) ⟨HWy29.out.2, (HFbgb.out.ext Hy29.out), HNoA.out, HNoI.out⟩ ?_
     intro X29 hX
     clear HFbgb
     clear qbgb fbgb lbgb
     obtain ⟨hx, hfbgb, hfoA, hfoI⟩ := hX.out
     have HX29 := Lib.hid hx
     have hzX29 := hx.size
     have HFbgb := Lib.hid hfbgb
     have qbgb := hfbgb.row.2.1
     have fbgb := hfbgb.row.2.2
     have lbgb := hfbgb.lt
     clear hfbgb
     have HFoA := Lib.hid hfoA
     clear hfoA
     have HFoI := Lib.hid hfoI
     clear hfoI
     have hS : Ext W X29 := hx
     clear hX hx
     (refine tkP 18 ?_; (try simp only [Act.put, lSet]); refine tkP 19 ?_; (try simp only [Act.put, lSet]); refine tkP 20 ?_; (try simp only [Act.put, lSet]); refine tkP 21 ?_; (try simp only [Act.put, lSet]))
     clear hS
     refine T_only (i := 22) rfl (by kernel_rfl) rfl (fun K hK => ?_)
     go_simp
     refine hK.out _ _ (.inr (show Ext W _ by exact extA)) ?_
     clear hK
     (try simp only [Act.put, lSet])
     obtain ⟨ga, hgga⟩ : ∃ g, g = X29.heap.size := ⟨_, rfl⟩
     rw [← hgga]
     have hwga : W.heap.size ≤ ga := by omega
     have hnegbga : gb ≠ ga := by have := HFbgb.out.lt; omega
     have hnegagb : ga ≠ gb := fun h => hnegbga h.symm
     refine any_genP (S2 := fun X => Ext W X ∧ Bx X gb 57 #[.int .i64 0, .int .i64 0, .int .i64 0, .int .i64 0, .int .i64 0] ∧ OwnL 57 5 tpc W.heap.size X (.slice C8 G3.length f8) G3 ∧ OwnL 3 1 inc W.heap.size X (.slice C9 G5.length f9) G5 ∧ Bx X ga 52 #[.int .i64 0, .int .i64 0, .int .i64 0, .slice none 0 0, .int .i64 0, .slice none 0 0, .int .i64 0, .int .i64 0]) ⟨(by exact extA), (HFbgb.out.ext ((Ext.refl _).alloc _)), (HFoA.out.ext ((Ext.refl _).alloc _)), (HFoI.out.ext ((Ext.refl _).alloc _)), (Bx.newAt hgga)⟩ ?_
     intro X30 hX
     clear HFbgb HFoA HFoI
     clear qbgb fbgb lbgb
     obtain ⟨hx, hfbgb, hfoA, hfoI, hfbga⟩ := hX.out
     have HX30 := Lib.hid hx
     have hzX30 := hx.size
     have HFbgb := Lib.hid hfbgb
     have qbgb := hfbgb.row.2.1
     have fbgb := hfbgb.row.2.2
     have lbgb := hfbgb.lt
     clear hfbgb
     have HFoA := Lib.hid hfoA
     clear hfoA
     have HFoI := Lib.hid hfoI
     clear hfoI
     have HFbga := Lib.hid hfbga
     have qbga := hfbga.row.2.1
     have fbga := hfbga.row.2.2
     have lbga := hfbga.lt
     clear hfbga
     clear hX hx
     have HALL := Lib.hid (show Ext W X30 ∧ W.heap.size ≤ ga ∧ W.heap.size ≤ gb ∧ ga ≠ gb ∧ (∀ q, (Value.slice C8 G3.length f8).ownBlock = some q → q ≠ gb) ∧ Bx X30 ga 52 #[.int .i64 0, .int .i64 0, .int .i64 0, .slice none 0 0, .int .i64 0, .slice none 0 0, .int .i64 0, .int .i64 0] ∧ Bx X30 gb 57 #[.int .i64 0, .int .i64 0, .int .i64 0, .int .i64 0, .int .i64 0] ∧ OwnL 57 5 tpc W.heap.size X30 (.slice C8 G3.length f8) G3 ∧ OwnL 3 1 inc W.heap.size X30 (.slice C9 G5.length f9) G5 from ⟨HX30.out, hwga, hwgb, hnegagb, hsep, HFbga.out, HFbgb.out, HFoA.out, HFoI.out⟩)
     try rw [← hgga]
     try rw [← hggb]
     refine any_listed (l2 := #[true, true, true, true, true, true, true, true, true, true, true, true, true, true, true, true, true, true, true, true, true, true, true, true, false, false, false]) (by kernel_rfl) ?_
     revert HALL
     exact key X30 ga gb C8 f8 C9 f9
    ·go_simp
     refine hK.out _ _ (.inr (show Ext W _ by exact extA)) ?_
     clear hK
     (try simp only [Act.put, lSet])
     obtain ⟨ga, hgga⟩ : ∃ g, g = X28.heap.size := ⟨_, rfl⟩
     rw [← hgga]
     have hwga : W.heap.size ≤ ga := by omega
     have hnegbga : gb ≠ ga := by have := HFbgb.out.lt; omega
     have hnegagb : ga ≠ gb := fun h => hnegbga h.symm
     refine any_genP (S2 := fun X => Ext W X ∧ Bx X gb 57 #[.int .i64 0, .int .i64 0, .int .i64 0, .int .i64 0, .int .i64 0] ∧ Bx X ga 52 #[.int .i64 0, .int .i64 0, .int .i64 0, .slice none 0 0, .int .i64 0, .slice none 0 0, .int .i64 0, .int .i64 0]) ⟨(by exact extA), (HFbgb.out.ext ((Ext.refl _).alloc _)), (Bx.newAt hgga)⟩ ?_
     intro X31 hX
     clear HFbgb
     clear qbgb fbgb lbgb
     obtain ⟨hx, hfbgb, hfbga⟩ := hX.out
     have HX31 := Lib.hid hx
     have hzX31 := hx.size
     have HFbgb := Lib.hid hfbgb
     have qbgb := hfbgb.row.2.1
     have fbgb := hfbgb.row.2.2
     have lbgb := hfbgb.lt
     clear hfbgb
     have HFbga := Lib.hid hfbga
     have qbga := hfbga.row.2.1
     have fbga := hfbga.row.2.2
     have lbga := hfbga.lt
     clear hfbga
     clear hX hx
     refine T_only (i := 17) rfl (by kernel_rfl) rfl (fun K hK => ?_)
     go_simp
     refine (KTap.out _ (HWRW.out.2.trans (show Ext W _ by exact extA))).mono ?_
     rintro e y32 ⟨sa6, si6, rfl, h1, o1, o2⟩
     obtain ⟨C8, f8, rfl⟩ := o1.form
     obtain ⟨C9, f9, rfl⟩ := o2.form
     have Hy32 := Lib.hid h1
     have HWy32 := Lib.hid (And.intro trivial (HX31.out.trans h1))
     have HNoA := Lib.hid (show OwnL 57 5 tpc W.heap.size y32 (.slice C8 G3.length f8) G3 from o1.lower (by omega))
     have HNoI := Lib.hid (show OwnL 3 1 inc W.heap.size y32 (.slice C9 G5.length f9) G5 from o2.lower (by omega))
     clear h1
     have hsep : ∀ q, (Value.slice C8 G3.length f8).ownBlock = some q → q ≠ gb := fun q hq h => by have := (o1.lt q hq).1; have := HFbgb.out.lt; omega
     clear o1 o2
     go_simp
     refine hK.out _ _ (.inr HWy32.out.2) ?_
     clear hK
     (try simp only [Act.put, lSet])
     refine any_genP (S2 := fun X => Ext W X ∧ Bx X gb 57 #[.int .i64 0, .int .i64 0, .int .i64 0, .int .i64 0, .int .i64 0] ∧ Bx X ga 52 #[.int .i64 0, .int .i64 0, .int .i64 0, .slice none 0 0, .int .i64 0, .slice none 0 0, .int .i64 0, .int .i64 0] ∧ OwnL 57 5 tpc W.heap.size X (.slice C8 G3.length f8) G3 ∧ OwnL 3 1 inc W.heap.size X (.slice C9 G5.length f9) G5) ⟨HWy32.out.2, (HFbgb.out.ext Hy32.out), (HFbga.out.ext Hy32.out), HNoA.out, HNoI.out⟩ ?_
     intro X32 hX
     clear HFbgb HFbga
     clear qbgb fbgb lbgb qbga fbga lbga
     obtain ⟨hx, hfbgb, hfbga, hfoA, hfoI⟩ := hX.out
     have HX32 := Lib.hid hx
     have hzX32 := hx.size
     have HFbgb := Lib.hid hfbgb
     have qbgb := hfbgb.row.2.1
     have fbgb := hfbgb.row.2.2
     have lbgb := hfbgb.lt
     clear hfbgb
     have HFbga := Lib.hid hfbga
     have qbga := hfbga.row.2.1
     have fbga := hfbga.row.2.2
     have lbga := hfbga.lt
     clear hfbga
     have HFoA := Lib.hid hfoA
     clear hfoA
     have HFoI := Lib.hid hfoI
     clear hfoI
     have hS : Ext W X32 := hx
     clear hX hx
     (refine tkP 18 ?_; (try simp only [Act.put, lSet]); refine tkP 19 ?_; (try simp only [Act.put, lSet]); refine tkP 20 ?_; (try simp only [Act.put, lSet]); refine tkP 21 ?_; (try simp only [Act.put, lSet]))
     clear hS
     have HALL := Lib.hid (show Ext W X32 ∧ W.heap.size ≤ ga ∧ W.heap.size ≤ gb ∧ ga ≠ gb ∧ (∀ q, (Value.slice C8 G3.length f8).ownBlock = some q → q ≠ gb) ∧ Bx X32 ga 52 #[.int .i64 0, .int .i64 0, .int .i64 0, .slice none 0 0, .int .i64 0, .slice none 0 0, .int .i64 0, .int .i64 0] ∧ Bx X32 gb 57 #[.int .i64 0, .int .i64 0, .int .i64 0, .int .i64 0, .int .i64 0] ∧ OwnL 57 5 tpc W.heap.size X32 (.slice C8 G3.length f8) G3 ∧ OwnL 3 1 inc W.heap.size X32 (.slice C9 G5.length f9) G5 from ⟨HX32.out, hwga, hwgb, hnegagb, hsep, HFbga.out, HFbgb.out, HFoA.out, HFoI.out⟩)
     try rw [← hgga]
     try rw [← hggb]
     refine any_listed (l2 := #[true, true, true, true, true, true, true, true, true, true, true, true, true, true, true, true, true, true, true, true, true, true, true, true, false, false, false]) (by kernel_rfl) ?_
     revert HALL
     exact key X32 ga gb C8 f8 C9 f9
   ·go_simp
    refine hK.out _ _ (.inr (show Ext W _ by exact extA)) ?_
    clear hK
    (try simp only [Act.put, lSet])
    obtain ⟨ga, hgga⟩ : ∃ g, g = X27.heap.size := ⟨_, rfl⟩
    rw [← hgga]
    have hwga : W.heap.size ≤ ga := by omega
    have hnegbga : gb ≠ ga := by have := HFbgb.out.lt; omega
    have hnegagb : ga ≠ gb := fun h => hnegbga h.symm
    refine any_genP (S2 := fun X => Ext W X ∧ Bx X gb 57 #[.int .i64 0, .int .i64 0, .int .i64 0, .int .i64 0, .int .i64 0] ∧ Bx X ga 52 #[.int .i64 0, .int .i64 0, .int .i64 0, .slice none 0 0, .int .i64 0, .slice none 0 0, .int .i64 0, .int .i64 0]) ⟨(by exact extA), (HFbgb.out.ext ((Ext.refl _).alloc _)), (Bx.newAt hgga)⟩ ?_
    intro X33 hX
    clear HFbgb
    clear qbgb fbgb lbgb
    obtain ⟨hx, hfbgb, hfbga⟩ := hX.out
    have HX33 := Lib.hid hx
    have hzX33 := hx.size
    have HFbgb := Lib.hid hfbgb
    have qbgb := hfbgb.row.2.1
    have fbgb := hfbgb.row.2.2
    have lbgb := hfbgb.lt
    clear hfbgb
    have HFbga := Lib.hid hfbga
    have qbga := hfbga.row.2.1
    have fbga := hfbga.row.2.2
    have lbga := hfbga.lt
    clear hfbga
    clear hX hx
    refine T_only (i := 12) rfl (by kernel_rfl) rfl (fun K hK => ?_)
    go_simp
    refine (KA.out _ (HWRW.out.2.trans (show Ext W _ by exact extA))).mono ?_
    rintro e y34 ⟨rfl, h1⟩
    have Hy34 := Lib.hid h1
    have HWy34 := Lib.hid (And.intro trivial (HX33.out.trans h1))
    clear h1
    go_simp
    refine hK.out _ _ (.inr HWy34.out.2) ?_
    clear hK
    (try simp only [Act.put, lSet])
    refine any_genP (S2 := fun X => Ext W X ∧ Bx X gb 57 #[.int .i64 0, .int .i64 0, .int .i64 0, .int .i64 0, .int .i64 0] ∧ Bx X ga 52 #[.int .i64 0, .int .i64 0, .int .i64 0, .slice none 0 0, .int .i64 0, .slice none 0 0, .int .i64 0, .int .i64 0]) ⟨HWy34.out.2, (HFbgb.out.ext Hy34.out), (HFbga.out.ext Hy34.out)⟩ ?_
    intro X34 hX
    clear HFbgb HFbga
    clear qbgb fbgb lbgb qbga fbga lbga
    obtain ⟨hx, hfbgb, hfbga⟩ := hX.out
    have HX34 := Lib.hid hx
    have hzX34 := hx.size
    have HFbgb := Lib.hid hfbgb
    have qbgb := hfbgb.row.2.1
    have fbgb := hfbgb.row.2.2
    have lbgb := hfbgb.lt
    clear hfbgb
    have HFbga := Lib.hid hfbga
    have qbga := hfbga.row.2.1
    have fbga := hfbga.row.2.2
    have lbga := hfbga.lt
    clear hfbga
    have hS : Ext W X34 := hx
    clear hX hx
    (refine tkA 13 HK hS ?_; (try simp only [Act.put, lSet]); refine tkA 14 HK hS ?_; (try simp only [Act.put, lSet]); refine tkA 15 HK hS ?_; (try simp only [Act.put, lSet]))
    clear hS
    refine T_only (i := 17) rfl (by kernel_rfl) rfl (fun K hK => ?_)
    go_simp
    refine (KTap.out _ (HWRW.out.2.trans (show Ext W _ by exact extA))).mono ?_
    rintro e y35 ⟨sa6, si6, rfl, h1, o1, o2⟩
    obtain ⟨C8, f8, rfl⟩ := o1.form
    obtain ⟨C9, f9, rfl⟩ := o2.form
    have Hy35 := Lib.hid h1
    have HWy35 := Lib.hid (And.intro trivial (HX34.out.trans h1))
    have HNoA := Lib.hid (show OwnL 57 5 tpc W.heap.size y35 (.slice C8 G3.length f8) G3 from o1.lower (by omega))
    have HNoI := Lib.hid (show OwnL 3 1 inc W.heap.size y35 (.slice C9 G5.length f9) G5 from o2.lower (by omega))
    clear h1
    have hsep : ∀ q, (Value.slice C8 G3.length f8).ownBlock = some q → q ≠ gb := fun q hq h => by have := (o1.lt q hq).1; have := HFbgb.out.lt; omega
    clear o1 o2
    go_simp
    refine hK.out _ _ (.inr HWy35.out.2) ?_
    clear hK
    (try simp only [Act.put, lSet])
    refine any_genP (S2 := fun X => Ext W X ∧ Bx X gb 57 #[.int .i64 0, .int .i64 0, .int .i64 0, .int .i64 0, .int .i64 0] ∧ Bx X ga 52 #[.int .i64 0, .int .i64 0, .int .i64 0, .slice none 0 0, .int .i64 0, .slice none 0 0, .int .i64 0, .int .i64 0] ∧ OwnL 57 5 tpc W.heap.size X (.slice C8 G3.length f8) G3 ∧ OwnL 3 1 inc W.heap.size X (.slice C9 G5.length f9) G5) ⟨HWy35.out.2, (HFbgb.out.ext Hy35.out), (HFbga.out.ext Hy35.out), HNoA.out, HNoI.out⟩ ?_
    intro X35 hX
    clear HFbgb HFbga
    clear qbgb fbgb lbgb qbga fbga lbga
    obtain ⟨hx, hfbgb, hfbga, hfoA, hfoI⟩ := hX.out
    have HX35 := Lib.hid hx
    have hzX35 := hx.size
    have HFbgb := Lib.hid hfbgb
    have qbgb := hfbgb.row.2.1
    have fbgb := hfbgb.row.2.2
    have lbgb := hfbgb.lt
    clear hfbgb
    have HFbga := Lib.hid hfbga
    have qbga := hfbga.row.2.1
    have fbga := hfbga.row.2.2
    have lbga := hfbga.lt
    clear hfbga
    have HFoA := Lib.hid hfoA
    clear hfoA
    have HFoI := Lib.hid hfoI
    clear hfoI
    have hS : Ext W X35 := hx
    clear hX hx
    (refine tkP 18 ?_; (try simp only [Act.put, lSet]); refine tkP 19 ?_; (try simp only [Act.put, lSet]); refine tkP 20 ?_; (try simp only [Act.put, lSet]); refine tkP 21 ?_; (try simp only [Act.put, lSet]))
    clear hS
    have HALL := Lib.hid (show Ext W X35 ∧ W.heap.size ≤ ga ∧ W.heap.size ≤ gb ∧ ga ≠ gb ∧ (∀ q, (Value.slice C8 G3.length f8).ownBlock = some q → q ≠ gb) ∧ Bx X35 ga 52 #[.int .i64 0, .int .i64 0, .int .i64 0, .slice none 0 0, .int .i64 0, .slice none 0 0, .int .i64 0, .int .i64 0] ∧ Bx X35 gb 57 #[.int .i64 0, .int .i64 0, .int .i64 0, .int .i64 0, .int .i64 0] ∧ OwnL 57 5 tpc W.heap.size X35 (.slice C8 G3.length f8) G3 ∧ OwnL 3 1 inc W.heap.size X35 (.slice C9 G5.length f9) G5 from ⟨HX35.out, hwga, hwgb, hnegagb, hsep, HFbga.out, HFbgb.out, HFoA.out, HFoI.out⟩)
    try rw [← hgga]
    try rw [← hggb]
    refine any_listed (l2 := #[true, true, true, true, true, true, true, true, true, true, true, true, true, true, true, true, true, true, true, true, true, true, true, true, false, false, false]) (by kernel_rfl) ?_
    revert HALL
    exact key X35 ga gb C8 f8 C9 f9
 ·intro X ga gb C8 f8 C9 f9 HALL
  obtain ⟨hx, hwga, hwgb, hnegagb, hsep, hb1, hb2, ho1, ho2⟩ := HALL.out
  have hnegbga : gb ≠ ga := fun h => hnegagb h.symm
  have HX := Lib.hid hx
  have HFbga := Lib.hid hb1
  have HFbgb := Lib.hid hb2
  have HFoA := Lib.hid ho1
  have HFoI := Lib.hid ho2
  clear HALL hx hb1 hb2 ho1 ho2
  have qbga := HFbga.out.row.2.1
  have fbga := HFbga.out.row.2.2
  have lbga := HFbga.out.lt
  have qbgb := HFbgb.out.row.2.1
  have fbgb := HFbgb.out.row.2.2
  have lbgb := HFbgb.out.lt
  have hzX := HX.out.size
  refine T_only (i := 24) rfl (by kernel_rfl) rfl (fun K hK => ?_)
  go_simp
  refine hK.out _ _ (.inr (show Ext W _ by exact extA)) ?_
  clear hK
  (try simp only [Act.put, lSet])
  refine T_only (i := 25) rfl (by kernel_rfl) rfl (fun K hK => ?_)
  go_simp
  refine hK.out _ _ (.inr (show Ext W _ by exact extA)) ?_
  clear hK
  (try simp only [Act.put, lSet])
  (refine T_only (i := 26) rfl (by kernel_rfl) rfl (fun K hK => ?_); go_simp; refine hK.out _ _ (.inl (by kernel_rfl)) ?_; clear hK; (try simp only [Act.put, lSet]); refine T_done (by kernel_rfl) ?_ _)
  go_upto_region 15 with fail
  have hfa : Fr (fun q => q = ga) X ((((((((X.setCell ⟨ga, 0, none⟩ (.int .i64 G0)).setCell ⟨ga, 1, none⟩ (.int .i64 G1)).setCell ⟨ga, 2, none⟩ (.int .i64 G2)).setCell ⟨ga, 3, none⟩ (.slice C8 G3.length f8)).setCell ⟨ga, 4, none⟩ (.int .i64 G4)).setCell ⟨ga, 5, none⟩ (.slice C9 G5.length f9)).setCell ⟨ga, 6, none⟩ (.int .i64 G6)).setCell ⟨ga, 7, none⟩ (.int .i64 G7)) := Fr.setC rfl (Fr.setC rfl (Fr.setC rfl (Fr.setC rfl (Fr.setC rfl (Fr.setC rfl (Fr.setC rfl (Fr.setC rfl (Fr.refl _ _))))))))
  have hfb : Fr (fun q => q = gb) ((((((((X.setCell ⟨ga, 0, none⟩ (.int .i64 G0)).setCell ⟨ga, 1, none⟩ (.int .i64 G1)).setCell ⟨ga, 2, none⟩ (.int .i64 G2)).setCell ⟨ga, 3, none⟩ (.slice C8 G3.length f8)).setCell ⟨ga, 4, none⟩ (.int .i64 G4)).setCell ⟨ga, 5, none⟩ (.slice C9 G5.length f9)).setCell ⟨ga, 6, none⟩ (.int .i64 G6)).setCell ⟨ga, 7, none⟩ (.int .i64 G7)) (((((((((((((X.setCell ⟨ga, 0, none⟩ (.int .i64 G0)).setCell ⟨ga, 1, none⟩ (.int .i64 G1)).setCell ⟨ga, 2, none⟩ (.int .i64 G2)).setCell ⟨ga, 3, none⟩ (.slice C8 G3.length f8)).setCell ⟨ga, 4, none⟩ (.int .i64 G4)).setCell ⟨ga, 5, none⟩ (.slice C9 G5.length f9)).setCell ⟨ga, 6, none⟩ (.int .i64 G6)).setCell ⟨ga, 7, none⟩ (.int .i64 G7)).setCell ⟨gb, 0, none⟩ (.int .i64 P0)).setCell ⟨gb, 1, none⟩ (.int .i64 P1)).setCell ⟨gb, 2, none⟩ (.int .i64 P2)).setCell ⟨gb, 3, none⟩ (.int .i64 P3)).setCell ⟨gb, 4, none⟩ (.int .i64 P4)) := Fr.setC rfl (Fr.setC rfl (Fr.setC rfl (Fr.setC rfl (Fr.setC rfl (Fr.refl _ _)))))
  have hba : ∀ q, (fun q => q = ga) q → ∃ e2 cs, Bx X q e2 cs ∧ e2 ∉ spK := by rintro q rfl; exact ⟨_, _, HFbga.out, by decide⟩
  have hbb2 : Bx ((((((((X.setCell ⟨ga, 0, none⟩ (.int .i64 G0)).setCell ⟨ga, 1, none⟩ (.int .i64 G1)).setCell ⟨ga, 2, none⟩ (.int .i64 G2)).setCell ⟨ga, 3, none⟩ (.slice C8 G3.length f8)).setCell ⟨ga, 4, none⟩ (.int .i64 G4)).setCell ⟨ga, 5, none⟩ (.slice C9 G5.length f9)).setCell ⟨ga, 6, none⟩ (.int .i64 G6)).setCell ⟨ga, 7, none⟩ (.int .i64 G7)) gb 57 #[.int .i64 0, .int .i64 0, .int .i64 0, .int .i64 0, .int .i64 0] := (Bx.far (a := ⟨ga, 7, none⟩) (show gb ≠ ga by omega) (Bx.far (a := ⟨ga, 6, none⟩) (show gb ≠ ga by omega) (Bx.far (a := ⟨ga, 5, none⟩) (show gb ≠ ga by omega) (Bx.far (a := ⟨ga, 4, none⟩) (show gb ≠ ga by omega) (Bx.far (a := ⟨ga, 3, none⟩) (show gb ≠ ga by omega) (Bx.far (a := ⟨ga, 2, none⟩) (show gb ≠ ga by omega) (Bx.far (a := ⟨ga, 1, none⟩) (show gb ≠ ga by omega) (Bx.far (a := ⟨ga, 0, none⟩) (show gb ≠ ga by omega) HFbgb.out))))))))
  have o3 := (HFoA.out.keepT hfa (offK hba (by decide)))
  have o4 := (HFoI.out.keepT hfa (offK hba (by decide)))
  have o5 := hfb.own o3 (fun q hq ho => hsep q hq ho)
  have o6 := o4.keepT hfb (by rintro q rfl; exact ⟨_, _, hbb2, by decide⟩)
  have HRga := Lib.hid (show Row (((((((((((((X.setCell ⟨ga, 0, none⟩ (.int .i64 G0)).setCell ⟨ga, 1, none⟩ (.int .i64 G1)).setCell ⟨ga, 2, none⟩ (.int .i64 G2)).setCell ⟨ga, 3, none⟩ (.slice C8 G3.length f8)).setCell ⟨ga, 4, none⟩ (.int .i64 G4)).setCell ⟨ga, 5, none⟩ (.slice C9 G5.length f9)).setCell ⟨ga, 6, none⟩ (.int .i64 G6)).setCell ⟨ga, 7, none⟩ (.int .i64 G7)).setCell ⟨gb, 0, none⟩ (.int .i64 P0)).setCell ⟨gb, 1, none⟩ (.int .i64 P1)).setCell ⟨gb, 2, none⟩ (.int .i64 P2)).setCell ⟨gb, 3, none⟩ (.int .i64 P3)).setCell ⟨gb, 4, none⟩ (.int .i64 P4)) ga #[.int .i64 G0, .int .i64 G1, .int .i64 G2, .slice C8 G3.length f8, .int .i64 G4, .slice C9 G5.length f9, .int .i64 G6, .int .i64 G7] from Bx.row (bxC (Bx.far (a := ⟨gb, 4, none⟩) (show ga ≠ gb by omega) (Bx.far (a := ⟨gb, 3, none⟩) (show ga ≠ gb by omega) (Bx.far (a := ⟨gb, 2, none⟩) (show ga ≠ gb by omega) (Bx.far (a := ⟨gb, 1, none⟩) (show ga ≠ gb by omega) (Bx.far (a := ⟨gb, 0, none⟩) (show ga ≠ gb by omega) (Bx.set (i := 7) (Bx.set (i := 6) (Bx.set (i := 5) (Bx.set (i := 4) (Bx.set (i := 3) (Bx.set (i := 2) (Bx.set (i := 1) (Bx.set (i := 0) HFbga.out))))))))))))) (by simp only [lSet])))
  have HEw := Lib.hid (And.intro trivial (show Ext wr (((((((((((((X.setCell ⟨ga, 0, none⟩ (.int .i64 G0)).setCell ⟨ga, 1, none⟩ (.int .i64 G1)).setCell ⟨ga, 2, none⟩ (.int .i64 G2)).setCell ⟨ga, 3, none⟩ (.slice C8 G3.length f8)).setCell ⟨ga, 4, none⟩ (.int .i64 G4)).setCell ⟨ga, 5, none⟩ (.slice C9 G5.length f9)).setCell ⟨ga, 6, none⟩ (.int .i64 G6)).setCell ⟨ga, 7, none⟩ (.int .i64 G7)).setCell ⟨gb, 0, none⟩ (.int .i64 P0)).setCell ⟨gb, 1, none⟩ (.int .i64 P1)).setCell ⟨gb, 2, none⟩ (.int .i64 P2)).setCell ⟨gb, 3, none⟩ (.int .i64 P3)).setCell ⟨gb, 4, none⟩ (.int .i64 P4)) by exact extA))
  refine wp_genP (S := fun Y => Ext wr Y ∧ wr.heap.size ≤ ga ∧ Row Y ga #[.int .i64 G0, .int .i64 G1, .int .i64 G2, .slice C8 G3.length f8, .int .i64 G4, .slice C9 G5.length f9, .int .i64 G6, .int .i64 G7] ∧ RdL 5 tpc Y (.slice C8 G3.length f8) G3 ∧ RdL 1 inc Y (.slice C9 G5.length f9) G5) ⟨HEw.out.2, by omega, HRga.out, o5.rd tpc_size, o6.rd inc_size⟩ ?_
  intro wc hY
  obtain ⟨he, hg5, hr5, oa, oi⟩ := hY.out
  have HC := Lib.hid he
  have R5 := Lib.hid hr5
  have HOA := Lib.hid oa
  have HOI := Lib.hid oi
  have hzc := he.size
  clear hY he hr5 oa oi KA KTap HX HW HFbga HFbgb HFoA HFoI HRga HEw hfa hfb hba hbb2 o3 o4 o5 o6 qbga fbga lbga qbgb fbgb lbgb
  (apply wp_gen3 (w0 := wc) (g0 := w.heap.size) (g1 := w1.heap.size) (g2 := ga); (focus (exact rowA)); (focus (exact rowA)); (focus (exact rowA)); (focus (exact extA)); intro V HV hzV Ry_0 Ry_1 Ry_2; (try simp only [lSet, World.size_alloc, size_set, World.heap_drewN, size_drew] at hzV Ry_0 Ry_1 Ry_2); have ly_0 := Ry_0.out.size; have ly_1 := Ry_1.out.size; have ly_2 := Ry_2.out.size)
  have HWV := Lib.hid (And.intro trivial (HC.out.trans HV.out))
  have HCV := Lib.hid (And.intro trivial HV.out)
  have HWV2 := Lib.hid (HC.out.trans HV.out)
  have HK := Lib.hid (fun (w' : World) (h : Ext V w') => And.intro (Row.ext h Ry_0.out).2.1 (And.intro (Row.ext h Ry_1.out).2.1 (And.intro (Row.ext h Ry_2.out).2.1 (And.intro (((HWV2.out.trans h).cells _ _ hbtr).trans m0) (And.intro (((HWV2.out.trans h).cells _ _ hbtr).trans m1) (And.intro (((HWV2.out.trans h).cells _ _ hbtr).trans m2) (And.intro (((HWV2.out.trans h).cells _ _ hbtr).trans m3) (And.intro (((HWV2.out.trans h).cells _ _ hbtr).trans m4) (And.intro (((HWV2.out.trans h).cells _ _ hbtr).trans m5) (And.intro (((HWV2.out.trans h).cells _ _ hbtr).trans m6) ((((HWV2.out.trans h).cells _ _ hbtr).trans m7))))))))))))
  clear m0 m1 m2 m3 m4 m5 m6 m7 HWV2
  (refine T_begin (fun w' => Ext V w') 18 (by kernel_rfl) ((Ext.refl _).drew) (fun hS => ?_); simp only [List.length_cons, List.length_nil])
  (refine tkG 0 HK hS ?_; (try simp only [Act.put, lSet]); refine tkG 1 HK hS ?_; (try simp only [Act.put, lSet]); refine tkG 2 HK hS ?_; (try simp only [Act.put, lSet]); refine tkG 3 HK hS ?_; (try simp only [Act.put, lSet]); refine tkG 4 HK hS ?_; (try simp only [Act.put, lSet]); refine tkG 5 HK hS ?_; (try simp only [Act.put, lSet]); refine tkG 6 HK hS ?_; (try simp only [Act.put, lSet]); refine tkG 7 HK hS ?_; (try simp only [Act.put, lSet]); refine tkG 8 HK hS ?_; (try simp only [Act.put, lSet]))
  clear hS
  refine T_onlyG (i := 9) rfl (by kernel_rfl) (by kernel_rfl) (fun K hK => ?_)
  go_simp
  refine (HSG.out _ (by exact HWV.out.2.trans (by exact extA)) (.slice C8 G3.length f8) (.slice C9 G5.length f9) (by exact HOA.out.ext (HCV.out.2.trans (by exact extA))) (by exact HOI.out.ext (HCV.out.2.trans (by exact extA)))).mono ?_
  rintro e w8 ⟨rfl, h8⟩
  have H8 := Lib.hid h8
  clear h8
  (go_wp2_with fail; have hS : Ext V w8 := by exact extA); (refine hK.out _ _ (.inr hS) ?_; clear hK; (try simp only [Act.put, lSet]))
  (refine tkG 10 HK hS ?_; (try simp only [Act.put, lSet]); refine tkG 11 HK hS ?_; (try simp only [Act.put, lSet]); refine tkG 12 HK hS ?_; (try simp only [Act.put, lSet]); refine tkG 13 HK hS ?_; (try simp only [Act.put, lSet]); refine tkG 14 HK hS ?_; (try simp only [Act.put, lSet]); refine tkG 15 HK hS ?_; (try simp only [Act.put, lSet]))
  clear hS
  refine T_onlyG (i := 16) rfl (by kernel_rfl) (by kernel_rfl) (fun K hK => ?_)
  go_simp
  refine (HSL.out _ (by exact HWV.out.2.trans (by exact extA))).mono ?_
  rintro e w9 ⟨rfl, h9⟩
  have H9 := Lib.hid h9
  clear h9
  (go_wp2_with fail; have hS : Ext V w9 := by exact extA); (refine hK.out _ _ (.inr hS) ?_; clear hK; (try simp only [Act.put, lSet]))
  (refine tkG 17 HK hS ?_; (try simp only [Act.put, lSet]))
  clear HK hS
  refine T_onlyG (i := 18) rfl (by kernel_rfl) (by kernel_rfl) (fun K hK => ?_)
  go_simp
  refine hK.out _ _ (.inl (by kernel_rfl)) ?_
  clear hK
  (try simp only [Act.put, lSet])
  refine T_done (by kernel_rfl) ?_ _
  go_wp2_with fail
  go_ret
  exact ⟨rfl, HWR.out.2.trans (HWV.out.2.trans (show Ext V _ by exact extA))⟩
theorem law_StationSafe_alone (s : St) (x : Sv) (id g time : Int) (w : World) (hr : RdS w x s) (h0 : (tapSt s id g time).2.2 = 0) (hv : (tapSt s id g time).2.1 = 0) :
  Calls Tryz.prog 4 #[.agg (sta s x), .int .i64 id, .int .i64 g, .int .i64 time] w fun e w' => e = .returned (.bool true) ∧ Ext w w' :=
 (safeP1 s id time).2 ⟨safeP2 s id time⟩ x g w hr h0 hv
end Go.Proofs.YteojjbhadgkfgaaGreat
