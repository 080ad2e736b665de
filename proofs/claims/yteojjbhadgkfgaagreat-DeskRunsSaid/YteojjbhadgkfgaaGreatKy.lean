/- Ky: parts of the proofs, laid together. -/
import Derived.Test.YteojjbhadgkfgaaGreatKs
import Derived.Test.YteojjbhadgkfgaaGreatKa
import Derived.Test.YteojjbhadgkfgaaGreatKe
import Derived.Test.YteojjbhadgkfgaaGreatKl
import Derived.Test.YteojjbhadgkfgaaGreatKw
import Derived.Test.YteojjbhadgkfgaaGreatKx
import Derived.Test.YteojjbhadgkfgaaGreatKg
import Derived.Test.YteojjbhadgkfgaaGreatKc
import Derived.Test.YteojjbhadgkfgaaGreatKk
/- The reference's SameStation. -/
set_option maxHeartbeats 64000000
namespace Go.Proofs.YteojjbhadgkfgaaGreat
set_option linter.unusedSimpArgs false
set_option linter.unusedVariables false
set_option maxRecDepth 100000
open Go Go.RowKit Lb

theorem drop_same {α : Type} [DecidableEq α] {l m : List α} {k : Nat} (h1 : k < l.length) (h2 : k < m.length) : decide (l.drop k = m.drop k) = (decide (l[k] = m[k]) && decide (l.drop (k + 1) = m.drop (k + 1))) := by
 have e1 := List.drop_eq_getElem_cons h1
 have e2 := List.drop_eq_getElem_cons h2
 rw [Bool.eq_iff_iff, decide_eq_true_eq, Bool.and_eq_true, decide_eq_true_eq, decide_eq_true_eq, e1, e2, List.cons.injEq]

theorem ref_SameStation (a b : St) (x y : Sv) (w : World) (ha : RdS w x a) (hb : RdS w y b) :
  Calls Tryz.prog 19 #[.agg (sta a x), .agg (sta b y)] w fun e w' => e = .returned (.bool (decide (a = b))) ∧ Ext w w' := by
 have K1 := Lib.hid (fun w' (h : Ext w w') => ref_SameLedger a.ledger b.ledger x.s0 x.s1 x.s2 y.s0 y.s1 y.s2 w' (ha.tk.ext h) (ha.tp.ext h) (ha.vd.ext h) (hb.tk.ext h) (hb.tp.ext h) (hb.vd.ext h))
 have K2 := Lib.hid (fun w' (h : Ext w w') => ref_SameDenied a.denied b.denied x.si y.si w' (ha.dn.ext h) (hb.dn.ext h))
 have K3 := Lib.hid (fun w' (h : Ext w w') => ref_SameViews a.views b.views x.sv y.sv w' (ha.vw.ext h) (hb.vw.ext h))
 have GA := Lib.hid ha.gt
 have GB := Lib.hid hb.gt
 have hres : decide (a = b) = (decide (a.ledger = b.ledger) && (sameDn a.denied b.denied && ((a.views == b.views) && (decide (a.gates.length = b.gates.length) && decide (a.gates.drop 0 = b.gates.drop 0))))) := by
  obtain ⟨a1, a2, a3, a4⟩ := a
  obtain ⟨b1, b2, b3, b4⟩ := b
  have h2 := @sameDn_iff a2 b2
  rw [Bool.eq_iff_iff]
  simp only [St.mk.injEq, decide_eq_true_eq, Bool.and_eq_true, h2, beq_iff_eq, List.drop_zero]
  constructor
  ·rintro ⟨h1, h2, h3, h4⟩; exact ⟨h1, h2, h4, by rw [h3], h3⟩
  ·rintro ⟨h1, h2, h4, -, h3⟩; exact ⟨h1, h2, h3, h4⟩
 generalize decide (a = b) = r at *
 generalize decide (a.ledger = b.ledger) = z1 at *
 generalize sameDn a.denied b.denied = z2 at *
 generalize (a.views == b.views) = z3 at *
 have HRES := Lib.hid hres
 clear hres
 obtain ⟨A0, c0, e0, -, -⟩ := ha.tk.form
 obtain ⟨A1, c1, e1, -, -⟩ := ha.tp.form
 obtain ⟨A2, c2, e2, -, -⟩ := ha.vd.form
 obtain ⟨A3, c3, e3, -, -⟩ := ha.dn.form
 obtain ⟨A4, c4, e4, hc4, -⟩ := ha.gt.form
 obtain ⟨A5, c5, e5, -, -⟩ := ha.vw.form
 obtain ⟨B0, d0, f0, -, -⟩ := hb.tk.form
 obtain ⟨B1, d1, f1, -, -⟩ := hb.tp.form
 obtain ⟨B2, d2, f2, -, -⟩ := hb.vd.form
 obtain ⟨B3, d3, f3, -, -⟩ := hb.dn.form
 obtain ⟨B4, d4, f4, hd4, hm4⟩ := hb.gt.form
 obtain ⟨B5, d5, f5, -, -⟩ := hb.vw.form
 obtain ⟨s0, s1, s2, si, sg, sv⟩ := x
 obtain ⟨t0, t1, t2, ti, tg, tv⟩ := y
 simp only at e0 e1 e2 e3 e4 e5 f0 f1 f2 f3 f4 f5
 obtain ⟨m, hm⟩ : ∃ m, m = b.gates.length := ⟨_, rfl⟩
 rw [← hm] at f4 hd4
 have HM := Lib.hid hm
 clear hm
 subst e0 e1 e2 e3 e4 e5 f0 f1 f2 f3 f4 f5
 have HC := Lib.hid (And.intro hc4 (And.intro hd4 hm4))
 clear ha hb hc4 hd4 hm4
 unfold sta
 simp only at K1 K2 K3 GA GB ⊢
 go_enter Tryz.func19, Tryz.ntmps19
 go_wp2_with fail
 (refine gA (K1.out _ extA) fun w1 H1 hz1 => ?_; (try simp only [lSz] at hz1); refine rowU w1 w.heap.size fun q1_0 f1_0 l1_0 R1_0 => ?_; refine rowU w1 (w.heap.size + 1) fun q1_1 f1_1 l1_1 R1_1 => ?_)
 cases z1
 ·have HQ := Lib.hid (show r = false by rw [HRES.out]; rfl)
  go_wp2_with fail
  go_ret
  exact ⟨ret_bool HQ.out.symm, (extA : Ext w _)⟩
 go_wp2_with fail
 (refine gA (K2.out _ extA) fun w2 H2 hz2 => ?_; (try simp only [lSz] at hz2); refine rowU w2 w.heap.size fun q2_0 f2_0 l2_0 R2_0 => ?_; refine rowU w2 (w.heap.size + 1) fun q2_1 f2_1 l2_1 R2_1 => ?_)
 cases z2
 ·have HQ := Lib.hid (show r = false by rw [HRES.out]; rfl)
  go_wp2_with fail
  go_ret
  exact ⟨ret_bool HQ.out.symm, (extA : Ext w _)⟩
 go_wp2_with fail
 (refine gA (K3.out _ extA) fun w3 H3 hz3 => ?_; (try simp only [lSz] at hz3); refine rowU w3 w.heap.size fun q3_0 f3_0 l3_0 R3_0 => ?_; refine rowU w3 (w.heap.size + 1) fun q3_1 f3_1 l3_1 R3_1 => ?_)
 cases z3
 ·have HQ := Lib.hid (show r = false by rw [HRES.out]; rfl)
  go_wp2_with fail
  go_ret
  exact ⟨ret_bool HQ.out.symm, (extA : Ext w _)⟩
 by_cases hl : a.gates.length = m
 rotate_left
 ·have HQ := Lib.hid (show r = false by have := HM.out; rw [HRES.out]; simp [show ¬ a.gates.length = b.gates.length by omega])
  have hlb : ((a.gates.length : Int) == (m : Int)) = false := by rw [beq_eq_false_iff_ne]; omega
  clear hl
  go_wp2_with fail
  go_ret
  exact ⟨ret_bool HQ.out.symm, (extA : Ext w _)⟩
 subst hl
 have HQ := Lib.hid (show r = decide (a.gates.drop 0 = b.gates.drop 0) by rw [HRES.out]; simp [HM.out])
 have HL := Lib.hid HM.out
 have HW3 := Lib.hid (And.intro trivial (extA : Ext w w3))
 have hm3 : a.gates.length ≤ maxLen := by have := HC.out.2.1; have := HC.out.2.2; omega
 unfold maxLen at hm3
 clear HRES HM
 go_wp2_with fail
 go_loopg [5] a.gates.length (fun gg s5 wr => ∃ k : Nat, k ≤ a.gates.length ∧ a.gates.length - k ≤ gg ∧ s5 = .int .i64 k ∧ Aside (Ext w3 wr ∧ r = decide (a.gates.drop k = b.gates.drop k)))
 case atStart => exact ⟨0, Nat.zero_le _, by omega, rfl, Ext.refl _, HQ.out⟩
 case round =>
  obtain ⟨k, hk, hg, rfl, HA⟩ := hrel
  have HE := Lib.hid HA.out.1
  have HR := Lib.hid HA.out.2
  clear HA
  (refine rowU wr w.heap.size fun qr_0 fr_0 lr_0 Rr_0 => ?_; refine rowU wr (w.heap.size + 1) fun qr_1 fr_1 lr_1 Rr_1 => ?_)
  by_cases hlt : k < a.gates.length
  ·have hlt2 : k < b.gates.length := by have := HL.out; omega
   have hi1 : (k : Int) < (a.gates.length : Int) := by omega
   have hi2 : (k : Int) < (b.gates.length : Int) := by omega
   have hi3 : (k : Int) < (c4 : Int) := by have := HC.out; omega
   have hi4 : (k : Int) < (d4 : Int) := by have := HC.out; omega
   have hxw := HW3.out.2.trans HE.out
   obtain ⟨ba, oa, sa1, si1, rfl, hba, ra, rd, g0, g1, g2, g3, g4, g5, g6, g7⟩ := (GA.out.ext hxw).at_ rfl hlt
   obtain ⟨bb, ob, sa2, si2, rfl, hbb, ra2, rd2, h0, h1, h2, h3, h4, h5, h6, h7⟩ := (GB.out.ext hxw).at_ rfl hlt2
   have HD := Lib.hid (show r = (decide (a.gates[k] = b.gates[k]) && decide (a.gates.drop (k + 1) = b.gates.drop (k + 1))) by rw [HR.out, drop_same hlt hlt2])
   have KG := Lib.hid (fun w' (h : Ext wr w') => ref_SameGate a.gates[k] b.gates[k] sa1 si1 sa2 si2 w' (ra.ext h) (rd.ext h) (ra2.ext h) (rd2.ext h))
   obtain ⟨A8, c8, rfl, -, -⟩ := ra.form
   obtain ⟨A9, c9, rfl, -, -⟩ := rd.form
   obtain ⟨B8, d8, rfl, -, -⟩ := ra2.form
   obtain ⟨B9, d9, rfl, -, -⟩ := rd2.form
   clear ra rd ra2 rd2 hxw HR
   unfold gta at KG
   generalize decide (a.gates[k] = b.gates[k]) = z at *
   generalize a.gates[k] = ga at *
   generalize b.gates[k] = gb at *
   go_upto_region 6 with fail
   (apply wp_gen2 (w0 := wr) (g0 := w.heap.size) (g1 := w.heap.size + 1); (focus (exact rowA)); (focus (exact rowA)); (focus (exact extA)); intro W HW hzW Rz_0 Rz_1; (try simp only [lSet, World.size_alloc, size_set, World.heap_drewN, size_drew] at hzW Rz_0 Rz_1); have lz_0 := Rz_0.out.size; have lz_1 := Rz_1.out.size)
   have HK := Lib.hid (fun w' (h : Ext W w') => And.intro (Row.ext h Rz_0.out).2.1 (And.intro (Row.ext h Rz_1.out).2.1 (And.intro (((HW.out.trans h).cells _ _ hba).trans g0) (And.intro (((HW.out.trans h).cells _ _ hba).trans g1) (And.intro (((HW.out.trans h).cells _ _ hba).trans g2) (And.intro (((HW.out.trans h).cells _ _ hba).trans g3) (And.intro (((HW.out.trans h).cells _ _ hba).trans g4) (And.intro (((HW.out.trans h).cells _ _ hba).trans g5) (And.intro (((HW.out.trans h).cells _ _ hba).trans g6) (And.intro (((HW.out.trans h).cells _ _ hba).trans g7) (And.intro (((HW.out.trans h).cells _ _ hbb).trans h0) (And.intro (((HW.out.trans h).cells _ _ hbb).trans h1) (And.intro (((HW.out.trans h).cells _ _ hbb).trans h2) (And.intro (((HW.out.trans h).cells _ _ hbb).trans h3) (And.intro (((HW.out.trans h).cells _ _ hbb).trans h4) (And.intro (((HW.out.trans h).cells _ _ hbb).trans h5) (And.intro (((HW.out.trans h).cells _ _ hbb).trans h6) ((((HW.out.trans h).cells _ _ hbb).trans h7)))))))))))))))))))
   (refine T_begin (fun w' => Ext W w') 10 (by kernel_rfl) ((Ext.refl _).drew) (fun hS => ?_); simp only [List.length_cons, List.length_nil])
   (refine tkA 0 HK hS ?_; refine tkA 1 HK hS ?_; refine tkA 2 HK hS ?_; refine tkA 3 HK hS ?_; refine tkA 4 HK hS ?_; refine tkA 5 HK hS ?_; refine tkA 6 HK hS ?_; refine tkA 7 HK hS ?_; refine tkA 8 HK hS ?_; refine tkA 9 HK hS ?_)
   (refine oA 10 fun K hK => ?_; go_simp)
   refine (KG.out _ extA).mono ?_
   rintro e w5 ⟨rfl, hx⟩
   have H5 := Lib.hid hx
   have hz5 := hx.size
   clear hx hS
   (try simp only [size_drew] at hz5)
   go_wp2_with fail
   have hS : Ext W w5 := by exact extA
   refine hK.out _ _ (.inr hS) ?_
   clear hK
   (try simp only [Act.put, lSet])
   (refine oA 11 fun K hK => ?_; go_simp; refine hK.out _ _ (.inl (by kernel_rfl)) ?_; clear hK; (try simp only [Act.put, lSet]); refine T_done (by kernel_rfl) ?_ _)
   clear HK g0 g1 g2 g3 g4 g5 g6 g7 h0 h1 h2 h3 h4 h5 h6 h7
   cases z
   ·have HQ2 := Lib.hid (show r = false by rw [HD.out]; rfl)
    have hq := HW3.out.2
    go_wp2_with fail
    go_ret
    exact ⟨ret_bool HQ2.out.symm, hq.trans (extA : Ext w3 _)⟩
   ·have HQ2 := Lib.hid (show r = decide (a.gates.drop (k + 1) = b.gates.drop (k + 1)) by rw [HD.out, Bool.true_and])
    go_wp2_with fail
    go_roundg (a.gates.length - (k + 1))
    case measure => omega
    case rel => exact ⟨k + 1, by omega, by omega, by go_num, (extA : Ext w3 _), HQ2.out⟩
  ·have hge : ¬ (k : Int) < (a.gates.length : Int) := by omega
   have HQ2 := Lib.hid (show r = true by
    have h1 := HL.out
    rw [HR.out, List.drop_eq_nil_of_le (by omega), List.drop_eq_nil_of_le (by omega)]; rfl)
   have hq := HW3.out.2
   go_wp2_with fail
   go_ret
   exact ⟨ret_bool HQ2.out.symm, hq.trans (extA : Ext w3 _)⟩

theorem RdS.nil {w : World} : RdS w sv0 st0 := ⟨RdL.nil, RdL.nil, RdL.nil, RdL.nil, RdG.nil, RdL.nil⟩
theorem law_stationIs (a b : St) (e1 e2 : Int) (x y : Sv) (w : World) (ha : RdS w x a) (hb : RdS w y b) :
  Calls Tryz.prog 23 #[.agg (sta a x), .int .i64 e1, .int .i64 e2, .agg (sta b y)] w fun e w' => e = .returned (.bool (e1 == e2 && decide (a = if e2 ≠ 0 then st0 else b))) ∧ Ext w w' := by
 have HS := Lib.hid (fun w' (h : Ext w w') => ref_SameStation a b x y w' (ha.ext h) (hb.ext h))
 have HZ := Lib.hid (fun w' (h : Ext w w') => ref_SameStation a st0 x sv0 w' (ha.ext h) RdS.nil)
 obtain ⟨A0, c0, e0, -, -⟩ := ha.tk.form
 obtain ⟨A1, c1, e1_, -, -⟩ := ha.tp.form
 obtain ⟨A2, c2, e2_, -, -⟩ := ha.vd.form
 obtain ⟨A3, c3, e3, -, -⟩ := ha.dn.form
 obtain ⟨A4, c4, e4, -, -⟩ := ha.gt.form
 obtain ⟨A5, c5, e5, -, -⟩ := ha.vw.form
 obtain ⟨B0, d0, f0, -, -⟩ := hb.tk.form
 obtain ⟨B1, d1, f1, -, -⟩ := hb.tp.form
 obtain ⟨B2, d2, f2, -, -⟩ := hb.vd.form
 obtain ⟨B3, d3, f3, -, -⟩ := hb.dn.form
 obtain ⟨B4, d4, f4, -, -⟩ := hb.gt.form
 obtain ⟨B5, d5, f5, -, -⟩ := hb.vw.form
 obtain ⟨s0, s1, s2, si, sg, sv⟩ := x
 obtain ⟨t0, t1, t2, ti, tg, tv⟩ := y
 simp only at e0 e1_ e2_ e3 e4 e5 f0 f1 f2 f3 f4 f5
 subst e0 e1_ e2_ e3 e4 e5 f0 f1 f2 f3 f4 f5
 clear ha hb
 unfold sta at HS HZ
 unfold sv0 at HZ
 unfold sta
 have hif : (decide (a = if e2 ≠ 0 then st0 else b)) = if e2 ≠ 0 then decide (a = st0) else decide (a = b) := by split <;> rfl
 rw [hif]
 clear hif
 generalize decide (a = st0) = q0 at *
 generalize decide (a = b) = q1 at *
 simp only [st0, ld0, dn0, List.length_nil] at HS HZ ⊢
 by_cases h2 : e2 = 0
 ·have hb2 : (e2 != 0) = false := by simpa using h2
  rw [if_neg (by simpa using h2)]
  clear h2 HZ
  by_cases h1 : e1 = e2
  ·have hb1 : (e1 == e2) = true := by simpa using h1
   rw [hb1, Bool.true_and]
   clear h1
   go_enter Tryz.func23, Tryz.ntmps23
   go_wp2_with fail
   (refine gA (HS.out _ extA) fun w1 H1 hz1 => ?_; (try simp only [lSz] at hz1))
   go_wp2_with fail
   go_ret
   refine ⟨ret_bool rfl, ?_⟩
   exact extA
  ·have hb1 : (e1 == e2) = false := by simpa using h1
   rw [hb1, Bool.false_and]
   clear h1
   go_enter Tryz.func23, Tryz.ntmps23
   go_wp2_with fail
   go_ret
   refine ⟨ret_bool rfl, ?_⟩
   exact extA
 ·have hb2 : (e2 != 0) = true := by simpa using h2
  rw [if_pos (by simpa using h2)]
  clear h2 HS
  by_cases h1 : e1 = e2
  ·have hb1 : (e1 == e2) = true := by simpa using h1
   rw [hb1, Bool.true_and]
   clear h1
   go_enter Tryz.func23, Tryz.ntmps23
   go_wp2_with fail
   (refine gA (HZ.out _ extA) fun w1 H1 hz1 => ?_; (try simp only [lSz] at hz1))
   go_wp2_with fail
   go_ret
   refine ⟨ret_bool rfl, ?_⟩
   exact extA
  ·have hb1 : (e1 == e2) = false := by simpa using h1
   rw [hb1, Bool.false_and]
   clear h1
   go_enter Tryz.func23, Tryz.ntmps23
   go_wp2_with fail
   go_ret
   refine ⟨ret_bool rfl, ?_⟩
   exact extA
theorem law_stationIs_so (a b : St) (e1 : Int) (x y : Sv) (w : World) (ha : RdS w x a) (hb : RdS w y b) (h : a = if e1 ≠ 0 then st0 else b) :
  Calls Tryz.prog 23 #[.agg (sta a x), .int .i64 e1, .int .i64 e1, .agg (sta b y)] w fun e w' => e = .returned (.bool true) ∧ Ext w w' := by
 have := law_stationIs a b e1 e1 x y w ha hb
 rw [decide_eq_true h] at this
 simpa using this

def runAll (l : List Ac) : St × List Int × Int := if 40 < l.length then (st0, [], 2) else ((runS newS l).1, (runS newS l).2, 0)
theorem info_er : (Tryz.prog.info? 35).map (fun i => (i.zero, i.size, i.bytes)) = some (some (.int .i64 0), 1, 8) := by kernel_rfl
theorem er_one (l : List Int) : ∀ u ∈ encs inc l, u.oneCell' = true := by
 intro u hu
 obtain ⟨x, -, hx⟩ := List.mem_flatMap.1 hu
 simp [inc] at hx
 subst hx
 rfl
theorem Ck.fr {own : Nat → Prop} {base p : Nat} {w w' : World} {y : Sv} {s : St} {n : Int} (hk : Ck base w p y s n) (hf : Fr own w w') (hp : ¬ own p) (hn : ∀ q, own q → ∃ e2 cs, Bx w q e2 cs ∧ e2 ∉ spT) : Ck base w' p y s n := ⟨hk.box.fr hf hp, hk.ge, hk.own.keep hf hn⟩
theorem desk_Run (l : List Ac) (v : Value) (w : World) (hr : RdL 10 acc w v l) :
  Calls Tryz.prog 41 #[v] w fun e w' => ∃ x' u, e = .returned (.tuple #[.agg (sta (runAll l).1 x'), u, .int .i64 (runAll l).2.2]) ∧ Ext w w' ∧ OwnS w.heap.size w' x' (runAll l).1 ∧ OwnL 35 1 inc w.heap.size w' u (runAll l).2.1 := by
 obtain ⟨A, c, rfl, hlc, hmc⟩ := hr.form
 have hres : runAll l = if 40 < l.length then (st0, [], 2) else ((runS newS l).1, (runS newS l).2, 0) := rfl
 generalize runAll l = R at *
 have HRL := Lib.hid hr
 have hl9 : l.length ≤ 9223372036854775807 := by unfold maxLen at hmc; omega
 have HLC := Lib.hid hlc
 clear hr hlc hmc
 by_cases h40 : 40 < l.length
 case pos =>
  rw [if_pos h40] at hres
  subst hres
  have h4i : (40 : Int) < (l.length : Int) := by omega
  clear h40
  go_enter Tryz.func41, Tryz.ntmps41
  go_wp2_with fail
  exact bodyPost_ret (v := .tuple #[.agg #[.slice none 0 0, .slice none 0 0, .slice none 0 0, .int .i64 0, .slice none 0 0, .slice none 0 0, .slice none 0 0], .slice none 0 0, .int .i64 2]) (by simp [results, Tryz.results41, go_sem, *]) rfl ⟨sv0, _, rfl, (extA : Ext w _), OwnS.nil, OwnL.nil⟩
 rw [if_neg h40] at hres
 have H40 := Lib.hid h40
 have h4i : ¬ (40 : Int) < (l.length : Int) := by omega
 obtain ⟨RS, hRS⟩ : ∃ r, r = runS newS l := ⟨_, rfl⟩
 rw [← hRS] at hres
 have HRS := Lib.hid hRS
 subst hres
 simp only
 clear hRS h40
 obtain ⟨i0, ji, ji0, ji1, ji2⟩ := info_parts info_er
 go_enter Tryz.func41, Tryz.ntmps41
 go_wp2_with fail
 refine (station_New_own _).mono ?_
 rintro e w1 ⟨⟨t0, t1, t2, ti, tg, tv⟩, rfl, h1, ho⟩
 obtain ⟨B0, kB0, rfl⟩ : ∃ B d, t0 = .slice B 0 d := ho.tk.form
 obtain ⟨B1, kB1, rfl⟩ : ∃ B d, t1 = .slice B 0 d := ho.tp.form
 obtain ⟨B2, kB2, rfl⟩ : ∃ B d, t2 = .slice B 0 d := ho.vd.form
 obtain ⟨B3, kB3, rfl⟩ : ∃ B d, ti = .slice B 0 d := ho.dn.form
 obtain ⟨B4, kB4, rfl⟩ : ∃ B d, tg = .slice B 3 d := ho.gt.form
 obtain ⟨B5, kB5, rfl⟩ : ∃ B d, tv = .slice B 3 d := ho.vw.form
 rw [show sta newS ⟨.slice B0 0 kB0, .slice B1 0 kB1, .slice B2 0 kB2, .slice B3 0 kB3, .slice B4 3 kB4, .slice B5 3 kB5⟩ = #[.slice B0 0 kB0, .slice B1 0 kB1, .slice B2 0 kB2, .int .i64 0, .slice B3 0 kB3, .slice B4 3 kB4, .slice B5 3 kB5] from rfl]
 have H1 := Lib.hid h1
 have hz1 := h1.size
 have HO := Lib.hid ho
 (try simp only [World.size_alloc] at hz1 HO)
 have HW1 := Lib.hid (And.intro trivial (extA : Ext w w1))
 have HR1 := Lib.hid (show Row (w1.alloc (.cells #[.slice B0 0 kB0, .slice B1 0 kB1, .slice B2 0 kB2, .int .i64 0, .slice B3 0 kB3, .slice B4 3 kB4, .slice B5 3 kB5, .int .i64 0] 126)) w.heap.size #[.slice none 0 0, .slice none 0 0, .slice none 0 0, .int .i64 0, .slice none 0 0, .slice none 0 0, .slice none 0 0] from Row.alloc (Row.ext h1 (Row.newAt rfl)))
 have HCK := Lib.hid (show Ck (w.heap.size + 1) (w1.alloc (.cells #[.slice B0 0 kB0, .slice B1 0 kB1, .slice B2 0 kB2, .int .i64 0, .slice B3 0 kB3, .slice B4 3 kB4, .slice B5 3 kB5, .int .i64 0] 126)) w1.heap.size ⟨.slice B0 0 kB0, .slice B1 0 kB1, .slice B2 0 kB2, .slice B3 0 kB3, .slice B4 3 kB4, .slice B5 3 kB5⟩ newS 0 from ⟨Bx.new, by omega, HO.out.ext ((Ext.refl _).alloc _)⟩)
 obtain ⟨p, hp⟩ : ∃ p, p = w1.heap.size := ⟨_, rfl⟩
 have hpw : w.heap.size + 1 ≤ p := by omega
 clear h1 ho HO
 go_wp2_with fail
 go_loopg [6, 8, 18] l.length (fun gg s6 _ s18 wr => ∃ (k : Nat) (sk : St) (nk : Int) (y : Sv) (dn : List Int) (D : Option Addr) (d : Nat), k ≤ l.length ∧ l.length - k ≤ gg ∧ s6 = .slice D dn.length d ∧ s18 = .int .i64 k ∧ Aside (Ext w wr ∧ Row wr w.heap.size #[.slice none 0 0, .slice none 0 0, .slice none 0 0, .int .i64 0, .slice none 0 0, .slice none 0 0, .slice none 0 0] ∧ Ck (w.heap.size + 1) wr w1.heap.size y sk nk ∧ RightS sk ∧ OwnL 35 1 inc (w.heap.size + 1) wr (.slice D dn.length d) dn ∧ dn.length = k ∧ RS.1 = (runS sk (l.drop k)).1 ∧ RS.2 = dn ++ (runS sk (l.drop k)).2))
 case atStart => exact ⟨0, newS, 0, _, [], none, 0, Nat.zero_le _, by omega, rfl, rfl, HW1.out.2.alloc _, HR1.out, HCK.out, newS_right, OwnL.nil, rfl, by rw [HRS.out]; rfl, by rw [HRS.out]; rfl⟩
 case round =>
  obtain ⟨k, sk, nk, y, dn, D, d, hk, hg, rfl, rfl, HA⟩ := hrel
  obtain ⟨hx, hrw, hck, hrs, hod, hdk, hr1, hr2⟩ := HA.out
  have HX := Lib.hid hx
  have HRW := Lib.hid hrw
  have HK := Lib.hid hck
  have HRT := Lib.hid hrs
  have HOD := Lib.hid hod
  have HDK := Lib.hid hdk
  have HR1' := Lib.hid hr1
  have HR2' := Lib.hid hr2
  have hxs := hx.size
  have hpr := hck.box.lt
  have hwr := hrw.1
  clear HA hx hrw hck hrs hod hdk hr1 hr2 HCK HR1
  by_cases hlt : k < l.length
  ·have hli : (k : Int) < (l.length : Int) := by omega
   obtain ⟨b, o, c', hv, hb, hc⟩ := (HRL.out.ext HX.out).at_ hlt
   injection hv with hA hA2 hA3
   subst hA hA3
   clear hA2
   have hkc : (k : Int) < (c : Int) := by have := HLC.out; omega
   have HS1 := Lib.hid (show RS.1 = (runS (doS sk nk l[k]).1 (l.drop (k + 1))).1 by
    rw [HR1'.out, List.drop_eq_getElem_cons hlt]
    show (runS (doS sk 0 l[k]).1 (l.drop (k + 1))).1 = _
    rw [(doS_n sk nk 0 l[k]).1])
   have HS2 := Lib.hid (show RS.2 = (dn ++ [(doS sk nk l[k]).2.2]) ++ (runS (doS sk nk l[k]).1 (l.drop (k + 1))).2 by
    rw [HR2'.out, List.drop_eq_getElem_cons hlt]
    show dn ++ ((doS sk 0 l[k]).2.2 :: (runS (doS sk 0 l[k]).1 (l.drop (k + 1))).2) = _
    rw [(doS_n sk nk 0 l[k]).1, (doS_n sk nk 0 l[k]).2]
    simp)
   have HRT2 := Lib.hid (doS_right (n := nk) (a := l[k]) HRT.out)
   have c0 : wr.cell? ⟨b, o + k * 10, none⟩ = some (.int .i64 l[k].kind) := hc 0 _ rfl
   have c1 : wr.cell? ⟨b, o + k * 10 + 1, none⟩ = some (.int .i64 l[k].id) := hc 1 _ rfl
   have c2 : wr.cell? ⟨b, o + k * 10 + 2, none⟩ = some (.int .i64 l[k].of) := hc 2 _ rfl
   have c3 : wr.cell? ⟨b, o + k * 10 + 3, none⟩ = some (.int .i64 l[k].time) := hc 3 _ rfl
   have c4 : wr.cell? ⟨b, o + k * 10 + 4, none⟩ = some (.int .i64 l[k].ticket.id) := hc 4 _ rfl
   have c5 : wr.cell? ⟨b, o + k * 10 + 5, none⟩ = some (.int .i64 l[k].ticket.kind) := hc 5 _ rfl
   have c6 : wr.cell? ⟨b, o + k * 10 + 6, none⟩ = some (.int .i64 l[k].ticket.frm) := hc 6 _ rfl
   have c7 : wr.cell? ⟨b, o + k * 10 + 7, none⟩ = some (.int .i64 l[k].ticket.til) := hc 7 _ rfl
   have c8 : wr.cell? ⟨b, o + k * 10 + 8, none⟩ = some (.int .i64 l[k].ticket.zones) := hc 8 _ rfl
   have c9 : wr.cell? ⟨b, o + k * 10 + 9, none⟩ = some (.int .i64 l[k].ticket.rides) := hc 9 _ rfl
   have KD := Lib.hid (fun (W : World) (h : Ck (w.heap.size + 1) W w1.heap.size y sk nk) => clerk_do sk y nk l[k] w1.heap.size (w.heap.size + 1) W h HRT.out)
   generalize doS sk nk l[k] = Q at *
   generalize l[k] = x at *
   obtain ⟨xk, xi, xo, xt, ⟨t0, t1, t2, t3, t4, t5⟩⟩ := x
   obtain ⟨Q1, Q2, Q3⟩ := Q
   unfold acc at KD
   simp only at KD HS1 HS2 HRT2 c0 c1 c2 c3 c4 c5 c6 c7 c8 c9
   clear hc HR1' HR2'
   go_wp2_with fail
   refine (KD.out _ (by exact HK.out.ext ((Ext.refl _).alloc _))).mono ?_
   rintro e w4 ⟨rfl, hf, y4, hk4⟩
   have hfx : Fr (fun q => q = w1.heap.size) wr w4 := (Fr.ofExt ((Ext.refl wr).alloc (.cells #[.int .i64 xk, .int .i64 xi, .int .i64 xo, .int .i64 xt, .int .i64 t0, .int .i64 t1, .int .i64 t2, .int .i64 t3, .int .i64 t4, .int .i64 t5] 71))).trans hf
   have HX4 := Lib.hid (Ext.fr HX.out hfx (fun q h => by have h2 : q = w1.heap.size := h; omega))
   have HRW4 := Lib.hid (hfx.row (g := w.heap.size) (fun h => by have h2 : w.heap.size = w1.heap.size := h; omega) HRW.out)
   have HK4 := Lib.hid hk4
   have HO4 := Lib.hid (HOD.out.keepT hfx (by rintro q rfl; exact ⟨_, _, HK.out.box, by decide⟩))
   have hz4 := HX4.out.size
   clear hf hfx hk4 KD c0 c1 c2 c3 c4 c5 c6 c7 c8 c9
   go_wp2_with (at_builtin; go_loud (refine wpList_append_rd (enc := inc) (k := 1) _ rfl _ _ 75 rfl (w.heap.size + 1) 35 i0 (.int .i64 0) 8 Tryz.underlying75 ji ji0 ji1 ji2 rfl (by decide) inc_size _ dn rfl (HO4.out.alloc _) _ [Q3] rfl (RdL.lit (enc := inc) Q3 rfl rfl) (er_one _) ?g1 ?g2 (by simp; omega) ?_))
   case g1 => have := HDK.out; have := H40.out; unfold maxLen; simp; omega
   case g2 => have := HDK.out; have := H40.out; simp; omega
   intro v8 w8 ho8 hg8 hn8
   obtain ⟨B8, d8, rfl⟩ := ho8.form
   have hf8 := row_fr hg8
   have hbx8 : ∀ q, (fun q => (Value.slice D dn.length d).ownBlock = some q) q → ∃ cs, Bx (w4.alloc (.cells #[.int .i64 Q3] 35)) q 35 cs := fun q hq => OwnL.bx (HO4.out.alloc _) q hq
   have hnp : ¬ (fun q => (Value.slice D dn.length d).ownBlock = some q) w1.heap.size := by
    intro h
    obtain ⟨cs, hb8⟩ := hbx8 _ h
    have h2 := (HK4.out.ext ((Ext.refl _).alloc (.cells #[.int .i64 Q3] 35))).box
    unfold Bx at hb8 h2
    rw [hb8] at h2
    simp at h2
   have HK8 := Lib.hid ((HK4.out.ext ((Ext.refl _).alloc (.cells #[.int .i64 Q3] 35))).fr hf8 hnp (fun q hq => by obtain ⟨cs, h⟩ := hbx8 q hq; exact ⟨_, _, h, by decide⟩))
   have hlo : ∀ q, (fun q => (Value.slice D dn.length d).ownBlock = some q) q → w.heap.size + 1 ≤ q := fun q hq => (HO4.out.lt q hq).1
   have HX8 := Lib.hid (Ext.fr (HX4.out.alloc (.cells #[.int .i64 Q3] 35)) hf8 (fun q h => by have := hlo q h; omega))
   have HRW8 := Lib.hid (hf8.row (g := w.heap.size) (fun h => by have := hlo _ h; omega) (Row.alloc HRW4.out))
   have HO8 := Lib.hid ho8
   clear ho8 hg8 hn8 hf8 hbx8 hnp hlo
   go_wp2_with fail
   go_roundg (l.length - (k + 1))
   case measure => omega
   case rel => exact ⟨k + 1, Q1, Q2, y4, dn ++ [Q3], B8, d8, by omega, by omega, rfl, by go_num, HX8.out, HRW8.out, HK8.out, HRT2.out, HO8.out, by have := HDK.out; simp; omega, HS1.out, HS2.out⟩
  ·have hli : ¬ (k : Int) < (l.length : Int) := by omega
   have hnil : l.drop k = [] := List.drop_eq_nil_of_le (by omega)
   have hr1 := HR1'.out
   have hr2 := HR2'.out
   rw [hnil] at hr1 hr2
   have HQ1 := Lib.hid (show RS.1 = sk from hr1)
   have HQ2 := Lib.hid (show RS.2 = dn by rw [hr2]; simp [runS])
   clear hnil hr1 hr2 HR1' HR2'
   obtain ⟨u0, u1, u2, ui, ug, uv⟩ := y
   obtain ⟨C0, k0, rfl⟩ : ∃ B d, u0 = .slice B sk.ledger.tickets.length d := HK.out.own.tk.form
   obtain ⟨C1, k1, rfl⟩ : ∃ B d, u1 = .slice B sk.ledger.taps.length d := HK.out.own.tp.form
   obtain ⟨C2, k2, rfl⟩ : ∃ B d, u2 = .slice B sk.ledger.verdicts.length d := HK.out.own.vd.form
   obtain ⟨C3, k3, rfl⟩ : ∃ B d, ui = .slice B sk.denied.ids.length d := HK.out.own.dn.form
   obtain ⟨C4, k4, rfl⟩ : ∃ B d, ug = .slice B sk.gates.length d := HK.out.own.gt.form
   obtain ⟨C5, k5, rfl⟩ : ∃ B d, uv = .slice B sk.views.length d := HK.out.own.vw.form
   have RB := Lib.hid HK.out.box.row
   unfold cka at RB
   simp only at RB
   have qp := RB.out.2.1
   have fp := RB.out.2.2
   have q2 := HRW.out.2.1
   have f2 := HRW.out.2.2
   go_wp2_with fail
   rw [HQ1.out, HQ2.out]
   refine bodyPost_ret (v := .tuple #[.agg #[.slice C0 sk.ledger.tickets.length k0, .slice C1 sk.ledger.taps.length k1, .slice C2 sk.ledger.verdicts.length k2, .int .i64 sk.denied.version, .slice C3 sk.denied.ids.length k3, .slice C4 sk.gates.length k4, .slice C5 sk.views.length k5], .slice D dn.length d, .int .i64 0]) (by simp [results, Tryz.results41, go_sem, *]) rfl ⟨⟨.slice C0 sk.ledger.tickets.length k0, .slice C1 sk.ledger.taps.length k1, .slice C2 sk.ledger.verdicts.length k2, .slice C3 sk.denied.ids.length k3, .slice C4 sk.gates.length k4, .slice C5 sk.views.length k5⟩, .slice D dn.length d, rfl, ext7 (Nat.le_refl _) HX.out, (own7 (g := w.heap.size) (base := w.heap.size + 1) (by omega) HK.out.own).lower (by omega), ?_⟩
   exact ((((((((HOD.out.setC (a := ⟨w.heap.size, 0, none⟩) (by simp)).setC (a := ⟨w.heap.size, 1, none⟩) (by simp)).setC (a := ⟨w.heap.size, 2, none⟩) (by simp)).setC (a := ⟨w.heap.size, 3, none⟩) (by simp)).setC (a := ⟨w.heap.size, 4, none⟩) (by simp)).setC (a := ⟨w.heap.size, 5, none⟩) (by simp)).setC (a := ⟨w.heap.size, 6, none⟩) (by simp))).lower (by omega)

def scriptL : List Ac := [⟨7, 0, 0, 0, tk0⟩, ⟨1, 0, 0, 0, single 1⟩, ⟨6, 0, 0, 0, tk0⟩, ⟨2, 1, 0, 20, tk0⟩, ⟨2, 1, 1, 90, tk0⟩, ⟨5, 0, 0, 0, tk0⟩, ⟨4, 0, 0, 95, tk0⟩, ⟨4, 0, 1, 96, tk0⟩, ⟨2, 1, 2, 97, tk0⟩]
theorem scr_a : (runAll scriptL).2 = ([0, 0, 0, 0, 0, 0, 0, 0, 11], 0) := by decide
theorem scr_b : (runAll scriptL).1.gates.length = 3 := by decide
theorem scr_c : (runAll scriptL).1.ledger.taps.length = 1 := by decide
theorem scr_d : (runAll scriptL).1.denied.ids.contains 1 = true := by decide
theorem scr_e : (doAll (runAll scriptL).1 ⟨7, 0, 1, 0, tk0⟩).2 = (1, 0) := by decide
theorem law_script (w : World) : Calls Tryz.prog 94 #[] w fun e w' => ∃ g, e = .returned (.slice (some ⟨g, 0, none⟩) 9 9) ∧ Ext w w' ∧ RdL 10 acc w' (.slice (some ⟨g, 0, none⟩) 9 9) scriptL := by
 go_enter Tryz.func94, Tryz.ntmps94
 go_wp2_with fail
 refine (law_single 1 _).mono ?_
 rintro e w1 ⟨rfl, h1⟩
 have H1 := Lib.hid h1
 clear h1
 rw [show tkc (single 1) = #[.int .i64 1, .int .i64 1, .int .i64 10, .int .i64 500, .int .i64 15, .int .i64 0] from rfl]
 go_wp2_with fail
 refine bodyPost_ret (v := .slice (some ⟨w1.heap.size, 0, none⟩) 9 9) (by simp [results, Tryz.results94, go_sem, *]) rfl ⟨w1.heap.size, rfl, (extA : Ext w _), ?_⟩
 exact OwnL.rd (own_lit (base := 0) (e := 71) rfl (Nat.zero_le _) rfl (by unfold maxLen; omega) rfl rfl) acc_size
theorem law_deskBegun (w : World) : Calls Tryz.prog 40 #[] w fun e w' => e = .returned (.bool true) ∧ Ext w w' := by
 have hA := scr_a
 have hB := scr_b
 have hC := scr_c
 have hD := scr_d
 have hE := scr_e
 have KR := Lib.hid (fun (g : Nat) (w' : World) (h : RdL 10 acc w' (.slice (some ⟨g, 0, none⟩) 9 9) scriptL) => desk_Run scriptL _ w' h)
 have KD := Lib.hid (fun (x : Sv) (w' : World) (h : RdS w' x (runAll scriptL).1) => desk_Do (runAll scriptL).1 x ⟨7, 0, 1, 0, tk0⟩ w' h)
 generalize runAll scriptL = R at *
 obtain ⟨S, R2⟩ := R
 simp only at hA hB hC hD hE KR KD
 subst hA
 have KH := Lib.hid (fun (v : Value) (w' : World) (h : RdL 1 inc w' v S.denied.ids) => (hD ▸ ref_HasInt S.denied.ids 1 v w' h : Calls Tryz.prog 32 #[v, .int .i64 1] w' fun e w'' => e = .returned (.bool true) ∧ w' = w''))
 generalize doAll S ⟨7, 0, 1, 0, tk0⟩ = Q at *
 obtain ⟨Q1, Q2⟩ := Q
 simp only at hE KD KR
 subst hE
 have HB := Lib.hid hB
 have HC := Lib.hid hC
 clear hB hC hD
 unfold acc tk0 at KD
 simp only at KD
 go_enter Tryz.func40, Tryz.ntmps40
 go_wp2_with fail
 refine (law_script _).mono ?_
 rintro e w1 ⟨g1, rfl, h1, hr1⟩
 have H1 := Lib.hid h1
 have HR1 := Lib.hid hr1
 clear h1 hr1
 go_wp2_with fail
 refine (KR.out _ _ (by exact HR1.out.ext extA)).mono ?_
 rintro e w2 ⟨⟨t0, t1, t2, ti, tg, tv⟩, u, rfl, h2, ho, hu⟩
 obtain ⟨B0, kB0, rfl⟩ : ∃ B d, t0 = .slice B S.ledger.tickets.length d := ho.tk.form
 obtain ⟨B1, kB1, rfl⟩ : ∃ B d, t1 = .slice B 1 d := by have := ho.tp.form; rw [HC.out] at this; exact this
 obtain ⟨B2, kB2, rfl⟩ : ∃ B d, t2 = .slice B S.ledger.verdicts.length d := ho.vd.form
 obtain ⟨B3, kB3, rfl⟩ : ∃ B d, ti = .slice B S.denied.ids.length d := ho.dn.form
 obtain ⟨B4, kB4, rfl⟩ : ∃ B d, tg = .slice B 3 d := by have := ho.gt.form; rw [HB.out] at this; exact this
 obtain ⟨B5, kB5, rfl⟩ : ∃ B d, tv = .slice B S.views.length d := ho.vw.form
 obtain ⟨g6, c6, hu6, -, hg6, h9c⟩ := hu.slot (by decide)
 have hu6' : u = .slice (some ⟨g6, 0, none⟩) 9 c6 := hu6
 subst hu6'
 clear hu6
 rw [show sta S ⟨.slice B0 S.ledger.tickets.length kB0, .slice B1 1 kB1, .slice B2 S.ledger.verdicts.length kB2, .slice B3 S.denied.ids.length kB3, .slice B4 3 kB4, .slice B5 S.views.length kB5⟩ = #[.slice B0 S.ledger.tickets.length kB0, .slice B1 1 kB1, .slice B2 S.ledger.verdicts.length kB2, .int .i64 S.denied.version, .slice B3 S.denied.ids.length kB3, .slice B4 3 kB4, .slice B5 S.views.length kB5] from rfl]
 have HU := Lib.hid (fun (k : Nat) (hk : k < 9) => show w2.cell? ⟨g6, k, none⟩ = some (.int .i64 (if k = 8 then 11 else 0)) by
  have h := (OwnL.field inc_size hu k 0 hk (by decide) (.int .i64 ([0, 0, 0, 0, 0, 0, 0, 0, 11] : List Int)[k]) rfl).1
  have e1 : k * 1 + 0 = k := by omega
  rw [e1] at h
  rw [h]
  have : ([0, 0, 0, 0, 0, 0, 0, 0, 11] : List Int)[k] = (if k = 8 then 11 else 0) := by
   obtain rfl | rfl | rfl | rfl | rfl | rfl | rfl | rfl | rfl : k = 0 ∨ k = 1 ∨ k = 2 ∨ k = 3 ∨ k = 4 ∨ k = 5 ∨ k = 6 ∨ k = 7 ∨ k = 8 := by omega
   all_goals rfl
  rw [this])
 have H2 := Lib.hid h2
 have HO := Lib.hid ho.rd
 have h9i : (9 : Int) ≤ (c6 : Int) := by have : 9 ≤ c6 := h9c; omega
 clear h2 ho hu KR h9c
 go_wp2_with fail
 go_loopg [4] 8 (fun gg s4 wr => ∃ k : Nat, k ≤ 8 ∧ 8 - k ≤ gg ∧ s4 = .int .i64 k ∧ Aside (Ext (w2.alloc (.cells #[.slice B0 S.ledger.tickets.length kB0, .slice B1 1 kB1, .slice B2 S.ledger.verdicts.length kB2, .int .i64 S.denied.version, .slice B3 S.denied.ids.length kB3, .slice B4 3 kB4, .slice B5 S.views.length kB5] 32)) wr))
 case atStart => exact ⟨0, by omega, by omega, rfl, Ext.refl _⟩
 case round =>
  obtain ⟨k, hk, hg, rfl, HA⟩ := hrel
  have HE := Lib.hid HA.out
  have HW := Lib.hid (And.intro trivial (((Ext.refl w2).alloc _).trans HA.out))
  have HR := Lib.hid (show Row wr w2.heap.size #[.slice B0 S.ledger.tickets.length kB0, .slice B1 1 kB1, .slice B2 S.ledger.verdicts.length kB2, .int .i64 S.denied.version, .slice B3 S.denied.ids.length kB3, .slice B4 3 kB4, .slice B5 S.views.length kB5] from Row.ext HA.out (Row.newAt rfl))
  have q1 := HR.out.2.1
  have l1 := HR.out.1
  clear HA
  by_cases hlt : k < 8
  ·have hki : (k : Int) < (8 : Int) := by omega
   have hk9 : (k : Int) < (9 : Int) := by omega
   have hcl : wr.cell? ⟨g6, k, none⟩ = some (.int .i64 0) := by
    rw [HW.out.2.cells g6 _ hg6, HU.out k (by omega), if_neg (by omega)]
   go_wp2_with fail
   go_roundg (8 - (k + 1))
   case measure => omega
   case rel => exact ⟨k + 1, by omega, by omega, by go_num, HE.out.trans (extA : Ext wr _)⟩
  ·have hki : ¬ (k : Int) < (8 : Int) := by omega
   go_wp2_with fail
   refine (KD.out ⟨.slice B0 S.ledger.tickets.length kB0, .slice B1 1 kB1, .slice B2 S.ledger.verdicts.length kB2, .slice B3 S.denied.ids.length kB3, .slice B4 3 kB4, .slice B5 S.views.length kB5⟩ _ (by exact HO.out.ext (HW.out.2.trans extA))).mono ?_
   rintro e w3 ⟨⟨t0, t1, t2, ti, tg, tv⟩, rfl, h3, ho⟩
   obtain ⟨D0, kD0, rfl⟩ : ∃ B d, t0 = .slice B Q1.ledger.tickets.length d := ho.tk.form
   obtain ⟨D1, kD1, rfl⟩ : ∃ B d, t1 = .slice B Q1.ledger.taps.length d := ho.tp.form
   obtain ⟨D2, kD2, rfl⟩ : ∃ B d, t2 = .slice B Q1.ledger.verdicts.length d := ho.vd.form
   obtain ⟨D3, kD3, rfl⟩ : ∃ B d, ti = .slice B Q1.denied.ids.length d := ho.dn.form
   obtain ⟨D4, kD4, rfl⟩ : ∃ B d, tg = .slice B Q1.gates.length d := ho.gt.form
   obtain ⟨D5, kD5, rfl⟩ : ∃ B d, tv = .slice B Q1.views.length d := ho.vw.form
   rw [show sta Q1 ⟨.slice D0 Q1.ledger.tickets.length kD0, .slice D1 Q1.ledger.taps.length kD1, .slice D2 Q1.ledger.verdicts.length kD2, .slice D3 Q1.denied.ids.length kD3, .slice D4 Q1.gates.length kD4, .slice D5 Q1.views.length kD5⟩ = #[.slice D0 Q1.ledger.tickets.length kD0, .slice D1 Q1.ledger.taps.length kD1, .slice D2 Q1.ledger.verdicts.length kD2, .int .i64 Q1.denied.version, .slice D3 Q1.denied.ids.length kD3, .slice D4 Q1.gates.length kD4, .slice D5 Q1.views.length kD5] from rfl]
   have hc8 : w3.cell? ⟨g6, 8, none⟩ = some (.int .i64 11) := by
    rw [(HW.out.2.trans (Ext.trans (extA : Ext wr _) h3)).cells g6 _ hg6, HU.out 8 (by decide), if_pos rfl]
   have H3 := Lib.hid h3
   have HW3 := Lib.hid (And.intro trivial (HW.out.2.trans (Ext.trans (extA : Ext wr _) h3)))
   have hg63 : g6 < w3.heap.size := by have := HW3.out.2.size; omega
   clear h3 ho KD
   (refine rowU w3 w2.heap.size fun qz_0 fz_0 lz_0 Rz_0 => ?_)
   go_wp2_with fail
   refine gB (KH.out (.slice B3 S.denied.ids.length kB3) _ (by exact HO.out.dn.ext (HW3.out.2.trans extA))) ?_
   go_wp2_with fail
   go_ret
   exact ⟨rfl, (extA : Ext w w2).trans (HW3.out.2.trans (extA : Ext w3 _))⟩
end Go.Proofs.YteojjbhadgkfgaaGreat
