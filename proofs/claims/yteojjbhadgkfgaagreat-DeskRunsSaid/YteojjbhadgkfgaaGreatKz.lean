/- Kz: parts of the proofs, laid together. -/
import Derived.Test.YteojjbhadgkfgaaGreatKv
import Derived.Test.YteojjbhadgkfgaaGreatKp
import Derived.Test.YteojjbhadgkfgaaGreatKy
import Derived.Test.YteojjbhadgkfgaaGreatKx
import Derived.Test.YteojjbhadgkfgaaGreatKn
import Derived.Test.YteojjbhadgkfgaaGreatKs
/- DeskTells: the walk. -/
set_option maxHeartbeats 64000000
namespace Go.Proofs.YteojjbhadgkfgaaGreat
set_option linter.unusedSimpArgs false
set_option linter.unusedVariables false
set_option maxRecDepth 100000
open Go Go.RowKit Lb

theorem isE {a : St} {e : Int} (h : e ≠ 0 → a = st0) : a = if e ≠ 0 then st0 else a := by
 by_cases h2 : e = 0
 ·rw [if_neg (by simpa using h2)]
 ·rw [if_pos h2]; exact h h2

theorem split13 {G : World → Nat → Option Addr → Nat → Option Addr → Nat → Option Addr → Nat → Option Addr → Nat → Option Addr → Nat → Option Addr → Nat → Prop} {goal : Prop} (main : (∀ X g a b c d e f h i j k l m, G X g a b c d e f h i j k l m) → goal) (pf : ∀ X g a b c d e f h i j k l m, G X g a b c d e f h i j k l m) : goal := main pf
theorem RdP.lt {α : Type} [Inhabited α] {k : Nat} {P : Nat → Prop} {enc : α → Array Value} {w : World} {v : Value} {l : List α} (h : RdP P k enc w v l) : RdP (fun q => P q ∧ q < w.heap.size) k enc w v l :=
 ⟨h.1, fun h0 q hq => ⟨h.2 h0 q hq, RdL.inB h.1 (Nat.le_refl _) h0 q hq⟩⟩
theorem RdSP.lt {P : Nat → Prop} {w : World} {x : Sv} {s : St} (h : RdSP P w x s) : RdSP (fun q => P q ∧ q < w.heap.size) w x s := by
 obtain ⟨ys, h1, h2, h3⟩ := h.gt
 exact ⟨h.tk.lt, h.tp.lt, h.vd.lt, h.dn.lt, ⟨ys, h1, h2.lt, fun y hy => ⟨(h3 y hy).1.lt, (h3 y hy).2.lt⟩⟩, h.vw.lt⟩
theorem doAll_run {s : St} {a : Ac} (rs : RightS s) : (doS s 0 a).1 = (if (doAll s a).2.2 = 0 then (doAll s a).1 else s) ∧ (doS s 0 a).2.2 = (doAll s a).2.2 := by
 have h0 := rightS_iff.2 rs
 unfold doAll
 by_cases h : (doS s 0 a).2.2 = 0
 ·simp [h0, h]
 ·simp [h0, h, doS_err h]
theorem ref_RunOf (l : List Ac) (v : Value) (w : World) (hr : RdL 10 acc w v l) :
  Calls Tryz.prog 42 #[v] w fun e w' => ∃ x' u, e = .returned (.tuple #[.agg (sta (runAll l).1 x'), u, .int .i64 (runAll l).2.2]) ∧ Ext w w' ∧ RdS w' x' (runAll l).1 ∧ RdL 1 inc w' u (runAll l).2.1 := by
 obtain ⟨A, c, rfl, hlc, hmc⟩ := hr.form
 have hres : runAll l = if 40 < l.length then (st0, [], 2) else ((runS newS l).1, (runS newS l).2, 0) := rfl
 generalize runAll l = R at *
 have HRL := Lib.hid hr
 have hl9 : l.length ≤ 9223372036854775807 := by unfold maxLen at hmc; omega
 have HLC := Lib.hid hlc
 clear hr hlc hmc
 by_cases h40 : 40 < l.length
 case pos =>
  rw [if_pos h40] at hres
  subst hres
  have h4i : (40 : Int) < (l.length : Int) := by omega
  have h4j : (l.length : Int) > 40 := by omega
  clear h40
  go_enter Tryz.func42, Tryz.ntmps42
  go_wp2_with fail
  exact bodyPost_ret (v := .tuple #[.agg #[.slice none 0 0, .slice none 0 0, .slice none 0 0, .int .i64 0, .slice none 0 0, .slice none 0 0, .slice none 0 0], .slice none 0 0, .int .i64 2]) (by simp [results, Tryz.results42, go_sem, *]) rfl ⟨sv0, _, rfl, (extA : Ext w _), RdS.nil, RdL.nil⟩
 rw [if_neg h40] at hres
 have H40 := Lib.hid h40
 have h4i : ¬ (40 : Int) < (l.length : Int) := by omega
 have h4j : ¬ (l.length : Int) > 40 := by omega
 obtain ⟨RS, hRS⟩ : ∃ r, r = runS newS l := ⟨_, rfl⟩
 rw [← hRS] at hres
 have HRS := Lib.hid hRS
 subst hres
 simp only
 clear hRS h40
 obtain ⟨i0, ji, ji0, ji1, ji2⟩ := info_parts info_er
 go_enter Tryz.func42, Tryz.ntmps42
 go_wp2_with fail
 refine (ref_NewStation _).mono ?_
 rintro e w1 ⟨⟨t0, t1, t2, ti, tg, tv⟩, rfl, h1, ho⟩
 obtain ⟨B0, kB0, rfl⟩ : ∃ B d, t0 = .slice B newS.ledger.tickets.length d := ho.rd.tk.frm
 obtain ⟨B1, kB1, rfl⟩ : ∃ B d, t1 = .slice B newS.ledger.taps.length d := ho.rd.tp.frm
 obtain ⟨B2, kB2, rfl⟩ : ∃ B d, t2 = .slice B newS.ledger.verdicts.length d := ho.rd.vd.frm
 obtain ⟨B3, kB3, rfl⟩ : ∃ B d, ti = .slice B newS.denied.ids.length d := ho.rd.dn.frm
 obtain ⟨B4, kB4, rfl⟩ : ∃ B d, tg = .slice B newS.gates.length d := ho.rd.gt.frm
 obtain ⟨B5, kB5, rfl⟩ : ∃ B d, tv = .slice B newS.views.length d := ho.rd.vw.frm
 rw [show sta newS ⟨.slice B0 newS.ledger.tickets.length kB0, .slice B1 newS.ledger.taps.length kB1, .slice B2 newS.ledger.verdicts.length kB2, .slice B3 newS.denied.ids.length kB3, .slice B4 newS.gates.length kB4, .slice B5 newS.views.length kB5⟩ = #[.slice B0 newS.ledger.tickets.length kB0, .slice B1 newS.ledger.taps.length kB1, .slice B2 newS.ledger.verdicts.length kB2, .int .i64 newS.denied.version, .slice B3 newS.denied.ids.length kB3, .slice B4 newS.gates.length kB4, .slice B5 newS.views.length kB5] from rfl]
 have H1 := Lib.hid h1
 have hz1 := h1.size
 (try simp only [World.size_alloc] at hz1 ho)
 have HW1 := Lib.hid (And.intro trivial (extA : Ext w w1))
 have HOP := Lib.hid (((OwnS.rdp (P := fun q => w.heap.size + 1 ≤ q) ho (fun q hq => hq)).lt).weak (Q := (fun q => q ≠ w.heap.size ∧ q ≠ w1.heap.size ∧ (Value.slice none 0 0).ownBlock ≠ some q)) (fun q hq => ⟨by have := hq.1; omega, by have := hq.2; omega, fun h => by simp [Value.ownBlock] at h⟩))
 have HR1 := Lib.hid (show Row w1 w.heap.size #[.slice none 0 0, .slice none 0 0, .slice none 0 0, .int .i64 0, .slice none 0 0, .slice none 0 0, .slice none 0 0] from Row.ext h1 (Row.newAt rfl))
 clear h1 ho
 (refine rowU w1 w.heap.size fun q1_0 f1_0 l1_0 R1_0 => ?_)
 go_wp2_with fail
 go_loopg [6, 7] l.length (fun gg s6 s7 wr => ∃ (k : Nat) (sk : St) (xs : Sv) (dn : List Int) (D : Option Addr) (d : Nat), k ≤ l.length ∧ l.length - k ≤ gg ∧ s6 = .slice D dn.length d ∧ s7 = .int .i64 k ∧ Aside (Ext w wr ∧ Row wr w.heap.size #[.slice none 0 0, .slice none 0 0, .slice none 0 0, .int .i64 0, .slice none 0 0, .slice none 0 0, .slice none 0 0] ∧ Row wr w1.heap.size (sta sk xs) ∧ RdSP (fun q => q ≠ w.heap.size ∧ q ≠ w1.heap.size ∧ (Value.slice D dn.length d).ownBlock ≠ some q) wr xs sk ∧ RightS sk ∧ OwnL 35 1 inc (w1.heap.size + 1) wr (.slice D dn.length d) dn ∧ dn.length = k ∧ RS.1 = (runS sk (l.drop k)).1 ∧ RS.2 = dn ++ (runS sk (l.drop k)).2))
 case atStart => exact ⟨0, newS, ⟨.slice B0 newS.ledger.tickets.length kB0, .slice B1 newS.ledger.taps.length kB1, .slice B2 newS.ledger.verdicts.length kB2, .slice B3 newS.denied.ids.length kB3, .slice B4 newS.gates.length kB4, .slice B5 newS.views.length kB5⟩, [], none, 0, Nat.zero_le _, by omega, rfl, rfl, HW1.out.2.alloc _, Row.alloc HR1.out, Row.newAt rfl, HOP.out.ext ((Ext.refl _).alloc _), newS_right, OwnL.nil, rfl, by rw [HRS.out]; rfl, by rw [HRS.out]; rfl⟩
 case round =>
  obtain ⟨k, sk, ⟨u0, u1, u2, ui, ug, uv⟩, dn, D, d, hk, hg, rfl, rfl, HA⟩ := hrel
  obtain ⟨hx, hrw, hr5, hrp, hrs, hod, hdk, hr1, hr2⟩ := HA.out
  obtain ⟨S0, kS0, rfl⟩ : ∃ B d, u0 = .slice B sk.ledger.tickets.length d := hrp.rd.tk.frm
  obtain ⟨S1, kS1, rfl⟩ : ∃ B d, u1 = .slice B sk.ledger.taps.length d := hrp.rd.tp.frm
  obtain ⟨S2, kS2, rfl⟩ : ∃ B d, u2 = .slice B sk.ledger.verdicts.length d := hrp.rd.vd.frm
  obtain ⟨S3, kS3, rfl⟩ : ∃ B d, ui = .slice B sk.denied.ids.length d := hrp.rd.dn.frm
  obtain ⟨S4, kS4, rfl⟩ : ∃ B d, ug = .slice B sk.gates.length d := hrp.rd.gt.frm
  obtain ⟨S5, kS5, rfl⟩ : ∃ B d, uv = .slice B sk.views.length d := hrp.rd.vw.frm
  unfold sta at hr5
  simp only at hr5
  have HX := Lib.hid hx
  have HRW := Lib.hid hrw
  have HR5 := Lib.hid hr5
  have HRP := Lib.hid hrp
  have HRT := Lib.hid hrs
  have HOD := Lib.hid hod
  have HDK := Lib.hid hdk
  have HR1' := Lib.hid hr1
  have HR2' := Lib.hid hr2
  have hxs := hx.size
  have hwr := hrw.1
  have hwr5 := hr5.1
  clear HA hx hrw hr5 hrp hrs hod hdk hr1 hr2 HR1 HOP q1_0 f1_0 l1_0 R1_0
  (refine rowU wr w.heap.size fun qr_0 fr_0 lr_0 Rr_0 => ?_; refine rowU wr w1.heap.size fun qr_1 fr_1 lr_1 Rr_1 => ?_)
  by_cases hlt : k < l.length
  ·have hli : (k : Int) < (l.length : Int) := by omega
   obtain ⟨b, o, c', hv, hb, hc⟩ := (HRL.out.ext HX.out).at_ hlt
   injection hv with hA hA2 hA3
   subst hA hA3
   clear hA2
   have hkc : (k : Int) < (c : Int) := by have := HLC.out; omega
   obtain ⟨hd1, hd2⟩ := doAll_run (a := l[k]) HRT.out
   have hs1 := (show RS.1 = (runS (doS sk 0 l[k]).1 (l.drop (k + 1))).1 by
    rw [HR1'.out, List.drop_eq_getElem_cons hlt]; rfl)
   have hs2 := (show RS.2 = (dn ++ [(doS sk 0 l[k]).2.2]) ++ (runS (doS sk 0 l[k]).1 (l.drop (k + 1))).2 by
    rw [HR2'.out, List.drop_eq_getElem_cons hlt]
    show dn ++ ((doS sk 0 l[k]).2.2 :: (runS (doS sk 0 l[k]).1 (l.drop (k + 1))).2) = _
    simp)
   have hrt2 := doS_right (n := 0) (a := l[k]) HRT.out
   rw [hd1] at hrt2
   rw [hd1] at hs1
   rw [hd1, hd2] at hs2
   have HS1 := Lib.hid hs1
   have HS2 := Lib.hid hs2
   have HRT2 := Lib.hid hrt2
   clear hrt2 hd1 hd2 hs1 hs2
   have c0 : wr.cell? ⟨b, o + k * 10, none⟩ = some (.int .i64 l[k].kind) := hc 0 _ rfl
   have c1 : wr.cell? ⟨b, o + k * 10 + 1, none⟩ = some (.int .i64 l[k].id) := hc 1 _ rfl
   have c2 : wr.cell? ⟨b, o + k * 10 + 2, none⟩ = some (.int .i64 l[k].of) := hc 2 _ rfl
   have c3 : wr.cell? ⟨b, o + k * 10 + 3, none⟩ = some (.int .i64 l[k].time) := hc 3 _ rfl
   have c4 : wr.cell? ⟨b, o + k * 10 + 4, none⟩ = some (.int .i64 l[k].ticket.id) := hc 4 _ rfl
   have c5 : wr.cell? ⟨b, o + k * 10 + 5, none⟩ = some (.int .i64 l[k].ticket.kind) := hc 5 _ rfl
   have c6 : wr.cell? ⟨b, o + k * 10 + 6, none⟩ = some (.int .i64 l[k].ticket.frm) := hc 6 _ rfl
   have c7 : wr.cell? ⟨b, o + k * 10 + 7, none⟩ = some (.int .i64 l[k].ticket.til) := hc 7 _ rfl
   have c8 : wr.cell? ⟨b, o + k * 10 + 8, none⟩ = some (.int .i64 l[k].ticket.zones) := hc 8 _ rfl
   have c9 : wr.cell? ⟨b, o + k * 10 + 9, none⟩ = some (.int .i64 l[k].ticket.rides) := hc 9 _ rfl
   have KD := Lib.hid (fun (W : World) (h : Ext wr W) => ref_DoOf sk ⟨.slice S0 sk.ledger.tickets.length kS0, .slice S1 sk.ledger.taps.length kS1, .slice S2 sk.ledger.verdicts.length kS2, .slice S3 sk.denied.ids.length kS3, .slice S4 sk.gates.length kS4, .slice S5 sk.views.length kS5⟩ l[k] W ((HRP.out.lt).ext h) (fun q hq => Nat.lt_of_lt_of_le hq.2 h.size) HRT.out)
   generalize doAll sk l[k] = Q at *
   generalize l[k] = x at *
   obtain ⟨xk, xi, xo, xt, ⟨t0, t1, t2, t3, t4, t5⟩⟩ := x
   obtain ⟨Q1, Q2, Q3⟩ := Q
   unfold acc sta at KD
   simp only at KD HS1 HS2 HRT2 c0 c1 c2 c3 c4 c5 c6 c7 c8 c9
   clear hc HR1' HR2'
   go_upto_region 8 with fail
   (apply wp_gen2 (w0 := wr) (g0 := w.heap.size) (g1 := w1.heap.size); (focus (exact rowA)); (focus (exact rowA)); (focus (exact extA)); intro W HW hzW Rz_0 Rz_1; (try simp only [lSet, World.size_alloc, size_set, World.heap_drewN, size_drew] at hzW Rz_0 Rz_1); have lz_0 := Rz_0.out.size; have lz_1 := Rz_1.out.size)
   have HK := Lib.hid (fun w' (h : Ext W w') => And.intro (Row.ext h Rz_0.out).2.1 (And.intro (Row.ext h Rz_1.out).2.1 (And.intro (((HW.out.trans h).cells _ _ hb).trans c0) (And.intro (((HW.out.trans h).cells _ _ hb).trans c1) (And.intro (((HW.out.trans h).cells _ _ hb).trans c2) (And.intro (((HW.out.trans h).cells _ _ hb).trans c3) (And.intro (((HW.out.trans h).cells _ _ hb).trans c4) (And.intro (((HW.out.trans h).cells _ _ hb).trans c5) (And.intro (((HW.out.trans h).cells _ _ hb).trans c6) (And.intro (((HW.out.trans h).cells _ _ hb).trans c7) (And.intro (((HW.out.trans h).cells _ _ hb).trans c8) ((((HW.out.trans h).cells _ _ hb).trans c9)))))))))))))
   clear c0 c1 c2 c3 c4 c5 c6 c7 c8 c9
   (refine T_begin (fun w' => Ext W w') 13 (by kernel_rfl) ((Ext.refl _).drew) (fun hS => ?_); simp only [List.length_cons, List.length_nil])
   (refine tkA 0 HK hS ?_; refine tkA 1 HK hS ?_; refine tkA 2 HK hS ?_; refine tkA 3 HK hS ?_; refine tkA 4 HK hS ?_)
   have HS0 := Lib.hid hS
   clear hS
   apply split13
   ·intro key
    refine any_genP (S2 := fun X => Ext W X) HS0.out ?_
    intro X1 hX
    have hXX1 := hX.out
    have HX1 := Lib.hid hXX1
    have hzX1 := hXX1.size
    clear hX hXX1
    refine T_two (i := 5) (j := 10) rfl rfl (by kernel_rfl) rfl rfl (fun K hK => ?_) (fun K hK => ?_)
    ·go_simp
     refine (KD.out _ (HW.out.trans (extA : Ext W _))).mono ?_
     rintro e y2 ⟨⟨u0, u1, u2, ui, ug, uv⟩, rfl, h1, hp⟩
     obtain ⟨U0, kU0, rfl⟩ : ∃ B d, u0 = .slice B Q1.ledger.tickets.length d := hp.rd.tk.frm
     obtain ⟨U1, kU1, rfl⟩ : ∃ B d, u1 = .slice B Q1.ledger.taps.length d := hp.rd.tp.frm
     obtain ⟨U2, kU2, rfl⟩ : ∃ B d, u2 = .slice B Q1.ledger.verdicts.length d := hp.rd.vd.frm
     obtain ⟨U3, kU3, rfl⟩ : ∃ B d, ui = .slice B Q1.denied.ids.length d := hp.rd.dn.frm
     obtain ⟨U4, kU4, rfl⟩ : ∃ B d, ug = .slice B Q1.gates.length d := hp.rd.gt.frm
     obtain ⟨U5, kU5, rfl⟩ : ∃ B d, uv = .slice B Q1.views.length d := hp.rd.vw.frm
     have Hy2 := Lib.hid h1
     have HWy2 := Lib.hid (And.intro trivial (HX1.out.trans h1))
     have HNoS := Lib.hid (show RdSP (fun q => ((q ≠ w.heap.size ∧ q ≠ w1.heap.size ∧ (Value.slice D dn.length d).ownBlock ≠ some q) ∧ q < wr.heap.size) ∨ W.heap.size ≤ q) y2 ⟨.slice U0 Q1.ledger.tickets.length kU0, .slice U1 Q1.ledger.taps.length kU1, .slice U2 Q1.ledger.verdicts.length kU2, .slice U3 Q1.denied.ids.length kU3, .slice U4 Q1.gates.length kU4, .slice U5 Q1.views.length kU5⟩ Q1 from hp.weak (fun q hq => hq.elim .inl (fun h => .inr (by omega))))
     clear h1
     clear hp
     go_simp
     refine hK.out _ _ (.inr HWy2.out.2) ?_
     clear hK
     (try simp only [Act.put, lSet])
     refine any_genP (S2 := fun X => Ext W X ∧ RdSP (fun q => ((q ≠ w.heap.size ∧ q ≠ w1.heap.size ∧ (Value.slice D dn.length d).ownBlock ≠ some q) ∧ q < wr.heap.size) ∨ W.heap.size ≤ q) X ⟨.slice U0 Q1.ledger.tickets.length kU0, .slice U1 Q1.ledger.taps.length kU1, .slice U2 Q1.ledger.verdicts.length kU2, .slice U3 Q1.denied.ids.length kU3, .slice U4 Q1.gates.length kU4, .slice U5 Q1.views.length kU5⟩ Q1) ⟨HWy2.out.2, HNoS.out⟩ ?_
     intro X2 hX
     obtain ⟨hx, hfoS⟩ := hX.out
     have HX2 := Lib.hid hx
     have hzX2 := hx.size
     have HFoS := Lib.hid hfoS
     clear hfoS
     have hS : Ext W X2 := hx
     clear hX hx
     (refine tkP 6 ?_; refine tkP 7 ?_; refine tkP 8 ?_; refine tkP 9 ?_)
     clear hS
     refine oA 10 fun K hK => ?_
     go_simp
     refine hK.out _ _ (.inr (extA : Ext W _)) ?_
     clear hK
     (try simp only [Act.put, lSet])
     obtain ⟨ga, hgga⟩ : ∃ g, g = X2.heap.size := ⟨_, rfl⟩
     rw [← hgga]
     have hwga : W.heap.size ≤ ga := by omega
     refine any_genP (S2 := fun X => Ext W X ∧ RdSP (fun q => (((q ≠ w.heap.size ∧ q ≠ w1.heap.size ∧ (Value.slice D dn.length d).ownBlock ≠ some q) ∧ q < wr.heap.size) ∨ W.heap.size ≤ q) ∧ q ≠ ga) X ⟨.slice U0 Q1.ledger.tickets.length kU0, .slice U1 Q1.ledger.taps.length kU1, .slice U2 Q1.ledger.verdicts.length kU2, .slice U3 Q1.denied.ids.length kU3, .slice U4 Q1.gates.length kU4, .slice U5 Q1.views.length kU5⟩ Q1 ∧ Bx X ga 32 #[.slice none 0 0, .slice none 0 0, .slice none 0 0, .int .i64 0, .slice none 0 0, .slice none 0 0, .slice none 0 0]) ⟨extA, (((HFoS.out.lt).weak (fun q hq => ⟨hq.1, by have := hq.2; omega⟩)).ext ((Ext.refl _).alloc _)), (Bx.newAt hgga)⟩ ?_
     intro X3 hX
     clear HFoS
     obtain ⟨hx, hfoS, hfbga⟩ := hX.out
     have HX3 := Lib.hid hx
     have hzX3 := hx.size
     have HFoS := Lib.hid hfoS
     clear hfoS
     have HFbga := Lib.hid hfbga
     have qbga := hfbga.row.2.1
     have fbga := hfbga.row.2.2
     have lbga := hfbga.lt
     clear hfbga
     clear hX hx
     have HALL := Lib.hid (show Ext W X3 ∧ W.heap.size ≤ ga ∧ Bx X3 ga 32 #[.slice none 0 0, .slice none 0 0, .slice none 0 0, .int .i64 0, .slice none 0 0, .slice none 0 0, .slice none 0 0] ∧ RdSP (fun q => (((q ≠ w.heap.size ∧ q ≠ w1.heap.size ∧ (Value.slice D dn.length d).ownBlock ≠ some q) ∧ q < wr.heap.size) ∨ W.heap.size ≤ q) ∧ q ≠ ga) X3 ⟨.slice U0 Q1.ledger.tickets.length kU0, .slice U1 Q1.ledger.taps.length kU1, .slice U2 Q1.ledger.verdicts.length kU2, .slice U3 Q1.denied.ids.length kU3, .slice U4 Q1.gates.length kU4, .slice U5 Q1.views.length kU5⟩ Q1 from ⟨HX3.out, hwga, HFbga.out, HFoS.out⟩)
     try rw [← hgga]
     refine any_list2 (l2 := #[true, true, true, true, true, true, true, true, true, true, true, false, false, false]) (by kernel_rfl) ?_
     revert HALL
     exact key X3 ga U0 kU0 U1 kU1 U2 kU2 U3 kU3 U4 kU4 U5 kU5
    ·go_simp
     refine hK.out _ _ (.inr (extA : Ext W _)) ?_
     clear hK
     (try simp only [Act.put, lSet])
     obtain ⟨ga, hgga⟩ : ∃ g, g = X1.heap.size := ⟨_, rfl⟩
     rw [← hgga]
     have hwga : W.heap.size ≤ ga := by omega
     refine any_genP (S2 := fun X => Ext W X ∧ Bx X ga 32 #[.slice none 0 0, .slice none 0 0, .slice none 0 0, .int .i64 0, .slice none 0 0, .slice none 0 0, .slice none 0 0]) ⟨extA, (Bx.newAt hgga)⟩ ?_
     intro X4 hX
     obtain ⟨hx, hfbga⟩ := hX.out
     have HX4 := Lib.hid hx
     have hzX4 := hx.size
     have HFbga := Lib.hid hfbga
     have qbga := hfbga.row.2.1
     have fbga := hfbga.row.2.2
     have lbga := hfbga.lt
     clear hfbga
     clear hX hx
     refine oA 5 fun K hK => ?_
     go_simp
     refine (KD.out _ (HW.out.trans (extA : Ext W _))).mono ?_
     rintro e y5 ⟨⟨u0, u1, u2, ui, ug, uv⟩, rfl, h1, hp⟩
     obtain ⟨U0, kU0, rfl⟩ : ∃ B d, u0 = .slice B Q1.ledger.tickets.length d := hp.rd.tk.frm
     obtain ⟨U1, kU1, rfl⟩ : ∃ B d, u1 = .slice B Q1.ledger.taps.length d := hp.rd.tp.frm
     obtain ⟨U2, kU2, rfl⟩ : ∃ B d, u2 = .slice B Q1.ledger.verdicts.length d := hp.rd.vd.frm
     obtain ⟨U3, kU3, rfl⟩ : ∃ B d, ui = .slice B Q1.denied.ids.length d := hp.rd.dn.frm
     obtain ⟨U4, kU4, rfl⟩ : ∃ B d, ug = .slice B Q1.gates.length d := hp.rd.gt.frm
     obtain ⟨U5, kU5, rfl⟩ : ∃ B d, uv = .slice B Q1.views.length d := hp.rd.vw.frm
     have Hy5 := Lib.hid h1
     have HWy5 := Lib.hid (And.intro trivial (HX4.out.trans h1))
     have HNoS := Lib.hid (show RdSP (fun q => (((q ≠ w.heap.size ∧ q ≠ w1.heap.size ∧ (Value.slice D dn.length d).ownBlock ≠ some q) ∧ q < wr.heap.size) ∨ W.heap.size ≤ q) ∧ q ≠ ga) y5 ⟨.slice U0 Q1.ledger.tickets.length kU0, .slice U1 Q1.ledger.taps.length kU1, .slice U2 Q1.ledger.verdicts.length kU2, .slice U3 Q1.denied.ids.length kU3, .slice U4 Q1.gates.length kU4, .slice U5 Q1.views.length kU5⟩ Q1 from hp.weak (fun q hq => ⟨hq.elim .inl (fun h => .inr (by omega)), by rcases hq with hq | hq <;> omega⟩))
     clear h1
     clear hp
     go_simp
     refine hK.out _ _ (.inr HWy5.out.2) ?_
     clear hK
     (try simp only [Act.put, lSet])
     refine any_genP (S2 := fun X => Ext W X ∧ Bx X ga 32 #[.slice none 0 0, .slice none 0 0, .slice none 0 0, .int .i64 0, .slice none 0 0, .slice none 0 0, .slice none 0 0] ∧ RdSP (fun q => (((q ≠ w.heap.size ∧ q ≠ w1.heap.size ∧ (Value.slice D dn.length d).ownBlock ≠ some q) ∧ q < wr.heap.size) ∨ W.heap.size ≤ q) ∧ q ≠ ga) X ⟨.slice U0 Q1.ledger.tickets.length kU0, .slice U1 Q1.ledger.taps.length kU1, .slice U2 Q1.ledger.verdicts.length kU2, .slice U3 Q1.denied.ids.length kU3, .slice U4 Q1.gates.length kU4, .slice U5 Q1.views.length kU5⟩ Q1) ⟨HWy5.out.2, (HFbga.out.ext Hy5.out), HNoS.out⟩ ?_
     intro X5 hX
     clear HFbga
     clear qbga fbga lbga
     obtain ⟨hx, hfbga, hfoS⟩ := hX.out
     have HX5 := Lib.hid hx
     have hzX5 := hx.size
     have HFbga := Lib.hid hfbga
     have qbga := hfbga.row.2.1
     have fbga := hfbga.row.2.2
     have lbga := hfbga.lt
     clear hfbga
     have HFoS := Lib.hid hfoS
     clear hfoS
     have hS : Ext W X5 := hx
     clear hX hx
     (refine tkP 6 ?_; refine tkP 7 ?_; refine tkP 8 ?_; refine tkP 9 ?_)
     clear hS
     have HALL := Lib.hid (show Ext W X5 ∧ W.heap.size ≤ ga ∧ Bx X5 ga 32 #[.slice none 0 0, .slice none 0 0, .slice none 0 0, .int .i64 0, .slice none 0 0, .slice none 0 0, .slice none 0 0] ∧ RdSP (fun q => (((q ≠ w.heap.size ∧ q ≠ w1.heap.size ∧ (Value.slice D dn.length d).ownBlock ≠ some q) ∧ q < wr.heap.size) ∨ W.heap.size ≤ q) ∧ q ≠ ga) X5 ⟨.slice U0 Q1.ledger.tickets.length kU0, .slice U1 Q1.ledger.taps.length kU1, .slice U2 Q1.ledger.verdicts.length kU2, .slice U3 Q1.denied.ids.length kU3, .slice U4 Q1.gates.length kU4, .slice U5 Q1.views.length kU5⟩ Q1 from ⟨HX5.out, hwga, HFbga.out, HFoS.out⟩)
     try rw [← hgga]
     refine any_list2 (l2 := #[true, true, true, true, true, true, true, true, true, true, true, false, false, false]) (by kernel_rfl) ?_
     revert HALL
     exact key X5 ga U0 kU0 U1 kU1 U2 kU2 U3 kU3 U4 kU4 U5 kU5
   ·intro X ga U0 kU0 U1 kU1 U2 kU2 U3 kU3 U4 kU4 U5 kU5 HALL
    obtain ⟨hx, hwga, hb1, hs1⟩ := HALL.out
    have HX9 := Lib.hid hx
    have HFbga := Lib.hid hb1
    have HFoS := Lib.hid hs1
    clear HALL hx hb1 hs1
    have qbga := HFbga.out.row.2.1
    have fbga := HFbga.out.row.2.2
    have lbga := HFbga.out.lt
    have hzX := HX9.out.size
    refine oA 11 fun K hK => ?_
    go_simp
    refine hK.out _ _ (.inr (extA : Ext W _)) ?_
    clear hK
    (try simp only [Act.put, lSet])
    refine oA 12 fun K hK => ?_
    go_simp
    refine hK.out _ _ (.inr (extA : Ext W _)) ?_
    clear hK
    (try simp only [Act.put, lSet])
    (refine oA 13 fun K hK => ?_; go_simp; refine hK.out _ _ (.inl (by kernel_rfl)) ?_; clear hK; (try simp only [Act.put, lSet]); refine T_done (by kernel_rfl) ?_ _)
    have hfa : Fr (fun q => q = ga) X (((((((X.setCell ⟨ga, 0, none⟩ (.slice U0 Q1.ledger.tickets.length kU0)).setCell ⟨ga, 1, none⟩ (.slice U1 Q1.ledger.taps.length kU1)).setCell ⟨ga, 2, none⟩ (.slice U2 Q1.ledger.verdicts.length kU2)).setCell ⟨ga, 3, none⟩ (.int .i64 Q1.denied.version)).setCell ⟨ga, 4, none⟩ (.slice U3 Q1.denied.ids.length kU3)).setCell ⟨ga, 5, none⟩ (.slice U4 Q1.gates.length kU4)).setCell ⟨ga, 6, none⟩ (.slice U5 Q1.views.length kU5)) := Fr.setC rfl (Fr.setC rfl (Fr.setC rfl (Fr.setC rfl (Fr.setC rfl (Fr.setC rfl (Fr.setC rfl (Fr.refl _ _)))))))
    have HRga := Lib.hid (show Row (((((((X.setCell ⟨ga, 0, none⟩ (.slice U0 Q1.ledger.tickets.length kU0)).setCell ⟨ga, 1, none⟩ (.slice U1 Q1.ledger.taps.length kU1)).setCell ⟨ga, 2, none⟩ (.slice U2 Q1.ledger.verdicts.length kU2)).setCell ⟨ga, 3, none⟩ (.int .i64 Q1.denied.version)).setCell ⟨ga, 4, none⟩ (.slice U3 Q1.denied.ids.length kU3)).setCell ⟨ga, 5, none⟩ (.slice U4 Q1.gates.length kU4)).setCell ⟨ga, 6, none⟩ (.slice U5 Q1.views.length kU5)) ga #[.slice U0 Q1.ledger.tickets.length kU0, .slice U1 Q1.ledger.taps.length kU1, .slice U2 Q1.ledger.verdicts.length kU2, .int .i64 Q1.denied.version, .slice U3 Q1.denied.ids.length kU3, .slice U4 Q1.gates.length kU4, .slice U5 Q1.views.length kU5] from Bx.row (bxC (Bx.set (i := 6) (Bx.set (i := 5) (Bx.set (i := 4) (Bx.set (i := 3) (Bx.set (i := 2) (Bx.set (i := 1) (Bx.set (i := 0) HFbga.out))))))) (by simp only [lSet])))
    have o5 := HFoS.out.fr hfa (fun q hq h => h.2 hq)
    have o6 := hfa.own (HOD.out.ext (extA : Ext wr X)) (fun q hq ho => by have := (HOD.out.lt q hq).2; have : q = ga := ho; omega)
    (refine rowU X w.heap.size fun qx_0 fx_0 lx_0 Rx_0 => ?_; refine rowU X w1.heap.size fun qx_1 fx_1 lx_1 Rx_1 => ?_)
    by_cases hQ : Q3 = 0
    case pos =>
     subst hQ
     have HN1 := Lib.hid (show RS.1 = (runS Q1 (l.drop (k + 1))).1 by have := HS1.out; first | exact this | (rw [if_pos rfl] at this; exact this))
     have HN2 := Lib.hid (show RS.2 = (dn ++ [(0 : Int)]) ++ (runS Q1 (l.drop (k + 1))).2 by have := HS2.out; first | exact this | (rw [if_pos rfl] at this; exact this))
     have HN3 := Lib.hid (show RightS Q1 by have := HRT2.out; first | exact this | (rw [if_pos rfl] at this; exact this))
     go_upto_region 11 with fail
     have HR55 := Lib.hid (show Row ((((((((((((((X.setCell ⟨ga, 0, none⟩ (.slice U0 Q1.ledger.tickets.length kU0)).setCell ⟨ga, 1, none⟩ (.slice U1 Q1.ledger.taps.length kU1)).setCell ⟨ga, 2, none⟩ (.slice U2 Q1.ledger.verdicts.length kU2)).setCell ⟨ga, 3, none⟩ (.int .i64 Q1.denied.version)).setCell ⟨ga, 4, none⟩ (.slice U3 Q1.denied.ids.length kU3)).setCell ⟨ga, 5, none⟩ (.slice U4 Q1.gates.length kU4)).setCell ⟨ga, 6, none⟩ (.slice U5 Q1.views.length kU5)).setCell ⟨w1.heap.size, 0, none⟩ (.slice U0 Q1.ledger.tickets.length kU0)).setCell ⟨w1.heap.size, 1, none⟩ (.slice U1 Q1.ledger.taps.length kU1)).setCell ⟨w1.heap.size, 2, none⟩ (.slice U2 Q1.ledger.verdicts.length kU2)).setCell ⟨w1.heap.size, 3, none⟩ (.int .i64 Q1.denied.version)).setCell ⟨w1.heap.size, 4, none⟩ (.slice U3 Q1.denied.ids.length kU3)).setCell ⟨w1.heap.size, 5, none⟩ (.slice U4 Q1.gates.length kU4)).setCell ⟨w1.heap.size, 6, none⟩ (.slice U5 Q1.views.length kU5)) w1.heap.size #[.slice U0 Q1.ledger.tickets.length kU0, .slice U1 Q1.ledger.taps.length kU1, .slice U2 Q1.ledger.verdicts.length kU2, .int .i64 Q1.denied.version, .slice U3 Q1.denied.ids.length kU3, .slice U4 Q1.gates.length kU4, .slice U5 Q1.views.length kU5] from by
      have h := (Row.set_ (i := 6) (u := .slice U5 Q1.views.length kU5) (Row.set_ (i := 5) (u := .slice U4 Q1.gates.length kU4) (Row.set_ (i := 4) (u := .slice U3 Q1.denied.ids.length kU3) (Row.set_ (i := 3) (u := .int .i64 Q1.denied.version) (Row.set_ (i := 2) (u := .slice U2 Q1.ledger.verdicts.length kU2) (Row.set_ (i := 1) (u := .slice U1 Q1.ledger.taps.length kU1) (Row.set_ (i := 0) (u := .slice U0 Q1.ledger.tickets.length kU0) (show Row (((((((X.setCell ⟨ga, 0, none⟩ (.slice U0 Q1.ledger.tickets.length kU0)).setCell ⟨ga, 1, none⟩ (.slice U1 Q1.ledger.taps.length kU1)).setCell ⟨ga, 2, none⟩ (.slice U2 Q1.ledger.verdicts.length kU2)).setCell ⟨ga, 3, none⟩ (.int .i64 Q1.denied.version)).setCell ⟨ga, 4, none⟩ (.slice U3 Q1.denied.ids.length kU3)).setCell ⟨ga, 5, none⟩ (.slice U4 Q1.gates.length kU4)).setCell ⟨ga, 6, none⟩ (.slice U5 Q1.views.length kU5)) w1.heap.size #[.slice S0 sk.ledger.tickets.length kS0, .slice S1 sk.ledger.taps.length kS1, .slice S2 sk.ledger.verdicts.length kS2, .int .i64 sk.denied.version, .slice S3 sk.denied.ids.length kS3, .slice S4 sk.gates.length kS4, .slice S5 sk.views.length kS5] from by exact rowA))))))))
      simpa only [List.setIfInBounds_toArray, List.set_cons_zero, List.set_cons_succ] using h)
     have hfb : Fr (fun q => q = w1.heap.size) (((((((X.setCell ⟨ga, 0, none⟩ (.slice U0 Q1.ledger.tickets.length kU0)).setCell ⟨ga, 1, none⟩ (.slice U1 Q1.ledger.taps.length kU1)).setCell ⟨ga, 2, none⟩ (.slice U2 Q1.ledger.verdicts.length kU2)).setCell ⟨ga, 3, none⟩ (.int .i64 Q1.denied.version)).setCell ⟨ga, 4, none⟩ (.slice U3 Q1.denied.ids.length kU3)).setCell ⟨ga, 5, none⟩ (.slice U4 Q1.gates.length kU4)).setCell ⟨ga, 6, none⟩ (.slice U5 Q1.views.length kU5)) ((((((((((((((X.setCell ⟨ga, 0, none⟩ (.slice U0 Q1.ledger.tickets.length kU0)).setCell ⟨ga, 1, none⟩ (.slice U1 Q1.ledger.taps.length kU1)).setCell ⟨ga, 2, none⟩ (.slice U2 Q1.ledger.verdicts.length kU2)).setCell ⟨ga, 3, none⟩ (.int .i64 Q1.denied.version)).setCell ⟨ga, 4, none⟩ (.slice U3 Q1.denied.ids.length kU3)).setCell ⟨ga, 5, none⟩ (.slice U4 Q1.gates.length kU4)).setCell ⟨ga, 6, none⟩ (.slice U5 Q1.views.length kU5)).setCell ⟨w1.heap.size, 0, none⟩ (.slice U0 Q1.ledger.tickets.length kU0)).setCell ⟨w1.heap.size, 1, none⟩ (.slice U1 Q1.ledger.taps.length kU1)).setCell ⟨w1.heap.size, 2, none⟩ (.slice U2 Q1.ledger.verdicts.length kU2)).setCell ⟨w1.heap.size, 3, none⟩ (.int .i64 Q1.denied.version)).setCell ⟨w1.heap.size, 4, none⟩ (.slice U3 Q1.denied.ids.length kU3)).setCell ⟨w1.heap.size, 5, none⟩ (.slice U4 Q1.gates.length kU4)).setCell ⟨w1.heap.size, 6, none⟩ (.slice U5 Q1.views.length kU5)) := Fr.setC rfl (Fr.setC rfl (Fr.setC rfl (Fr.setC rfl (Fr.setC rfl (Fr.setC rfl (Fr.setC rfl (Fr.refl _ _)))))))
     have o7 := hfb.own o6 (fun q hq ho => by have := (HOD.out.lt q hq).1; have : q = w1.heap.size := ho; omega)
     have o8 : RdSP (fun q => q ≠ w.heap.size ∧ q ≠ w1.heap.size ∧ (Value.slice D dn.length d).ownBlock ≠ some q) ((((((((((((((X.setCell ⟨ga, 0, none⟩ (.slice U0 Q1.ledger.tickets.length kU0)).setCell ⟨ga, 1, none⟩ (.slice U1 Q1.ledger.taps.length kU1)).setCell ⟨ga, 2, none⟩ (.slice U2 Q1.ledger.verdicts.length kU2)).setCell ⟨ga, 3, none⟩ (.int .i64 Q1.denied.version)).setCell ⟨ga, 4, none⟩ (.slice U3 Q1.denied.ids.length kU3)).setCell ⟨ga, 5, none⟩ (.slice U4 Q1.gates.length kU4)).setCell ⟨ga, 6, none⟩ (.slice U5 Q1.views.length kU5)).setCell ⟨w1.heap.size, 0, none⟩ (.slice U0 Q1.ledger.tickets.length kU0)).setCell ⟨w1.heap.size, 1, none⟩ (.slice U1 Q1.ledger.taps.length kU1)).setCell ⟨w1.heap.size, 2, none⟩ (.slice U2 Q1.ledger.verdicts.length kU2)).setCell ⟨w1.heap.size, 3, none⟩ (.int .i64 Q1.denied.version)).setCell ⟨w1.heap.size, 4, none⟩ (.slice U3 Q1.denied.ids.length kU3)).setCell ⟨w1.heap.size, 5, none⟩ (.slice U4 Q1.gates.length kU4)).setCell ⟨w1.heap.size, 6, none⟩ (.slice U5 Q1.views.length kU5)) ⟨.slice U0 Q1.ledger.tickets.length kU0, .slice U1 Q1.ledger.taps.length kU1, .slice U2 Q1.ledger.verdicts.length kU2, .slice U3 Q1.denied.ids.length kU3, .slice U4 Q1.gates.length kU4, .slice U5 Q1.views.length kU5⟩ Q1 := (o5.weak (Q := fun q => q ≠ w.heap.size ∧ q ≠ w1.heap.size ∧ (Value.slice D dn.length d).ownBlock ≠ some q) (fun q hq => by
          rcases hq.1 with h | h
          ·exact h.1
          ·exact ⟨by omega, by omega, fun h2 => by have := (HOD.out.lt q h2).2; omega⟩)).fr hfb (fun q hq h => h.2.1 hq)
     refine wp_genP (S := fun Y => Ext w Y ∧ w1.heap.size < Y.heap.size ∧ Row Y w.heap.size #[.slice none 0 0, .slice none 0 0, .slice none 0 0, .int .i64 0, .slice none 0 0, .slice none 0 0, .slice none 0 0] ∧ Row Y w1.heap.size #[.slice U0 Q1.ledger.tickets.length kU0, .slice U1 Q1.ledger.taps.length kU1, .slice U2 Q1.ledger.verdicts.length kU2, .int .i64 Q1.denied.version, .slice U3 Q1.denied.ids.length kU3, .slice U4 Q1.gates.length kU4, .slice U5 Q1.views.length kU5] ∧ RdSP (fun q => q ≠ w.heap.size ∧ q ≠ w1.heap.size ∧ (Value.slice D dn.length d).ownBlock ≠ some q) Y ⟨.slice U0 Q1.ledger.tickets.length kU0, .slice U1 Q1.ledger.taps.length kU1, .slice U2 Q1.ledger.verdicts.length kU2, .slice U3 Q1.denied.ids.length kU3, .slice U4 Q1.gates.length kU4, .slice U5 Q1.views.length kU5⟩ Q1 ∧ OwnL 35 1 inc (w1.heap.size + 1) Y (.slice D dn.length d) dn) ⟨(extA : Ext w _), by simp; omega, by exact rowA, HR55.out, o8, o7⟩ ?_
     intro Y hY
     obtain ⟨y1, y2, y3, y4, y5, y6⟩ := hY.out
     have HY := Lib.hid y1
     have HY3 := Lib.hid y3
     have HY4 := Lib.hid y4
     have HY5 := Lib.hid y5
     have HY6 := Lib.hid y6
     have hzY := y1.size
     clear hY y1 y3 y4 y5 y6 HX9 HW HX HFbga HFoS HRga hfa o5 o6 o8 o7 hfb HR55 HRW HR5 HRP HRT HOD qbga fbga lbga qx_0 fx_0 lx_0 Rx_0 qx_1 fx_1 lx_1 Rx_1 qr_0 fr_0 lr_0 Rr_0 qr_1 fr_1 lr_1 Rr_1 KD HS1 HS2 HRT2
     (refine rowU Y w.heap.size fun qy_0 fy_0 ly_0 Ry_0 => ?_; refine rowU Y w1.heap.size fun qy_1 fy_1 ly_1 Ry_1 => ?_)
     go_wp2_with (at_builtin; go_loud (refine wpList_append_rd (enc := inc) (k := 1) _ rfl _ _ 75 rfl (w1.heap.size + 1) 35 i0 (.int .i64 0) 8 Tryz.underlying75 ji ji0 ji1 ji2 rfl (by decide) inc_size _ dn rfl (HY6.out.alloc _) _ [(0 : Int)] rfl (RdL.lit (enc := inc) 0 rfl rfl) (er_one _) ?ga1 ?ga2 (by simp; omega) ?_))
     case ga1 => have := HDK.out; have := H40.out; unfold maxLen; simp; omega
     case ga2 => have := HDK.out; have := H40.out; simp; omega
     intro v8 w8 ho8 hg8 hn8
     obtain ⟨B8, d8, rfl⟩ := ho8.form
     have hf8 := row_fr hg8
     have hlt8 : ∀ q, (Value.slice D dn.length d).ownBlock = some q → w1.heap.size + 1 ≤ q := fun q hq => (HY6.out.lt q hq).1
     have HE8 := Lib.hid (Ext.fr (HY.out.alloc (.cells #[.int .i64 0] 35)) hf8 (fun q hq => by have := hlt8 q hq; omega))
     have HR08 := Lib.hid (hf8.row (g := w.heap.size) (fun h => by have := hlt8 _ h; omega) (Row.alloc HY3.out))
     have HR58 := Lib.hid (hf8.row (g := w1.heap.size) (fun h => by have := hlt8 _ h; omega) (Row.alloc HY4.out))
     have HP8 := Lib.hid ((((HY5.out.lt).ext ((Ext.refl Y).alloc (.cells #[.int .i64 0] 35))).fr hf8 (fun q hq h => h.1.2.2 hq)).weak (Q := fun q => q ≠ w.heap.size ∧ q ≠ w1.heap.size ∧ (Value.slice B8 (dn ++ [(0 : Int)]).length d8).ownBlock ≠ some q) (fun q hq => ⟨hq.1.1, hq.1.2.1, fun h => by
          rcases hn8 with h2 | h2
          ·exact hq.1.2.2 (h2.symm.trans h)
          ·have h3 := h2.symm.trans h
           injection h3 with h3
           have := hq.2
           (try simp at h3)
           omega⟩))
     have HO8 := Lib.hid ho8
     have hz8 := HE8.out.size
     clear ho8 hg8 hn8 hf8 HY3 HY4 HY5 HY6 HY qy_0 fy_0 ly_0 Ry_0 qy_1 fy_1 ly_1 Ry_1 hlt8
     go_wp2_with fail
     go_roundg (l.length - (k + 1))
     case measure => omega
     case rel => exact ⟨k + 1, Q1, ⟨.slice U0 Q1.ledger.tickets.length kU0, .slice U1 Q1.ledger.taps.length kU1, .slice U2 Q1.ledger.verdicts.length kU2, .slice U3 Q1.denied.ids.length kU3, .slice U4 Q1.gates.length kU4, .slice U5 Q1.views.length kU5⟩, dn ++ [(0 : Int)], B8, d8, by omega, by omega, by simp, by go_num, HE8.out, HR08.out, HR58.out, HP8.out, HN3.out, HO8.out, by have := HDK.out; simp; omega, HN1.out, HN2.out⟩
    case neg =>
     have hQb : (Q3 == 0) = false := by simpa using hQ
     have HN1 := Lib.hid (show RS.1 = (runS sk (l.drop (k + 1))).1 by have := HS1.out; rw [if_neg hQ] at this; exact this)
     have HN2 := Lib.hid (show RS.2 = (dn ++ [Q3]) ++ (runS sk (l.drop (k + 1))).2 by have := HS2.out; rw [if_neg hQ] at this; exact this)
     have HN3 := Lib.hid (show RightS sk by have := HRT2.out; rw [if_neg hQ] at this; exact this)
     go_upto_region 11 with fail
     have o8 := (HRP.out.ext (show Ext wr (((((((X.setCell ⟨ga, 0, none⟩ (.slice U0 Q1.ledger.tickets.length kU0)).setCell ⟨ga, 1, none⟩ (.slice U1 Q1.ledger.taps.length kU1)).setCell ⟨ga, 2, none⟩ (.slice U2 Q1.ledger.verdicts.length kU2)).setCell ⟨ga, 3, none⟩ (.int .i64 Q1.denied.version)).setCell ⟨ga, 4, none⟩ (.slice U3 Q1.denied.ids.length kU3)).setCell ⟨ga, 5, none⟩ (.slice U4 Q1.gates.length kU4)).setCell ⟨ga, 6, none⟩ (.slice U5 Q1.views.length kU5)) by exact extA))
     refine wp_genP (S := fun Y => Ext w Y ∧ w1.heap.size < Y.heap.size ∧ Row Y w.heap.size #[.slice none 0 0, .slice none 0 0, .slice none 0 0, .int .i64 0, .slice none 0 0, .slice none 0 0, .slice none 0 0] ∧ Row Y w1.heap.size #[.slice S0 sk.ledger.tickets.length kS0, .slice S1 sk.ledger.taps.length kS1, .slice S2 sk.ledger.verdicts.length kS2, .int .i64 sk.denied.version, .slice S3 sk.denied.ids.length kS3, .slice S4 sk.gates.length kS4, .slice S5 sk.views.length kS5] ∧ RdSP (fun q => q ≠ w.heap.size ∧ q ≠ w1.heap.size ∧ (Value.slice D dn.length d).ownBlock ≠ some q) Y ⟨.slice S0 sk.ledger.tickets.length kS0, .slice S1 sk.ledger.taps.length kS1, .slice S2 sk.ledger.verdicts.length kS2, .slice S3 sk.denied.ids.length kS3, .slice S4 sk.gates.length kS4, .slice S5 sk.views.length kS5⟩ sk ∧ OwnL 35 1 inc (w1.heap.size + 1) Y (.slice D dn.length d) dn) ⟨(extA : Ext w _), by simp; omega, by exact rowA, (show Row _ w1.heap.size #[.slice S0 sk.ledger.tickets.length kS0, .slice S1 sk.ledger.taps.length kS1, .slice S2 sk.ledger.verdicts.length kS2, .int .i64 sk.denied.version, .slice S3 sk.denied.ids.length kS3, .slice S4 sk.gates.length kS4, .slice S5 sk.views.length kS5] from by exact rowA), o8, o6⟩ ?_
     intro Y hY
     obtain ⟨y1, y2, y3, y4, y5, y6⟩ := hY.out
     have HY := Lib.hid y1
     have HY3 := Lib.hid y3
     have HY4 := Lib.hid y4
     have HY5 := Lib.hid y5
     have HY6 := Lib.hid y6
     have hzY := y1.size
     clear hY y1 y3 y4 y5 y6 HX9 HW HX HFbga HFoS HRga hfa o5 o6 o8 HRW HR5 HRP HRT HOD qbga fbga lbga qx_0 fx_0 lx_0 Rx_0 qx_1 fx_1 lx_1 Rx_1 qr_0 fr_0 lr_0 Rr_0 qr_1 fr_1 lr_1 Rr_1 KD HS1 HS2 HRT2
     (refine rowU Y w.heap.size fun qy_0 fy_0 ly_0 Ry_0 => ?_; refine rowU Y w1.heap.size fun qy_1 fy_1 ly_1 Ry_1 => ?_)
     go_wp2_with (at_builtin; go_loud (refine wpList_append_rd (enc := inc) (k := 1) _ rfl _ _ 75 rfl (w1.heap.size + 1) 35 i0 (.int .i64 0) 8 Tryz.underlying75 ji ji0 ji1 ji2 rfl (by decide) inc_size _ dn rfl (HY6.out.alloc _) _ [Q3] rfl (RdL.lit (enc := inc) Q3 rfl rfl) (er_one _) ?gb1 ?gb2 (by simp; omega) ?_))
     case gb1 => have := HDK.out; have := H40.out; unfold maxLen; simp; omega
     case gb2 => have := HDK.out; have := H40.out; simp; omega
     intro v8 w8 ho8 hg8 hn8
     obtain ⟨B8, d8, rfl⟩ := ho8.form
     have hf8 := row_fr hg8
     have hlt8 : ∀ q, (Value.slice D dn.length d).ownBlock = some q → w1.heap.size + 1 ≤ q := fun q hq => (HY6.out.lt q hq).1
     have HE8 := Lib.hid (Ext.fr (HY.out.alloc (.cells #[.int .i64 Q3] 35)) hf8 (fun q hq => by have := hlt8 q hq; omega))
     have HR08 := Lib.hid (hf8.row (g := w.heap.size) (fun h => by have := hlt8 _ h; omega) (Row.alloc HY3.out))
     have HR58 := Lib.hid (hf8.row (g := w1.heap.size) (fun h => by have := hlt8 _ h; omega) (Row.alloc HY4.out))
     have HP8 := Lib.hid ((((HY5.out.lt).ext ((Ext.refl Y).alloc (.cells #[.int .i64 Q3] 35))).fr hf8 (fun q hq h => h.1.2.2 hq)).weak (Q := fun q => q ≠ w.heap.size ∧ q ≠ w1.heap.size ∧ (Value.slice B8 (dn ++ [Q3]).length d8).ownBlock ≠ some q) (fun q hq => ⟨hq.1.1, hq.1.2.1, fun h => by
          rcases hn8 with h2 | h2
          ·exact hq.1.2.2 (h2.symm.trans h)
          ·have h3 := h2.symm.trans h
           injection h3 with h3
           have := hq.2
           (try simp at h3)
           omega⟩))
     have HO8 := Lib.hid ho8
     have hz8 := HE8.out.size
     clear ho8 hg8 hn8 hf8 HY3 HY4 HY5 HY6 HY qy_0 fy_0 ly_0 Ry_0 qy_1 fy_1 ly_1 Ry_1 hlt8
     go_wp2_with fail
     go_roundg (l.length - (k + 1))
     case measure => omega
     case rel => exact ⟨k + 1, sk, ⟨.slice S0 sk.ledger.tickets.length kS0, .slice S1 sk.ledger.taps.length kS1, .slice S2 sk.ledger.verdicts.length kS2, .slice S3 sk.denied.ids.length kS3, .slice S4 sk.gates.length kS4, .slice S5 sk.views.length kS5⟩, dn ++ [Q3], B8, d8, by omega, by omega, by simp, by go_num, HE8.out, HR08.out, HR58.out, HP8.out, HN3.out, HO8.out, by have := HDK.out; simp; omega, HN1.out, HN2.out⟩
  ·have hkl : k = l.length := by omega
   subst hkl
   have hln : ¬ (l.length : Int) < (l.length : Int) := by omega
   have hf1 := HR1'.out
   have hf2 := HR2'.out
   rw [List.drop_length] at hf1 hf2
   have HQ1 := Lib.hid (show RS.1 = sk from hf1)
   have HQ2 := Lib.hid (show RS.2 = dn from by rw [hf2]; exact List.append_nil _)
   clear hf1 hf2 HR1' HR2'
   go_wp2_with fail
   rw [HQ1.out, HQ2.out]
   refine bodyPost_ret (v := .tuple #[.agg #[.slice S0 sk.ledger.tickets.length kS0, .slice S1 sk.ledger.taps.length kS1, .slice S2 sk.ledger.verdicts.length kS2, .int .i64 sk.denied.version, .slice S3 sk.denied.ids.length kS3, .slice S4 sk.gates.length kS4, .slice S5 sk.views.length kS5], .slice D dn.length d, .int .i64 0]) (by simp [results, Tryz.results42, go_sem, *]) rfl ⟨⟨.slice S0 sk.ledger.tickets.length kS0, .slice S1 sk.ledger.taps.length kS1, .slice S2 sk.ledger.verdicts.length kS2, .slice S3 sk.denied.ids.length kS3, .slice S4 sk.gates.length kS4, .slice S5 sk.views.length kS5⟩, .slice D dn.length d, rfl, (extA : Ext w _), ?_, ?_⟩
   ·refine RdSP.rd (P := (fun q => q ≠ w.heap.size ∧ q ≠ w1.heap.size ∧ (Value.slice D dn.length d).ownBlock ≠ some q)) ?_
    repeat (first | (with_reducible exact HRP.out) | (with_reducible refine RdSP.setC (by simp) ?_) | (with_reducible refine RdSP.ext ?_ (Hid.out ‹Hid (Ext _ _)›)))
   ·refine OwnL.rd (e := 35) (base := w1.heap.size + 1) ?_ inc_size
    repeat (first | (with_reducible exact HOD.out) | (with_reducible apply OwnL.setC; focus (simp <;> omega)) | (with_reducible apply OwnL.drew))

theorem runAll_err {l : List Ac} (h : (runAll l).2.2 ≠ 0) : (runAll l).1 = st0 := by
 unfold runAll at h ⊢
 split
 ·rfl
 ·rename_i h1
  rw [if_neg h1] at h
  exact absurd rfl h
theorem law_DeskRuns (l : List Ac) (v : Value) (w : World) (hr : RdL 10 acc w v l) :
  Calls Tryz.prog 8 #[v] w fun e w' => e = .returned (.bool true) ∧ Ext w w' := by
 have KR := Lib.hid (fun w' (h : Ext w w') => desk_Run l v w' (hr.ext h))
 have KO := Lib.hid (fun w' (h : Ext w w') => ref_RunOf l v w' (hr.ext h))
 have HE := Lib.hid (@runAll_err l)
 generalize runAll l = R at *
 obtain ⟨R1, R2, R3⟩ := R
 simp only at KR KO HE
 obtain ⟨A0, c0, rfl, -, -⟩ := hr.form
 clear hr
 go_enter Tryz.func8, Tryz.ntmps8
 go_wp2_with fail
 refine (KR.out _ extA).mono ?_
 rintro e w1 ⟨⟨t0, t1, t2, ti, tg, tv⟩, u1, rfl, h1, ho, hu⟩
 obtain ⟨B0, kB0, rfl⟩ : ∃ B d, t0 = .slice B R1.ledger.tickets.length d := ho.rd.tk.frm
 obtain ⟨B1, kB1, rfl⟩ : ∃ B d, t1 = .slice B R1.ledger.taps.length d := ho.rd.tp.frm
 obtain ⟨B2, kB2, rfl⟩ : ∃ B d, t2 = .slice B R1.ledger.verdicts.length d := ho.rd.vd.frm
 obtain ⟨B3, kB3, rfl⟩ : ∃ B d, ti = .slice B R1.denied.ids.length d := ho.rd.dn.frm
 obtain ⟨B4, kB4, rfl⟩ : ∃ B d, tg = .slice B R1.gates.length d := ho.rd.gt.frm
 obtain ⟨B5, kB5, rfl⟩ : ∃ B d, tv = .slice B R1.views.length d := ho.rd.vw.frm
 obtain ⟨B6, kB6, rfl⟩ : ∃ B d, u1 = .slice B R2.length d := hu.form
 rw [show sta R1 ⟨.slice B0 R1.ledger.tickets.length kB0, .slice B1 R1.ledger.taps.length kB1, .slice B2 R1.ledger.verdicts.length kB2, .slice B3 R1.denied.ids.length kB3, .slice B4 R1.gates.length kB4, .slice B5 R1.views.length kB5⟩ = #[.slice B0 R1.ledger.tickets.length kB0, .slice B1 R1.ledger.taps.length kB1, .slice B2 R1.ledger.verdicts.length kB2, .int .i64 R1.denied.version, .slice B3 R1.denied.ids.length kB3, .slice B4 R1.gates.length kB4, .slice B5 R1.views.length kB5] from rfl]
 have H1 := Lib.hid h1
 have hz1 := h1.size
 have HO1 := Lib.hid ho.rd
 have HU1 := Lib.hid (hu.rd inc_size)
 clear h1 ho hu
 go_wp2_with fail
 refine (KO.out _ extA).mono ?_
 rintro e w2 ⟨⟨t0, t1, t2, ti, tg, tv⟩, u2, rfl, h2, ho, hu⟩
 obtain ⟨C0, kC0, rfl⟩ : ∃ B d, t0 = .slice B R1.ledger.tickets.length d := ho.tk.frm
 obtain ⟨C1, kC1, rfl⟩ : ∃ B d, t1 = .slice B R1.ledger.taps.length d := ho.tp.frm
 obtain ⟨C2, kC2, rfl⟩ : ∃ B d, t2 = .slice B R1.ledger.verdicts.length d := ho.vd.frm
 obtain ⟨C3, kC3, rfl⟩ : ∃ B d, ti = .slice B R1.denied.ids.length d := ho.dn.frm
 obtain ⟨C4, kC4, rfl⟩ : ∃ B d, tg = .slice B R1.gates.length d := ho.gt.frm
 obtain ⟨C5, kC5, rfl⟩ : ∃ B d, tv = .slice B R1.views.length d := ho.vw.frm
 obtain ⟨C6, kC6, rfl⟩ : ∃ B d, u2 = .slice B R2.length d := hu.frm
 rw [show sta R1 ⟨.slice C0 R1.ledger.tickets.length kC0, .slice C1 R1.ledger.taps.length kC1, .slice C2 R1.ledger.verdicts.length kC2, .slice C3 R1.denied.ids.length kC3, .slice C4 R1.gates.length kC4, .slice C5 R1.views.length kC5⟩ = #[.slice C0 R1.ledger.tickets.length kC0, .slice C1 R1.ledger.taps.length kC1, .slice C2 R1.ledger.verdicts.length kC2, .int .i64 R1.denied.version, .slice C3 R1.denied.ids.length kC3, .slice C4 R1.gates.length kC4, .slice C5 R1.views.length kC5] from rfl]
 have hml : R2.length ≤ 9223372036854775807 := by
  obtain ⟨A, c, h, h2, h3⟩ := hu.form
  unfold maxLen at h3
  omega
 have H2 := Lib.hid h2
 have hz2 := h2.size
 have HO2 := Lib.hid ho
 have HU2 := Lib.hid hu
 clear h2 ho hu KR KO
 (try simp only [World.size_alloc] at hz2)
 (refine rowU w2 w1.heap.size fun q2_0 f2_0 l2_0 R2_0 => ?_)
 have hll : ((R2.length : Int) != (R2.length : Int)) = false := by simp
 have K1 := Lib.hid (fun (w' : World) (h1 : RdS w' ⟨.slice B0 R1.ledger.tickets.length kB0, .slice B1 R1.ledger.taps.length kB1, .slice B2 R1.ledger.verdicts.length kB2, .slice B3 R1.denied.ids.length kB3, .slice B4 R1.gates.length kB4, .slice B5 R1.views.length kB5⟩ R1) (h2 : RdS w' ⟨.slice C0 R1.ledger.tickets.length kC0, .slice C1 R1.ledger.taps.length kC1, .slice C2 R1.ledger.verdicts.length kC2, .slice C3 R1.denied.ids.length kC3, .slice C4 R1.gates.length kC4, .slice C5 R1.views.length kC5⟩ R1) => law_stationIs_so R1 R1 R3 ⟨.slice B0 R1.ledger.tickets.length kB0, .slice B1 R1.ledger.taps.length kB1, .slice B2 R1.ledger.verdicts.length kB2, .slice B3 R1.denied.ids.length kB3, .slice B4 R1.gates.length kB4, .slice B5 R1.views.length kB5⟩ ⟨.slice C0 R1.ledger.tickets.length kC0, .slice C1 R1.ledger.taps.length kC1, .slice C2 R1.ledger.verdicts.length kC2, .slice C3 R1.denied.ids.length kC3, .slice C4 R1.gates.length kC4, .slice C5 R1.views.length kC5⟩ w' h1 h2 (isE HE.out))
 unfold sta at K1
 simp only at K1
 go_wp2_with fail
 (refine gA (law_deskBegun _) fun w3 H3 hz3 => ?_; (try simp only [lSz] at hz3); refine rowU w3 w1.heap.size fun q3_0 f3_0 l3_0 R3_0 => ?_; refine rowU w3 w2.heap.size fun q3_1 f3_1 l3_1 R3_1 => ?_)
 go_wp2_with fail
 (refine gA (K1.out _ (HO1.out.ext extA) (HO2.out.ext extA)) fun w4 H4 hz4 => ?_; (try simp only [lSz] at hz4))
 have HW4 := Lib.hid (And.intro trivial (extA : Ext w w4))
 have HU14 := Lib.hid (HU1.out.ext (extA : Ext w1 w4))
 have HU24 := Lib.hid (HU2.out.ext (extA : Ext w2 w4))
 clear q2_0 f2_0 l2_0 R2_0 q3_0 f3_0 l3_0 R3_0 q3_1 f3_1 l3_1 R3_1 HU1 HU2 HO1 HO2 K1
 go_wp2_with fail
 go_loopg [9] R2.length (fun gg s9 wr => ∃ k : Nat, k ≤ R2.length ∧ R2.length - k ≤ gg ∧ s9 = .int .i64 k ∧ Aside (Ext w4 wr))
 case atStart => exact ⟨0, by omega, by omega, rfl, Ext.refl _⟩
 case round =>
  obtain ⟨k, hk, hg, rfl, HA⟩ := hrel
  have HX := Lib.hid HA.out
  clear HA
  by_cases hlt : k < R2.length
  ·have hki : (k : Int) < (R2.length : Int) := by omega
   have hc1 : (k : Int) < (kB6 : Int) := by
    obtain ⟨A, c, h, h2, -⟩ := HU14.out.form
    injection h with _ _ h3
    omega
   have hc2 : (k : Int) < (kC6 : Int) := by
    obtain ⟨A, c, h, h2, -⟩ := HU24.out.form
    injection h with _ _ h3
    omega
   obtain ⟨b1, o1, hA1, hb1, f1⟩ := (HU14.out.ext HX.out).num_at rfl hlt
   obtain ⟨b2, o2, hA2, hb2, f2⟩ := (HU24.out.ext HX.out).num_at rfl hlt
   subst hA1 hA2
   have hxx : (R2[k] != R2[k]) = false := by simp
   generalize R2[k] = z at *
   clear hlt
   go_upto_region 8 with fail
   go_quiet (fail)
   go_wp2_with fail
   go_roundg (R2.length - (k + 1))
   case measure => omega
   case rel => exact ⟨k + 1, by omega, by omega, by go_num, (extA : Ext w4 _)⟩
  ·have hge : ¬ (k : Int) < (R2.length : Int) := by omega
   go_wp2_with fail
   go_ret
   exact ⟨rfl, HW4.out.2.trans (extA : Ext w4 _)⟩
end Go.Proofs.YteojjbhadgkfgaaGreat
