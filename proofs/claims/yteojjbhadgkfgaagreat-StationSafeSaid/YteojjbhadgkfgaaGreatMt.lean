/- Mt: parts of the proofs, laid together. -/
import Derived.Test.YteojjbhadgkfgaaGreatMs
import Derived.Test.YteojjbhadgkfgaaGreatMc
import Derived.Test.YteojjbhadgkfgaaGreatMa
import Derived.Test.YteojjbhadgkfgaaGreatMr
import Derived.Test.YteojjbhadgkfgaaGreatMl
import Derived.Test.YteojjbhadgkfgaaGreatMb
/- A station's keeper: a tap that is entered. -/
namespace Go.Proofs.YteojjbhadgkfgaaGreat
set_option linter.unusedSimpArgs false
set_option linter.unusedVariables false
set_option maxRecDepth 100000
open Go Go.RowKit Lb

set_option maxHeartbeats 16000000 in
theorem keeper_online (s : St) (y : Sv) (t : Tk) (n : Nat) (time : Int) (gb c p base : Nat) (w : World) (hk : Kp base w p y s) (rs : RightS s) (hn : n < s.gates.length) (hsg : y.sg = .slice (some ⟨gb, 0, none⟩) s.gates.length c) :
  Calls Tryz.prog 154 #[.pointer (some ⟨p, 0, none⟩), .agg (tkc t), .pointer (some ⟨gb, n * 8, none⟩), .int .i64 time] w fun e w' => e = .returned (.tuple #[.int .i64 (onlineS s t s.gates[n] n time).2.1, .int .i64 (onlineS s t s.gates[n] n time).2.2]) ∧ Fr (fun q => base ≤ q) w w' ∧ ∃ y', Kp base w' p y' (onlineS s t s.gates[n] n time).1 := by
 have HF := Lib.hid (fun (w' : World) (h : Ext w w') => And.intro (Fr.ofExt (own := fun q => base ≤ q) h) (hk.ext h))
 have HK := Lib.hid hk
 obtain ⟨hbx, hge, ho⟩ := hk
 have rg := rs.gates n hn
 have hck := rs.ledger
 obtain ⟨ys, hys, hrow, hin⟩ := ho.gt
 have hst : onlineS s t s.gates[n] n time = if s.denied.ids.contains t.id = true then (s, 0, 11)
  else if within time 0 9999 = false then (s, 0, 3)
  else if s.gates[n].seq = 99 then (s, 0, 2)
  else if (enterL s.ledger (tapOf s.gates[n] t time)).2.2 ≠ 0 then (s, (enterL s.ledger (tapOf s.gates[n] t time)).2.1, (enterL s.ledger (tapOf s.gates[n] t time)).2.2)
  else (⟨(enterL s.ledger (tapOf s.gates[n] t time)).1, s.denied, s.gates.set n ⟨s.gates[n].id, s.gates[n].zone, s.gates[n].seq + 1, s.gates[n].alone, s.gates[n].denied, s.gates[n].left, s.gates[n].untl⟩, s.views⟩, (enterL s.ledger (tapOf s.gates[n] t time)).2.1, 0) := rfl
 generalize onlineS s t s.gates[n] n time = T at *
 have HR := Lib.hid (fun (w' : World) (h : Ext w w') => ledger_Raw s.ledger y.s0 y.s1 y.s2 (tapOf s.gates[n] t time) w' hck ((ho.tk.rd tkc_size).ext h) ((ho.tp.rd tpc_size).ext h) ((ho.vd.rd inc_size).ext h))
 have HC := Lib.hid (fun (w' : World) (h : Ext w w') => slices_Contains_int s.denied.ids t.id y.si w' ((ho.dn.rd inc_size).ext h))
 have hn' : n < ys.length := by rw [hys] at hn; simpa using hn
 have hgg : s.gates[n] = ys[n].g := by simp [hys]
 have k0 : w.cell? ⟨gb, n * 8, none⟩ = some (.int .i64 s.gates[n].id) := by rw [hgg]; exact (OwnL.field gyc_size (hsg ▸ hrow) n 0 hn' (by decide) _ rfl).1
 have k1 : w.cell? ⟨gb, n * 8 + 1, none⟩ = some (.int .i64 s.gates[n].zone) := by rw [hgg]; exact (OwnL.field gyc_size (hsg ▸ hrow) n 1 hn' (by decide) _ rfl).1
 have k2 : w.cell? ⟨gb, n * 8 + 2, none⟩ = some (.int .i64 s.gates[n].seq) := by rw [hgg]; exact (OwnL.field gyc_size (hsg ▸ hrow) n 2 hn' (by decide) _ rfl).1
 have kf : w.frozen? ⟨gb, n * 8 + 2, none⟩ = false := (OwnL.field gyc_size (hsg ▸ hrow) n 2 hn' (by decide) (.int .i64 ys[n].g.seq) rfl).2
 have hgb := (hrow.lt gb (by rw [hsg]; rfl)).2
 have hgl := (hrow.lt gb (by rw [hsg]; rfl)).1
 have hgp : gb ≠ p := fun h => hrow.rowS.box hbx (by decide) (by rw [hsg, ← h]; rfl)
 have hpg : p ≠ gb := fun h => hgp h.symm
 have hseq := (ckGate_ok.1 rg.1).seq
 have hpw := hbx.lt
 obtain ⟨B3, b3, hB3⟩ := ho.dn.form
 have HSG := Lib.hid hsg
 have HN := Lib.hid hn
 have RB := Lib.hid hbx.row
 obtain ⟨B0, b0, hB0⟩ := ho.tk.form
 obtain ⟨B1, b1, hB1⟩ := ho.tp.form
 obtain ⟨B2, b2, hB2⟩ := ho.vd.form
 obtain ⟨B5, b5, hB5⟩ := ho.vw.form
 unfold sta at RB
 rw [hB0, hB1, hB2, hB3, hB5, hsg] at RB
 rw [hB3] at HC
 rw [hB0, hB1, hB2] at HR
 generalize hz1 : s.denied.ids.contains t.id = z1 at *
 have HZ1 := Lib.hid ((any_has s.denied.ids t.id).trans hz1)
 generalize hg0 : s.gates[n] = g at *
 have HG := Lib.hid hg0
 generalize hE : enterL s.ledger (tapOf g t time) = E at *
 simp [within] at hseq
 clear hE rg hck hys hrow hin hsg hn hg0 hgg hn' hbx ho hz1 rs
 rw [show tkc t = #[.int .i64 t.id, .int .i64 t.kind, .int .i64 t.frm, .int .i64 t.til, .int .i64 t.zones, .int .i64 t.rides] from rfl]
 unfold tapOf tpc at HR
 obtain ⟨⟨E0, E1, E2⟩, E3, E4⟩ := E
 simp only at HR hst
 have HST := Lib.hid hst
 clear hst
 obtain ⟨qp, fp, lp⟩ : (∀ o, w.cell? ⟨p, o, none⟩ = _) ∧ (∀ o, w.frozen? ⟨p, o, none⟩ = false) ∧ p < w.heap.size := ⟨RB.out.2.1, RB.out.2.2, RB.out.1⟩
 have hwr : IntKind.i64.wrap (g.seq + 1) = g.seq + 1 := IntWalk.i64_in _ (by omega)
 go_enter Tryz.func154, Tryz.ntmps154
 go_wp2_with fail
 go_quiet ((go_at_call 88; exact Calls.quiet_of_same ((HC.out _ (by exact extA)).mono (fun e w' h => ⟨h.1.trans (by rw [HZ1.out]), h.2.symm⟩))))
 cases z1
 rotate_left
 ·have HQ := Lib.hid (show T = (s, 0, 11) by rw [HST.out]; simp)
  go_wp2_with fail
  go_ret2
  rw [HQ.out]
  exact ⟨rfl, (HF.out _ (by exact extA)).1, y, (HF.out _ (by exact extA)).2⟩
 ·by_cases ht0 : time < 0
  ·have HQ := Lib.hid (show T = (s, 0, 3) by rw [HST.out]; simp [within, show ¬ 0 ≤ time by omega])
   go_wp2_with fail
   go_ret2
   rw [HQ.out]
   exact ⟨rfl, (HF.out _ (by exact extA)).1, y, (HF.out _ (by exact extA)).2⟩
  ·by_cases ht1 : time > 9999
   ·have HQ := Lib.hid (show T = (s, 0, 3) by rw [HST.out]; simp [within, show ¬ time ≤ 9999 by omega])
    go_wp2_with fail
    go_ret2
    rw [HQ.out]
    exact ⟨rfl, (HF.out _ (by exact extA)).1, y, (HF.out _ (by exact extA)).2⟩
   ·have hwi : within time 0 9999 = true := by simp [within]; omega
    by_cases hs : g.seq = 99
    ·have HQ := Lib.hid (show T = (s, 0, 2) by rw [HST.out]; simp [hwi, hs])
     have hsb : (g.seq == 99) = true := by rw [hs]; rfl
     go_wp2_with fail
     go_ret2
     rw [HQ.out]
     exact ⟨rfl, (HF.out _ (by exact extA)).1, y, (HF.out _ (by exact extA)).2⟩
    ·have hsb : (g.seq == 99) = false := by simpa using hs
     have HQ := Lib.hid (show T = if E4 ≠ 0 then (s, E3, E4) else (⟨⟨E0, E1, E2⟩, s.denied, s.gates.set n ⟨g.id, g.zone, g.seq + 1, g.alone, g.denied, g.left, g.untl⟩, s.views⟩, E3, 0) by rw [HST.out]; simp [hwi, hs])
     clear HST hwi
     go_upto_region 7 with fail
     go_cut [10, 11, 12] (fun s10 s11 s12 wx => ∃ g5 u0 u1 u2, s10 = .pointer (some ⟨g5, 0, none⟩) ∧ s11 = .int .i64 E3 ∧ s12 = .int .i64 E4 ∧ Aside (Ext w wx ∧ w.heap.size < g5 ∧ Row wx g5 #[u0, u1, u2] ∧ OwnLd w.heap.size wx u0 u1 u2 ⟨E0, E1, E2⟩))
     case first =>
      (apply wp_gen2 (w0 := w) (g0 := w.heap.size) (g1 := p); (focus (exact rowA)); (focus (exact rowA)); (focus (exact extA)); intro W HW hzW Ra_0 Ra_1; (try simp only [lSet, World.size_alloc, size_set, World.heap_drewN, size_drew] at hzW Ra_0 Ra_1); have la_0 := Ra_0.out.size; have la_1 := Ra_1.out.size)
      have HK := Lib.hid (fun (w' : World) (h : Ext W w') => And.intro (Row.ext h Ra_0.out).2.1 (And.intro (Row.ext h Ra_1.out).2.1 (And.intro (((HW.out.trans h).cells _ _ hgb).trans k0) (And.intro (((HW.out.trans h).cells _ _ hgb).trans k1) ((((HW.out.trans h).cells _ _ hgb).trans k2))))))
      (refine T_begin (fun w' => Ext W w') 30 (by kernel_rfl) ((Ext.refl _).drew) (fun hS => ?_); simp only [List.length_cons, List.length_nil])
      (refine tkA 0 HK hS ?_; (try simp only [Act.put, lSet]); refine tkA 1 HK hS ?_; (try simp only [Act.put, lSet]); refine tkA 2 HK hS ?_; (try simp only [Act.put, lSet]); refine tkA 3 HK hS ?_; (try simp only [Act.put, lSet]); refine tkA 4 HK hS ?_; (try simp only [Act.put, lSet]); refine tkA 5 HK hS ?_; (try simp only [Act.put, lSet]); refine tkA 6 HK hS ?_; (try simp only [Act.put, lSet]); refine tkA 7 HK hS ?_; (try simp only [Act.put, lSet]); refine tkA 8 HK hS ?_; (try simp only [Act.put, lSet]); refine tkA 9 HK hS ?_; (try simp only [Act.put, lSet]); refine tkA 10 HK hS ?_; (try simp only [Act.put, lSet]); refine tkA 11 HK hS ?_; (try simp only [Act.put, lSet]); refine tkA 12 HK hS ?_; (try simp only [Act.put, lSet]); refine tkA 13 HK hS ?_; (try simp only [Act.put, lSet]); refine tkA 14 HK hS ?_; (try simp only [Act.put, lSet]); refine tkA 15 HK hS ?_; (try simp only [Act.put, lSet]); refine tkA 16 HK hS ?_; (try simp only [Act.put, lSet]); refine tkA 17 HK hS ?_; (try simp only [Act.put, lSet]); refine tkA 18 HK hS ?_; (try simp only [Act.put, lSet]); refine tkA 19 HK hS ?_; (try simp only [Act.put, lSet]); refine tkA 20 HK hS ?_; (try simp only [Act.put, lSet]); refine tkA 21 HK hS ?_; (try simp only [Act.put, lSet]))
      refine T_two (i := 22) (j := 27) rfl rfl (by kernel_rfl) rfl rfl (fun K hK => ?_) (fun K hK => ?_)
      ·go_simp
       refine (HR.out _ (by exact extA)).mono ?_
       rintro e w6 ⟨u0, u1, u2, rfl, h1, ho⟩
       obtain ⟨A6a, c6a, A6b, c6b, A6c, c6c, rfl, rfl, rfl⟩ := ho.forms
       have H6 := Lib.hid h1
       have hz6 := h1.size
       clear h1
       (try simp only [World.size_alloc, size_set, World.heap_drewN, size_drew] at hz6)
       have HO_ho := Lib.hid ho
       clear ho
       clear hS
       have hS : Ext W w6 := by exact extA
       go_wp2_with fail
       (refine hK.out _ _ (.inr hS) ?_; clear hK)
       (try simp only [Act.put, lSet])
       (refine tkP 23 ?_; (try simp only [Act.put, lSet]); refine tkP 24 ?_; (try simp only [Act.put, lSet]); refine tkP 25 ?_; (try simp only [Act.put, lSet]); refine tkP 26 ?_; (try simp only [Act.put, lSet]))
       clear hS
       refine T_only (i := 27) rfl (by kernel_rfl) rfl (fun K hK => ?_)
       go_simp
       refine hK.out _ _ (.inr (show Ext W _ by exact extA)) ?_
       clear hK
       (try simp only [Act.put, lSet])
       refine T_only (i := 28) rfl (by kernel_rfl) rfl (fun K hK => ?_)
       go_simp
       refine hK.out _ _ (.inr (show Ext W _ by exact extA)) ?_
       clear hK
       (try simp only [Act.put, lSet])
       refine T_only (i := 29) rfl (by kernel_rfl) rfl (fun K hK => ?_)
       go_simp
       refine hK.out _ _ (.inr (show Ext W _ by exact extA)) ?_
       clear hK
       (try simp only [Act.put, lSet])
       (refine T_only (i := 30) rfl (by kernel_rfl) rfl (fun K hK => ?_); go_simp; refine hK.out _ _ (.inl (by kernel_rfl)) ?_; clear hK; (try simp only [Act.put, lSet]); refine T_done (by kernel_rfl) ?_ _)
       go_wp2_with fail
       go_meet
       case rel => exact ⟨_, .slice A6a E0.length c6a, .slice A6b E1.length c6b, .slice A6c E2.length c6c, rfl, rfl, rfl, (show Ext w _ by exact extA), by omega, Row.newAt rfl, (HO_ho.out.alloc _).lower (by simp; omega)⟩
      ·go_simp
       refine hK.out _ _ (.inr (show Ext W _ by exact extA)) ?_
       clear hK
       (try simp only [Act.put, lSet])
       (refine T_only (i := 22) rfl (by kernel_rfl) rfl (fun K hK => ?_); go_simp)
       refine (HR.out _ (by exact extA)).mono ?_
       rintro e w6 ⟨u0, u1, u2, rfl, h1, ho⟩
       obtain ⟨A6a, c6a, A6b, c6b, A6c, c6c, rfl, rfl, rfl⟩ := ho.forms
       have H6 := Lib.hid h1
       have hz6 := h1.size
       clear h1
       (try simp only [World.size_alloc, size_set, World.heap_drewN, size_drew] at hz6)
       have HO_ho := Lib.hid ho
       clear ho
       clear hS
       have hS : Ext W w6 := by exact extA
       go_wp2_with fail
       (refine hK.out _ _ (.inr hS) ?_; clear hK)
       (try simp only [Act.put, lSet])
       (refine tkP 23 ?_; (try simp only [Act.put, lSet]); refine tkP 24 ?_; (try simp only [Act.put, lSet]); refine tkP 25 ?_; (try simp only [Act.put, lSet]); refine tkP 26 ?_; (try simp only [Act.put, lSet]))
       clear hS
       (apply Row.use (w := w6) (g := W.heap.size); (focus (exact rowA)); intro qn_0 fn_0 ln_0 Rn_0; (try simp only [lSet] at qn_0 Rn_0))
       refine T_only (i := 28) rfl (by kernel_rfl) rfl (fun K hK => ?_)
       go_simp
       refine hK.out _ _ (.inr (show Ext W _ by exact extA)) ?_
       clear hK
       (try simp only [Act.put, lSet])
       refine T_only (i := 29) rfl (by kernel_rfl) rfl (fun K hK => ?_)
       go_simp
       refine hK.out _ _ (.inr (show Ext W _ by exact extA)) ?_
       clear hK
       (try simp only [Act.put, lSet])
       (refine T_only (i := 30) rfl (by kernel_rfl) rfl (fun K hK => ?_); go_simp; refine hK.out _ _ (.inl (by kernel_rfl)) ?_; clear hK; (try simp only [Act.put, lSet]); refine T_done (by kernel_rfl) ?_ _)
       go_wp2_with fail
       have hsz3 : W.heap.size < (W.drew.alloc (.cells #[.slice none 0 0, .slice none 0 0, .slice none 0 0] 26)).heap.size := by simp
       go_meet
       case rel =>
        refine ⟨_, .slice A6a E0.length c6a, .slice A6b E1.length c6b, .slice A6c E2.length c6c, rfl, rfl, rfl, (show Ext w _ by exact extA), by omega, ?_, ?_⟩
        ·have := (((Rn_0.out).set_ (i := 0) (u := .slice A6a E0.length c6a)).set_ (i := 1) (u := .slice A6b E1.length c6b)).set_ (i := 2) (u := .slice A6c E2.length c6c)
         simpa using this
        ·exact (OwnLd.setC hsz3 (OwnLd.setC hsz3 (OwnLd.setC hsz3 HO_ho.out))).lower (by simp; omega)
     case rest =>
      obtain ⟨g5, u0, u1, u2, rfl, rfl, rfl, HX⟩ := hcut
      obtain ⟨he, hg5, hr5, ho5⟩ := HX.out
      have H1 := Lib.hid he
      have R5 := Lib.hid hr5
      have HO := Lib.hid ho5
      have hz1 := he.size
      have hl5 := hr5.1
      obtain ⟨D0, j0, D1, j1, D2, j2, rfl, rfl, rfl⟩ := ho5.forms
      have m2 : wc.cell? ⟨gb, n * 8 + 2, none⟩ = some (.int .i64 g.seq) := (he.cells gb _ hgb).trans k2
      have mf : wc.frozen? ⟨gb, n * 8 + 2, none⟩ = false := (he.frozs gb _ hgb).trans kf
      have hg5b : g5 ≠ gb := by omega
      have hg5p : g5 ≠ p := by omega
      have hgbw : gb < wc.heap.size := by omega
      clear HX he hr5 ho5 HR HC k0 k1 k2 kf
      (apply Row.use (w := wc) (g := p); (focus (exact rowA)); intro qc_0 fc_0 lc_0 Rc_0; (try simp only [lSet] at qc_0 Rc_0); apply Row.use (w := wc) (g := g5); (focus (exact rowA)); intro qc_1 fc_1 lc_1 Rc_1; (try simp only [lSet] at qc_1 Rc_1))
      by_cases h4 : E4 = 0
      ·subst h4
       have HQ2 := Lib.hid (show T = (⟨⟨E0, E1, E2⟩, s.denied, s.gates.set n ⟨g.id, g.zone, g.seq + 1, g.alone, g.denied, g.left, g.untl⟩, s.views⟩, E3, 0) by rw [HQ.out]; simp)
       clear HQ
       go_wp2_with fail
       go_ret2
       have hkc := ((HK.out.ext H1.out).ledger HO.out (by have := HK.out.ge; omega)).seq (n := n) HSG.out HN.out (g.seq + 1)
       rw [HQ2.out]
       have hee := HG.out
       subst hee
       exact ⟨rfl, Fr.setC hgl (Fr.setC hge (Fr.setC hge (Fr.setC hge (HF.out _ H1.out).1))), _, hkc⟩
      ·have h4b : (E4 == 0) = false := by simpa using h4
       have HQ2 := Lib.hid (show T = (s, E3, E4) by rw [HQ.out, if_pos h4])
       go_wp2_with fail
       go_ret2
       rw [HQ2.out]
       exact ⟨rfl, (HF.out _ (by exact extA)).1, y, (HF.out _ (by exact extA)).2⟩
end Go.Proofs.YteojjbhadgkfgaaGreat

/- A gate is put into its place in the gates' row. -/
namespace Go.Proofs.YteojjbhadgkfgaaGreat
set_option linter.unusedSimpArgs false
set_option linter.unusedVariables false
set_option maxRecDepth 100000
open Go Go.RowKit Lb

theorem own_put8 {base gb mm c n : Nat} {w : World} {ys : List Gy} (h : OwnL 52 8 gyc base w (.slice (some ⟨gb, 0, none⟩) mm c) ys) (hn : n < ys.length) (G : Gt) (sa si : Value) :
  OwnL 52 8 gyc base ((((((((w.setCell ⟨gb, n * 8, none⟩ (.int .i64 G.id)).setCell ⟨gb, n * 8 + 1, none⟩ (.int .i64 G.zone)).setCell ⟨gb, n * 8 + 2, none⟩ (.int .i64 G.seq)).setCell ⟨gb, n * 8 + 3, none⟩ sa).setCell ⟨gb, n * 8 + 4, none⟩ (.int .i64 G.denied.version)).setCell ⟨gb, n * 8 + 5, none⟩ si).setCell ⟨gb, n * 8 + 6, none⟩ (.int .i64 G.left)).setCell ⟨gb, n * 8 + 7, none⟩ (.int .i64 G.untl)) (.slice (some ⟨gb, 0, none⟩) mm c) (ys.set n ⟨G, sa, si⟩) := by
 have h0 : OwnL 52 8 gyc base (w.setCell ⟨gb, n * 8, none⟩ (.int .i64 G.id)) (.slice (some ⟨gb, 0, none⟩) mm c) (ys.set n ⟨⟨G.id, ys[n].g.zone, ys[n].g.seq, ys[n].g.alone, ⟨ys[n].g.denied.version, ys[n].g.denied.ids⟩, ys[n].g.left, ys[n].g.untl⟩, ys[n].sa, ys[n].si⟩) := by
  exact OwnL.put_field gyc_size h n 0 hn (by decide) _ _ rfl
 have h1 : OwnL 52 8 gyc base ((w.setCell ⟨gb, n * 8, none⟩ (.int .i64 G.id)).setCell ⟨gb, n * 8 + 1, none⟩ (.int .i64 G.zone)) (.slice (some ⟨gb, 0, none⟩) mm c) (ys.set n ⟨⟨G.id, G.zone, ys[n].g.seq, ys[n].g.alone, ⟨ys[n].g.denied.version, ys[n].g.denied.ids⟩, ys[n].g.left, ys[n].g.untl⟩, ys[n].sa, ys[n].si⟩) := by
  have := OwnL.put_field gyc_size h0 n 1 (by rw [List.length_set]; exact hn) (by decide) ⟨⟨G.id, G.zone, ys[n].g.seq, ys[n].g.alone, ⟨ys[n].g.denied.version, ys[n].g.denied.ids⟩, ys[n].g.left, ys[n].g.untl⟩, ys[n].sa, ys[n].si⟩ (.int .i64 G.zone) (by rw [List.getElem_set_self]; rfl)
  rwa [List.set_set] at this
 have h2 : OwnL 52 8 gyc base (((w.setCell ⟨gb, n * 8, none⟩ (.int .i64 G.id)).setCell ⟨gb, n * 8 + 1, none⟩ (.int .i64 G.zone)).setCell ⟨gb, n * 8 + 2, none⟩ (.int .i64 G.seq)) (.slice (some ⟨gb, 0, none⟩) mm c) (ys.set n ⟨⟨G.id, G.zone, G.seq, ys[n].g.alone, ⟨ys[n].g.denied.version, ys[n].g.denied.ids⟩, ys[n].g.left, ys[n].g.untl⟩, ys[n].sa, ys[n].si⟩) := by
  have := OwnL.put_field gyc_size h1 n 2 (by rw [List.length_set]; exact hn) (by decide) ⟨⟨G.id, G.zone, G.seq, ys[n].g.alone, ⟨ys[n].g.denied.version, ys[n].g.denied.ids⟩, ys[n].g.left, ys[n].g.untl⟩, ys[n].sa, ys[n].si⟩ (.int .i64 G.seq) (by rw [List.getElem_set_self]; rfl)
  rwa [List.set_set] at this
 have h3 : OwnL 52 8 gyc base ((((w.setCell ⟨gb, n * 8, none⟩ (.int .i64 G.id)).setCell ⟨gb, n * 8 + 1, none⟩ (.int .i64 G.zone)).setCell ⟨gb, n * 8 + 2, none⟩ (.int .i64 G.seq)).setCell ⟨gb, n * 8 + 3, none⟩ sa) (.slice (some ⟨gb, 0, none⟩) mm c) (ys.set n ⟨⟨G.id, G.zone, G.seq, G.alone, ⟨ys[n].g.denied.version, ys[n].g.denied.ids⟩, ys[n].g.left, ys[n].g.untl⟩, sa, ys[n].si⟩) := by
  have := OwnL.put_field gyc_size h2 n 3 (by rw [List.length_set]; exact hn) (by decide) ⟨⟨G.id, G.zone, G.seq, G.alone, ⟨ys[n].g.denied.version, ys[n].g.denied.ids⟩, ys[n].g.left, ys[n].g.untl⟩, sa, ys[n].si⟩ sa (by rw [List.getElem_set_self]; rfl)
  rwa [List.set_set] at this
 have h4 : OwnL 52 8 gyc base (((((w.setCell ⟨gb, n * 8, none⟩ (.int .i64 G.id)).setCell ⟨gb, n * 8 + 1, none⟩ (.int .i64 G.zone)).setCell ⟨gb, n * 8 + 2, none⟩ (.int .i64 G.seq)).setCell ⟨gb, n * 8 + 3, none⟩ sa).setCell ⟨gb, n * 8 + 4, none⟩ (.int .i64 G.denied.version)) (.slice (some ⟨gb, 0, none⟩) mm c) (ys.set n ⟨⟨G.id, G.zone, G.seq, G.alone, ⟨G.denied.version, ys[n].g.denied.ids⟩, ys[n].g.left, ys[n].g.untl⟩, sa, ys[n].si⟩) := by
  have := OwnL.put_field gyc_size h3 n 4 (by rw [List.length_set]; exact hn) (by decide) ⟨⟨G.id, G.zone, G.seq, G.alone, ⟨G.denied.version, ys[n].g.denied.ids⟩, ys[n].g.left, ys[n].g.untl⟩, sa, ys[n].si⟩ (.int .i64 G.denied.version) (by rw [List.getElem_set_self]; rfl)
  rwa [List.set_set] at this
 have h5 : OwnL 52 8 gyc base ((((((w.setCell ⟨gb, n * 8, none⟩ (.int .i64 G.id)).setCell ⟨gb, n * 8 + 1, none⟩ (.int .i64 G.zone)).setCell ⟨gb, n * 8 + 2, none⟩ (.int .i64 G.seq)).setCell ⟨gb, n * 8 + 3, none⟩ sa).setCell ⟨gb, n * 8 + 4, none⟩ (.int .i64 G.denied.version)).setCell ⟨gb, n * 8 + 5, none⟩ si) (.slice (some ⟨gb, 0, none⟩) mm c) (ys.set n ⟨⟨G.id, G.zone, G.seq, G.alone, ⟨G.denied.version, G.denied.ids⟩, ys[n].g.left, ys[n].g.untl⟩, sa, si⟩) := by
  have := OwnL.put_field gyc_size h4 n 5 (by rw [List.length_set]; exact hn) (by decide) ⟨⟨G.id, G.zone, G.seq, G.alone, ⟨G.denied.version, G.denied.ids⟩, ys[n].g.left, ys[n].g.untl⟩, sa, si⟩ si (by rw [List.getElem_set_self]; rfl)
  rwa [List.set_set] at this
 have h6 : OwnL 52 8 gyc base (((((((w.setCell ⟨gb, n * 8, none⟩ (.int .i64 G.id)).setCell ⟨gb, n * 8 + 1, none⟩ (.int .i64 G.zone)).setCell ⟨gb, n * 8 + 2, none⟩ (.int .i64 G.seq)).setCell ⟨gb, n * 8 + 3, none⟩ sa).setCell ⟨gb, n * 8 + 4, none⟩ (.int .i64 G.denied.version)).setCell ⟨gb, n * 8 + 5, none⟩ si).setCell ⟨gb, n * 8 + 6, none⟩ (.int .i64 G.left)) (.slice (some ⟨gb, 0, none⟩) mm c) (ys.set n ⟨⟨G.id, G.zone, G.seq, G.alone, ⟨G.denied.version, G.denied.ids⟩, G.left, ys[n].g.untl⟩, sa, si⟩) := by
  have := OwnL.put_field gyc_size h5 n 6 (by rw [List.length_set]; exact hn) (by decide) ⟨⟨G.id, G.zone, G.seq, G.alone, ⟨G.denied.version, G.denied.ids⟩, G.left, ys[n].g.untl⟩, sa, si⟩ (.int .i64 G.left) (by rw [List.getElem_set_self]; rfl)
  rwa [List.set_set] at this
 have h7 : OwnL 52 8 gyc base ((((((((w.setCell ⟨gb, n * 8, none⟩ (.int .i64 G.id)).setCell ⟨gb, n * 8 + 1, none⟩ (.int .i64 G.zone)).setCell ⟨gb, n * 8 + 2, none⟩ (.int .i64 G.seq)).setCell ⟨gb, n * 8 + 3, none⟩ sa).setCell ⟨gb, n * 8 + 4, none⟩ (.int .i64 G.denied.version)).setCell ⟨gb, n * 8 + 5, none⟩ si).setCell ⟨gb, n * 8 + 6, none⟩ (.int .i64 G.left)).setCell ⟨gb, n * 8 + 7, none⟩ (.int .i64 G.untl)) (.slice (some ⟨gb, 0, none⟩) mm c) (ys.set n ⟨⟨G.id, G.zone, G.seq, G.alone, ⟨G.denied.version, G.denied.ids⟩, G.left, G.untl⟩, sa, si⟩) := by
  have := OwnL.put_field gyc_size h6 n 7 (by rw [List.length_set]; exact hn) (by decide) ⟨⟨G.id, G.zone, G.seq, G.alone, ⟨G.denied.version, G.denied.ids⟩, G.left, G.untl⟩, sa, si⟩ (.int .i64 G.untl) (by rw [List.getElem_set_self]; rfl)
  rwa [List.set_set] at this
 exact h7
theorem Kp.put {base p gb m c n : Nat} {w : World} {y : Sv} {s : St} (hk : Kp base w p y s) (hsg : y.sg = .slice (some ⟨gb, 0, none⟩) m c) (hn : n < s.gates.length) (G : Gt) (sa si : Value) (hG : GyO base w ⟨G, sa, si⟩) :
  Kp base ((((((((w.setCell ⟨gb, n * 8, none⟩ (.int .i64 G.id)).setCell ⟨gb, n * 8 + 1, none⟩ (.int .i64 G.zone)).setCell ⟨gb, n * 8 + 2, none⟩ (.int .i64 G.seq)).setCell ⟨gb, n * 8 + 3, none⟩ sa).setCell ⟨gb, n * 8 + 4, none⟩ (.int .i64 G.denied.version)).setCell ⟨gb, n * 8 + 5, none⟩ si).setCell ⟨gb, n * 8 + 6, none⟩ (.int .i64 G.left)).setCell ⟨gb, n * 8 + 7, none⟩ (.int .i64 G.untl)) p y ⟨s.ledger, s.denied, s.gates.set n G, s.views⟩ := by
 have hf : Fr (fun q => q = gb) w ((((((((w.setCell ⟨gb, n * 8, none⟩ (.int .i64 G.id)).setCell ⟨gb, n * 8 + 1, none⟩ (.int .i64 G.zone)).setCell ⟨gb, n * 8 + 2, none⟩ (.int .i64 G.seq)).setCell ⟨gb, n * 8 + 3, none⟩ sa).setCell ⟨gb, n * 8 + 4, none⟩ (.int .i64 G.denied.version)).setCell ⟨gb, n * 8 + 5, none⟩ si).setCell ⟨gb, n * 8 + 6, none⟩ (.int .i64 G.left)).setCell ⟨gb, n * 8 + 7, none⟩ (.int .i64 G.untl)) := Fr.setC rfl (Fr.setC rfl (Fr.setC rfl (Fr.setC rfl (Fr.setC rfl (Fr.setC rfl (Fr.setC rfl (Fr.setC rfl (Fr.refl _ _))))))))
 refine hk.gates (fun _ => ⟨G, sa, si⟩) hsg hn hf (fun ys h hl => own_put8 h hl G sa si) (fun x hx h => ?_) G (fun _ _ => rfl)
 obtain ⟨ys, -, hrow, -⟩ := hk.own.gt
 rw [hsg] at hrow
 obtain ⟨cs, hbx⟩ := hrow.bx gb rfl
 exact hG.keep hf (by rintro q rfl; exact ⟨_, _, hbx, by decide⟩)
end Go.Proofs.YteojjbhadgkfgaaGreat

/- A station's keeper: a tap. -/
namespace Go.Proofs.YteojjbhadgkfgaaGreat
set_option linter.unusedSimpArgs false
set_option linter.unusedVariables false
set_option maxRecDepth 100000
open Go Go.RowKit Lb

set_option maxHeartbeats 16000000 in
theorem skeeper_tap (s : St) (y : Sv) (id n time : Int) (p base : Nat) (w : World) (hk : Kp base w p y s) (rs : RightS s) :
  Calls Tryz.prog 103 #[.pointer (some ⟨p, 0, none⟩), .int .i64 id, .int .i64 n, .int .i64 time] w fun e w' => e = .returned (.tuple #[.int .i64 (tapS s id n time).2.1, .int .i64 (tapS s id n time).2.2]) ∧ Fr (fun q => base ≤ q) w w' ∧ ∃ y', Kp base w' p y' (tapS s id n time).1 := by
 have HF := Lib.hid (fun (w' : World) (h : Ext w w') => And.intro (Fr.ofExt (own := fun q => base ≤ q) h) (hk.ext h))
 have HK := Lib.hid hk
 have HRS := Lib.hid rs
 obtain ⟨hbx, hge, ho⟩ := hk
 have hn3 := rs.len
 have K1 := Lib.hid (fun (w' : World) (h : Ext w w') => ledger_Find s.ledger.tickets id y.s0 w' ((ho.tk.rd tkc_size).ext h))
 have KL := Lib.hid (fun (w' : World) (h : Ext w w') => keeper_led s y p w' (Row.ext h hbx.row) ((ho.vw.rd vwc_size).ext h) rs.views)
 have hst : tapS s id n time = if within n 0 2 = false then (s, 0, 3)
  else match ticketOf s.ledger.tickets id with
   | none => (s, 0, 5)
   | some t => if led s = true ∧ (s.gates[n.toNat]!).alone.length = 0 then onlineS s t (s.gates[n.toNat]!) n.toNat time else aloneS s t (s.gates[n.toNat]!) n.toNat time := rfl
 generalize tapS s id n time = T at *
 have HST := Lib.hid hst
 obtain ⟨B0, b0, hB0⟩ := ho.tk.form
 obtain ⟨B1, b1, hB1⟩ := ho.tp.form
 obtain ⟨B2, b2, hB2⟩ := ho.vd.form
 obtain ⟨B3, b3, hB3⟩ := ho.dn.form
 obtain ⟨B5, b5, hB5⟩ := ho.vw.form
 obtain ⟨ys, hys, hrow, hin⟩ := ho.gt
 have hy3 : ys.length = 3 := by rw [hys] at hn3; simpa using hn3
 obtain ⟨gb, c, hsg, hgl, hgb, h3c⟩ := hrow.slot (by omega)
 rw [hy3] at hsg h3c
 have hc3 : (3 : Int) ≤ (c : Int) := by omega
 have HSG := Lib.hid hsg
 have HTK := Lib.hid ho.tk
 have HROW := Lib.hid (And.intro hys (And.intro hrow hin))
 have RB := Lib.hid hbx.row
 have hpw := hbx.lt
 unfold sta at RB
 rw [hB0, hB1, hB2, hB3, hB5, hsg] at RB
 rw [hB0] at K1
 have HB0 := Lib.hid hB0
 have HN3 := Lib.hid (And.intro hn3 hy3)
 obtain ⟨qp, fp, lp⟩ : (∀ o, w.cell? ⟨p, o, none⟩ = _) ∧ (∀ o, w.frozen? ⟨p, o, none⟩ = false) ∧ p < w.heap.size := ⟨RB.out.2.1, RB.out.2.2, RB.out.1⟩
 have hgp : gb ≠ p := fun h => hrow.rowS.box hbx (by decide) (by rw [hsg, ← h]; rfl)
 clear hst hbx ho hys hrow hin hsg hn3 hy3 h3c rs hB0 hB1 hB2 hB3 hB5
 go_enter Tryz.func103, Tryz.ntmps103
 by_cases hn0 : n < 0
 ·have HQ := Lib.hid (show T = (s, 0, 3) by rw [HST.out]; simp [within, show ¬ 0 ≤ n by omega])
  go_wp2_with fail
  go_ret2
  rw [HQ.out]
  exact ⟨rfl, (HF.out _ (by exact extA)).1, y, (HF.out _ (by exact extA)).2⟩
 by_cases hn2 : n ≥ 3
 ·have HQ := Lib.hid (show T = (s, 0, 3) by rw [HST.out]; simp [within, show ¬ n ≤ 2 by omega])
  go_wp2_with fail
  go_ret2
  rw [HQ.out]
  exact ⟨rfl, (HF.out _ (by exact extA)).1, y, (HF.out _ (by exact extA)).2⟩
 obtain ⟨m, rfl⟩ : ∃ m : Nat, n = m := ⟨n.toNat, by omega⟩
 have hm3 : m < 3 := by omega
 have hmi : (m : Int) < (3 : Int) := by omega
 have hmg : m < s.gates.length := by rw [HN3.out.1]; exact hm3
 have hwm : within (m : Int) 0 2 = true := by simp [within]; omega
 rcases ixBy_ticket s.ledger.tickets id with ⟨hix, htk⟩ | ⟨k, hkl, hix, htk⟩
 ·have HQ := Lib.hid (show T = (s, 0, 5) by rw [HST.out, htk]; simp [hwm])
  rw [hix] at K1
  clear hix htk hwm hmg
  go_wp2_with fail
  (refine (K1.out _ (by exact extA)).mono ?_; rintro e w1 ⟨rfl, h1⟩; have H1 := Lib.hid h1; have hz1 := h1.size; clear h1; (try simp only [World.size_alloc, size_set, World.heap_drewN, size_drew] at hz1); apply Row.use (w := w1) (g := p); (focus (exact rowA)); intro q1_0 f1_0 l1_0 R1_0; (try simp only [lSet] at q1_0 R1_0))
  go_wp2_with fail
  go_ret2
  rw [HQ.out]
  exact ⟨rfl, (HF.out _ (by exact extA)).1, y, (HF.out _ (by exact extA)).2⟩
 ·have HQ := Lib.hid (show T = if led s = true ∧ s.gates[m].alone.length = 0 then onlineS s s.ledger.tickets[k] s.gates[m] m time else aloneS s s.ledger.tickets[k] s.gates[m] m time by
   rw [HST.out, htk]; simp only [hwm, Bool.true_eq_false, if_false, Int.toNat_natCast]; rw [bang_get hmg])
  rw [hix] at K1
  have hs0 := HTK.out
  obtain ⟨ga, ca, hA, -, hga, hka⟩ := hs0.slot (by omega)
  rw [HB0.out] at hA
  injection hA with hA1 hA2 hA3
  subst hA1
  have hkc : (k : Int) < (b0 : Int) := by omega
  rw [HB0.out] at hs0
  have htr : ckTicket s.ledger.tickets[k] = 0 := tickets_mem (right_iff.1 HRS.out.ledger).2.2.2.1 _ (List.getElem_mem hkl)
  have j0 : w.cell? ⟨ga, k * 6, none⟩ = some (.int .i64 s.ledger.tickets[k].id) := (OwnL.field tkc_size hs0 k 0 hkl (by decide) _ rfl).1
  have j1 : w.cell? ⟨ga, k * 6 + 1, none⟩ = some (.int .i64 s.ledger.tickets[k].kind) := (OwnL.field tkc_size hs0 k 1 hkl (by decide) _ rfl).1
  have j2 : w.cell? ⟨ga, k * 6 + 2, none⟩ = some (.int .i64 s.ledger.tickets[k].frm) := (OwnL.field tkc_size hs0 k 2 hkl (by decide) _ rfl).1
  have j3 : w.cell? ⟨ga, k * 6 + 3, none⟩ = some (.int .i64 s.ledger.tickets[k].til) := (OwnL.field tkc_size hs0 k 3 hkl (by decide) _ rfl).1
  have j4 : w.cell? ⟨ga, k * 6 + 4, none⟩ = some (.int .i64 s.ledger.tickets[k].zones) := (OwnL.field tkc_size hs0 k 4 hkl (by decide) _ rfl).1
  have j5 : w.cell? ⟨ga, k * 6 + 5, none⟩ = some (.int .i64 s.ledger.tickets[k].rides) := (OwnL.field tkc_size hs0 k 5 hkl (by decide) _ rfl).1
  have hkl' : (k : Int) < (s.ledger.tickets.length : Int) := by omega
  generalize s.ledger.tickets[k] = t at *
  have HTR := Lib.hid htr
  clear hs0 hix htk hwm hka hA2 hA3 htr
  go_wp2_with fail
  (refine (K1.out _ (by exact extA)).mono ?_; rintro e w1 ⟨rfl, h1⟩; have H1 := Lib.hid h1; have hz1 := h1.size; clear h1; (try simp only [World.size_alloc, size_set, World.heap_drewN, size_drew] at hz1); apply Row.use (w := w1) (g := p); (focus (exact rowA)); intro q1_0 f1_0 l1_0 R1_0; (try simp only [lSet] at q1_0 R1_0))
  go_upto_region 6 with fail
  (apply wp_gen1 (w0 := w) (g0 := p); (focus (exact rowA)); (focus (exact extA)); intro W HW hzW Ra_0; (try simp only [lSet, World.size_alloc, size_set, World.heap_drewN, size_drew] at hzW Ra_0); have la_0 := Ra_0.out.size)
  have HK := Lib.hid (fun (w' : World) (h : Ext W w') => And.intro (Row.ext h Ra_0.out).2.1 (And.intro (((HW.out.trans h).cells _ _ hga).trans j0) (And.intro (((HW.out.trans h).cells _ _ hga).trans j1) (And.intro (((HW.out.trans h).cells _ _ hga).trans j2) (And.intro (((HW.out.trans h).cells _ _ hga).trans j3) (And.intro (((HW.out.trans h).cells _ _ hga).trans j4) ((((HW.out.trans h).cells _ _ hga).trans j5))))))))
  (refine T_begin (fun w' => Ext W w') 18 (by kernel_rfl) ((Ext.refl _).drew) (fun hS => ?_); simp only [List.length_cons, List.length_nil])
  (refine tkA 0 HK hS ?_; (try simp only [Act.put, lSet]); refine tkA 1 HK hS ?_; (try simp only [Act.put, lSet]); refine tkA 2 HK hS ?_; (try simp only [Act.put, lSet]); refine tkA 3 HK hS ?_; (try simp only [Act.put, lSet]); refine tkA 4 HK hS ?_; (try simp only [Act.put, lSet]); refine tkA 5 HK hS ?_; (try simp only [Act.put, lSet]); refine tkA 6 HK hS ?_; (try simp only [Act.put, lSet]); refine tkA 7 HK hS ?_; (try simp only [Act.put, lSet]); refine tkA 8 HK hS ?_; (try simp only [Act.put, lSet]); refine tkA 9 HK hS ?_; (try simp only [Act.put, lSet]); refine tkA 10 HK hS ?_; (try simp only [Act.put, lSet]); refine tkA 11 HK hS ?_; (try simp only [Act.put, lSet]); refine tkA 12 HK hS ?_; (try simp only [Act.put, lSet]); refine tkA 13 HK hS ?_; (try simp only [Act.put, lSet]); refine tkA 14 HK hS ?_; (try simp only [Act.put, lSet]); refine tkA 15 HK hS ?_; (try simp only [Act.put, lSet]))
  refine T_only (i := 16) rfl (by kernel_rfl) rfl (fun K hK => ?_)
  go_simp
  refine hK.out _ _ (.inr (show Ext W _ by exact extA)) ?_
  clear hK
  (try simp only [Act.put, lSet])
  refine T_only (i := 17) rfl (by kernel_rfl) rfl (fun K hK => ?_)
  go_simp
  refine hK.out _ _ (.inr (show Ext W _ by exact extA)) ?_
  clear hK
  (try simp only [Act.put, lSet])
  (refine T_only (i := 18) rfl (by kernel_rfl) rfl (fun K hK => ?_); go_simp; refine hK.out _ _ (.inl (by kernel_rfl)) ?_; clear hK; (try simp only [Act.put, lSet]); refine T_done (by kernel_rfl) ?_ _)
  clear HK
  go_upto_region 7 with fail
  (apply wp_gen2 (w0 := w) (g0 := W.heap.size) (g1 := p); (focus (exact rowA)); (focus (exact rowA)); (focus (exact extA)); intro X HX hzX Rx_0 Rx_1; (try simp only [lSet, World.size_alloc, size_set, World.heap_drewN, size_drew] at hzX Rx_0 Rx_1); have lx_0 := Rx_0.out.size; have lx_1 := Rx_1.out.size)
  have hXs := HX.out.size
  have HWY := Lib.hid (And.intro trivial HX.out)
  (apply Row.use (w := X) (g := W.heap.size); (focus (exact rowA)); intro qx_0 fx_0 lx_0 Rx_0; (try simp only [lSet] at qx_0 Rx_0); apply Row.use (w := X) (g := p); (focus (exact rowA)); intro qx_1 fx_1 lx_1 Rx_1; (try simp only [lSet] at qx_1 Rx_1))
  obtain ⟨sa, si, ra, rd, g0, g1, g2, g3, g4, g5, g6, g7⟩ : ∃ sa si, RdL 5 tpc w sa s.gates[m].alone ∧ RdL 1 inc w si s.gates[m].denied.ids ∧ w.cell? ⟨gb, m * 8, none⟩ = some (.int .i64 s.gates[m].id) ∧ w.cell? ⟨gb, m * 8 + 1, none⟩ = some (.int .i64 s.gates[m].zone) ∧ w.cell? ⟨gb, m * 8 + 2, none⟩ = some (.int .i64 s.gates[m].seq) ∧ w.cell? ⟨gb, m * 8 + 3, none⟩ = some sa ∧
    w.cell? ⟨gb, m * 8 + 4, none⟩ = some (.int .i64 s.gates[m].denied.version) ∧ w.cell? ⟨gb, m * 8 + 5, none⟩ = some si ∧ w.cell? ⟨gb, m * 8 + 6, none⟩ = some (.int .i64 s.gates[m].left) ∧ w.cell? ⟨gb, m * 8 + 7, none⟩ = some (.int .i64 s.gates[m].untl) := by
   obtain ⟨hys, hrow, hin⟩ := HROW.out
   have hm' : m < ys.length := by rw [HN3.out.2]; exact hm3
   have hgg : s.gates[m] = ys[m].g := by simp [hys]
   have hr := HSG.out ▸ hrow
   have hy := hin ys[m] (List.getElem_mem hm')
   rw [hgg]
   exact ⟨ys[m].sa, ys[m].si, hy.1.rd tpc_size, hy.2.rd inc_size, (OwnL.field gyc_size hr m 0 hm' (by decide) _ rfl).1, (OwnL.field gyc_size hr m 1 hm' (by decide) _ rfl).1, (OwnL.field gyc_size hr m 2 hm' (by decide) _ rfl).1, (OwnL.field gyc_size hr m 3 hm' (by decide) _ rfl).1, (OwnL.field gyc_size hr m 4 hm' (by decide) _ rfl).1, (OwnL.field gyc_size hr m 5 hm' (by decide) _ rfl).1, (OwnL.field gyc_size hr m 6 hm' (by decide) _ rfl).1, (OwnL.field gyc_size hr m 7 hm' (by decide) _ rfl).1⟩
  have HFZ := Lib.hid (show ∀ i, i < 8 → w.frozen? ⟨gb, m * 8 + i, none⟩ = false by
   intro i hi
   obtain ⟨hys, hrow, hin⟩ := HROW.out
   have hm' : m < ys.length := by rw [HN3.out.2]; exact hm3
   have hz : i < (gyc ys[m]).size := hi
   exact (OwnL.field gyc_size (HSG.out ▸ hrow) m i hm' hi _ (Array.getElem?_eq_getElem hz)).2)
  have HKK := HF.out X HX.out
  have KO := Lib.hid (fun (w' : World) (h : Ext w w') => keeper_online s y t m time gb c p base w' (HF.out w' h).2 HRS.out hmg (by rw [HN3.out.1]; exact HSG.out))
  have KR := Lib.hid (fun (w' : World) (h : Ext w w') => gate_Raw s.gates[m] sa si t time w' (HRS.out.gates m hmg).1 HTR.out (ra.ext h) (rd.ext h))
  obtain ⟨A8, c8, rfl, -, -⟩ := ra.form
  obtain ⟨A9, c9, rfl, -, -⟩ := rd.form
  have HMG := Lib.hid hmg
  have HAS := Lib.hid (show aloneS s t s.gates[m] m time = if (tapG s.gates[m] t time).2.2 ≠ 0 then (s, 0, (tapG s.gates[m] t time).2.2) else (⟨s.ledger, s.denied, s.gates.set m (tapG s.gates[m] t time).1, s.views⟩, 0, 0) from rfl)
  generalize tapG s.gates[m] t time = RT at *
  obtain ⟨G, P, e0⟩ := RT
  generalize aloneS s t s.gates[m] m time = TA at *
  generalize onlineS s t s.gates[m] m time = TO at *
  generalize hgm : s.gates[m] = g at *
  have HGM := Lib.hid hgm
  clear hgm hmg ra rd HKK
  generalize hld : led s = z at *
  clear hld
  obtain ⟨x0, x1, x2, al, ⟨gv, gi⟩, x6, x7⟩ := g
  simp only at g0 g1 g2 g3 g4 g5 g6 g7 HQ KR HAS
  have m3 := (HX.out.cells gb _ hgb).trans g3
  go_wp2_with fail
  refine (KL.out _ (by exact extA)).mono ?_
  rintro e w2 ⟨rfl, h2⟩
  have H2 := Lib.hid h2
  have H2W := Lib.hid (And.intro trivial (HX.out.trans h2))
  have hz2 := h2.size
  have hs2 := H2W.out.2.size
  clear h2
  (apply Row.use (w := w2) (g := W.heap.size); (focus (exact rowA)); intro qy_0 fy_0 ly_0 Ry_0; (try simp only [lSet] at qy_0 Ry_0); apply Row.use (w := w2) (g := p); (focus (exact rowA)); intro qy_1 fy_1 ly_1 Ry_1; (try simp only [lSet] at qy_1 Ry_1))
  have k3 := (H2W.out.2.cells gb _ hgb).trans g3
  clear m3
  cases z
  ·have HQ2 := Lib.hid (show T = TA by rw [HQ.out]; simp)
   clear HQ
   go_upto_region 9 with fail
   go_cut [13, 14, 15] (fun s13 s14 s15 wx => ∃ g5 C1 f1 C2 f2, s13 = .pointer (some ⟨g5, 0, none⟩) ∧ s15 = .int .i64 e0 ∧ Aside (Ext w2 wx ∧ w2.heap.size ≤ g5 ∧ Row wx g5 (gta G (.slice C1 G.alone.length f1) (.slice C2 G.denied.ids.length f2)) ∧ OwnL 57 5 tpc w2.heap.size wx (.slice C1 G.alone.length f1) G.alone ∧ OwnL 3 1 inc w2.heap.size wx (.slice C2 G.denied.ids.length f2) G.denied.ids))
   case first =>
    have hgb2 : gb < w2.heap.size := by omega
    have k0 := (H2W.out.2.cells gb _ hgb).trans g0
    have k1 := (H2W.out.2.cells gb _ hgb).trans g1
    have k2 := (H2W.out.2.cells gb _ hgb).trans g2
    have k4 := (H2W.out.2.cells gb _ hgb).trans g4
    have k5 := (H2W.out.2.cells gb _ hgb).trans g5
    have k6 := (H2W.out.2.cells gb _ hgb).trans g6
    have k7 := (H2W.out.2.cells gb _ hgb).trans g7
    (apply wp_gen2 (w0 := w2) (g0 := W.heap.size) (g1 := p); (focus (exact rowA)); (focus (exact rowA)); (focus (exact extA)); intro Y HY hzY Rz_0 Rz_1; (try simp only [lSet, World.size_alloc, size_set, World.heap_drewN, size_drew] at hzY Rz_0 Rz_1); have lz_0 := Rz_0.out.size; have lz_1 := Rz_1.out.size)
    have HWY := Lib.hid (And.intro trivial (H2W.out.2.trans HY.out))
    have HK := Lib.hid (fun (w' : World) (h : Ext Y w') => And.intro (Row.ext h Rz_0.out).2.1 (And.intro (((HY.out.trans h).cells _ _ hgb2).trans k0) (And.intro (((HY.out.trans h).cells _ _ hgb2).trans k1) (And.intro (((HY.out.trans h).cells _ _ hgb2).trans k2) (And.intro (((HY.out.trans h).cells _ _ hgb2).trans k3) (And.intro (((HY.out.trans h).cells _ _ hgb2).trans k4) (And.intro (((HY.out.trans h).cells _ _ hgb2).trans k5) (And.intro (((HY.out.trans h).cells _ _ hgb2).trans k6) ((((HY.out.trans h).cells _ _ hgb2).trans k7))))))))))
    (refine T_begin (fun w' => Ext Y w') 14 (by kernel_rfl) ((Ext.refl _).drew) (fun hS => ?_); simp only [List.length_cons, List.length_nil])
    (refine tkA 0 HK hS ?_; (try simp only [Act.put, lSet]); refine tkA 1 HK hS ?_; (try simp only [Act.put, lSet]); refine tkA 2 HK hS ?_; (try simp only [Act.put, lSet]); refine tkA 3 HK hS ?_; (try simp only [Act.put, lSet]); refine tkA 4 HK hS ?_; (try simp only [Act.put, lSet]))
    try clear HF
    try clear HRS
    try clear HSG
    try clear HTK
    try clear HROW
    try clear HN3
    try clear HTR
    try clear KO
    try clear KL
    try clear HAS
    try clear HQ2
    try clear HST
    try clear HB0
    try clear RB
    try clear HFZ
    try clear HMG
    try clear HGM
    try clear qp
    try clear fp
    try clear lp
    try clear hge
    try clear hgl
    try clear hc3
    try clear hpw
    try clear hgp
    try clear hm3
    try clear hmi
    try clear hkl
    try clear hga
    try clear hkc
    try clear hkl'
    try clear hal
    try clear halb
    try clear hn0
    try clear hn2
    try clear hgb2
    try clear hgb
    try clear HC
    try clear hwm
    try clear hmg
    try clear g0
    try clear g1
    try clear g2
    try clear g3
    try clear g4
    try clear g5
    try clear g6
    try clear g7
    try clear k0
    try clear k1
    try clear k2
    try clear k3
    try clear k4
    try clear k5
    try clear k6
    try clear k7
    try clear j0
    try clear j1
    try clear j2
    try clear j3
    try clear j4
    try clear j5
    try clear qa_0
    try clear fa_0
    try clear la_0
    try clear Ra_0
    try clear qx_0
    try clear fx_0
    try clear lx_0
    try clear Rx_0
    try clear qx_1
    try clear fx_1
    try clear lx_1
    try clear Rx_1
    try clear qy_0
    try clear fy_0
    try clear ly_0
    try clear Ry_0
    try clear qy_1
    try clear fy_1
    try clear ly_1
    try clear Ry_1
    try clear q1_0
    try clear f1_0
    try clear l1_0
    try clear R1_0
    try clear qz_0
    try clear fz_0
    try clear lz_0
    try clear Rz_0
    try clear qz_1
    try clear fz_1
    try clear lz_1
    try clear Rz_1
    try clear hXs
    try clear hz1
    try clear hs2
    try clear hW
    try clear hzW
    try clear hzX
    obtain ⟨G0, G1, G2, G3, ⟨G4, G5⟩, G6, G7⟩ := G
    obtain ⟨P0, P1, P2, P3, P4⟩ := P
    simp only [gta, show tpc ⟨P0, P1, P2, P3, P4⟩ = #[.int .i64 P0, .int .i64 P1, .int .i64 P2, .int .i64 P3, .int .i64 P4] from rfl] at KR
    have hYw := HY.out.size
    refine T_three (i := 5) (j := 10) (k := 11) rfl rfl rfl (by kernel_rfl) rfl rfl rfl (fun K hK => ?_) (fun K hK => ?_) (fun K hK => ?_)
    ·go_simp
     refine (KR.out _ (HWY.out.2.trans (by exact extA))).mono ?_
     rintro e w6 ⟨sa, si, rfl, h1, o1, o2⟩
     obtain ⟨C8, f8, rfl⟩ := o1.form
     obtain ⟨C9, f9, rfl⟩ := o2.form
     have H6 := Lib.hid h1
     have hz6 := h1.size
     clear h1
     (try simp only [World.size_alloc, size_set, World.heap_drewN, size_drew] at hz6 o1 o2)
     have HOA := Lib.hid o1
     have HOI := Lib.hid o2
     clear o1 o2 hS
     have hS : Ext Y w6 := by exact extA
     go_wp2_with fail
     (refine hK.out _ _ (.inr hS) ?_; clear hK)
     (try simp only [Act.put, lSet])
     (refine tkP 6 ?_; (try simp only [Act.put, lSet]); refine tkP 7 ?_; (try simp only [Act.put, lSet]); refine tkP 8 ?_; (try simp only [Act.put, lSet]); refine tkP 9 ?_; (try simp only [Act.put, lSet]))
     clear hS
     refine T_two (i := 10) (j := 11) rfl rfl (by kernel_rfl) rfl rfl (fun K hK => ?_) (fun K hK => ?_)
     ·go_simp
      refine hK.out _ _ (.inr (show Ext Y _ by exact extA)) ?_
      clear hK
      (try simp only [Act.put, lSet])
      refine T_only (i := 11) rfl (by kernel_rfl) rfl (fun K hK => ?_)
      go_simp
      refine hK.out _ _ (.inr (show Ext Y _ by exact extA)) ?_
      clear hK
      (try simp only [Act.put, lSet])
      refine T_only (i := 12) rfl (by kernel_rfl) rfl (fun K hK => ?_)
      go_simp
      refine hK.out _ _ (.inr (show Ext Y _ by exact extA)) ?_
      clear hK
      (try simp only [Act.put, lSet])
      refine T_only (i := 13) rfl (by kernel_rfl) rfl (fun K hK => ?_)
      go_simp
      refine hK.out _ _ (.inr (show Ext Y _ by exact extA)) ?_
      clear hK
      (try simp only [Act.put, lSet])
      (refine T_only (i := 14) rfl (by kernel_rfl) rfl (fun K hK => ?_); go_simp; refine hK.out _ _ (.inl (by kernel_rfl)) ?_; clear hK; (try simp only [Act.put, lSet]); refine T_done (by kernel_rfl) ?_ _)
      go_wp2_with fail
      go_meet
      case rel =>
       exact ⟨w6.heap.size, C8, f8, C9, f9, rfl, rfl, (show Ext w2 _ by exact extA), by omega, rowC (Row.alloc (Row.newAt rfl)) (by simp only [gta, lSet]), ((HOA.out.alloc _).alloc _).lower (by omega), ((HOI.out.alloc _).alloc _).lower (by omega)⟩
     ·go_simp
      refine hK.out _ _ (.inr (show Ext Y _ by exact extA)) ?_
      clear hK
      (try simp only [Act.put, lSet])
      refine T_only (i := 10) rfl (by kernel_rfl) rfl (fun K hK => ?_)
      go_simp
      refine hK.out _ _ (.inr (show Ext Y _ by exact extA)) ?_
      clear hK
      (try simp only [Act.put, lSet])
      refine T_only (i := 12) rfl (by kernel_rfl) rfl (fun K hK => ?_)
      go_simp
      refine hK.out _ _ (.inr (show Ext Y _ by exact extA)) ?_
      clear hK
      (try simp only [Act.put, lSet])
      refine T_only (i := 13) rfl (by kernel_rfl) rfl (fun K hK => ?_)
      go_simp
      refine hK.out _ _ (.inr (show Ext Y _ by exact extA)) ?_
      clear hK
      (try simp only [Act.put, lSet])
      (refine T_only (i := 14) rfl (by kernel_rfl) rfl (fun K hK => ?_); go_simp; refine hK.out _ _ (.inl (by kernel_rfl)) ?_; clear hK; (try simp only [Act.put, lSet]); refine T_done (by kernel_rfl) ?_ _)
      go_wp2_with fail
      go_meet
      case rel =>
       exact ⟨(w6.heap.size + 1), C8, f8, C9, f9, rfl, rfl, (show Ext w2 _ by exact extA), by omega, rowC (Row.newAt (by simp)) (by simp only [gta, lSet]), ((HOA.out.alloc _).alloc _).lower (by omega), ((HOI.out.alloc _).alloc _).lower (by omega)⟩
    ·go_simp
     refine hK.out _ _ (.inr (show Ext Y _ by exact extA)) ?_
     clear hK
     (try simp only [Act.put, lSet])
     refine T_two (i := 5) (j := 11) rfl rfl (by kernel_rfl) rfl rfl (fun K hK => ?_) (fun K hK => ?_)
     ·go_simp
      refine (KR.out _ (HWY.out.2.trans (by exact extA))).mono ?_
      rintro e w6 ⟨sa, si, rfl, h1, o1, o2⟩
      obtain ⟨C8, f8, rfl⟩ := o1.form
      obtain ⟨C9, f9, rfl⟩ := o2.form
      have H6 := Lib.hid h1
      have hz6 := h1.size
      clear h1
      (try simp only [World.size_alloc, size_set, World.heap_drewN, size_drew] at hz6 o1 o2)
      have HOA := Lib.hid o1
      have HOI := Lib.hid o2
      clear o1 o2 hS
      have hS : Ext Y w6 := by exact extA
      go_wp2_with fail
      (refine hK.out _ _ (.inr hS) ?_; clear hK)
      (try simp only [Act.put, lSet])
      (refine tkP 6 ?_; (try simp only [Act.put, lSet]); refine tkP 7 ?_; (try simp only [Act.put, lSet]); refine tkP 8 ?_; (try simp only [Act.put, lSet]); refine tkP 9 ?_; (try simp only [Act.put, lSet]))
      clear hS
      refine T_only (i := 11) rfl (by kernel_rfl) rfl (fun K hK => ?_)
      go_simp
      refine hK.out _ _ (.inr (show Ext Y _ by exact extA)) ?_
      clear hK
      (try simp only [Act.put, lSet])
      (apply Row.use (w := w6) (g := Y.heap.size); (focus (exact rowA)); intro qn_0 fn_0 ln_0 Rn_0; (try simp only [lSet] at qn_0 Rn_0))
      refine T_only (i := 12) rfl (by kernel_rfl) rfl (fun K hK => ?_)
      go_simp
      refine hK.out _ _ (.inr (show Ext Y _ by exact extA)) ?_
      clear hK
      (try simp only [Act.put, lSet])
      refine T_only (i := 13) rfl (by kernel_rfl) rfl (fun K hK => ?_)
      go_simp
      refine hK.out _ _ (.inr (show Ext Y _ by exact extA)) ?_
      clear hK
      (try simp only [Act.put, lSet])
      (refine T_only (i := 14) rfl (by kernel_rfl) rfl (fun K hK => ?_); go_simp; refine hK.out _ _ (.inl (by kernel_rfl)) ?_; clear hK; (try simp only [Act.put, lSet]); refine T_done (by kernel_rfl) ?_ _)
      go_wp2_with fail
      go_meet
      case rel =>
       exact ⟨Y.heap.size, C8, f8, C9, f9, rfl, rfl, (show Ext w2 _ by exact extA), by omega, rowC (Row.alloc ((((((((Rn_0.out.set_ (i := 0)).set_ (i := 1)).set_ (i := 2)).set_ (i := 3)).set_ (i := 4)).set_ (i := 5)).set_ (i := 6)).set_ (i := 7))) (by simp only [gta, lSet]), ((OwnL.setC (show Y.heap.size < Y.heap.size + 1 by omega) (OwnL.setC (show Y.heap.size < Y.heap.size + 1 by omega) (OwnL.setC (show Y.heap.size < Y.heap.size + 1 by omega) (OwnL.setC (show Y.heap.size < Y.heap.size + 1 by omega) (OwnL.setC (show Y.heap.size < Y.heap.size + 1 by omega) (OwnL.setC (show Y.heap.size < Y.heap.size + 1 by omega) (OwnL.setC (show Y.heap.size < Y.heap.size + 1 by omega) (OwnL.setC (show Y.heap.size < Y.heap.size + 1 by omega) HOA.out)))))))).alloc _).lower (by omega), ((OwnL.setC (show Y.heap.size < Y.heap.size + 1 by omega) (OwnL.setC (show Y.heap.size < Y.heap.size + 1 by omega) (OwnL.setC (show Y.heap.size < Y.heap.size + 1 by omega) (OwnL.setC (show Y.heap.size < Y.heap.size + 1 by omega) (OwnL.setC (show Y.heap.size < Y.heap.size + 1 by omega) (OwnL.setC (show Y.heap.size < Y.heap.size + 1 by omega) (OwnL.setC (show Y.heap.size < Y.heap.size + 1 by omega) (OwnL.setC (show Y.heap.size < Y.heap.size + 1 by omega) HOI.out)))))))).alloc _).lower (by omega)⟩
     ·go_simp
      refine hK.out _ _ (.inr (show Ext Y _ by exact extA)) ?_
      clear hK
      (try simp only [Act.put, lSet])
      refine T_only (i := 5) rfl (by kernel_rfl) rfl (fun K hK => ?_)
      go_simp
      refine (KR.out _ (HWY.out.2.trans (by exact extA))).mono ?_
      rintro e w6 ⟨sa, si, rfl, h1, o1, o2⟩
      obtain ⟨C8, f8, rfl⟩ := o1.form
      obtain ⟨C9, f9, rfl⟩ := o2.form
      have H6 := Lib.hid h1
      have hz6 := h1.size
      clear h1
      (try simp only [World.size_alloc, size_set, World.heap_drewN, size_drew] at hz6 o1 o2)
      have HOA := Lib.hid o1
      have HOI := Lib.hid o2
      clear o1 o2 hS
      have hS : Ext Y w6 := by exact extA
      go_wp2_with fail
      (refine hK.out _ _ (.inr hS) ?_; clear hK)
      (try simp only [Act.put, lSet])
      (refine tkP 6 ?_; (try simp only [Act.put, lSet]); refine tkP 7 ?_; (try simp only [Act.put, lSet]); refine tkP 8 ?_; (try simp only [Act.put, lSet]); refine tkP 9 ?_; (try simp only [Act.put, lSet]))
      clear hS
      (apply Row.use (w := w6) (g := Y.heap.size); (focus (exact rowA)); intro qn_0 fn_0 ln_0 Rn_0; (try simp only [lSet] at qn_0 Rn_0); apply Row.use (w := w6) (g := (Y.heap.size + 1)); (focus (exact rowA)); intro qn_1 fn_1 ln_1 Rn_1; (try simp only [lSet] at qn_1 Rn_1))
      refine T_only (i := 12) rfl (by kernel_rfl) rfl (fun K hK => ?_)
      go_simp
      refine hK.out _ _ (.inr (show Ext Y _ by exact extA)) ?_
      clear hK
      (try simp only [Act.put, lSet])
      refine T_only (i := 13) rfl (by kernel_rfl) rfl (fun K hK => ?_)
      go_simp
      refine hK.out _ _ (.inr (show Ext Y _ by exact extA)) ?_
      clear hK
      (try simp only [Act.put, lSet])
      (refine T_only (i := 14) rfl (by kernel_rfl) rfl (fun K hK => ?_); go_simp; refine hK.out _ _ (.inl (by kernel_rfl)) ?_; clear hK; (try simp only [Act.put, lSet]); refine T_done (by kernel_rfl) ?_ _)
      go_wp2_with fail
      go_meet
      case rel =>
       exact ⟨Y.heap.size, C8, f8, C9, f9, rfl, rfl, (show Ext w2 _ by exact extA), by omega, rowC ((Row.far (p := ⟨Y.heap.size + 1, 4, none⟩) (show Y.heap.size ≠ Y.heap.size + 1 by omega) (Row.far (p := ⟨Y.heap.size + 1, 3, none⟩) (show Y.heap.size ≠ Y.heap.size + 1 by omega) (Row.far (p := ⟨Y.heap.size + 1, 2, none⟩) (show Y.heap.size ≠ Y.heap.size + 1 by omega) (Row.far (p := ⟨Y.heap.size + 1, 1, none⟩) (show Y.heap.size ≠ Y.heap.size + 1 by omega) (Row.far (p := ⟨Y.heap.size + 1, 0, none⟩) (show Y.heap.size ≠ Y.heap.size + 1 by omega) ((((((((Rn_0.out.set_ (i := 0)).set_ (i := 1)).set_ (i := 2)).set_ (i := 3)).set_ (i := 4)).set_ (i := 5)).set_ (i := 6)).set_ (i := 7)))))))) (by simp only [gta, lSet]), (OwnL.setC (show Y.heap.size + 1 < Y.heap.size + 1 + 1 by omega) (OwnL.setC (show Y.heap.size + 1 < Y.heap.size + 1 + 1 by omega) (OwnL.setC (show Y.heap.size + 1 < Y.heap.size + 1 + 1 by omega) (OwnL.setC (show Y.heap.size + 1 < Y.heap.size + 1 + 1 by omega) (OwnL.setC (show Y.heap.size + 1 < Y.heap.size + 1 + 1 by omega) (OwnL.setC (show Y.heap.size < Y.heap.size + 1 + 1 by omega) (OwnL.setC (show Y.heap.size < Y.heap.size + 1 + 1 by omega) (OwnL.setC (show Y.heap.size < Y.heap.size + 1 + 1 by omega) (OwnL.setC (show Y.heap.size < Y.heap.size + 1 + 1 by omega) (OwnL.setC (show Y.heap.size < Y.heap.size + 1 + 1 by omega) (OwnL.setC (show Y.heap.size < Y.heap.size + 1 + 1 by omega) (OwnL.setC (show Y.heap.size < Y.heap.size + 1 + 1 by omega) (OwnL.setC (show Y.heap.size < Y.heap.size + 1 + 1 by omega) HOA.out))))))))))))).lower (by omega), (OwnL.setC (show Y.heap.size + 1 < Y.heap.size + 1 + 1 by omega) (OwnL.setC (show Y.heap.size + 1 < Y.heap.size + 1 + 1 by omega) (OwnL.setC (show Y.heap.size + 1 < Y.heap.size + 1 + 1 by omega) (OwnL.setC (show Y.heap.size + 1 < Y.heap.size + 1 + 1 by omega) (OwnL.setC (show Y.heap.size + 1 < Y.heap.size + 1 + 1 by omega) (OwnL.setC (show Y.heap.size < Y.heap.size + 1 + 1 by omega) (OwnL.setC (show Y.heap.size < Y.heap.size + 1 + 1 by omega) (OwnL.setC (show Y.heap.size < Y.heap.size + 1 + 1 by omega) (OwnL.setC (show Y.heap.size < Y.heap.size + 1 + 1 by omega) (OwnL.setC (show Y.heap.size < Y.heap.size + 1 + 1 by omega) (OwnL.setC (show Y.heap.size < Y.heap.size + 1 + 1 by omega) (OwnL.setC (show Y.heap.size < Y.heap.size + 1 + 1 by omega) (OwnL.setC (show Y.heap.size < Y.heap.size + 1 + 1 by omega) HOI.out))))))))))))).lower (by omega)⟩
    ·go_simp
     refine hK.out _ _ (.inr (show Ext Y _ by exact extA)) ?_
     clear hK
     (try simp only [Act.put, lSet])
     refine T_two (i := 5) (j := 10) rfl rfl (by kernel_rfl) rfl rfl (fun K hK => ?_) (fun K hK => ?_)
     ·go_simp
      refine (KR.out _ (HWY.out.2.trans (by exact extA))).mono ?_
      rintro e w6 ⟨sa, si, rfl, h1, o1, o2⟩
      obtain ⟨C8, f8, rfl⟩ := o1.form
      obtain ⟨C9, f9, rfl⟩ := o2.form
      have H6 := Lib.hid h1
      have hz6 := h1.size
      clear h1
      (try simp only [World.size_alloc, size_set, World.heap_drewN, size_drew] at hz6 o1 o2)
      have HOA := Lib.hid o1
      have HOI := Lib.hid o2
      clear o1 o2 hS
      have hS : Ext Y w6 := by exact extA
      go_wp2_with fail
      (refine hK.out _ _ (.inr hS) ?_; clear hK)
      (try simp only [Act.put, lSet])
      (refine tkP 6 ?_; (try simp only [Act.put, lSet]); refine tkP 7 ?_; (try simp only [Act.put, lSet]); refine tkP 8 ?_; (try simp only [Act.put, lSet]); refine tkP 9 ?_; (try simp only [Act.put, lSet]))
      clear hS
      refine T_only (i := 10) rfl (by kernel_rfl) rfl (fun K hK => ?_)
      go_simp
      refine hK.out _ _ (.inr (show Ext Y _ by exact extA)) ?_
      clear hK
      (try simp only [Act.put, lSet])
      (apply Row.use (w := w6) (g := Y.heap.size); (focus (exact rowA)); intro qn_0 fn_0 ln_0 Rn_0; (try simp only [lSet] at qn_0 Rn_0))
      refine T_only (i := 12) rfl (by kernel_rfl) rfl (fun K hK => ?_)
      go_simp
      refine hK.out _ _ (.inr (show Ext Y _ by exact extA)) ?_
      clear hK
      (try simp only [Act.put, lSet])
      refine T_only (i := 13) rfl (by kernel_rfl) rfl (fun K hK => ?_)
      go_simp
      refine hK.out _ _ (.inr (show Ext Y _ by exact extA)) ?_
      clear hK
      (try simp only [Act.put, lSet])
      (refine T_only (i := 14) rfl (by kernel_rfl) rfl (fun K hK => ?_); go_simp; refine hK.out _ _ (.inl (by kernel_rfl)) ?_; clear hK; (try simp only [Act.put, lSet]); refine T_done (by kernel_rfl) ?_ _)
      go_wp2_with fail
      go_meet
      case rel =>
       exact ⟨w6.heap.size, C8, f8, C9, f9, rfl, rfl, (show Ext w2 _ by exact extA), by omega, rowC (Row.newAt (by simp)) (by simp only [gta, lSet]), ((OwnL.setC (show Y.heap.size < Y.heap.size + 1 by omega) (OwnL.setC (show Y.heap.size < Y.heap.size + 1 by omega) (OwnL.setC (show Y.heap.size < Y.heap.size + 1 by omega) (OwnL.setC (show Y.heap.size < Y.heap.size + 1 by omega) (OwnL.setC (show Y.heap.size < Y.heap.size + 1 by omega) HOA.out))))).alloc _).lower (by omega), ((OwnL.setC (show Y.heap.size < Y.heap.size + 1 by omega) (OwnL.setC (show Y.heap.size < Y.heap.size + 1 by omega) (OwnL.setC (show Y.heap.size < Y.heap.size + 1 by omega) (OwnL.setC (show Y.heap.size < Y.heap.size + 1 by omega) (OwnL.setC (show Y.heap.size < Y.heap.size + 1 by omega) HOI.out))))).alloc _).lower (by omega)⟩
     ·go_simp
      refine hK.out _ _ (.inr (show Ext Y _ by exact extA)) ?_
      clear hK
      (try simp only [Act.put, lSet])
      refine T_only (i := 5) rfl (by kernel_rfl) rfl (fun K hK => ?_)
      go_simp
      refine (KR.out _ (HWY.out.2.trans (by exact extA))).mono ?_
      rintro e w6 ⟨sa, si, rfl, h1, o1, o2⟩
      obtain ⟨C8, f8, rfl⟩ := o1.form
      obtain ⟨C9, f9, rfl⟩ := o2.form
      have H6 := Lib.hid h1
      have hz6 := h1.size
      clear h1
      (try simp only [World.size_alloc, size_set, World.heap_drewN, size_drew] at hz6 o1 o2)
      have HOA := Lib.hid o1
      have HOI := Lib.hid o2
      clear o1 o2 hS
      have hS : Ext Y w6 := by exact extA
      go_wp2_with fail
      (refine hK.out _ _ (.inr hS) ?_; clear hK)
      (try simp only [Act.put, lSet])
      (refine tkP 6 ?_; (try simp only [Act.put, lSet]); refine tkP 7 ?_; (try simp only [Act.put, lSet]); refine tkP 8 ?_; (try simp only [Act.put, lSet]); refine tkP 9 ?_; (try simp only [Act.put, lSet]))
      clear hS
      (apply Row.use (w := w6) (g := Y.heap.size); (focus (exact rowA)); intro qn_0 fn_0 ln_0 Rn_0; (try simp only [lSet] at qn_0 Rn_0); apply Row.use (w := w6) (g := (Y.heap.size + 1)); (focus (exact rowA)); intro qn_1 fn_1 ln_1 Rn_1; (try simp only [lSet] at qn_1 Rn_1))
      refine T_only (i := 12) rfl (by kernel_rfl) rfl (fun K hK => ?_)
      go_simp
      refine hK.out _ _ (.inr (show Ext Y _ by exact extA)) ?_
      clear hK
      (try simp only [Act.put, lSet])
      refine T_only (i := 13) rfl (by kernel_rfl) rfl (fun K hK => ?_)
      go_simp
      refine hK.out _ _ (.inr (show Ext Y _ by exact extA)) ?_
      clear hK
      (try simp only [Act.put, lSet])
      (refine T_only (i := 14) rfl (by kernel_rfl) rfl (fun K hK => ?_); go_simp; refine hK.out _ _ (.inl (by kernel_rfl)) ?_; clear hK; (try simp only [Act.put, lSet]); refine T_done (by kernel_rfl) ?_ _)
      go_wp2_with fail
      go_meet
      case rel =>
       exact ⟨(Y.heap.size + 1), C8, f8, C9, f9, rfl, rfl, (show Ext w2 _ by exact extA), by omega, rowC ((Row.far (p := ⟨Y.heap.size, 4, none⟩) (show Y.heap.size + 1 ≠ Y.heap.size by omega) (Row.far (p := ⟨Y.heap.size, 3, none⟩) (show Y.heap.size + 1 ≠ Y.heap.size by omega) (Row.far (p := ⟨Y.heap.size, 2, none⟩) (show Y.heap.size + 1 ≠ Y.heap.size by omega) (Row.far (p := ⟨Y.heap.size, 1, none⟩) (show Y.heap.size + 1 ≠ Y.heap.size by omega) (Row.far (p := ⟨Y.heap.size, 0, none⟩) (show Y.heap.size + 1 ≠ Y.heap.size by omega) ((((((((Rn_1.out.set_ (i := 0)).set_ (i := 1)).set_ (i := 2)).set_ (i := 3)).set_ (i := 4)).set_ (i := 5)).set_ (i := 6)).set_ (i := 7)))))))) (by simp only [gta, lSet]), (OwnL.setC (show Y.heap.size < Y.heap.size + 1 + 1 by omega) (OwnL.setC (show Y.heap.size < Y.heap.size + 1 + 1 by omega) (OwnL.setC (show Y.heap.size < Y.heap.size + 1 + 1 by omega) (OwnL.setC (show Y.heap.size < Y.heap.size + 1 + 1 by omega) (OwnL.setC (show Y.heap.size < Y.heap.size + 1 + 1 by omega) (OwnL.setC (show Y.heap.size + 1 < Y.heap.size + 1 + 1 by omega) (OwnL.setC (show Y.heap.size + 1 < Y.heap.size + 1 + 1 by omega) (OwnL.setC (show Y.heap.size + 1 < Y.heap.size + 1 + 1 by omega) (OwnL.setC (show Y.heap.size + 1 < Y.heap.size + 1 + 1 by omega) (OwnL.setC (show Y.heap.size + 1 < Y.heap.size + 1 + 1 by omega) (OwnL.setC (show Y.heap.size + 1 < Y.heap.size + 1 + 1 by omega) (OwnL.setC (show Y.heap.size + 1 < Y.heap.size + 1 + 1 by omega) (OwnL.setC (show Y.heap.size + 1 < Y.heap.size + 1 + 1 by omega) HOA.out))))))))))))).lower (by omega), (OwnL.setC (show Y.heap.size < Y.heap.size + 1 + 1 by omega) (OwnL.setC (show Y.heap.size < Y.heap.size + 1 + 1 by omega) (OwnL.setC (show Y.heap.size < Y.heap.size + 1 + 1 by omega) (OwnL.setC (show Y.heap.size < Y.heap.size + 1 + 1 by omega) (OwnL.setC (show Y.heap.size < Y.heap.size + 1 + 1 by omega) (OwnL.setC (show Y.heap.size + 1 < Y.heap.size + 1 + 1 by omega) (OwnL.setC (show Y.heap.size + 1 < Y.heap.size + 1 + 1 by omega) (OwnL.setC (show Y.heap.size + 1 < Y.heap.size + 1 + 1 by omega) (OwnL.setC (show Y.heap.size + 1 < Y.heap.size + 1 + 1 by omega) (OwnL.setC (show Y.heap.size + 1 < Y.heap.size + 1 + 1 by omega) (OwnL.setC (show Y.heap.size + 1 < Y.heap.size + 1 + 1 by omega) (OwnL.setC (show Y.heap.size + 1 < Y.heap.size + 1 + 1 by omega) (OwnL.setC (show Y.heap.size + 1 < Y.heap.size + 1 + 1 by omega) HOI.out))))))))))))).lower (by omega)⟩
   case rest =>
    obtain ⟨b9, C1, f1, C2, f2, rfl, rfl, HX9⟩ := hcut
    obtain ⟨he, hg5, hr5, oa, oi⟩ := HX9.out
    have R5 := Lib.hid hr5
    have HOA := Lib.hid oa
    have HOI := Lib.hid oi
    have HWC := Lib.hid (And.intro trivial (H2W.out.2.trans he))
    have hwcs := HWC.out.2.size
    have hbw : base ≤ w2.heap.size := by omega
    have z0 : wc.frozen? ⟨gb, m * 8, none⟩ = false := (HWC.out.2.frozs gb _ hgb).trans (HFZ.out 0 (by decide))
    have z1 : wc.frozen? ⟨gb, m * 8 + 1, none⟩ = false := (HWC.out.2.frozs gb _ hgb).trans (HFZ.out 1 (by decide))
    have z2 : wc.frozen? ⟨gb, m * 8 + 2, none⟩ = false := (HWC.out.2.frozs gb _ hgb).trans (HFZ.out 2 (by decide))
    have z3 : wc.frozen? ⟨gb, m * 8 + 3, none⟩ = false := (HWC.out.2.frozs gb _ hgb).trans (HFZ.out 3 (by decide))
    have z4 : wc.frozen? ⟨gb, m * 8 + 4, none⟩ = false := (HWC.out.2.frozs gb _ hgb).trans (HFZ.out 4 (by decide))
    have z5 : wc.frozen? ⟨gb, m * 8 + 5, none⟩ = false := (HWC.out.2.frozs gb _ hgb).trans (HFZ.out 5 (by decide))
    have z6 : wc.frozen? ⟨gb, m * 8 + 6, none⟩ = false := (HWC.out.2.frozs gb _ hgb).trans (HFZ.out 6 (by decide))
    have z7 : wc.frozen? ⟨gb, m * 8 + 7, none⟩ = false := (HWC.out.2.frozs gb _ hgb).trans (HFZ.out 7 (by decide))
    have y0 := (HWC.out.2.cells gb _ hgb).trans g0
    have y1 := (HWC.out.2.cells gb _ hgb).trans g1
    have y2 := (HWC.out.2.cells gb _ hgb).trans g2
    have y3 := (HWC.out.2.cells gb _ hgb).trans g3
    have y4 := (HWC.out.2.cells gb _ hgb).trans g4
    have y5 := (HWC.out.2.cells gb _ hgb).trans g5
    have y6 := (HWC.out.2.cells gb _ hgb).trans g6
    have y7 := (HWC.out.2.cells gb _ hgb).trans g7
    have hg5b : b9 ≠ gb := by omega
    have hgbw : gb < wc.heap.size := by omega
    clear HX9 he hr5 oa oi KR KO KL
    try clear HRS
    try clear HTK
    try clear HROW
    try clear HN3
    try clear HTR
    try clear KO
    try clear KL
    try clear HST
    try clear HB0
    try clear RB
    try clear qp
    try clear fp
    try clear lp
    try clear hge
    try clear hc3
    try clear hpw
    try clear hgp
    try clear hm3
    try clear hmi
    try clear hkl
    try clear hga
    try clear hkc
    try clear hkl'
    try clear hal
    try clear halb
    try clear hn0
    try clear hn2
    try clear hgb2
    try clear HC
    try clear hwm
    try clear hmg
    try clear g0
    try clear g1
    try clear g2
    try clear g3
    try clear g4
    try clear g5
    try clear g6
    try clear g7
    try clear k0
    try clear k1
    try clear k2
    try clear k3
    try clear k4
    try clear k5
    try clear k6
    try clear k7
    try clear j0
    try clear j1
    try clear j2
    try clear j3
    try clear j4
    try clear j5
    try clear qa_0
    try clear fa_0
    try clear la_0
    try clear Ra_0
    try clear qx_0
    try clear fx_0
    try clear lx_0
    try clear Rx_0
    try clear qx_1
    try clear fx_1
    try clear lx_1
    try clear Rx_1
    try clear qy_0
    try clear fy_0
    try clear ly_0
    try clear Ry_0
    try clear qy_1
    try clear fy_1
    try clear ly_1
    try clear Ry_1
    try clear q1_0
    try clear f1_0
    try clear l1_0
    try clear R1_0
    try clear qz_0
    try clear fz_0
    try clear lz_0
    try clear Rz_0
    try clear qz_1
    try clear fz_1
    try clear lz_1
    try clear Rz_1
    try clear hXs
    try clear hz1
    try clear hs2
    try clear hW
    try clear hzW
    try clear hzX
    obtain ⟨G0, G1, G2, G3, ⟨G4, G5⟩, G6, G7⟩ := G
    unfold gta at R5
    simp only at R5 HOA HOI HAS
    (apply Row.use (w := wc) (g := b9); (focus (exact rowA)); intro qc_0 fc_0 lc_0 Rc_0; (try simp only [lSet] at qc_0 Rc_0))
    by_cases h4 : e0 = 0
    ·subst h4
     have HQ3 := Lib.hid (show T = (⟨s.ledger, s.denied, s.gates.set m ⟨G0, G1, G2, G3, ⟨G4, G5⟩, G6, G7⟩, s.views⟩, 0, 0) by rw [HQ2.out, HAS.out]; simp)
     go_wp2_with fail
     go_ret2
     have hkc := (HF.out _ HWC.out.2).2.put HSG.out HMG.out ⟨G0, G1, G2, G3, ⟨G4, G5⟩, G6, G7⟩ (.slice C1 G3.length f1) (.slice C2 G5.length f2) ⟨HOA.out.lower hbw, HOI.out.lower hbw⟩
     rw [HQ3.out]
     exact ⟨rfl, Fr.setC hgl (Fr.setC hgl (Fr.setC hgl (Fr.setC hgl (Fr.setC hgl (Fr.setC hgl (Fr.setC hgl (Fr.setC hgl (HF.out _ HWC.out.2).1))))))), y, hkc⟩
    ·have h4b : (e0 == 0) = false := by simpa using h4
     have HQ3 := Lib.hid (show T = (s, 0, e0) by rw [HQ2.out, HAS.out, if_pos h4])
     go_wp2_with fail
     go_ret2
     rw [HQ3.out]
     exact ⟨rfl, (HF.out _ HWC.out.2).1, y, (HF.out _ HWC.out.2).2⟩
  ·by_cases hal : al.length = 0
   ·have HQ2 := Lib.hid (show T = TO by rw [HQ.out]; simp [hal])
    have halb : ((al.length : Int) == 0) = true := by simpa using hal
    clear HQ
    go_wp2_with fail
    refine (KO.out _ H2W.out.2).mono ?_
    rintro e w3 ⟨rfl, hf3, hk3⟩
    go_wp2_with fail
    go_ret2
    rw [HQ2.out]
    exact ⟨rfl, (HF.out _ H2W.out.2).1.trans hf3, hk3⟩
   ·have HQ2 := Lib.hid (show T = TA by rw [HQ.out]; simp [hal])
    have halb : ((al.length : Int) == 0) = false := by simpa using hal
    clear HQ
    go_upto_region 9 with fail
    go_cut [13, 14, 15] (fun s13 s14 s15 wx => ∃ g5 C1 f1 C2 f2, s13 = .pointer (some ⟨g5, 0, none⟩) ∧ s15 = .int .i64 e0 ∧ Aside (Ext w2 wx ∧ w2.heap.size ≤ g5 ∧ Row wx g5 (gta G (.slice C1 G.alone.length f1) (.slice C2 G.denied.ids.length f2)) ∧ OwnL 57 5 tpc w2.heap.size wx (.slice C1 G.alone.length f1) G.alone ∧ OwnL 3 1 inc w2.heap.size wx (.slice C2 G.denied.ids.length f2) G.denied.ids))
    case first =>
     have hgb2 : gb < w2.heap.size := by omega
     have k0 := (H2W.out.2.cells gb _ hgb).trans g0
     have k1 := (H2W.out.2.cells gb _ hgb).trans g1
     have k2 := (H2W.out.2.cells gb _ hgb).trans g2
     have k4 := (H2W.out.2.cells gb _ hgb).trans g4
     have k5 := (H2W.out.2.cells gb _ hgb).trans g5
     have k6 := (H2W.out.2.cells gb _ hgb).trans g6
     have k7 := (H2W.out.2.cells gb _ hgb).trans g7
     (apply wp_gen2 (w0 := w2) (g0 := W.heap.size) (g1 := p); (focus (exact rowA)); (focus (exact rowA)); (focus (exact extA)); intro Y HY hzY Rz_0 Rz_1; (try simp only [lSet, World.size_alloc, size_set, World.heap_drewN, size_drew] at hzY Rz_0 Rz_1); have lz_0 := Rz_0.out.size; have lz_1 := Rz_1.out.size)
     have HWY := Lib.hid (And.intro trivial (H2W.out.2.trans HY.out))
     have HK := Lib.hid (fun (w' : World) (h : Ext Y w') => And.intro (Row.ext h Rz_0.out).2.1 (And.intro (((HY.out.trans h).cells _ _ hgb2).trans k0) (And.intro (((HY.out.trans h).cells _ _ hgb2).trans k1) (And.intro (((HY.out.trans h).cells _ _ hgb2).trans k2) (And.intro (((HY.out.trans h).cells _ _ hgb2).trans k3) (And.intro (((HY.out.trans h).cells _ _ hgb2).trans k4) (And.intro (((HY.out.trans h).cells _ _ hgb2).trans k5) (And.intro (((HY.out.trans h).cells _ _ hgb2).trans k6) ((((HY.out.trans h).cells _ _ hgb2).trans k7))))))))))
     (refine T_begin (fun w' => Ext Y w') 14 (by kernel_rfl) ((Ext.refl _).drew) (fun hS => ?_); simp only [List.length_cons, List.length_nil])
     (refine tkA 0 HK hS ?_; (try simp only [Act.put, lSet]); refine tkA 1 HK hS ?_; (try simp only [Act.put, lSet]); refine tkA 2 HK hS ?_; (try simp only [Act.put, lSet]); refine tkA 3 HK hS ?_; (try simp only [Act.put, lSet]); refine tkA 4 HK hS ?_; (try simp only [Act.put, lSet]))
     try clear HF
     try clear HRS
     try clear HSG
     try clear HTK
     try clear HROW
     try clear HN3
     try clear HTR
     try clear KO
     try clear KL
     try clear HAS
     try clear HQ2
     try clear HST
     try clear HB0
     try clear RB
     try clear HFZ
     try clear HMG
     try clear HGM
     try clear qp
     try clear fp
     try clear lp
     try clear hge
     try clear hgl
     try clear hc3
     try clear hpw
     try clear hgp
     try clear hm3
     try clear hmi
     try clear hkl
     try clear hga
     try clear hkc
     try clear hkl'
     try clear hal
     try clear halb
     try clear hn0
     try clear hn2
     try clear hgb2
     try clear hgb
     try clear HC
     try clear hwm
     try clear hmg
     try clear g0
     try clear g1
     try clear g2
     try clear g3
     try clear g4
     try clear g5
     try clear g6
     try clear g7
     try clear k0
     try clear k1
     try clear k2
     try clear k3
     try clear k4
     try clear k5
     try clear k6
     try clear k7
     try clear j0
     try clear j1
     try clear j2
     try clear j3
     try clear j4
     try clear j5
     try clear qa_0
     try clear fa_0
     try clear la_0
     try clear Ra_0
     try clear qx_0
     try clear fx_0
     try clear lx_0
     try clear Rx_0
     try clear qx_1
     try clear fx_1
     try clear lx_1
     try clear Rx_1
     try clear qy_0
     try clear fy_0
     try clear ly_0
     try clear Ry_0
     try clear qy_1
     try clear fy_1
     try clear ly_1
     try clear Ry_1
     try clear q1_0
     try clear f1_0
     try clear l1_0
     try clear R1_0
     try clear qz_0
     try clear fz_0
     try clear lz_0
     try clear Rz_0
     try clear qz_1
     try clear fz_1
     try clear lz_1
     try clear Rz_1
     try clear hXs
     try clear hz1
     try clear hs2
     try clear hW
     try clear hzW
     try clear hzX
     obtain ⟨G0, G1, G2, G3, ⟨G4, G5⟩, G6, G7⟩ := G
     obtain ⟨P0, P1, P2, P3, P4⟩ := P
     simp only [gta, show tpc ⟨P0, P1, P2, P3, P4⟩ = #[.int .i64 P0, .int .i64 P1, .int .i64 P2, .int .i64 P3, .int .i64 P4] from rfl] at KR
     have hYw := HY.out.size
     refine T_three (i := 5) (j := 10) (k := 11) rfl rfl rfl (by kernel_rfl) rfl rfl rfl (fun K hK => ?_) (fun K hK => ?_) (fun K hK => ?_)
     ·go_simp
      refine (KR.out _ (HWY.out.2.trans (by exact extA))).mono ?_
      rintro e w6 ⟨sa, si, rfl, h1, o1, o2⟩
      obtain ⟨C8, f8, rfl⟩ := o1.form
      obtain ⟨C9, f9, rfl⟩ := o2.form
      have H6 := Lib.hid h1
      have hz6 := h1.size
      clear h1
      (try simp only [World.size_alloc, size_set, World.heap_drewN, size_drew] at hz6 o1 o2)
      have HOA := Lib.hid o1
      have HOI := Lib.hid o2
      clear o1 o2 hS
      have hS : Ext Y w6 := by exact extA
      go_wp2_with fail
      (refine hK.out _ _ (.inr hS) ?_; clear hK)
      (try simp only [Act.put, lSet])
      (refine tkP 6 ?_; (try simp only [Act.put, lSet]); refine tkP 7 ?_; (try simp only [Act.put, lSet]); refine tkP 8 ?_; (try simp only [Act.put, lSet]); refine tkP 9 ?_; (try simp only [Act.put, lSet]))
      clear hS
      refine T_two (i := 10) (j := 11) rfl rfl (by kernel_rfl) rfl rfl (fun K hK => ?_) (fun K hK => ?_)
      ·go_simp
       refine hK.out _ _ (.inr (show Ext Y _ by exact extA)) ?_
       clear hK
       (try simp only [Act.put, lSet])
       refine T_only (i := 11) rfl (by kernel_rfl) rfl (fun K hK => ?_)
       go_simp
       refine hK.out _ _ (.inr (show Ext Y _ by exact extA)) ?_
       clear hK
       (try simp only [Act.put, lSet])
       refine T_only (i := 12) rfl (by kernel_rfl) rfl (fun K hK => ?_)
       go_simp
       refine hK.out _ _ (.inr (show Ext Y _ by exact extA)) ?_
       clear hK
       (try simp only [Act.put, lSet])
       refine T_only (i := 13) rfl (by kernel_rfl) rfl (fun K hK => ?_)
       go_simp
       refine hK.out _ _ (.inr (show Ext Y _ by exact extA)) ?_
       clear hK
       (try simp only [Act.put, lSet])
       (refine T_only (i := 14) rfl (by kernel_rfl) rfl (fun K hK => ?_); go_simp; refine hK.out _ _ (.inl (by kernel_rfl)) ?_; clear hK; (try simp only [Act.put, lSet]); refine T_done (by kernel_rfl) ?_ _)
       go_wp2_with fail
       go_meet
       case rel =>
        exact ⟨w6.heap.size, C8, f8, C9, f9, rfl, rfl, (show Ext w2 _ by exact extA), by omega, rowC (Row.alloc (Row.newAt rfl)) (by simp only [gta, lSet]), ((HOA.out.alloc _).alloc _).lower (by omega), ((HOI.out.alloc _).alloc _).lower (by omega)⟩
      ·go_simp
       refine hK.out _ _ (.inr (show Ext Y _ by exact extA)) ?_
       clear hK
       (try simp only [Act.put, lSet])
       refine T_only (i := 10) rfl (by kernel_rfl) rfl (fun K hK => ?_)
       go_simp
       refine hK.out _ _ (.inr (show Ext Y _ by exact extA)) ?_
       clear hK
       (try simp only [Act.put, lSet])
       refine T_only (i := 12) rfl (by kernel_rfl) rfl (fun K hK => ?_)
       go_simp
       refine hK.out _ _ (.inr (show Ext Y _ by exact extA)) ?_
       clear hK
       (try simp only [Act.put, lSet])
       refine T_only (i := 13) rfl (by kernel_rfl) rfl (fun K hK => ?_)
       go_simp
       refine hK.out _ _ (.inr (show Ext Y _ by exact extA)) ?_
       clear hK
       (try simp only [Act.put, lSet])
       (refine T_only (i := 14) rfl (by kernel_rfl) rfl (fun K hK => ?_); go_simp; refine hK.out _ _ (.inl (by kernel_rfl)) ?_; clear hK; (try simp only [Act.put, lSet]); refine T_done (by kernel_rfl) ?_ _)
       go_wp2_with fail
       go_meet
       case rel =>
        exact ⟨(w6.heap.size + 1), C8, f8, C9, f9, rfl, rfl, (show Ext w2 _ by exact extA), by omega, rowC (Row.newAt (by simp)) (by simp only [gta, lSet]), ((HOA.out.alloc _).alloc _).lower (by omega), ((HOI.out.alloc _).alloc _).lower (by omega)⟩
     ·go_simp
      refine hK.out _ _ (.inr (show Ext Y _ by exact extA)) ?_
      clear hK
      (try simp only [Act.put, lSet])
      refine T_two (i := 5) (j := 11) rfl rfl (by kernel_rfl) rfl rfl (fun K hK => ?_) (fun K hK => ?_)
      ·go_simp
       refine (KR.out _ (HWY.out.2.trans (by exact extA))).mono ?_
       rintro e w6 ⟨sa, si, rfl, h1, o1, o2⟩
       obtain ⟨C8, f8, rfl⟩ := o1.form
       obtain ⟨C9, f9, rfl⟩ := o2.form
       have H6 := Lib.hid h1
       have hz6 := h1.size
       clear h1
       (try simp only [World.size_alloc, size_set, World.heap_drewN, size_drew] at hz6 o1 o2)
       have HOA := Lib.hid o1
       have HOI := Lib.hid o2
       clear o1 o2 hS
       have hS : Ext Y w6 := by exact extA
       go_wp2_with fail
       (refine hK.out _ _ (.inr hS) ?_; clear hK)
       (try simp only [Act.put, lSet])
       (refine tkP 6 ?_; (try simp only [Act.put, lSet]); refine tkP 7 ?_; (try simp only [Act.put, lSet]); refine tkP 8 ?_; (try simp only [Act.put, lSet]); refine tkP 9 ?_; (try simp only [Act.put, lSet]))
       clear hS
       refine T_only (i := 11) rfl (by kernel_rfl) rfl (fun K hK => ?_)
       go_simp
       refine hK.out _ _ (.inr (show Ext Y _ by exact extA)) ?_
       clear hK
       (try simp only [Act.put, lSet])
       (apply Row.use (w := w6) (g := Y.heap.size); (focus (exact rowA)); intro qn_0 fn_0 ln_0 Rn_0; (try simp only [lSet] at qn_0 Rn_0))
       refine T_only (i := 12) rfl (by kernel_rfl) rfl (fun K hK => ?_)
       go_simp
       refine hK.out _ _ (.inr (show Ext Y _ by exact extA)) ?_
       clear hK
       (try simp only [Act.put, lSet])
       refine T_only (i := 13) rfl (by kernel_rfl) rfl (fun K hK => ?_)
       go_simp
       refine hK.out _ _ (.inr (show Ext Y _ by exact extA)) ?_
       clear hK
       (try simp only [Act.put, lSet])
       (refine T_only (i := 14) rfl (by kernel_rfl) rfl (fun K hK => ?_); go_simp; refine hK.out _ _ (.inl (by kernel_rfl)) ?_; clear hK; (try simp only [Act.put, lSet]); refine T_done (by kernel_rfl) ?_ _)
       go_wp2_with fail
       go_meet
       case rel =>
        exact ⟨Y.heap.size, C8, f8, C9, f9, rfl, rfl, (show Ext w2 _ by exact extA), by omega, rowC (Row.alloc ((((((((Rn_0.out.set_ (i := 0)).set_ (i := 1)).set_ (i := 2)).set_ (i := 3)).set_ (i := 4)).set_ (i := 5)).set_ (i := 6)).set_ (i := 7))) (by simp only [gta, lSet]), ((OwnL.setC (show Y.heap.size < Y.heap.size + 1 by omega) (OwnL.setC (show Y.heap.size < Y.heap.size + 1 by omega) (OwnL.setC (show Y.heap.size < Y.heap.size + 1 by omega) (OwnL.setC (show Y.heap.size < Y.heap.size + 1 by omega) (OwnL.setC (show Y.heap.size < Y.heap.size + 1 by omega) (OwnL.setC (show Y.heap.size < Y.heap.size + 1 by omega) (OwnL.setC (show Y.heap.size < Y.heap.size + 1 by omega) (OwnL.setC (show Y.heap.size < Y.heap.size + 1 by omega) HOA.out)))))))).alloc _).lower (by omega), ((OwnL.setC (show Y.heap.size < Y.heap.size + 1 by omega) (OwnL.setC (show Y.heap.size < Y.heap.size + 1 by omega) (OwnL.setC (show Y.heap.size < Y.heap.size + 1 by omega) (OwnL.setC (show Y.heap.size < Y.heap.size + 1 by omega) (OwnL.setC (show Y.heap.size < Y.heap.size + 1 by omega) (OwnL.setC (show Y.heap.size < Y.heap.size + 1 by omega) (OwnL.setC (show Y.heap.size < Y.heap.size + 1 by omega) (OwnL.setC (show Y.heap.size < Y.heap.size + 1 by omega) HOI.out)))))))).alloc _).lower (by omega)⟩
      ·go_simp
       refine hK.out _ _ (.inr (show Ext Y _ by exact extA)) ?_
       clear hK
       (try simp only [Act.put, lSet])
       refine T_only (i := 5) rfl (by kernel_rfl) rfl (fun K hK => ?_)
       go_simp
       refine (KR.out _ (HWY.out.2.trans (by exact extA))).mono ?_
       rintro e w6 ⟨sa, si, rfl, h1, o1, o2⟩
       obtain ⟨C8, f8, rfl⟩ := o1.form
       obtain ⟨C9, f9, rfl⟩ := o2.form
       have H6 := Lib.hid h1
       have hz6 := h1.size
       clear h1
       (try simp only [World.size_alloc, size_set, World.heap_drewN, size_drew] at hz6 o1 o2)
       have HOA := Lib.hid o1
       have HOI := Lib.hid o2
       clear o1 o2 hS
       have hS : Ext Y w6 := by exact extA
       go_wp2_with fail
       (refine hK.out _ _ (.inr hS) ?_; clear hK)
       (try simp only [Act.put, lSet])
       (refine tkP 6 ?_; (try simp only [Act.put, lSet]); refine tkP 7 ?_; (try simp only [Act.put, lSet]); refine tkP 8 ?_; (try simp only [Act.put, lSet]); refine tkP 9 ?_; (try simp only [Act.put, lSet]))
       clear hS
       (apply Row.use (w := w6) (g := Y.heap.size); (focus (exact rowA)); intro qn_0 fn_0 ln_0 Rn_0; (try simp only [lSet] at qn_0 Rn_0); apply Row.use (w := w6) (g := (Y.heap.size + 1)); (focus (exact rowA)); intro qn_1 fn_1 ln_1 Rn_1; (try simp only [lSet] at qn_1 Rn_1))
       refine T_only (i := 12) rfl (by kernel_rfl) rfl (fun K hK => ?_)
       go_simp
       refine hK.out _ _ (.inr (show Ext Y _ by exact extA)) ?_
       clear hK
       (try simp only [Act.put, lSet])
       refine T_only (i := 13) rfl (by kernel_rfl) rfl (fun K hK => ?_)
       go_simp
       refine hK.out _ _ (.inr (show Ext Y _ by exact extA)) ?_
       clear hK
       (try simp only [Act.put, lSet])
       (refine T_only (i := 14) rfl (by kernel_rfl) rfl (fun K hK => ?_); go_simp; refine hK.out _ _ (.inl (by kernel_rfl)) ?_; clear hK; (try simp only [Act.put, lSet]); refine T_done (by kernel_rfl) ?_ _)
       go_wp2_with fail
       go_meet
       case rel =>
        exact ⟨Y.heap.size, C8, f8, C9, f9, rfl, rfl, (show Ext w2 _ by exact extA), by omega, rowC ((Row.far (p := ⟨Y.heap.size + 1, 4, none⟩) (show Y.heap.size ≠ Y.heap.size + 1 by omega) (Row.far (p := ⟨Y.heap.size + 1, 3, none⟩) (show Y.heap.size ≠ Y.heap.size + 1 by omega) (Row.far (p := ⟨Y.heap.size + 1, 2, none⟩) (show Y.heap.size ≠ Y.heap.size + 1 by omega) (Row.far (p := ⟨Y.heap.size + 1, 1, none⟩) (show Y.heap.size ≠ Y.heap.size + 1 by omega) (Row.far (p := ⟨Y.heap.size + 1, 0, none⟩) (show Y.heap.size ≠ Y.heap.size + 1 by omega) ((((((((Rn_0.out.set_ (i := 0)).set_ (i := 1)).set_ (i := 2)).set_ (i := 3)).set_ (i := 4)).set_ (i := 5)).set_ (i := 6)).set_ (i := 7)))))))) (by simp only [gta, lSet]), (OwnL.setC (show Y.heap.size + 1 < Y.heap.size + 1 + 1 by omega) (OwnL.setC (show Y.heap.size + 1 < Y.heap.size + 1 + 1 by omega) (OwnL.setC (show Y.heap.size + 1 < Y.heap.size + 1 + 1 by omega) (OwnL.setC (show Y.heap.size + 1 < Y.heap.size + 1 + 1 by omega) (OwnL.setC (show Y.heap.size + 1 < Y.heap.size + 1 + 1 by omega) (OwnL.setC (show Y.heap.size < Y.heap.size + 1 + 1 by omega) (OwnL.setC (show Y.heap.size < Y.heap.size + 1 + 1 by omega) (OwnL.setC (show Y.heap.size < Y.heap.size + 1 + 1 by omega) (OwnL.setC (show Y.heap.size < Y.heap.size + 1 + 1 by omega) (OwnL.setC (show Y.heap.size < Y.heap.size + 1 + 1 by omega) (OwnL.setC (show Y.heap.size < Y.heap.size + 1 + 1 by omega) (OwnL.setC (show Y.heap.size < Y.heap.size + 1 + 1 by omega) (OwnL.setC (show Y.heap.size < Y.heap.size + 1 + 1 by omega) HOA.out))))))))))))).lower (by omega), (OwnL.setC (show Y.heap.size + 1 < Y.heap.size + 1 + 1 by omega) (OwnL.setC (show Y.heap.size + 1 < Y.heap.size + 1 + 1 by omega) (OwnL.setC (show Y.heap.size + 1 < Y.heap.size + 1 + 1 by omega) (OwnL.setC (show Y.heap.size + 1 < Y.heap.size + 1 + 1 by omega) (OwnL.setC (show Y.heap.size + 1 < Y.heap.size + 1 + 1 by omega) (OwnL.setC (show Y.heap.size < Y.heap.size + 1 + 1 by omega) (OwnL.setC (show Y.heap.size < Y.heap.size + 1 + 1 by omega) (OwnL.setC (show Y.heap.size < Y.heap.size + 1 + 1 by omega) (OwnL.setC (show Y.heap.size < Y.heap.size + 1 + 1 by omega) (OwnL.setC (show Y.heap.size < Y.heap.size + 1 + 1 by omega) (OwnL.setC (show Y.heap.size < Y.heap.size + 1 + 1 by omega) (OwnL.setC (show Y.heap.size < Y.heap.size + 1 + 1 by omega) (OwnL.setC (show Y.heap.size < Y.heap.size + 1 + 1 by omega) HOI.out))))))))))))).lower (by omega)⟩
     ·go_simp
      refine hK.out _ _ (.inr (show Ext Y _ by exact extA)) ?_
      clear hK
      (try simp only [Act.put, lSet])
      refine T_two (i := 5) (j := 10) rfl rfl (by kernel_rfl) rfl rfl (fun K hK => ?_) (fun K hK => ?_)
      ·go_simp
       refine (KR.out _ (HWY.out.2.trans (by exact extA))).mono ?_
       rintro e w6 ⟨sa, si, rfl, h1, o1, o2⟩
       obtain ⟨C8, f8, rfl⟩ := o1.form
       obtain ⟨C9, f9, rfl⟩ := o2.form
       have H6 := Lib.hid h1
       have hz6 := h1.size
       clear h1
       (try simp only [World.size_alloc, size_set, World.heap_drewN, size_drew] at hz6 o1 o2)
       have HOA := Lib.hid o1
       have HOI := Lib.hid o2
       clear o1 o2 hS
       have hS : Ext Y w6 := by exact extA
       go_wp2_with fail
       (refine hK.out _ _ (.inr hS) ?_; clear hK)
       (try simp only [Act.put, lSet])
       (refine tkP 6 ?_; (try simp only [Act.put, lSet]); refine tkP 7 ?_; (try simp only [Act.put, lSet]); refine tkP 8 ?_; (try simp only [Act.put, lSet]); refine tkP 9 ?_; (try simp only [Act.put, lSet]))
       clear hS
       refine T_only (i := 10) rfl (by kernel_rfl) rfl (fun K hK => ?_)
       go_simp
       refine hK.out _ _ (.inr (show Ext Y _ by exact extA)) ?_
       clear hK
       (try simp only [Act.put, lSet])
       (apply Row.use (w := w6) (g := Y.heap.size); (focus (exact rowA)); intro qn_0 fn_0 ln_0 Rn_0; (try simp only [lSet] at qn_0 Rn_0))
       refine T_only (i := 12) rfl (by kernel_rfl) rfl (fun K hK => ?_)
       go_simp
       refine hK.out _ _ (.inr (show Ext Y _ by exact extA)) ?_
       clear hK
       (try simp only [Act.put, lSet])
       refine T_only (i := 13) rfl (by kernel_rfl) rfl (fun K hK => ?_)
       go_simp
       refine hK.out _ _ (.inr (show Ext Y _ by exact extA)) ?_
       clear hK
       (try simp only [Act.put, lSet])
       (refine T_only (i := 14) rfl (by kernel_rfl) rfl (fun K hK => ?_); go_simp; refine hK.out _ _ (.inl (by kernel_rfl)) ?_; clear hK; (try simp only [Act.put, lSet]); refine T_done (by kernel_rfl) ?_ _)
       go_wp2_with fail
       go_meet
       case rel =>
        exact ⟨w6.heap.size, C8, f8, C9, f9, rfl, rfl, (show Ext w2 _ by exact extA), by omega, rowC (Row.newAt (by simp)) (by simp only [gta, lSet]), ((OwnL.setC (show Y.heap.size < Y.heap.size + 1 by omega) (OwnL.setC (show Y.heap.size < Y.heap.size + 1 by omega) (OwnL.setC (show Y.heap.size < Y.heap.size + 1 by omega) (OwnL.setC (show Y.heap.size < Y.heap.size + 1 by omega) (OwnL.setC (show Y.heap.size < Y.heap.size + 1 by omega) HOA.out))))).alloc _).lower (by omega), ((OwnL.setC (show Y.heap.size < Y.heap.size + 1 by omega) (OwnL.setC (show Y.heap.size < Y.heap.size + 1 by omega) (OwnL.setC (show Y.heap.size < Y.heap.size + 1 by omega) (OwnL.setC (show Y.heap.size < Y.heap.size + 1 by omega) (OwnL.setC (show Y.heap.size < Y.heap.size + 1 by omega) HOI.out))))).alloc _).lower (by omega)⟩
      ·go_simp
       refine hK.out _ _ (.inr (show Ext Y _ by exact extA)) ?_
       clear hK
       (try simp only [Act.put, lSet])
       refine T_only (i := 5) rfl (by kernel_rfl) rfl (fun K hK => ?_)
       go_simp
       refine (KR.out _ (HWY.out.2.trans (by exact extA))).mono ?_
       rintro e w6 ⟨sa, si, rfl, h1, o1, o2⟩
       obtain ⟨C8, f8, rfl⟩ := o1.form
       obtain ⟨C9, f9, rfl⟩ := o2.form
       have H6 := Lib.hid h1
       have hz6 := h1.size
       clear h1
       (try simp only [World.size_alloc, size_set, World.heap_drewN, size_drew] at hz6 o1 o2)
       have HOA := Lib.hid o1
       have HOI := Lib.hid o2
       clear o1 o2 hS
       have hS : Ext Y w6 := by exact extA
       go_wp2_with fail
       (refine hK.out _ _ (.inr hS) ?_; clear hK)
       (try simp only [Act.put, lSet])
       (refine tkP 6 ?_; (try simp only [Act.put, lSet]); refine tkP 7 ?_; (try simp only [Act.put, lSet]); refine tkP 8 ?_; (try simp only [Act.put, lSet]); refine tkP 9 ?_; (try simp only [Act.put, lSet]))
       clear hS
       (apply Row.use (w := w6) (g := Y.heap.size); (focus (exact rowA)); intro qn_0 fn_0 ln_0 Rn_0; (try simp only [lSet] at qn_0 Rn_0); apply Row.use (w := w6) (g := (Y.heap.size + 1)); (focus (exact rowA)); intro qn_1 fn_1 ln_1 Rn_1; (try simp only [lSet] at qn_1 Rn_1))
       refine T_only (i := 12) rfl (by kernel_rfl) rfl (fun K hK => ?_)
       go_simp
       refine hK.out _ _ (.inr (show Ext Y _ by exact extA)) ?_
       clear hK
       (try simp only [Act.put, lSet])
       refine T_only (i := 13) rfl (by kernel_rfl) rfl (fun K hK => ?_)
       go_simp
       refine hK.out _ _ (.inr (show Ext Y _ by exact extA)) ?_
       clear hK
       (try simp only [Act.put, lSet])
       (refine T_only (i := 14) rfl (by kernel_rfl) rfl (fun K hK => ?_); go_simp; refine hK.out _ _ (.inl (by kernel_rfl)) ?_; clear hK; (try simp only [Act.put, lSet]); refine T_done (by kernel_rfl) ?_ _)
       go_wp2_with fail
       go_meet
       case rel =>
        exact ⟨(Y.heap.size + 1), C8, f8, C9, f9, rfl, rfl, (show Ext w2 _ by exact extA), by omega, rowC ((Row.far (p := ⟨Y.heap.size, 4, none⟩) (show Y.heap.size + 1 ≠ Y.heap.size by omega) (Row.far (p := ⟨Y.heap.size, 3, none⟩) (show Y.heap.size + 1 ≠ Y.heap.size by omega) (Row.far (p := ⟨Y.heap.size, 2, none⟩) (show Y.heap.size + 1 ≠ Y.heap.size by omega) (Row.far (p := ⟨Y.heap.size, 1, none⟩) (show Y.heap.size + 1 ≠ Y.heap.size by omega) (Row.far (p := ⟨Y.heap.size, 0, none⟩) (show Y.heap.size + 1 ≠ Y.heap.size by omega) ((((((((Rn_1.out.set_ (i := 0)).set_ (i := 1)).set_ (i := 2)).set_ (i := 3)).set_ (i := 4)).set_ (i := 5)).set_ (i := 6)).set_ (i := 7)))))))) (by simp only [gta, lSet]), (OwnL.setC (show Y.heap.size < Y.heap.size + 1 + 1 by omega) (OwnL.setC (show Y.heap.size < Y.heap.size + 1 + 1 by omega) (OwnL.setC (show Y.heap.size < Y.heap.size + 1 + 1 by omega) (OwnL.setC (show Y.heap.size < Y.heap.size + 1 + 1 by omega) (OwnL.setC (show Y.heap.size < Y.heap.size + 1 + 1 by omega) (OwnL.setC (show Y.heap.size + 1 < Y.heap.size + 1 + 1 by omega) (OwnL.setC (show Y.heap.size + 1 < Y.heap.size + 1 + 1 by omega) (OwnL.setC (show Y.heap.size + 1 < Y.heap.size + 1 + 1 by omega) (OwnL.setC (show Y.heap.size + 1 < Y.heap.size + 1 + 1 by omega) (OwnL.setC (show Y.heap.size + 1 < Y.heap.size + 1 + 1 by omega) (OwnL.setC (show Y.heap.size + 1 < Y.heap.size + 1 + 1 by omega) (OwnL.setC (show Y.heap.size + 1 < Y.heap.size + 1 + 1 by omega) (OwnL.setC (show Y.heap.size + 1 < Y.heap.size + 1 + 1 by omega) HOA.out))))))))))))).lower (by omega), (OwnL.setC (show Y.heap.size < Y.heap.size + 1 + 1 by omega) (OwnL.setC (show Y.heap.size < Y.heap.size + 1 + 1 by omega) (OwnL.setC (show Y.heap.size < Y.heap.size + 1 + 1 by omega) (OwnL.setC (show Y.heap.size < Y.heap.size + 1 + 1 by omega) (OwnL.setC (show Y.heap.size < Y.heap.size + 1 + 1 by omega) (OwnL.setC (show Y.heap.size + 1 < Y.heap.size + 1 + 1 by omega) (OwnL.setC (show Y.heap.size + 1 < Y.heap.size + 1 + 1 by omega) (OwnL.setC (show Y.heap.size + 1 < Y.heap.size + 1 + 1 by omega) (OwnL.setC (show Y.heap.size + 1 < Y.heap.size + 1 + 1 by omega) (OwnL.setC (show Y.heap.size + 1 < Y.heap.size + 1 + 1 by omega) (OwnL.setC (show Y.heap.size + 1 < Y.heap.size + 1 + 1 by omega) (OwnL.setC (show Y.heap.size + 1 < Y.heap.size + 1 + 1 by omega) (OwnL.setC (show Y.heap.size + 1 < Y.heap.size + 1 + 1 by omega) HOI.out))))))))))))).lower (by omega)⟩
    case rest =>
     obtain ⟨b9, C1, f1, C2, f2, rfl, rfl, HX9⟩ := hcut
     obtain ⟨he, hg5, hr5, oa, oi⟩ := HX9.out
     have R5 := Lib.hid hr5
     have HOA := Lib.hid oa
     have HOI := Lib.hid oi
     have HWC := Lib.hid (And.intro trivial (H2W.out.2.trans he))
     have hwcs := HWC.out.2.size
     have hbw : base ≤ w2.heap.size := by omega
     have z0 : wc.frozen? ⟨gb, m * 8, none⟩ = false := (HWC.out.2.frozs gb _ hgb).trans (HFZ.out 0 (by decide))
     have z1 : wc.frozen? ⟨gb, m * 8 + 1, none⟩ = false := (HWC.out.2.frozs gb _ hgb).trans (HFZ.out 1 (by decide))
     have z2 : wc.frozen? ⟨gb, m * 8 + 2, none⟩ = false := (HWC.out.2.frozs gb _ hgb).trans (HFZ.out 2 (by decide))
     have z3 : wc.frozen? ⟨gb, m * 8 + 3, none⟩ = false := (HWC.out.2.frozs gb _ hgb).trans (HFZ.out 3 (by decide))
     have z4 : wc.frozen? ⟨gb, m * 8 + 4, none⟩ = false := (HWC.out.2.frozs gb _ hgb).trans (HFZ.out 4 (by decide))
     have z5 : wc.frozen? ⟨gb, m * 8 + 5, none⟩ = false := (HWC.out.2.frozs gb _ hgb).trans (HFZ.out 5 (by decide))
     have z6 : wc.frozen? ⟨gb, m * 8 + 6, none⟩ = false := (HWC.out.2.frozs gb _ hgb).trans (HFZ.out 6 (by decide))
     have z7 : wc.frozen? ⟨gb, m * 8 + 7, none⟩ = false := (HWC.out.2.frozs gb _ hgb).trans (HFZ.out 7 (by decide))
     have y0 := (HWC.out.2.cells gb _ hgb).trans g0
     have y1 := (HWC.out.2.cells gb _ hgb).trans g1
     have y2 := (HWC.out.2.cells gb _ hgb).trans g2
     have y3 := (HWC.out.2.cells gb _ hgb).trans g3
     have y4 := (HWC.out.2.cells gb _ hgb).trans g4
     have y5 := (HWC.out.2.cells gb _ hgb).trans g5
     have y6 := (HWC.out.2.cells gb _ hgb).trans g6
     have y7 := (HWC.out.2.cells gb _ hgb).trans g7
     have hg5b : b9 ≠ gb := by omega
     have hgbw : gb < wc.heap.size := by omega
     clear HX9 he hr5 oa oi KR KO KL
     try clear HRS
     try clear HTK
     try clear HROW
     try clear HN3
     try clear HTR
     try clear KO
     try clear KL
     try clear HST
     try clear HB0
     try clear RB
     try clear qp
     try clear fp
     try clear lp
     try clear hge
     try clear hc3
     try clear hpw
     try clear hgp
     try clear hm3
     try clear hmi
     try clear hkl
     try clear hga
     try clear hkc
     try clear hkl'
     try clear hal
     try clear halb
     try clear hn0
     try clear hn2
     try clear hgb2
     try clear HC
     try clear hwm
     try clear hmg
     try clear g0
     try clear g1
     try clear g2
     try clear g3
     try clear g4
     try clear g5
     try clear g6
     try clear g7
     try clear k0
     try clear k1
     try clear k2
     try clear k3
     try clear k4
     try clear k5
     try clear k6
     try clear k7
     try clear j0
     try clear j1
     try clear j2
     try clear j3
     try clear j4
     try clear j5
     try clear qa_0
     try clear fa_0
     try clear la_0
     try clear Ra_0
     try clear qx_0
     try clear fx_0
     try clear lx_0
     try clear Rx_0
     try clear qx_1
     try clear fx_1
     try clear lx_1
     try clear Rx_1
     try clear qy_0
     try clear fy_0
     try clear ly_0
     try clear Ry_0
     try clear qy_1
     try clear fy_1
     try clear ly_1
     try clear Ry_1
     try clear q1_0
     try clear f1_0
     try clear l1_0
     try clear R1_0
     try clear qz_0
     try clear fz_0
     try clear lz_0
     try clear Rz_0
     try clear qz_1
     try clear fz_1
     try clear lz_1
     try clear Rz_1
     try clear hXs
     try clear hz1
     try clear hs2
     try clear hW
     try clear hzW
     try clear hzX
     obtain ⟨G0, G1, G2, G3, ⟨G4, G5⟩, G6, G7⟩ := G
     unfold gta at R5
     simp only at R5 HOA HOI HAS
     (apply Row.use (w := wc) (g := b9); (focus (exact rowA)); intro qc_0 fc_0 lc_0 Rc_0; (try simp only [lSet] at qc_0 Rc_0))
     by_cases h4 : e0 = 0
     ·subst h4
      have HQ3 := Lib.hid (show T = (⟨s.ledger, s.denied, s.gates.set m ⟨G0, G1, G2, G3, ⟨G4, G5⟩, G6, G7⟩, s.views⟩, 0, 0) by rw [HQ2.out, HAS.out]; simp)
      go_wp2_with fail
      go_ret2
      have hkc := (HF.out _ HWC.out.2).2.put HSG.out HMG.out ⟨G0, G1, G2, G3, ⟨G4, G5⟩, G6, G7⟩ (.slice C1 G3.length f1) (.slice C2 G5.length f2) ⟨HOA.out.lower hbw, HOI.out.lower hbw⟩
      rw [HQ3.out]
      exact ⟨rfl, Fr.setC hgl (Fr.setC hgl (Fr.setC hgl (Fr.setC hgl (Fr.setC hgl (Fr.setC hgl (Fr.setC hgl (Fr.setC hgl (HF.out _ HWC.out.2).1))))))), y, hkc⟩
     ·have h4b : (e0 == 0) = false := by simpa using h4
      have HQ3 := Lib.hid (show T = (s, 0, e0) by rw [HQ2.out, HAS.out, if_pos h4])
      go_wp2_with fail
      go_ret2
      rw [HQ3.out]
      exact ⟨rfl, (HF.out _ HWC.out.2).1, y, (HF.out _ HWC.out.2).2⟩
end Go.Proofs.YteojjbhadgkfgaaGreat

/- Tapping at a station: the function value. -/
namespace Go.Proofs.YteojjbhadgkfgaaGreat
set_option linter.unusedSimpArgs false
set_option linter.unusedVariables false
set_option maxRecDepth 100000
open Go Go.RowKit Lb

set_option maxHeartbeats 8000000 in
theorem rawtap_one (s : St) (y : Sv) (id n time v0 : Int) (p pi pn pt pv base : Nat) (w : World) (hk : Kp base w p y s) (rs : RightS s) (h1 : Row w pi #[.int .i64 id]) (h2 : Row w pn #[.int .i64 n]) (h3 : Row w pt #[.int .i64 time]) (hv : Row w pv #[.int .i64 v0]) (hpv : pv < base) :
  Calls Tryz.prog 102 #[.pointer (some ⟨p, 0, none⟩), .pointer (some ⟨pi, 0, none⟩), .pointer (some ⟨pn, 0, none⟩), .pointer (some ⟨pt, 0, none⟩), .pointer (some ⟨pv, 0, none⟩)] w fun e w' => e = .returned (.int .i64 (tapS s id n time).2.2) ∧ Fr (fun q => base ≤ q ∨ q = pv) w w' ∧ Row w' pv #[.int .i64 (tapS s id n time).2.1] ∧ ∃ y', Kp base w' p y' (tapS s id n time).1 := by
 have KT := Lib.hid (fun (w' : World) (h : Ext w w') => skeeper_tap s y id n time p base w' (hk.ext h) rs)
 generalize tapS s id n time = T at *
 obtain ⟨T1, T2, T3⟩ := T
 have R1 := Lib.hid h1
 have R2 := Lib.hid h2
 have R3 := Lib.hid h3
 have RV := Lib.hid hv
 have hge := hk.ge
 have hlv := hv.1
 clear hk rs h1 h2 h3 hv
 go_enter Tryz.func102, Tryz.ntmps102
 (apply Row.use (w := w) (g := pi); (focus (exact rowA)); intro qa_0 fa_0 la_0 Ra_0; (try simp only [lSet] at qa_0 Ra_0); apply Row.use (w := w) (g := pn); (focus (exact rowA)); intro qa_1 fa_1 la_1 Ra_1; (try simp only [lSet] at qa_1 Ra_1); apply Row.use (w := w) (g := pt); (focus (exact rowA)); intro qa_2 fa_2 la_2 Ra_2; (try simp only [lSet] at qa_2 Ra_2); apply Row.use (w := w) (g := pv); (focus (exact rowA)); intro qa_3 fa_3 la_3 Ra_3; (try simp only [lSet] at qa_3 Ra_3))
 go_wp2_with fail
 refine (KT.out _ (by exact extA)).mono ?_
 rintro e w1 ⟨rfl, hf, y', hk⟩
 have hr := hf.row (fun h => by omega) RV.out
 have HR := Lib.hid hr
 have HF := Lib.hid hf
 have HK := Lib.hid hk
 have q1 := hr.2.1
 have f1 := hr.2.2
 have l1 := hr.1
 have hpp := hk.ge
 clear hr hf hk
 go_wp2_with fail
 go_ret
 refine ⟨rfl, Fr.setC (.inr rfl) (HF.out.weaken (fun q h => .inl h)), ?_, y', ?_⟩
 ·exact rowC (HR.out.set_ (i := 0)) (by simp only [List.setIfInBounds_toArray, List.set_cons_zero])
 ·exact ⟨Bx.far (a := ⟨pv, 0, none⟩) (show p ≠ pv by omega) HK.out.box, HK.out.ge, HK.out.own.setC (a := ⟨pv, 0, none⟩) hpv⟩
end Go.Proofs.YteojjbhadgkfgaaGreat

/- station.RawTap. -/
namespace Go.Proofs.YteojjbhadgkfgaaGreat
set_option linter.unusedSimpArgs false
set_option linter.unusedVariables false
set_option maxRecDepth 100000
open Go Go.RowKit Lb

theorem tapRaw_eq (s : St) (id n time : Int) : tapRaw s id n time = (if (tapS s id n time).2.2 ≠ 0 then st0 else (tapS s id n time).1, (tapS s id n time).2.1, (tapS s id n time).2.2) := by
 unfold tapRaw
 by_cases h : (tapS s id n time).2.2 = 0
 ·rw [if_neg (by simpa using h), if_neg (by simpa using h)]
 ·rw [if_pos h, if_pos h]

set_option maxHeartbeats 16000000 in
theorem station_RawTap (s : St) (x : Sv) (id n time : Int) (w : World) (hr : RdS w x s) (rs : RightS s) :
  Calls Tryz.prog 51 #[.agg (sta s x), .int .i64 id, .int .i64 n, .int .i64 time] w fun e w' => ∃ x', e = .returned (.tuple #[.agg (sta (tapRaw s id n time).1 x'), .int .i64 (tapRaw s id n time).2.1, .int .i64 (tapRaw s id n time).2.2]) ∧ Ext w w' ∧ OwnS w.heap.size w' x' (tapRaw s id n time).1 := by
 rw [tapRaw_eq]
 have KW := Lib.hid (fun (w' : World) (h : Ext w w') (h1 : Row w' (w.heap.size + 1) #[.int .i64 id]) (h2 : Row w' (w.heap.size + 1 + 1) #[.int .i64 n]) (h3 : Row w' (w.heap.size + 1 + 1 + 1) #[.int .i64 time]) (hv : Row w' (w.heap.size + 1 + 1 + 1 + 1 + 1) #[.int .i64 0]) =>
  station_with 102 #[.pointer (some ⟨w.heap.size + 1, 0, none⟩), .pointer (some ⟨w.heap.size + 1 + 1, 0, none⟩), .pointer (some ⟨w.heap.size + 1 + 1 + 1, 0, none⟩), .pointer (some ⟨w.heap.size + 1 + 1 + 1 + 1 + 1, 0, none⟩)] (fun args w => by simp [go_sem]) s x w' (hr.ext h) rs (tapS s id n time).1 (tapS s id n time).2.2 (fun q => q = w.heap.size + 1 + 1 + 1 + 1 + 1) (by rintro q rfl; exact hv.1) (fun W => Row W (w.heap.size + 1 + 1 + 1 + 1 + 1) #[.int .i64 (tapS s id n time).2.1])
   (fun W W' q cs hb hq hf hro => hf.row (fun h => by have := hv.1; omega) hro)
   (fun b W p y hE hb2 hk => (rawtap_one s y id n time 0 p _ _ _ _ b W hk rs (h1.ext hE) (h2.ext hE) (h3.ext hE) (hv.ext hE) (by have := hv.1; omega)).mono (fun e W' h => h)))
 generalize tapS s id n time = T at *
 obtain ⟨T1, T2, T3⟩ := T
 simp only at KW ⊢
 generalize (if T3 ≠ 0 then st0 else T1) = R1 at *
 obtain ⟨A0, c0, e0, -, -⟩ := hr.tk.form
 obtain ⟨A1, c1, e1, -, -⟩ := hr.tp.form
 obtain ⟨A2, c2, e2, -, -⟩ := hr.vd.form
 obtain ⟨A3, c3, e3, -, -⟩ := hr.dn.form
 obtain ⟨A4, c4, e4, -, -⟩ := hr.gt.form
 obtain ⟨A5, c5, e5, -, -⟩ := hr.vw.form
 obtain ⟨s0, s1, s2, si, sg, sv⟩ := x
 simp only at e0 e1 e2 e3 e4 e5
 subst e0 e1 e2 e3 e4 e5
 clear hr rs
 unfold sta at KW ⊢
 simp only at KW ⊢
 go_enter Tryz.func51, Tryz.ntmps51
 go_wp2_with fail
 refine (KW.out _ (by exact extA) (by exact rowA) (by exact rowA) (by exact rowA) (by exact rowA)).mono ?_
 rintro e w1 ⟨⟨t0, t1, t2, ti, tg, tv⟩, rfl, hf, hv, ho⟩
 obtain ⟨B0, d0, e0⟩ := ho.tk.form
 obtain ⟨B1, d1, e1⟩ := ho.tp.form
 obtain ⟨B2, d2, e2⟩ := ho.vd.form
 obtain ⟨B3, d3, e3⟩ := ho.dn.form
 obtain ⟨B4, d4, e4⟩ := ho.gt.form
 obtain ⟨B5, d5, e5⟩ := ho.vw.form
 simp only at e0 e1 e2 e3 e4 e5
 subst e0 e1 e2 e3 e4 e5
 have hrr := hf.row (g := w.heap.size + 1 + 1 + 1 + 1) (cs := #[.slice none 0 0, .slice none 0 0, .slice none 0 0, .int .i64 0, .slice none 0 0, .slice none 0 0, .slice none 0 0]) (by rintro (h | h); (simp only [World.size_alloc] at h; omega); omega) (by exact rowA)
 have h1 : Ext w w1 := Ext.fr (by exact extA) hf (by rintro q (h | h); (simp only [World.size_alloc] at h; omega); omega)
 have H1 := Lib.hid h1
 have hz1 := hf.size
 have HO := Lib.hid ho
 have RV := Lib.hid hv
 have RR := Lib.hid hrr
 clear hf h1 ho hv hrr
 (try simp only [World.size_alloc] at hz1 HO)
 (apply Row.use (w := w1) (g := w.heap.size + 1 + 1 + 1 + 1); (focus (exact rowA)); intro q1_0 f1_0 l1_0 R1_0; (try simp only [lSet] at q1_0 R1_0); apply Row.use (w := w1) (g := w.heap.size + 1 + 1 + 1 + 1 + 1); (focus (exact rowA)); intro q1_1 f1_1 l1_1 R1_1; (try simp only [lSet] at q1_1 R1_1))
 go_upto_region 3 with fail
 (apply wp_gen3 (w0 := w1) (g0 := w.heap.size + 1 + 1 + 1 + 1) (g1 := w.heap.size + 1 + 1 + 1 + 1 + 1) (g2 := w1.heap.size); (focus (exact rowA)); (focus (exact rowA)); (focus (exact rowA)); (focus (exact extA)); intro W HW hzW Rz_0 Rz_1 Rz_2; (try simp only [lSet, World.size_alloc, size_set, World.heap_drewN, size_drew] at hzW Rz_0 Rz_1 Rz_2); have lz_0 := Rz_0.out.size; have lz_1 := Rz_1.out.size; have lz_2 := Rz_2.out.size)
 have HWs := Lib.hid (show OwnS (w.heap.size + 1 + 1 + 1 + 1 + 1 + 1) W ⟨.slice B0 R1.ledger.tickets.length d0, .slice B1 R1.ledger.taps.length d1, .slice B2 R1.ledger.verdicts.length d2, .slice B3 R1.denied.ids.length d3, .slice B4 R1.gates.length d4, .slice B5 R1.views.length d5⟩ R1 from HO.out.ext HW.out)
 have HK := Lib.hid (fun (w' : World) (h : Row w' (w.heap.size + 1 + 1 + 1 + 1 + 1) #[.int .i64 T2] ∧ Row w' w1.heap.size #[.slice B0 R1.ledger.tickets.length d0, .slice B1 R1.ledger.taps.length d1, .slice B2 R1.ledger.verdicts.length d2, .int .i64 R1.denied.version, .slice B3 R1.denied.ids.length d3, .slice B4 R1.gates.length d4, .slice B5 R1.views.length d5]) => And.intro h.1.2.1 h.2.2.1)
 (refine T_begin (fun w' => Row w' (w.heap.size + 1 + 1 + 1 + 1 + 1) #[.int .i64 T2] ∧ Row w' w1.heap.size #[.slice B0 R1.ledger.tickets.length d0, .slice B1 R1.ledger.taps.length d1, .slice B2 R1.ledger.verdicts.length d2, .int .i64 R1.denied.version, .slice B3 R1.denied.ids.length d3, .slice B4 R1.gates.length d4, .slice B5 R1.views.length d5]) 5 (by kernel_rfl) (And.intro Rz_1.out.drew Rz_2.out.drew) (fun hS => ?_); simp only [List.length_cons, List.length_nil])
 (refine tkA 0 HK hS ?_; (try simp only [Act.put, lSet]); refine tkA 1 HK hS ?_; (try simp only [Act.put, lSet]); refine tkA 2 HK hS ?_; (try simp only [Act.put, lSet]))
 have qz := Rz_0.out.2.1
 have fz := Rz_0.out.2.2
 clear HK hS
 refine T_only (i := 3) rfl (by kernel_rfl) rfl (fun K hK => ?_)
 go_simp
 refine hK.out _ _ (.inr (by exact ⟨Row.drew (Row.far (p := ⟨w.heap.size + 1 + 1 + 1 + 1, 6, none⟩) (show w.heap.size + 1 + 1 + 1 + 1 + 1 ≠ w.heap.size + 1 + 1 + 1 + 1 by omega) (Row.far (p := ⟨w.heap.size + 1 + 1 + 1 + 1, 5, none⟩) (show w.heap.size + 1 + 1 + 1 + 1 + 1 ≠ w.heap.size + 1 + 1 + 1 + 1 by omega) (Row.far (p := ⟨w.heap.size + 1 + 1 + 1 + 1, 4, none⟩) (show w.heap.size + 1 + 1 + 1 + 1 + 1 ≠ w.heap.size + 1 + 1 + 1 + 1 by omega) (Row.far (p := ⟨w.heap.size + 1 + 1 + 1 + 1, 3, none⟩) (show w.heap.size + 1 + 1 + 1 + 1 + 1 ≠ w.heap.size + 1 + 1 + 1 + 1 by omega) (Row.far (p := ⟨w.heap.size + 1 + 1 + 1 + 1, 2, none⟩) (show w.heap.size + 1 + 1 + 1 + 1 + 1 ≠ w.heap.size + 1 + 1 + 1 + 1 by omega) (Row.far (p := ⟨w.heap.size + 1 + 1 + 1 + 1, 1, none⟩) (show w.heap.size + 1 + 1 + 1 + 1 + 1 ≠ w.heap.size + 1 + 1 + 1 + 1 by omega) (Row.far (p := ⟨w.heap.size + 1 + 1 + 1 + 1, 0, none⟩) (show w.heap.size + 1 + 1 + 1 + 1 + 1 ≠ w.heap.size + 1 + 1 + 1 + 1 by omega) Rz_1.out))))))), Row.drew (Row.far (p := ⟨w.heap.size + 1 + 1 + 1 + 1, 6, none⟩) (show w1.heap.size ≠ w.heap.size + 1 + 1 + 1 + 1 by omega) (Row.far (p := ⟨w.heap.size + 1 + 1 + 1 + 1, 5, none⟩) (show w1.heap.size ≠ w.heap.size + 1 + 1 + 1 + 1 by omega) (Row.far (p := ⟨w.heap.size + 1 + 1 + 1 + 1, 4, none⟩) (show w1.heap.size ≠ w.heap.size + 1 + 1 + 1 + 1 by omega) (Row.far (p := ⟨w.heap.size + 1 + 1 + 1 + 1, 3, none⟩) (show w1.heap.size ≠ w.heap.size + 1 + 1 + 1 + 1 by omega) (Row.far (p := ⟨w.heap.size + 1 + 1 + 1 + 1, 2, none⟩) (show w1.heap.size ≠ w.heap.size + 1 + 1 + 1 + 1 by omega) (Row.far (p := ⟨w.heap.size + 1 + 1 + 1 + 1, 1, none⟩) (show w1.heap.size ≠ w.heap.size + 1 + 1 + 1 + 1 by omega) (Row.far (p := ⟨w.heap.size + 1 + 1 + 1 + 1, 0, none⟩) (show w1.heap.size ≠ w.heap.size + 1 + 1 + 1 + 1 by omega) Rz_2.out)))))))⟩)) ?_
 clear hK
 (try simp only [Act.put, lSet])
 refine T_only (i := 4) rfl (by kernel_rfl) rfl (fun K hK => ?_)
 go_simp
 refine hK.out _ _ (.inr (by exact ⟨Row.drew (Row.far (p := ⟨w.heap.size + 1 + 1 + 1 + 1, 6, none⟩) (show w.heap.size + 1 + 1 + 1 + 1 + 1 ≠ w.heap.size + 1 + 1 + 1 + 1 by omega) (Row.far (p := ⟨w.heap.size + 1 + 1 + 1 + 1, 5, none⟩) (show w.heap.size + 1 + 1 + 1 + 1 + 1 ≠ w.heap.size + 1 + 1 + 1 + 1 by omega) (Row.far (p := ⟨w.heap.size + 1 + 1 + 1 + 1, 4, none⟩) (show w.heap.size + 1 + 1 + 1 + 1 + 1 ≠ w.heap.size + 1 + 1 + 1 + 1 by omega) (Row.far (p := ⟨w.heap.size + 1 + 1 + 1 + 1, 3, none⟩) (show w.heap.size + 1 + 1 + 1 + 1 + 1 ≠ w.heap.size + 1 + 1 + 1 + 1 by omega) (Row.far (p := ⟨w.heap.size + 1 + 1 + 1 + 1, 2, none⟩) (show w.heap.size + 1 + 1 + 1 + 1 + 1 ≠ w.heap.size + 1 + 1 + 1 + 1 by omega) (Row.far (p := ⟨w.heap.size + 1 + 1 + 1 + 1, 1, none⟩) (show w.heap.size + 1 + 1 + 1 + 1 + 1 ≠ w.heap.size + 1 + 1 + 1 + 1 by omega) (Row.far (p := ⟨w.heap.size + 1 + 1 + 1 + 1, 0, none⟩) (show w.heap.size + 1 + 1 + 1 + 1 + 1 ≠ w.heap.size + 1 + 1 + 1 + 1 by omega) Rz_1.out))))))), Row.drew (Row.far (p := ⟨w.heap.size + 1 + 1 + 1 + 1, 6, none⟩) (show w1.heap.size ≠ w.heap.size + 1 + 1 + 1 + 1 by omega) (Row.far (p := ⟨w.heap.size + 1 + 1 + 1 + 1, 5, none⟩) (show w1.heap.size ≠ w.heap.size + 1 + 1 + 1 + 1 by omega) (Row.far (p := ⟨w.heap.size + 1 + 1 + 1 + 1, 4, none⟩) (show w1.heap.size ≠ w.heap.size + 1 + 1 + 1 + 1 by omega) (Row.far (p := ⟨w.heap.size + 1 + 1 + 1 + 1, 3, none⟩) (show w1.heap.size ≠ w.heap.size + 1 + 1 + 1 + 1 by omega) (Row.far (p := ⟨w.heap.size + 1 + 1 + 1 + 1, 2, none⟩) (show w1.heap.size ≠ w.heap.size + 1 + 1 + 1 + 1 by omega) (Row.far (p := ⟨w.heap.size + 1 + 1 + 1 + 1, 1, none⟩) (show w1.heap.size ≠ w.heap.size + 1 + 1 + 1 + 1 by omega) (Row.far (p := ⟨w.heap.size + 1 + 1 + 1 + 1, 0, none⟩) (show w1.heap.size ≠ w.heap.size + 1 + 1 + 1 + 1 by omega) Rz_2.out)))))))⟩)) ?_
 clear hK
 (try simp only [Act.put, lSet])
 (refine T_only (i := 5) rfl (by kernel_rfl) rfl (fun K hK => ?_); go_simp; refine hK.out _ _ (.inl (by kernel_rfl)) ?_; clear hK; (try simp only [Act.put, lSet]); refine T_done (by kernel_rfl) ?_ _)
 go_wp2_with fail
 have hWE : Ext w W := H1.out.trans HW.out
 refine bodyPost_ret (v := .tuple #[.agg #[.slice B0 R1.ledger.tickets.length d0, .slice B1 R1.ledger.taps.length d1, .slice B2 R1.ledger.verdicts.length d2, .int .i64 R1.denied.version, .slice B3 R1.denied.ids.length d3, .slice B4 R1.gates.length d4, .slice B5 R1.views.length d5], .int .i64 T2, .int .i64 T3]) (by simp [results, Tryz.results51, go_sem, *]) rfl ⟨⟨.slice B0 R1.ledger.tickets.length d0, .slice B1 R1.ledger.taps.length d1, .slice B2 R1.ledger.verdicts.length d2, .slice B3 R1.denied.ids.length d3, .slice B4 R1.gates.length d4, .slice B5 R1.views.length d5⟩, rfl, ?_, ?_⟩
 ·refine Ext.drew ?_
  repeat (refine Ext.setCell ?_ (by simp; omega) _)
  exact hWE
 ·refine OwnS.lower (base := w.heap.size + 1 + 1 + 1 + 1 + 1 + 1) ?_ (by omega)
  have hb : w.heap.size + 1 + 1 + 1 + 1 < w.heap.size + 1 + 1 + 1 + 1 + 1 + 1 := by omega
  exact (OwnS.setC hb (OwnS.setC hb (OwnS.setC hb (OwnS.setC hb (OwnS.setC hb (OwnS.setC hb (OwnS.setC hb HWs.out))))))).ext ((Ext.refl _).drew)
end Go.Proofs.YteojjbhadgkfgaaGreat

/- station.Tap. -/
namespace Go.Proofs.YteojjbhadgkfgaaGreat
set_option linter.unusedSimpArgs false
set_option linter.unusedVariables false
set_option maxRecDepth 100000
open Go Go.RowKit Lb

set_option maxHeartbeats 16000000 in
theorem station_Tap (s : St) (x : Sv) (id n time : Int) (w : World) (hr : RdS w x s) :
  Calls Tryz.prog 12 #[.agg (sta s x), .int .i64 id, .int .i64 n, .int .i64 time] w fun e w' => ∃ x', e = .returned (.tuple #[.agg (sta (tapSt s id n time).1 x'), .int .i64 (tapSt s id n time).2.1, .int .i64 (tapSt s id n time).2.2]) ∧ Ext w w' ∧ OwnS w.heap.size w' x' (tapSt s id n time).1 := by
 have KC := Lib.hid (fun (w' : World) (h : Ext w w') => station_Check s x w' (hr.ext h))
 have KR := Lib.hid (fun (w' : World) (h : Ext w w') (hc : ckSt s = 0) => station_RawTap s x id n time w' (hr.ext h) (rightS_iff.1 hc))
 have hres : tapSt s id n time = if ckSt s ≠ 0 then (st0, 0, ckSt s) else tapRaw s id n time := rfl
 generalize tapSt s id n time = R at *
 generalize hck : ckSt s = ck at *
 generalize tapRaw s id n time = Q at *
 have HRES := Lib.hid hres
 obtain ⟨A0, c0, e0, -, -⟩ := hr.tk.form
 obtain ⟨A1, c1, e1, -, -⟩ := hr.tp.form
 obtain ⟨A2, c2, e2, -, -⟩ := hr.vd.form
 obtain ⟨A3, c3, e3, -, -⟩ := hr.dn.form
 obtain ⟨A4, c4, e4, -, -⟩ := hr.gt.form
 obtain ⟨A5, c5, e5, -, -⟩ := hr.vw.form
 obtain ⟨s0, s1, s2, si, sg, sv⟩ := x
 simp only at e0 e1 e2 e3 e4 e5
 subst e0 e1 e2 e3 e4 e5
 clear hr hres hck
 unfold sta at KC KR ⊢
 simp only at KC KR ⊢
 go_enter Tryz.func12, Tryz.ntmps12
 go_wp2_with fail
 (refine (KC.out _ (by exact extA)).mono ?_; rintro e w1 ⟨rfl, h1⟩; have H1 := Lib.hid h1; have hz1 := h1.size; clear h1; (try simp only [World.size_alloc, size_set, World.heap_drewN, size_drew] at hz1); apply Row.use (w := w1) (g := w.heap.size); (focus (exact rowA)); intro q1_0 f1_0 l1_0 R1_0; (try simp only [lSet] at q1_0 R1_0); apply Row.use (w := w1) (g := w.heap.size + 1); (focus (exact rowA)); intro q1_1 f1_1 l1_1 R1_1; (try simp only [lSet] at q1_1 R1_1))
 by_cases h0 : ck = 0
 ·subst h0
  have HQ := Lib.hid (show R = Q by rw [HRES.out]; simp)
  obtain ⟨Q1, Q2, Q3⟩ := Q
  go_wp2_with fail
  refine (KR.out _ (by exact extA) (by trivial)).mono ?_
  rintro e w2 ⟨⟨t0, t1, t2, ti, tg, tv⟩, rfl, h2, ho⟩
  obtain ⟨B0, d0, e0⟩ := ho.tk.form
  obtain ⟨B1, d1, e1⟩ := ho.tp.form
  obtain ⟨B2, d2, e2⟩ := ho.vd.form
  obtain ⟨B3, d3, e3⟩ := ho.dn.form
  obtain ⟨B4, d4, e4⟩ := ho.gt.form
  obtain ⟨B5, d5, e5⟩ := ho.vw.form
  simp only at e0 e1 e2 e3 e4 e5
  subst e0 e1 e2 e3 e4 e5
  have H2 := Lib.hid h2
  have hz2 := h2.size
  have HO := Lib.hid ho
  clear h2 ho
  (apply Row.use (w := w2) (g := w.heap.size + 1); (focus (exact rowA)); intro q2_0 f2_0 l2_0 R2_0; (try simp only [lSet] at q2_0 R2_0))
  go_wp2_with fail
  rw [HQ.out]
  refine bodyPost_ret (v := .tuple #[.agg #[.slice B0 Q1.ledger.tickets.length d0, .slice B1 Q1.ledger.taps.length d1, .slice B2 Q1.ledger.verdicts.length d2, .int .i64 Q1.denied.version, .slice B3 Q1.denied.ids.length d3, .slice B4 Q1.gates.length d4, .slice B5 Q1.views.length d5], .int .i64 Q2, .int .i64 Q3]) (by simp [results, Tryz.results12, go_sem, *]) rfl ⟨⟨.slice B0 Q1.ledger.tickets.length d0, .slice B1 Q1.ledger.taps.length d1, .slice B2 Q1.ledger.verdicts.length d2, .slice B3 Q1.denied.ids.length d3, .slice B4 Q1.gates.length d4, .slice B5 Q1.views.length d5⟩, rfl, (show Ext w _ by exact extA), ?_⟩
  refine OwnS.lower (base := w1.heap.size) ?_ (by omega)
  repeat (refine OwnS.setC (by simp; omega) ?_)
  exact HO.out
 ·have HQ := Lib.hid (show R = (st0, 0, ck) by rw [HRES.out, if_pos h0])
  have h0b : (ck == 0) = false := by simpa using h0
  go_wp2_with fail
  rw [HQ.out]
  exact bodyPost_ret (v := .tuple #[.agg #[.slice none 0 0, .slice none 0 0, .slice none 0 0, .int .i64 0, .slice none 0 0, .slice none 0 0, .slice none 0 0], .int .i64 0, .int .i64 ck]) (by simp [results, Tryz.results12, go_sem, *]) rfl ⟨sv0, rfl, (show Ext w _ by exact extA), OwnS.nil⟩
end Go.Proofs.YteojjbhadgkfgaaGreat

/- Selling at a station: the function value. -/
namespace Go.Proofs.YteojjbhadgkfgaaGreat
set_option linter.unusedSimpArgs false
set_option linter.unusedVariables false
set_option maxRecDepth 100000
open Go Go.RowKit Lb

/-- the keeper's station behind a sale -/
def sellK (s : St) (t : Tk) : St := if led s = true then ⟨(sellL s.ledger t).1, s.denied, s.gates, s.views⟩ else s
theorem sell_all {l : Ld} (h : ckLedger l = 0) (t : Tk) : sellAll l t = sellL l t := by unfold sellAll; rw [if_neg (by simpa using h)]

set_option maxHeartbeats 16000000 in
theorem rawsell_one (s : St) (y : Sv) (t : Tk) (p pt base : Nat) (w : World) (hk : Kp base w p y s) (rs : RightS s) (hpt : Row w pt (tkc t)) (hne : pt ≠ p) :
  Calls Tryz.prog 99 #[.pointer (some ⟨p, 0, none⟩), .pointer (some ⟨pt, 0, none⟩)] w fun e w' => e = .returned (.int .i64 (sellS s t).2) ∧ Fr (fun q => base ≤ q) w w' ∧ ∃ y', Kp base w' p y' (sellK s t) := by
 have HK := Lib.hid hk
 have KL := Lib.hid (fun (w' : World) (h : Ext w w') => keeper_led s y p w' (Row.ext h hk.box.row) ((hk.own.vw.rd vwc_size).ext h) rs.views)
 have HS := Lib.hid (fun (w' : World) (h : Ext w w') => (sell_all rs.ledger t) ▸ ledger_Sell s.ledger y.s0 y.s1 y.s2 t w' ((hk.own.tk.rd tkc_size).ext h) ((hk.own.tp.rd tpc_size).ext h) ((hk.own.vd.rd inc_size).ext h) (right_fits rs.ledger))
 have hse : (sellS s t).2 = if led s = true then (sellL s.ledger t).2 else 4 := by
  unfold sellS
  cases h : led s with
  | false => simp
  | true =>
   simp only [Bool.true_eq_false, if_false, if_true]
   split
   ·rfl
   ·rename_i h2; simp only; exact (by simpa using h2 : (sellL s.ledger t).2 = 0).symm
 have hsk : sellK s t = if led s = true then ⟨(sellL s.ledger t).1, s.denied, s.gates, s.views⟩ else s := rfl
 generalize (sellS s t).2 = ec at *
 generalize sellK s t = K at *
 generalize hE : sellL s.ledger t = E at *
 obtain ⟨⟨E0, E1, E2⟩, E3⟩ := E
 generalize hld : led s = z at *
 obtain ⟨B0, b0, hB0⟩ := hk.own.tk.form
 obtain ⟨B1, b1, hB1⟩ := hk.own.tp.form
 obtain ⟨B2, b2, hB2⟩ := hk.own.vd.form
 obtain ⟨B3, b3, hB3⟩ := hk.own.dn.form
 obtain ⟨B4, b4, hB4⟩ := hk.own.gt.form
 obtain ⟨B5, b5, hB5⟩ := hk.own.vw.form
 have RB := Lib.hid hk.box.row
 have RT := Lib.hid hpt
 unfold sta at RB
 unfold tkc at RT
 rw [hB0, hB1, hB2, hB3, hB4, hB5] at RB
 rw [hB0, hB1, hB2] at HS
 have hpw := hk.box.lt
 have hge := hk.ge
 have hptw := hpt.1
 have HSE := Lib.hid hse
 have HSK := Lib.hid hsk
 simp only at HS
 clear hk rs hpt hse hsk hE hld hB0 hB1 hB2 hB3 hB4 hB5
 rw [show tkc t = #[.int .i64 t.id, .int .i64 t.kind, .int .i64 t.frm, .int .i64 t.til, .int .i64 t.zones, .int .i64 t.rides] from rfl] at HS
 go_enter Tryz.func99, Tryz.ntmps99
 go_wp2_with fail
 (refine (KL.out _ (by exact extA)).mono ?_; rintro e w1 ⟨rfl, h1⟩; have H1 := Lib.hid h1; have hz1 := h1.size; clear h1; (try simp only [World.size_alloc, size_set, World.heap_drewN, size_drew] at hz1); apply Row.use (w := w1) (g := p); (focus (exact rowA)); intro q1_0 f1_0 l1_0 R1_0; (try simp only [lSet] at q1_0 R1_0); apply Row.use (w := w1) (g := pt); (focus (exact rowA)); intro q1_1 f1_1 l1_1 R1_1; (try simp only [lSet] at q1_1 R1_1))
 cases z
 ·have HQ := Lib.hid (show ec = 4 by rw [HSE.out]; simp)
  have HQ2 := Lib.hid (show K = s by rw [HSK.out]; simp)
  go_wp2_with fail
  go_ret
  rw [HQ.out, HQ2.out]
  exact ⟨rfl, Fr.ofExt (show Ext w _ by exact extA), y, HK.out.ext (show Ext w _ by exact extA)⟩
 ·have HQ := Lib.hid (show ec = E3 by rw [HSE.out]; simp)
  have HQ2 := Lib.hid (show K = ⟨⟨E0, E1, E2⟩, s.denied, s.gates, s.views⟩ by rw [HSK.out]; simp)
  have hw1s := H1.out.size
  have HE1 := Lib.hid (And.intro trivial H1.out)
  go_upto_region 3 with fail
  go_cut [4, 5] (fun s4 s5 wx => ∃ g4 u0 u1 u2, s4 = .pointer (some ⟨g4, 0, none⟩) ∧ s5 = .int .i64 E3 ∧ Aside (Ext w1 wx ∧ w1.heap.size ≤ g4 ∧ Row wx g4 #[u0, u1, u2] ∧ OwnLd w1.heap.size wx u0 u1 u2 ⟨E0, E1, E2⟩))
  case first =>
   (apply wp_gen2 (w0 := w1) (g0 := pt) (g1 := p); (focus (exact rowA)); (focus (exact rowA)); (focus (exact extA)); intro W HW hzW Ra_0 Ra_1; (try simp only [lSet, World.size_alloc, size_set, World.heap_drewN, size_drew] at hzW Ra_0 Ra_1); have la_0 := Ra_0.out.size; have la_1 := Ra_1.out.size)
   have HK := Lib.hid (fun (w' : World) (h : Ext W w') => And.intro (Row.ext h Ra_0.out).2.1 ((Row.ext h Ra_1.out).2.1))
   (refine T_begin (fun w' => Ext W w') 12 (by kernel_rfl) ((Ext.refl _).drew) (fun hS => ?_); simp only [List.length_cons, List.length_nil])
   (refine tkA 0 HK hS ?_; (try simp only [Act.put, lSet]); refine tkA 1 HK hS ?_; (try simp only [Act.put, lSet]); refine tkA 2 HK hS ?_; (try simp only [Act.put, lSet]); refine tkA 3 HK hS ?_; (try simp only [Act.put, lSet]); refine tkA 4 HK hS ?_; (try simp only [Act.put, lSet]); refine tkA 5 HK hS ?_; (try simp only [Act.put, lSet]))
   refine T_two (i := 6) (j := 10) rfl rfl (by kernel_rfl) rfl rfl (fun K hK => ?_) (fun K hK => ?_)
   ·go_simp
    refine (HS.out _ (by exact extA)).mono ?_
    rintro e w6 ⟨u0, u1, u2, rfl, h1, ho⟩
    obtain ⟨A6a, c6a, A6b, c6b, A6c, c6c, rfl, rfl, rfl⟩ := ho.forms
    have H6 := Lib.hid h1
    have hz6 := h1.size
    clear h1
    (try simp only [World.size_alloc, size_set, World.heap_drewN, size_drew] at hz6)
    have HO_ho := Lib.hid ho
    clear ho
    clear hS
    have hS : Ext W w6 := by exact extA
    go_wp2_with fail
    (refine hK.out _ _ (.inr hS) ?_; clear hK)
    (try simp only [Act.put, lSet])
    (refine tkP 7 ?_; (try simp only [Act.put, lSet]); refine tkP 8 ?_; (try simp only [Act.put, lSet]); refine tkP 9 ?_; (try simp only [Act.put, lSet]))
    clear hS
    refine T_only (i := 10) rfl (by kernel_rfl) rfl (fun K hK => ?_)
    go_simp
    refine hK.out _ _ (.inr (show Ext W _ by exact extA)) ?_
    clear hK
    (try simp only [Act.put, lSet])
    refine T_only (i := 11) rfl (by kernel_rfl) rfl (fun K hK => ?_)
    go_simp
    refine hK.out _ _ (.inr (show Ext W _ by exact extA)) ?_
    clear hK
    (try simp only [Act.put, lSet])
    (refine T_only (i := 12) rfl (by kernel_rfl) rfl (fun K hK => ?_); go_simp; refine hK.out _ _ (.inl (by kernel_rfl)) ?_; clear hK; (try simp only [Act.put, lSet]); refine T_done (by kernel_rfl) ?_ _)
    go_wp2_with fail
    go_meet
    case rel => exact ⟨_, .slice A6a E0.length c6a, .slice A6b E1.length c6b, .slice A6c E2.length c6c, rfl, rfl, (show Ext w1 _ by exact extA), by omega, Row.newAt rfl, (HO_ho.out.alloc _).lower (by simp; omega)⟩
   ·go_simp
    refine hK.out _ _ (.inr (show Ext W _ by exact extA)) ?_
    clear hK
    (try simp only [Act.put, lSet])
    (refine T_only (i := 6) rfl (by kernel_rfl) rfl (fun K hK => ?_); go_simp)
    refine (HS.out _ (by exact extA)).mono ?_
    rintro e w6 ⟨u0, u1, u2, rfl, h1, ho⟩
    obtain ⟨A6a, c6a, A6b, c6b, A6c, c6c, rfl, rfl, rfl⟩ := ho.forms
    have H6 := Lib.hid h1
    have hz6 := h1.size
    clear h1
    (try simp only [World.size_alloc, size_set, World.heap_drewN, size_drew] at hz6)
    have HO_ho := Lib.hid ho
    clear ho
    clear hS
    have hS : Ext W w6 := by exact extA
    go_wp2_with fail
    (refine hK.out _ _ (.inr hS) ?_; clear hK)
    (try simp only [Act.put, lSet])
    (refine tkP 7 ?_; (try simp only [Act.put, lSet]); refine tkP 8 ?_; (try simp only [Act.put, lSet]); refine tkP 9 ?_; (try simp only [Act.put, lSet]))
    clear hS
    (apply Row.use (w := w6) (g := W.heap.size); (focus (exact rowA)); intro qn_0 fn_0 ln_0 Rn_0; (try simp only [lSet] at qn_0 Rn_0))
    refine T_only (i := 11) rfl (by kernel_rfl) rfl (fun K hK => ?_)
    go_simp
    refine hK.out _ _ (.inr (show Ext W _ by exact extA)) ?_
    clear hK
    (try simp only [Act.put, lSet])
    (refine T_only (i := 12) rfl (by kernel_rfl) rfl (fun K hK => ?_); go_simp; refine hK.out _ _ (.inl (by kernel_rfl)) ?_; clear hK; (try simp only [Act.put, lSet]); refine T_done (by kernel_rfl) ?_ _)
    go_wp2_with fail
    have hsz3 : W.heap.size < (W.drew.alloc (.cells #[.slice none 0 0, .slice none 0 0, .slice none 0 0] 26)).heap.size := by simp
    go_meet
    case rel =>
     refine ⟨_, .slice A6a E0.length c6a, .slice A6b E1.length c6b, .slice A6c E2.length c6c, rfl, rfl, (show Ext w1 _ by exact extA), by omega, ?_, ?_⟩
     ·exact rowC (((Rn_0.out.set_ (i := 0)).set_ (i := 1)).set_ (i := 2)) (by simp only [lSet])
     ·exact (OwnLd.setC hsz3 (OwnLd.setC hsz3 (OwnLd.setC hsz3 HO_ho.out))).lower (by simp; omega)
  case rest =>
   obtain ⟨g4, u0, u1, u2, rfl, rfl, HX⟩ := hcut
   obtain ⟨he, hg4, hr4, ho4⟩ := HX.out
   have H2 := Lib.hid he
   have R4 := Lib.hid hr4
   have HO := Lib.hid ho4
   obtain ⟨D0, j0, D1, j1, D2, j2, rfl, rfl, rfl⟩ := ho4.forms
   have hg4p : g4 ≠ p := by omega
   clear HX he hr4 ho4 HS
   (apply Row.use (w := wc) (g := p); (focus (exact rowA)); intro qc_0 fc_0 lc_0 Rc_0; (try simp only [lSet] at qc_0 Rc_0); apply Row.use (w := wc) (g := g4); (focus (exact rowA)); intro qc_1 fc_1 lc_1 Rc_1; (try simp only [lSet] at qc_1 Rc_1))
   go_wp2_with fail
   go_ret
   have hkc := (HK.out.ext (HE1.out.2.trans H2.out)).ledger HO.out (by omega)
   rw [HQ.out, HQ2.out]
   exact ⟨rfl, Fr.setC hge (Fr.setC hge (Fr.setC hge (Fr.ofExt (HE1.out.2.trans H2.out)))), _, hkc⟩
end Go.Proofs.YteojjbhadgkfgaaGreat

/- station.RawSell, station.Sell. -/
namespace Go.Proofs.YteojjbhadgkfgaaGreat
set_option linter.unusedSimpArgs false
set_option linter.unusedVariables false
set_option maxRecDepth 100000
open Go Go.RowKit Lb

theorem sellRaw_eq (s : St) (t : Tk) : (if (sellS s t).2 ≠ 0 then st0 else sellK s t) = (sellRaw s t).1 ∧ (sellS s t).2 = (sellRaw s t).2 := by
 unfold sellRaw
 by_cases h : (sellS s t).2 = 0
 ·rw [if_neg (by simpa using h), if_neg (by simpa using h)]
  refine ⟨?_, rfl⟩
  unfold sellK
  unfold sellS at h ⊢
  cases hl : led s with
  | false => rw [hl] at h; simp at h
  | true =>
   rw [hl] at h
   simp only [Bool.true_eq_false, if_false] at h
   simp only [Bool.true_eq_false, if_false, if_true]
   split
   ·rename_i h2; rw [if_pos h2] at h; exact absurd h h2
   ·rfl
 ·rw [if_pos h, if_pos h]
  exact ⟨rfl, rfl⟩

set_option maxHeartbeats 16000000 in
theorem station_RawSell (s : St) (x : Sv) (t : Tk) (w : World) (hr : RdS w x s) (rs : RightS s) :
  Calls Tryz.prog 50 #[.agg (sta s x), .agg (tkc t)] w fun e w' => ∃ x', e = .returned (.tuple #[.agg (sta (sellRaw s t).1 x'), .int .i64 (sellRaw s t).2]) ∧ Ext w w' ∧ OwnS w.heap.size w' x' (sellRaw s t).1 := by
 have KW := Lib.hid (fun (w' : World) (h : Ext w w') (hb : Row w' (w.heap.size + 1) (tkc t)) => station_with 99 #[.pointer (some ⟨w.heap.size + 1, 0, none⟩)] (fun args w => by simp [go_sem]) s x w' (hr.ext h) rs (sellK s t) (sellS s t).2 (fun _ => False) (fun _ h => h.elim) (fun _ => True) (fun _ _ _ _ _ _ _ _ => trivial)
  (fun b W p y hE hb2 hk => (rawsell_one s y t p (w.heap.size + 1) b W hk rs (hb.ext hE) (by have := hb.1; have := hk.ge; omega)).mono (fun e W' h => ⟨h.1, h.2.1.weaken (fun q hq => .inl hq), trivial, h.2.2⟩)))
 obtain ⟨he1, he2⟩ := sellRaw_eq s t
 simp only [he1] at KW
 simp only [he2] at KW
 clear he1 he2
 generalize sellRaw s t = R at *
 obtain ⟨R1, R2⟩ := R
 obtain ⟨A0, c0, e0, -, -⟩ := hr.tk.form
 obtain ⟨A1, c1, e1, -, -⟩ := hr.tp.form
 obtain ⟨A2, c2, e2, -, -⟩ := hr.vd.form
 obtain ⟨A3, c3, e3, -, -⟩ := hr.dn.form
 obtain ⟨A4, c4, e4, -, -⟩ := hr.gt.form
 obtain ⟨A5, c5, e5, -, -⟩ := hr.vw.form
 obtain ⟨s0, s1, s2, si, sg, sv⟩ := x
 simp only at e0 e1 e2 e3 e4 e5
 subst e0 e1 e2 e3 e4 e5
 clear hr rs
 rw [show tkc t = #[.int .i64 t.id, .int .i64 t.kind, .int .i64 t.frm, .int .i64 t.til, .int .i64 t.zones, .int .i64 t.rides] from rfl] at KW ⊢
 unfold sta at KW ⊢
 simp only at KW ⊢
 go_enter Tryz.func50, Tryz.ntmps50
 go_wp2_with fail
 refine (KW.out _ (by exact extA) (by exact rowA)).mono ?_
 rintro e w1 ⟨⟨t0, t1, t2, ti, tg, tv⟩, rfl, hf, -, ho⟩
 obtain ⟨B0, d0, e0⟩ := ho.tk.form
 obtain ⟨B1, d1, e1⟩ := ho.tp.form
 obtain ⟨B2, d2, e2⟩ := ho.vd.form
 obtain ⟨B3, d3, e3⟩ := ho.dn.form
 obtain ⟨B4, d4, e4⟩ := ho.gt.form
 obtain ⟨B5, d5, e5⟩ := ho.vw.form
 simp only at e0 e1 e2 e3 e4 e5
 subst e0 e1 e2 e3 e4 e5
 have h1 := (Ext.refl _).fr hf (fun q h => h.elim id False.elim)
 have H1 := Lib.hid h1
 have hz1 := h1.size
 have HO := Lib.hid ho
 clear hf h1 ho
 (try simp only [World.size_alloc] at hz1)
 (apply Row.use (w := w1) (g := w.heap.size + 1 + 1); (focus (exact rowA)); intro q1_0 f1_0 l1_0 R1_0; (try simp only [lSet] at q1_0 R1_0))
 go_wp2_with fail
 refine bodyPost_ret (v := .tuple #[.agg #[.slice B0 R1.ledger.tickets.length d0, .slice B1 R1.ledger.taps.length d1, .slice B2 R1.ledger.verdicts.length d2, .int .i64 R1.denied.version, .slice B3 R1.denied.ids.length d3, .slice B4 R1.gates.length d4, .slice B5 R1.views.length d5], .int .i64 R2]) (by simp [results, Tryz.results50, go_sem, *]) rfl ⟨⟨.slice B0 R1.ledger.tickets.length d0, .slice B1 R1.ledger.taps.length d1, .slice B2 R1.ledger.verdicts.length d2, .slice B3 R1.denied.ids.length d3, .slice B4 R1.gates.length d4, .slice B5 R1.views.length d5⟩, rfl, (show Ext w _ by exact extA), ?_⟩
 have hO := HO.out
 (try simp only [World.size_alloc] at hO)
 refine OwnS.lower (base := w.heap.size + 1 + 1 + 1) ?_ (by omega)
 repeat (refine OwnS.setC (by simp) ?_)
 exact hO
end Go.Proofs.YteojjbhadgkfgaaGreat

/- station.Sell. -/
namespace Go.Proofs.YteojjbhadgkfgaaGreat
set_option linter.unusedSimpArgs false
set_option linter.unusedVariables false
set_option maxRecDepth 100000
open Go Go.RowKit Lb

set_option maxHeartbeats 16000000 in
theorem station_Sell (s : St) (x : Sv) (t : Tk) (w : World) (hr : RdS w x s) :
  Calls Tryz.prog 11 #[.agg (sta s x), .agg (tkc t)] w fun e w' => ∃ x', e = .returned (.tuple #[.agg (sta (sellSt s t).1 x'), .int .i64 (sellSt s t).2]) ∧ Ext w w' ∧ OwnS w.heap.size w' x' (sellSt s t).1 := by
 have KC := Lib.hid (fun (w' : World) (h : Ext w w') => station_Check s x w' (hr.ext h))
 have KR := Lib.hid (fun (w' : World) (h : Ext w w') (hc : ckSt s = 0) => station_RawSell s x t w' (hr.ext h) (rightS_iff.1 hc))
 have hres : sellSt s t = if ckSt s ≠ 0 then (st0, ckSt s) else sellRaw s t := rfl
 generalize sellSt s t = R at *
 generalize hck : ckSt s = ck at *
 generalize sellRaw s t = Q at *
 have HRES := Lib.hid hres
 obtain ⟨A0, c0, e0, -, -⟩ := hr.tk.form
 obtain ⟨A1, c1, e1, -, -⟩ := hr.tp.form
 obtain ⟨A2, c2, e2, -, -⟩ := hr.vd.form
 obtain ⟨A3, c3, e3, -, -⟩ := hr.dn.form
 obtain ⟨A4, c4, e4, -, -⟩ := hr.gt.form
 obtain ⟨A5, c5, e5, -, -⟩ := hr.vw.form
 obtain ⟨s0, s1, s2, si, sg, sv⟩ := x
 simp only at e0 e1 e2 e3 e4 e5
 subst e0 e1 e2 e3 e4 e5
 clear hr hres hck
 rw [show tkc t = #[.int .i64 t.id, .int .i64 t.kind, .int .i64 t.frm, .int .i64 t.til, .int .i64 t.zones, .int .i64 t.rides] from rfl] at KR ⊢
 unfold sta at KC KR ⊢
 simp only at KC KR ⊢
 go_enter Tryz.func11, Tryz.ntmps11
 go_wp2_with fail
 (refine (KC.out _ (by exact extA)).mono ?_; rintro e w1 ⟨rfl, h1⟩; have H1 := Lib.hid h1; have hz1 := h1.size; clear h1; (try simp only [World.size_alloc, size_set, World.heap_drewN, size_drew] at hz1); apply Row.use (w := w1) (g := w.heap.size); (focus (exact rowA)); intro q1_0 f1_0 l1_0 R1_0; (try simp only [lSet] at q1_0 R1_0); apply Row.use (w := w1) (g := w.heap.size + 1); (focus (exact rowA)); intro q1_1 f1_1 l1_1 R1_1; (try simp only [lSet] at q1_1 R1_1); apply Row.use (w := w1) (g := w.heap.size + 1 + 1); (focus (exact rowA)); intro q1_2 f1_2 l1_2 R1_2; (try simp only [lSet] at q1_2 R1_2))
 by_cases h0 : ck = 0
 ·subst h0
  have HQ := Lib.hid (show R = Q by rw [HRES.out]; simp)
  obtain ⟨Q1, Q2⟩ := Q
  go_wp2_with fail
  refine (KR.out _ (by exact extA) (by trivial)).mono ?_
  rintro e w2 ⟨⟨t0, t1, t2, ti, tg, tv⟩, rfl, h2, ho⟩
  obtain ⟨B0, d0, e0⟩ := ho.tk.form
  obtain ⟨B1, d1, e1⟩ := ho.tp.form
  obtain ⟨B2, d2, e2⟩ := ho.vd.form
  obtain ⟨B3, d3, e3⟩ := ho.dn.form
  obtain ⟨B4, d4, e4⟩ := ho.gt.form
  obtain ⟨B5, d5, e5⟩ := ho.vw.form
  simp only at e0 e1 e2 e3 e4 e5
  subst e0 e1 e2 e3 e4 e5
  have H2 := Lib.hid h2
  have hz2 := h2.size
  have HO := Lib.hid ho
  clear h2 ho
  (apply Row.use (w := w2) (g := w.heap.size + 1 + 1); (focus (exact rowA)); intro q2_0 f2_0 l2_0 R2_0; (try simp only [lSet] at q2_0 R2_0))
  go_wp2_with fail
  rw [HQ.out]
  refine bodyPost_ret (v := .tuple #[.agg #[.slice B0 Q1.ledger.tickets.length d0, .slice B1 Q1.ledger.taps.length d1, .slice B2 Q1.ledger.verdicts.length d2, .int .i64 Q1.denied.version, .slice B3 Q1.denied.ids.length d3, .slice B4 Q1.gates.length d4, .slice B5 Q1.views.length d5], .int .i64 Q2]) (by simp [results, Tryz.results11, go_sem, *]) rfl ⟨⟨.slice B0 Q1.ledger.tickets.length d0, .slice B1 Q1.ledger.taps.length d1, .slice B2 Q1.ledger.verdicts.length d2, .slice B3 Q1.denied.ids.length d3, .slice B4 Q1.gates.length d4, .slice B5 Q1.views.length d5⟩, rfl, (show Ext w _ by exact extA), ?_⟩
  refine OwnS.lower (base := w1.heap.size) ?_ (by omega)
  repeat (refine OwnS.setC (by simp; omega) ?_)
  exact HO.out
 ·have HQ := Lib.hid (show R = (st0, ck) by rw [HRES.out, if_pos h0])
  have h0b : (ck == 0) = false := by simpa using h0
  go_wp2_with fail
  rw [HQ.out]
  exact bodyPost_ret (v := .tuple #[.agg #[.slice none 0 0, .slice none 0 0, .slice none 0 0, .int .i64 0, .slice none 0 0, .slice none 0 0, .slice none 0 0], .int .i64 ck]) (by simp [results, Tryz.results11, go_sem, *]) rfl ⟨sv0, rfl, (show Ext w _ by exact extA), OwnS.nil⟩
end Go.Proofs.YteojjbhadgkfgaaGreat
