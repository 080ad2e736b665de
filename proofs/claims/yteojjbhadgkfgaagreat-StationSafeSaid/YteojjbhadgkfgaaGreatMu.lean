/- Mu: parts of the proofs, laid together. -/
import Derived.Test.YteojjbhadgkfgaaGreatMs
import Derived.Test.YteojjbhadgkfgaaGreatMk
import Derived.Test.YteojjbhadgkfgaaGreatMt
import Derived.Test.YteojjbhadgkfgaaGreatMg
/- A station's keeper: tickets of taps are denied. -/
namespace Go.Proofs.YteojjbhadgkfgaaGreat
set_option linter.unusedSimpArgs false
set_option linter.unusedVariables false
set_option maxRecDepth 100000
open Go Go.RowKit Lb

set_option maxHeartbeats 16000000 in
theorem skeeper_deny (s : St) (y : Sv) (l : List Tp) (v : Value) (p base b2 : Nat) (w : World) (hk : Kp base w p y s) (hd : ckDn s.denied = 0) (ho : OwnL 57 5 tpc b2 w v l) :
  Calls Tryz.prog 155 #[.pointer (some ⟨p, 0, none⟩), v] w fun e w' => e = .returned (.tuple #[]) ∧ Fr (fun q => q = p) w w' ∧ ∃ D, Kp base w' p ⟨y.s0, y.s1, y.s2, D, y.sg, y.sv⟩ ⟨s.ledger, denyS s.denied l, s.gates, s.views⟩ := by
 have hbx := hk.box
 have hl63 := ho.rowS.le
 obtain ⟨A, c, rfl⟩ := ho.form
 have hl9 := hl63 A l.length c rfl
 have HOL := Lib.hid ho
 have HBX := Lib.hid hbx
 have HKp := Lib.hid hk
 have hpw := hbx.lt
 obtain ⟨B0, b0, hB0⟩ := hk.own.tk.form
 obtain ⟨B1, b1, hB1⟩ := hk.own.tp.form
 obtain ⟨B2, b2', hB2⟩ := hk.own.vd.form
 obtain ⟨B3, b3, hB3⟩ := hk.own.dn.form
 obtain ⟨B4, b4, hB4⟩ := hk.own.gt.form
 obtain ⟨B5, b5, hB5⟩ := hk.own.vw.form
 have HD := Lib.hid hd
 obtain ⟨R, hR⟩ : ∃ R, R = denyS s.denied l := ⟨_, rfl⟩
 rw [← hR]
 have HR0 := Lib.hid hR
 clear hk ho hd hbx hl63 hR hB3
 go_enter Tryz.func155, Tryz.ntmps155
 go_wp2_with fail
 go_loopg [5, 6, 7, 10] l.length (fun gg _ _ _ s10 wr => ∃ (k : Nat) (d : Dn) (B : Option Addr) (b : Nat), k ≤ l.length ∧ l.length - k ≤ gg ∧ s10 = .int .i64 k ∧ Aside (Fr (fun q => q = p) w wr ∧ denyS d (l.drop k) = R ∧ ckDn d = 0 ∧ Kp base wr p ⟨y.s0, y.s1, y.s2, .slice B d.ids.length b, y.sg, y.sv⟩ ⟨s.ledger, d, s.gates, s.views⟩))
 case atStart =>
  obtain ⟨B, b, hB⟩ := HKp.out.own.dn.form
  exact ⟨0, s.denied, B, b, Nat.zero_le _, by omega, rfl, Fr.refl _ _, HR0.out.symm, HD.out, by rw [← hB]; exact HKp.out⟩
 case round =>
  obtain ⟨k, d, B, b, hk, hg, rfl, HA⟩ := hrel
  obtain ⟨hf, hden, hdr, hkp⟩ := HA.out
  have HF := Lib.hid hf
  have HK := Lib.hid hkp
  have HDR := Lib.hid hdr
  have HDEN := Lib.hid hden
  have RB := Lib.hid hkp.box.row
  have hpr := hkp.box.lt
  unfold sta at RB
  simp only [hB0, hB1, hB2, hB4, hB5] at RB
  have qp := RB.out.2.1
  have fp := RB.out.2.2
  clear HA hf hden hdr hkp
  by_cases hlt : k < l.length
  ·have hlt' : (k : Int) < (l.length : Int) := by omega
   have HOR := Lib.hid (HOL.out.keepT HF.out (by rintro q rfl; exact ⟨_, _, HBX.out, by decide⟩))
   obtain ⟨bb, o, c', hv, hb, hc⟩ := (HOR.out.rd tpc_size).at_ hlt
   injection hv with hA hA2 hA3
   subst hA
   clear hA2 hA3
   have hcc : (k : Int) < (c : Int) := by
    have := HOR.out.slot (by omega)
    obtain ⟨g', c2, h1, -, -, h2⟩ := this
    injection h1 with _ _ h3
    omega
   have t0 : wr.cell? ⟨bb, o + k * 5, none⟩ = some (.int .i64 l[k].ticket) := hc 0 _ rfl
   have t1 : wr.cell? ⟨bb, o + k * 5 + 1, none⟩ = some (.int .i64 l[k].gate) := hc 1 _ rfl
   have t2 : wr.cell? ⟨bb, o + k * 5 + 2, none⟩ = some (.int .i64 l[k].seq) := hc 2 _ rfl
   have t3 : wr.cell? ⟨bb, o + k * 5 + 3, none⟩ = some (.int .i64 l[k].time) := hc 3 _ rfl
   have t4 : wr.cell? ⟨bb, o + k * 5 + 4, none⟩ = some (.int .i64 l[k].zone) := hc 4 _ rfl
   have HDS := Lib.hid (by have := HDEN.out; rw [List.drop_eq_getElem_cons hlt, denyS_cons] at this; exact this : denyS (if (denyD d l[k].ticket).2 = 0 then (denyD d l[k].ticket).1 else d) (l.drop (k + 1)) = R)
   generalize l[k] = x at *
   have HR := Lib.hid (fun (w' : World) (h : Ext wr w') => denied_Raw d (.slice B d.ids.length b) x.ticket w' ((HK.out.own.dn.rd inc_size).ext h) HDR.out)
   have HDV := Lib.hid (fun (h : (denyD d x.ticket).2 = 0) => denyD_right HDR.out h)
   generalize denyD d x.ticket = E at *
   obtain ⟨⟨E0, E1⟩, E2⟩ := E
   simp only at HR HDS HDV
   clear hc HDEN
   go_upto_region 3 with fail
   go_cut [6, 7] (fun s6 s7 wx => ∃ g6 D6, s6 = .pointer (some ⟨g6, 0, none⟩) ∧ s7 = .int .i64 E2 ∧ Aside (Ext wr wx ∧ wr.heap.size < g6 ∧ Row wx g6 #[.int .i64 E0, D6] ∧ OwnL 3 1 inc wr.heap.size wx D6 E1))
   case first =>
     (apply wp_gen2 (w0 := wr) (g0 := wr.heap.size) (g1 := p); (focus (exact rowA)); (focus (exact rowA)); (focus (exact extA)); intro W HW hzW Ra_0 Ra_1; (try simp only [lSet, World.size_alloc, size_set, World.heap_drewN, size_drew] at hzW Ra_0 Ra_1); have la_0 := Ra_0.out.size; have la_1 := Ra_1.out.size)
     have HK := Lib.hid (fun (w' : World) (h : Ext W w') => And.intro (Row.ext h Ra_0.out).2.1 ((Row.ext h Ra_1.out).2.1))
     (refine T_begin (fun w' => Ext W w') 13 (by kernel_rfl) ((Ext.refl _).drew) (fun hS => ?_); simp only [List.length_cons, List.length_nil])
     (refine tkA 0 HK hS ?_; (try simp only [Act.put, lSet]); refine tkA 1 HK hS ?_; (try simp only [Act.put, lSet]); refine tkA 2 HK hS ?_; (try simp only [Act.put, lSet]); refine tkA 3 HK hS ?_; (try simp only [Act.put, lSet]); refine tkA 4 HK hS ?_; (try simp only [Act.put, lSet]); refine tkA 5 HK hS ?_; (try simp only [Act.put, lSet]); refine tkA 6 HK hS ?_; (try simp only [Act.put, lSet]))
     refine T_two (i := 7) (j := 11) rfl rfl (by kernel_rfl) rfl rfl (fun K hK => ?_) (fun K hK => ?_)
     ·go_simp
      refine (HR.out _ (by exact extA)).mono ?_
      rintro e w6 ⟨D6, rfl, h1, ho⟩
      obtain ⟨A6, c6, rfl⟩ := ho.form
      have H6 := Lib.hid h1
      have hz6 := h1.size
      clear h1
      (try simp only [World.size_alloc, size_set, World.heap_drewN, size_drew] at hz6)
      have HO_ho := Lib.hid ho
      clear ho
      clear hS
      have hS : Ext W w6 := by exact extA
      go_wp2_with fail
      (refine hK.out _ _ (.inr hS) ?_; clear hK)
      (try simp only [Act.put, lSet])
      (refine tkP 8 ?_; (try simp only [Act.put, lSet]); refine tkP 9 ?_; (try simp only [Act.put, lSet]); refine tkP 10 ?_; (try simp only [Act.put, lSet]))
      clear hS
      refine T_only (i := 11) rfl (by kernel_rfl) rfl (fun K hK => ?_)
      go_simp
      refine hK.out _ _ (.inr (show Ext W _ by exact extA)) ?_
      clear hK
      (try simp only [Act.put, lSet])
      refine T_only (i := 12) rfl (by kernel_rfl) rfl (fun K hK => ?_)
      go_simp
      refine hK.out _ _ (.inr (show Ext W _ by exact extA)) ?_
      clear hK
      (try simp only [Act.put, lSet])
      (refine T_only (i := 13) rfl (by kernel_rfl) rfl (fun K hK => ?_); go_simp; refine hK.out _ _ (.inl (by kernel_rfl)) ?_; clear hK; (try simp only [Act.put, lSet]); refine T_done (by kernel_rfl) ?_ _)
      go_wp2_with fail
      go_meet
      case rel => exact ⟨_, .slice A6 E1.length c6, rfl, rfl, (show Ext wr _ by exact extA), by omega, Row.newAt rfl, (HO_ho.out.alloc _).lower (by simp; omega)⟩
     ·go_simp
      refine hK.out _ _ (.inr (show Ext W _ by exact extA)) ?_
      clear hK
      (try simp only [Act.put, lSet])
      (refine T_only (i := 7) rfl (by kernel_rfl) rfl (fun K hK => ?_); go_simp)
      refine (HR.out _ (by exact extA)).mono ?_
      rintro e w6 ⟨D6, rfl, h1, ho⟩
      obtain ⟨A6, c6, rfl⟩ := ho.form
      have H6 := Lib.hid h1
      have hz6 := h1.size
      clear h1
      (try simp only [World.size_alloc, size_set, World.heap_drewN, size_drew] at hz6)
      have HO_ho := Lib.hid ho
      clear ho
      clear hS
      have hS : Ext W w6 := by exact extA
      go_wp2_with fail
      (refine hK.out _ _ (.inr hS) ?_; clear hK)
      (try simp only [Act.put, lSet])
      (refine tkP 8 ?_; (try simp only [Act.put, lSet]); refine tkP 9 ?_; (try simp only [Act.put, lSet]); refine tkP 10 ?_; (try simp only [Act.put, lSet]))
      clear hS
      (apply Row.use (w := w6) (g := W.heap.size); (focus (exact rowA)); intro qn_0 fn_0 ln_0 Rn_0; (try simp only [lSet] at qn_0 Rn_0))
      refine T_only (i := 12) rfl (by kernel_rfl) rfl (fun K hK => ?_)
      go_simp
      refine hK.out _ _ (.inr (show Ext W _ by exact extA)) ?_
      clear hK
      (try simp only [Act.put, lSet])
      (refine T_only (i := 13) rfl (by kernel_rfl) rfl (fun K hK => ?_); go_simp; refine hK.out _ _ (.inl (by kernel_rfl)) ?_; clear hK; (try simp only [Act.put, lSet]); refine T_done (by kernel_rfl) ?_ _)
      go_wp2_with fail
      have hsz3 : W.heap.size < (W.drew.alloc (.cells #[.int .i64 0, .slice none 0 0] 28)).heap.size := by simp
      go_meet
      case rel =>
       refine ⟨_, .slice A6 E1.length c6, rfl, rfl, (show Ext wr _ by exact extA), by omega, ?_, ?_⟩
       ·exact rowC ((Rn_0.out.set_ (i := 0)).set_ (i := 1)) (by simp only [lSet])
       ·exact (OwnL.setC hsz3 (OwnL.setC hsz3 HO_ho.out)).lower (by simp; omega)
   case rest =>
    obtain ⟨g6, D6, rfl, rfl, HX⟩ := hcut
    obtain ⟨he, hg6, hr6, ho6⟩ := HX.out
    have H1 := Lib.hid he
    have R6 := Lib.hid hr6
    have HO6 := Lib.hid ho6
    obtain ⟨A6, c6, rfl⟩ := ho6.form
    have hg6p : g6 ≠ p := by omega
    clear HX he hr6 ho6 HR
    (apply Row.use (w := wc) (g := p); (focus (exact rowA)); intro qc_0 fc_0 lc_0 Rc_0; (try simp only [lSet] at qc_0 Rc_0); apply Row.use (w := wc) (g := g6); (focus (exact rowA)); intro qc_1 fc_1 lc_1 Rc_1; (try simp only [lSet] at qc_1 Rc_1))
    by_cases h4 : E2 = 0
    ·subst h4
     go_wp2_with fail
     go_roundg (l.length - (k + 1))
     case measure => omega
     case rel =>
      have hd2 := HDS.out
      simp only [if_true] at hd2
      have hkc := (HK.out.ext H1.out).denied (d := ⟨E0, E1⟩) HO6.out (by have := HK.out.ge; omega)
      exact ⟨k + 1, ⟨E0, E1⟩, A6, c6, by omega, by omega, by go_num, Fr.setC rfl (Fr.setC rfl (HF.out.step H1.out)), hd2, HDV.out (by trivial), hkc⟩
    ·have h4b : (E2 == 0) = false := by simpa using h4
     go_wp2_with fail
     go_roundg (l.length - (k + 1))
     case measure => omega
     case rel =>
      have hd2 := HDS.out
      rw [if_neg h4] at hd2
      exact ⟨k + 1, d, B, b, by omega, by omega, by go_num, HF.out.step (show Ext wr _ by exact extA), hd2, HDR.out, HK.out.ext (show Ext wr _ by exact extA)⟩
  ·have hge : ¬ (k : Int) < (l.length : Int) := by omega
   have HQ := Lib.hid (show d = R by
    have h := HDEN.out
    rw [List.drop_eq_nil_of_le (by omega)] at h
    exact h)
   go_wp2_with fail
   go_end0
   have hq := HQ.out
   subst hq
   have h := HK.out
   simp only [hB0, hB1, hB2, hB4, hB5] at h
   exact ⟨rfl, HF.out, _, h⟩
end Go.Proofs.YteojjbhadgkfgaaGreat

/- A station's keeper: a gate tells what it let through alone. -/
namespace Go.Proofs.YteojjbhadgkfgaaGreat
set_option linter.unusedSimpArgs false
set_option linter.unusedVariables false
set_option maxRecDepth 100000
open Go Go.RowKit Lb

theorem bxC {w : World} {p : Nat} {e : TypeId} {cs cs' : Array Value} (r : Bx w p e cs') (h : cs' = cs) : Bx w p e cs := h ▸ r
theorem wp_genP {P : Program} {c : Code} {Q : Exit → Act → World → Prop} {a : Act} {w : World} {S : World → Prop} (hS : S w) (k : ∀ W, Hid (S W) → c.wp P Q a W) : c.wp P Q a w := k w hS
/-- a box of a gate is written that is none of the station's -/
theorem Kp.gbox {base p g8 gb m c : Nat} {w w' : World} {y : Sv} {s : St} {cs : Array Value} (hk : Kp base w p y s) (hsg : y.sg = .slice (some ⟨gb, 0, none⟩) m c) (hb : Bx w g8 52 cs) (hne : g8 ≠ gb) (hf : Fr (fun q => q = g8) w w') : Kp base w' p y s := by
 have hk2 : ∀ q, (fun q => q = g8) q → ∃ e2 cs, Bx w q e2 cs ∧ e2 ∉ spK := by rintro q rfl; exact ⟨_, _, hb, by decide⟩
 have hp : ¬ (fun q => q = g8) p := by
  intro h
  have h2 := hk.box
  have h3 : p = g8 := h
  rw [h3] at h2
  unfold Bx at h2 hb
  rw [h2] at hb
  simp at hb
 obtain ⟨ys, h1, h2, h3⟩ := hk.own.gt
 have h2' := hf.own h2 (fun q hq ho => by
  have h4 : q = g8 := ho
  rw [hsg] at hq
  simp [Value.ownBlock] at hq
  omega)
 exact ⟨hk.box.fr hf hp, hk.ge, hk.own.keepG hf hk2 ⟨ys, h1, h2', fun z hz => (h3 z hz).keep hf hk2⟩⟩

set_option maxHeartbeats 16000000 in
theorem skeeper_sync (s : St) (y : Sv) (n time : Int) (p base : Nat) (w : World) (hk : Kp base w p y s) (rs : RightS s) :
  Calls Tryz.prog 105 #[.pointer (some ⟨p, 0, none⟩), .int .i64 n, .int .i64 time] w fun e w' => ∃ v y', e = .returned (.tuple #[v, .int .i64 (syncS s n time).2.2]) ∧ Fr (fun q => base ≤ q) w w' ∧ OwnL 57 5 tpc base w' v (syncS s n time).2.1 ∧ Kp base w' p y' (syncS s n time).1 := by
 have HF := Lib.hid (fun (w' : World) (h : Ext w w') => And.intro (Fr.ofExt (own := fun q => base ≤ q) h) (hk.ext h))
 have HRS := Lib.hid rs
 obtain ⟨hbx, hge, ho⟩ := hk
 have hn3 := rs.len
 have KL := Lib.hid (fun (w' : World) (h : Ext w w') => keeper_led s y p w' (Row.ext h hbx.row) ((ho.vw.rd vwc_size).ext h) rs.views)
 have hst : syncS s n time = if within n 0 2 = false then (s, [], 3)
  else if led s = false then (s, [], 4)
  else if within time 0 9999 = false then (s, [], 3)
  else if (rawM s.ledger (s.gates[n.toNat]!).alone).2.2 ≠ 0 then (s, [], (rawM s.ledger (s.gates[n.toNat]!).alone).2.2)
  else (⟨(rawM s.ledger (s.gates[n.toNat]!).alone).1, denyS s.denied (rawM s.ledger (s.gates[n.toNat]!).alone).2.1, s.gates.set n.toNat (toldG (s.gates[n.toNat]!) (denyS s.denied (rawM s.ledger (s.gates[n.toNat]!).alone).2.1) time), s.views⟩, (rawM s.ledger (s.gates[n.toNat]!).alone).2.1, 0) := rfl
 generalize syncS s n time = T at *
 have HST := Lib.hid hst
 obtain ⟨B0, b0, hB0⟩ := ho.tk.form
 obtain ⟨B1, b1, hB1⟩ := ho.tp.form
 obtain ⟨B2, b2, hB2⟩ := ho.vd.form
 obtain ⟨B3, b3, hB3⟩ := ho.dn.form
 obtain ⟨B5, b5, hB5⟩ := ho.vw.form
 obtain ⟨ys, hys, hrow, hin⟩ := ho.gt
 have hy3 : ys.length = 3 := by rw [hys] at hn3; simpa using hn3
 obtain ⟨gb, c, hsg, hgl, hgb, h3c⟩ := hrow.slot (by omega)
 rw [hy3] at hsg h3c
 have hc3 : (3 : Int) ≤ (c : Int) := by omega
 have HSG := Lib.hid hsg
 have HOW := Lib.hid ho
 have HROW := Lib.hid (And.intro hys (And.intro hrow hin))
 have RB := Lib.hid hbx.row
 have hpw := hbx.lt
 unfold sta at RB
 rw [hB0, hB1, hB2, hB3, hB5, hsg] at RB
 have HB := Lib.hid (And.intro hB0 (And.intro hB1 (And.intro hB2 (And.intro hB3 hB5))))
 have HN3 := Lib.hid (And.intro hn3 hy3)
 obtain ⟨qp, fp, lp⟩ : (∀ o, w.cell? ⟨p, o, none⟩ = _) ∧ (∀ o, w.frozen? ⟨p, o, none⟩ = false) ∧ p < w.heap.size := ⟨RB.out.2.1, RB.out.2.2, RB.out.1⟩
 have hgp : gb ≠ p := fun h => hrow.rowS.box hbx (by decide) (by rw [hsg, ← h]; rfl)
 clear hst hbx ho hys hrow hin hsg hn3 hy3 h3c rs hB0 hB1 hB2 hB3 hB5
 go_enter Tryz.func105, Tryz.ntmps105
 by_cases hn0 : n < 0
 ·have HQ := Lib.hid (show T = (s, [], 3) by rw [HST.out]; simp [within, show ¬ 0 ≤ n by omega])
  go_wp2_with fail
  rw [HQ.out]
  exact bodyPost_ret (v := .tuple #[.slice none 0 0, .int .i64 3]) (by simp [results, Tryz.results105, go_sem, *]) rfl (Exists.intro (.slice none 0 0) (Exists.intro y ⟨rfl, (HF.out _ (show Ext w _ by exact extA)).1, OwnL.nil, (HF.out _ (show Ext w _ by exact extA)).2⟩))
 by_cases hn2 : n ≥ 3
 ·have HQ := Lib.hid (show T = (s, [], 3) by rw [HST.out]; simp [within, show ¬ n ≤ 2 by omega])
  go_wp2_with fail
  rw [HQ.out]
  exact bodyPost_ret (v := .tuple #[.slice none 0 0, .int .i64 3]) (by simp [results, Tryz.results105, go_sem, *]) rfl ⟨.slice none 0 0, rfl, Fr.refl _ _, OwnL.nil, y, (HF.out _ (Ext.refl w)).2⟩
 obtain ⟨m, rfl⟩ : ∃ m : Nat, n = m := ⟨n.toNat, by omega⟩
 have hm3 : m < 3 := by omega
 have hmi : (m : Int) < (3 : Int) := by omega
 have hmg : m < s.gates.length := by rw [HN3.out.1]; exact hm3
 have HMG := Lib.hid hmg
 have hwm : within (m : Int) 0 2 = true := by simp [within]; omega
 have HST2 := Lib.hid (show T = if led s = false then (s, [], 4)
  else if within time 0 9999 = false then (s, [], 3)
  else if (rawM s.ledger s.gates[m].alone).2.2 ≠ 0 then (s, [], (rawM s.ledger s.gates[m].alone).2.2)
  else (⟨(rawM s.ledger s.gates[m].alone).1, denyS s.denied (rawM s.ledger s.gates[m].alone).2.1, s.gates.set m (toldG s.gates[m] (denyS s.denied (rawM s.ledger s.gates[m].alone).2.1) time), s.views⟩, (rawM s.ledger s.gates[m].alone).2.1, 0) by
   rw [HST.out]; simp only [hwm, Bool.true_eq_false, if_false, Int.toNat_natCast]; rw [bang_get hmg]; rfl)
 clear hwm HST
 generalize hld : led s = z at *
 clear hld
 go_wp2_with fail
 (refine (KL.out _ (by exact extA)).mono ?_; rintro e w1 ⟨rfl, h1⟩; have H1 := Lib.hid h1; have hz1 := h1.size; clear h1; (try simp only [World.size_alloc, size_set, World.heap_drewN, size_drew] at hz1); apply Row.use (w := w1) (g := p); (focus (exact rowA)); intro q1_0 f1_0 l1_0 R1_0; (try simp only [lSet] at q1_0 R1_0))
 cases z
 ·have HQ := Lib.hid (show T = (s, [], 4) by rw [HST2.out]; simp)
  go_wp2_with fail
  rw [HQ.out]
  exact bodyPost_ret (v := .tuple #[.slice none 0 0, .int .i64 4]) (by simp [results, Tryz.results105, go_sem, *]) rfl (Exists.intro (.slice none 0 0) (Exists.intro y ⟨rfl, (HF.out _ (show Ext w _ by exact extA)).1, OwnL.nil, (HF.out _ (show Ext w _ by exact extA)).2⟩))
 by_cases ht0 : time < 0
 ·have HQ := Lib.hid (show T = (s, [], 3) by rw [HST2.out]; simp [within, show ¬ 0 ≤ time by omega])
  go_wp2_with fail
  rw [HQ.out]
  exact bodyPost_ret (v := .tuple #[.slice none 0 0, .int .i64 3]) (by simp [results, Tryz.results105, go_sem, *]) rfl (Exists.intro (.slice none 0 0) (Exists.intro y ⟨rfl, (HF.out _ (show Ext w _ by exact extA)).1, OwnL.nil, (HF.out _ (show Ext w _ by exact extA)).2⟩))
 by_cases ht1 : time > 9999
 ·have HQ := Lib.hid (show T = (s, [], 3) by rw [HST2.out]; simp [within, show ¬ time ≤ 9999 by omega])
  go_wp2_with fail
  rw [HQ.out]
  exact bodyPost_ret (v := .tuple #[.slice none 0 0, .int .i64 3]) (by simp [results, Tryz.results105, go_sem, *]) rfl (Exists.intro (.slice none 0 0) (Exists.intro y ⟨rfl, (HF.out _ (show Ext w _ by exact extA)).1, OwnL.nil, (HF.out _ (show Ext w _ by exact extA)).2⟩))
 have hti : within time 0 9999 = true := by simp [within]; omega
 have HST3 := Lib.hid (show T = if (rawM s.ledger s.gates[m].alone).2.2 ≠ 0 then (s, [], (rawM s.ledger s.gates[m].alone).2.2)
  else (⟨(rawM s.ledger s.gates[m].alone).1, denyS s.denied (rawM s.ledger s.gates[m].alone).2.1, s.gates.set m (toldG s.gates[m] (denyS s.denied (rawM s.ledger s.gates[m].alone).2.1) time), s.views⟩, (rawM s.ledger s.gates[m].alone).2.1, 0) by
   rw [HST2.out]; simp only [hti, Bool.true_eq_false, if_false])
 clear HST2 KL
 obtain ⟨sa, si, ra, rd, g0, g1, g2, g3, g4, g5, g6, g7⟩ : ∃ sa si, RdL 5 tpc w sa s.gates[m].alone ∧ RdL 1 inc w si s.gates[m].denied.ids ∧ w.cell? ⟨gb, m * 8, none⟩ = some (.int .i64 s.gates[m].id) ∧ w.cell? ⟨gb, m * 8 + 1, none⟩ = some (.int .i64 s.gates[m].zone) ∧ w.cell? ⟨gb, m * 8 + 2, none⟩ = some (.int .i64 s.gates[m].seq) ∧ w.cell? ⟨gb, m * 8 + 3, none⟩ = some sa ∧
   w.cell? ⟨gb, m * 8 + 4, none⟩ = some (.int .i64 s.gates[m].denied.version) ∧ w.cell? ⟨gb, m * 8 + 5, none⟩ = some si ∧ w.cell? ⟨gb, m * 8 + 6, none⟩ = some (.int .i64 s.gates[m].left) ∧ w.cell? ⟨gb, m * 8 + 7, none⟩ = some (.int .i64 s.gates[m].untl) := by
  obtain ⟨hys, hrow, hin⟩ := HROW.out
  have hm' : m < ys.length := by rw [HN3.out.2]; exact hm3
  have hgg : s.gates[m] = ys[m].g := by simp [hys]
  have hr := HSG.out ▸ hrow
  have hy := hin ys[m] (List.getElem_mem hm')
  rw [hgg]
  exact ⟨ys[m].sa, ys[m].si, hy.1.rd tpc_size, hy.2.rd inc_size, (OwnL.field gyc_size hr m 0 hm' (by decide) _ rfl).1, (OwnL.field gyc_size hr m 1 hm' (by decide) _ rfl).1, (OwnL.field gyc_size hr m 2 hm' (by decide) _ rfl).1, (OwnL.field gyc_size hr m 3 hm' (by decide) _ rfl).1, (OwnL.field gyc_size hr m 4 hm' (by decide) _ rfl).1, (OwnL.field gyc_size hr m 5 hm' (by decide) _ rfl).1, (OwnL.field gyc_size hr m 6 hm' (by decide) _ rfl).1, (OwnL.field gyc_size hr m 7 hm' (by decide) _ rfl).1⟩
 have KT := Lib.hid (fun (w' : World) (h : Ext w w') => gate_Told s.gates[m] sa si s.denied y.si time w' (HRS.out.gates m hmg).1 HRS.out.denied hti (ra.ext h) (rd.ext h) ((HOW.out.dn.rd inc_size).ext h))
 have KM := Lib.hid (fun (w' : World) (h : Ext w w') (v : Value) (hv : RdL 5 tpc w' v s.gates[m].alone) => merge_Raw s.ledger s.gates[m].alone y.s0 y.s1 y.s2 v w' HRS.out.ledger (by have := (ckGate_ok.1 (HRS.out.gates m hmg).1).len; omega) ((HOW.out.tk.rd tkc_size).ext h) ((HOW.out.tp.rd tpc_size).ext h) ((HOW.out.vd.rd inc_size).ext h) hv)
 have HTG := Lib.hid (fun (D : Dn) => show toldG s.gates[m] D time = ⟨s.gates[m].id, s.gates[m].zone, s.gates[m].seq, [], D, 9, time + 100⟩ from rfl)
 have HDO := Lib.hid (fun (l : List Tp) => (denyS_ok l HRS.out.denied).1)
 obtain ⟨A8, c8, rfl, -, -⟩ := ra.form
 obtain ⟨A9, c9, rfl, -, -⟩ := rd.form
 obtain ⟨hB0, hB1, hB2, hB3, hB5⟩ := HB.out
 rw [hB3] at KT
 rw [hB0, hB1, hB2] at KM
 unfold synced at KT
 generalize rawM s.ledger s.gates[m].alone = M at *
 generalize hgm : s.gates[m] = g at *
 have HGM := Lib.hid hgm
 have HBV := Lib.hid hB5
 clear hgm hmg ra rd hB0 hB1 hB2 hB3 hB5 HB hti HROW
 obtain ⟨x0, x1, x2, al, ⟨gv, gi⟩, x6, x7⟩ := g
 simp only at g0 g1 g2 g3 g4 g5 g6 g7 HST3 KT KM HTG
 generalize pickD ⟨gv, gi⟩ s.denied = PP at *
 obtain ⟨P1, P2⟩ := PP
 obtain ⟨⟨M0, M1, M2⟩, M3, M4⟩ := M
 unfold gta at KT
 simp only at KT KM HST3
 have hw1s := H1.out.size
 have H1W := Lib.hid (And.intro trivial H1.out)
 have hgb1 : gb < w1.heap.size := by omega
 have k0 := (H1.out.cells gb _ hgb).trans g0
 have k1 := (H1.out.cells gb _ hgb).trans g1
 have k2 := (H1.out.cells gb _ hgb).trans g2
 have k3 := (H1.out.cells gb _ hgb).trans g3
 have k4 := (H1.out.cells gb _ hgb).trans g4
 have k5 := (H1.out.cells gb _ hgb).trans g5
 have k6 := (H1.out.cells gb _ hgb).trans g6
 have k7 := (H1.out.cells gb _ hgb).trans g7
 clear g0 g1 g2 g3 g4 g5 g6 g7 qp fp
 go_upto_region 7 with fail
 go_cut [8, 9] (fun s8 s9 wx => ∃ g8 C f si', s8 = .pointer (some ⟨g8, 0, none⟩) ∧ s9 = .slice C al.length f ∧ Aside (Ext w1 wx ∧ w1.heap.size ≤ g8 ∧ Bx wx g8 52 #[.int .i64 x0, .int .i64 x1, .int .i64 x2, .slice none 0 0, .int .i64 P1, si', .int .i64 9, .int .i64 (time + 100)] ∧ OwnL 57 5 tpc w1.heap.size wx (.slice C al.length f) al ∧ OwnL 3 1 inc w1.heap.size wx si' P2))
 case first =>
   (apply wp_gen1 (w0 := w1) (g0 := p); (focus (exact rowA)); (focus (exact extA)); intro W HW hzW Ra_0; (try simp only [lSet, World.size_alloc, size_set, World.heap_drewN, size_drew] at hzW Ra_0); have la_0 := Ra_0.out.size)
   have HWY := Lib.hid (And.intro trivial (H1W.out.2.trans HW.out))
   have HK := Lib.hid (fun (w' : World) (h : Ext W w') => And.intro (Row.ext h Ra_0.out).2.1 (And.intro (((HW.out.trans h).cells _ _ hgb1).trans k0) (And.intro (((HW.out.trans h).cells _ _ hgb1).trans k1) (And.intro (((HW.out.trans h).cells _ _ hgb1).trans k2) (And.intro (((HW.out.trans h).cells _ _ hgb1).trans k3) (And.intro (((HW.out.trans h).cells _ _ hgb1).trans k4) (And.intro (((HW.out.trans h).cells _ _ hgb1).trans k5) (And.intro (((HW.out.trans h).cells _ _ hgb1).trans k6) ((((HW.out.trans h).cells _ _ hgb1).trans k7))))))))))
   (refine T_begin (fun w' => Ext W w') 20 (by kernel_rfl) ((Ext.refl _).drew) (fun hS => ?_); simp only [List.length_cons, List.length_nil])
   (refine tkA 0 HK hS ?_; (try simp only [Act.put, lSet]); refine tkA 1 HK hS ?_; (try simp only [Act.put, lSet]); refine tkA 2 HK hS ?_; (try simp only [Act.put, lSet]); refine tkA 3 HK hS ?_; (try simp only [Act.put, lSet]); refine tkA 4 HK hS ?_; (try simp only [Act.put, lSet]); refine tkA 5 HK hS ?_; (try simp only [Act.put, lSet]); refine tkA 6 HK hS ?_; (try simp only [Act.put, lSet]); refine tkA 7 HK hS ?_; (try simp only [Act.put, lSet]); refine tkA 8 HK hS ?_; (try simp only [Act.put, lSet]); refine tkA 9 HK hS ?_; (try simp only [Act.put, lSet]); refine tkA 10 HK hS ?_; (try simp only [Act.put, lSet]); refine tkA 11 HK hS ?_; (try simp only [Act.put, lSet]); refine tkA 12 HK hS ?_; (try simp only [Act.put, lSet]); refine tkA 13 HK hS ?_; (try simp only [Act.put, lSet]))
   refine T_two (i := 14) (j := 18) rfl rfl (by kernel_rfl) rfl rfl (fun K hK => ?_) (fun K hK => ?_)
   ·go_simp
    refine (KT.out _ (HWY.out.2.trans (by exact extA))).mono ?_
    rintro e w6 ⟨sl, s6, rfl, h1, o1, o2⟩
    obtain ⟨C8, f8, rfl⟩ := o1.form
    obtain ⟨C9, f9, rfl⟩ := o2.form
    have H6 := Lib.hid h1
    have hz6 := h1.size
    clear h1
    (try simp only [World.size_alloc, size_set, World.heap_drewN, size_drew] at hz6)
    have HO_o1 := Lib.hid o1
    have HO_o2 := Lib.hid o2
    clear o1 o2
    clear hS
    have hS : Ext W w6 := by exact extA
    go_wp2_with fail
    (refine hK.out _ _ (.inr hS) ?_; clear hK)
    (try simp only [Act.put, lSet])
    (refine tkP 15 ?_; (try simp only [Act.put, lSet]); refine tkP 16 ?_; (try simp only [Act.put, lSet]); refine tkP 17 ?_; (try simp only [Act.put, lSet]))
    clear hS
    refine T_only (i := 18) rfl (by kernel_rfl) rfl (fun K hK => ?_)
    go_simp
    refine hK.out _ _ (.inr (show Ext W _ by exact extA)) ?_
    clear hK
    (try simp only [Act.put, lSet])
    refine T_only (i := 19) rfl (by kernel_rfl) rfl (fun K hK => ?_)
    go_simp
    refine hK.out _ _ (.inr (show Ext W _ by exact extA)) ?_
    clear hK
    (try simp only [Act.put, lSet])
    (refine T_only (i := 20) rfl (by kernel_rfl) rfl (fun K hK => ?_); go_simp; refine hK.out _ _ (.inl (by kernel_rfl)) ?_; clear hK; (try simp only [Act.put, lSet]); refine T_done (by kernel_rfl) ?_ _)
    go_wp2_with fail
    go_meet
    case rel => exact ⟨_, C8, f8, .slice C9 P2.length f9, rfl, rfl, (show Ext w1 _ by exact extA), by omega, Bx.newAt rfl, (HO_o1.out.alloc _).lower (by simp; omega), (HO_o2.out.alloc _).lower (by simp; omega)⟩
   ·go_simp
    refine hK.out _ _ (.inr (show Ext W _ by exact extA)) ?_
    clear hK
    (try simp only [Act.put, lSet])
    (refine T_only (i := 14) rfl (by kernel_rfl) rfl (fun K hK => ?_); go_simp)
    refine (KT.out _ (HWY.out.2.trans (by exact extA))).mono ?_
    rintro e w6 ⟨sl, s6, rfl, h1, o1, o2⟩
    obtain ⟨C8, f8, rfl⟩ := o1.form
    obtain ⟨C9, f9, rfl⟩ := o2.form
    have H6 := Lib.hid h1
    have hz6 := h1.size
    clear h1
    (try simp only [World.size_alloc, size_set, World.heap_drewN, size_drew] at hz6)
    have HO_o1 := Lib.hid o1
    have HO_o2 := Lib.hid o2
    clear o1 o2
    clear hS
    have hS : Ext W w6 := by exact extA
    go_wp2_with fail
    (refine hK.out _ _ (.inr hS) ?_; clear hK)
    (try simp only [Act.put, lSet])
    (refine tkP 15 ?_; (try simp only [Act.put, lSet]); refine tkP 16 ?_; (try simp only [Act.put, lSet]); refine tkP 17 ?_; (try simp only [Act.put, lSet]))
    clear hS
    (apply Row.use (w := w6) (g := W.heap.size); (focus (exact rowA)); intro qn_0 fn_0 ln_0 Rn_0; (try simp only [lSet] at qn_0 Rn_0))
    refine T_only (i := 19) rfl (by kernel_rfl) rfl (fun K hK => ?_)
    go_simp
    refine hK.out _ _ (.inr (show Ext W _ by exact extA)) ?_
    clear hK
    (try simp only [Act.put, lSet])
    (refine T_only (i := 20) rfl (by kernel_rfl) rfl (fun K hK => ?_); go_simp; refine hK.out _ _ (.inl (by kernel_rfl)) ?_; clear hK; (try simp only [Act.put, lSet]); refine T_done (by kernel_rfl) ?_ _)
    go_wp2_with fail
    have hsz3 : W.heap.size < (W.drew.alloc (.cells #[.int .i64 0, .int .i64 0, .int .i64 0, .slice none 0 0, .int .i64 0, .slice none 0 0, .int .i64 0, .int .i64 0] 52)).heap.size := by simp
    have HBn := Lib.hid (show Bx w6 W.heap.size 52 #[.int .i64 0, .int .i64 0, .int .i64 0, .slice none 0 0, .int .i64 0, .slice none 0 0, .int .i64 0, .int .i64 0] from Bx.ext (Bx.drew (Bx.newAt rfl)) H6.out)
    go_meet
    case rel =>
     refine ⟨_, C8, f8, .slice C9 P2.length f9, rfl, rfl, (show Ext w1 _ by exact extA), by omega, ?_, ?_, ?_⟩
     ·exact bxC ((((((((HBn.out.set (i := 0)).set (i := 1)).set (i := 2)).set (i := 3)).set (i := 4)).set (i := 5)).set (i := 6)).set (i := 7)) (by simp only [lSet])
     ·exact ((OwnL.setC hsz3 (OwnL.setC hsz3 (OwnL.setC hsz3 (OwnL.setC hsz3 (OwnL.setC hsz3 (OwnL.setC hsz3 (OwnL.setC hsz3 (OwnL.setC hsz3 HO_o1.out))))))))).lower (by simp; omega)
     ·exact ((OwnL.setC hsz3 (OwnL.setC hsz3 (OwnL.setC hsz3 (OwnL.setC hsz3 (OwnL.setC hsz3 (OwnL.setC hsz3 (OwnL.setC hsz3 (OwnL.setC hsz3 HO_o2.out))))))))).lower (by simp; omega)
 case rest =>
  obtain ⟨g8, C8, f8, si', rfl, rfl, HX⟩ := hcut
  obtain ⟨he, hg8, hb8, oa, oi⟩ := HX.out
  have HXE := Lib.hid (And.intro trivial (H1.out.trans he))
  have H2 := Lib.hid he
  have HB8 := Lib.hid hb8
  have R8 := Lib.hid hb8.row
  have HOA := Lib.hid oa
  obtain ⟨C9, f9, rfl⟩ := oi.form
  have hwcs := he.size
  have hg8w := hb8.lt
  have hg8p : g8 ≠ p := by omega
  have hg8b : g8 ≠ gb := by omega
  clear HX he hb8 oa oi KT k0 k1 k2 k3 k4 k5 k6 k7
  (apply Row.use (w := wc) (g := p); (focus (exact rowA)); intro qc_0 fc_0 lc_0 Rc_0; (try simp only [lSet] at qc_0 Rc_0); apply Row.use (w := wc) (g := g8); (focus (exact rowA)); intro qc_1 fc_1 lc_1 Rc_1; (try simp only [lSet] at qc_1 Rc_1))
  go_wp2_with fail
  refine (KM.out _ (HXE.out.2.trans (by exact extA)) _ ((HOA.out.ext (by exact extA)).rd tpc_size)).mono ?_
  rintro e w3 ⟨t0, t1, t2, so, rfl, h3, ho, hso, -⟩
  obtain ⟨D0, j0, D1, j1, D2, j2, rfl, rfl, rfl⟩ := ho.forms
  obtain ⟨C3, j3, rfl⟩ := hso.form
  have H3 := Lib.hid h3
  have hz3 := h3.size
  have HLD := Lib.hid ho
  have HTO := Lib.hid hso
  (try simp only [World.size_alloc, size_set, World.heap_drewN, size_drew] at hz3)
  clear h3 ho hso KM qc_0 fc_0 lc_0 Rc_0 qc_1 fc_1 lc_1 Rc_1
  (apply Row.use (w := w3) (g := p); (focus (exact rowA)); intro qd_0 fd_0 ld_0 Rd_0; (try simp only [lSet] at qd_0 Rd_0); apply Row.use (w := w3) (g := g8); (focus (exact rowA)); intro qd_1 fd_1 ld_1 Rd_1; (try simp only [lSet] at qd_1 Rd_1))
  by_cases h4 : M4 = 0
  ·subst h4
   have HQ := Lib.hid (show T = (⟨⟨M0, M1, M2⟩, denyS s.denied M3, s.gates.set m ⟨x0, x1, x2, [], denyS s.denied M3, 9, time + 100⟩, s.views⟩, M3, 0) by rw [HST3.out]; simp [toldG])
   clear HST3
   go_wp2_with fail
   have HK3 := Lib.hid (((HF.out _ (HXE.out.2.trans H3.out)).2.ledger HLD.out (by omega)).ext ((Ext.refl _).alloc (.cells #[.slice D0 M0.length j0, .slice D1 M1.length j1, .slice D2 M2.length j2] 26)))
   have hpb : p < wc.heap.size := by omega
   have HTO3 := Lib.hid (OwnL.alloc (.cells #[.slice D0 M0.length j0, .slice D1 M1.length j1, .slice D2 M2.length j2] 26) (OwnL.setC (a := ⟨p, 2, none⟩) (u := .slice D2 M2.length j2) hpb (OwnL.setC (a := ⟨p, 1, none⟩) (u := .slice D1 M1.length j1) hpb (OwnL.setC (a := ⟨p, 0, none⟩) (u := .slice D0 M0.length j0) hpb HTO.out))))
   have HFr3 := Lib.hid ((Fr.setC (a := ⟨p, 2, none⟩) (u := .slice D2 M2.length j2) hge (Fr.setC (a := ⟨p, 1, none⟩) (u := .slice D1 M1.length j1) hge (Fr.setC (a := ⟨p, 0, none⟩) (u := .slice D0 M0.length j0) hge (HF.out _ (HXE.out.2.trans H3.out)).1))).step ((Ext.refl _).alloc (.cells #[.slice D0 M0.length j0, .slice D1 M1.length j1, .slice D2 M2.length j2] 26)))
   have HB83 := Lib.hid ((Bx.far (a := ⟨p, 2, none⟩) (u := .slice D2 M2.length j2) hg8p (Bx.far (a := ⟨p, 1, none⟩) (u := .slice D1 M1.length j1) hg8p (Bx.far (a := ⟨p, 0, none⟩) (u := .slice D0 M0.length j0) hg8p (HB8.out.ext H3.out)))).alloc (.cells #[.slice D0 M0.length j0, .slice D1 M1.length j1, .slice D2 M2.length j2] 26))
   refine (skeeper_deny _ _ _ _ p base _ _ HK3.out HRS.out.denied HTO3.out).mono ?_
   rintro e w4 ⟨rfl, hf4, D, hk4⟩
   have HD3 := Lib.hid (HDO.out M3)
   have HFr4 := Lib.hid (HFr3.out.trans (hf4.weaken (fun q h => by rw [show q = p from h]; exact hge)))
   have HB84 := Lib.hid (HB83.out.fr hf4 (fun h => hg8p h))
   have HTO4 := Lib.hid (HTO3.out.keepT hf4 (by rintro q rfl; exact ⟨_, _, HK3.out.box, by decide⟩))
   obtain ⟨DD, dd, hD⟩ := hk4.own.dn.form
   simp only at hD
   subst hD
   have HK4 := Lib.hid hk4
   clear hk4 HDO HK3 HTO3 HFr3 HB83 qd_0 fd_0 ld_0 Rd_0 qd_1 fd_1 ld_1 Rd_1 HLD
   generalize denyS s.denied M3 = DN at *
   have RP4 := Lib.hid HK4.out.box.row
   have R84 := Lib.hid HB84.out.row
   unfold sta at RP4
   simp only [HSG.out, HBV.out] at RP4
   have hz4 := hf4.size
   (try simp only [World.size_alloc, size_set, World.heap_drewN, size_drew] at hz4)
   clear hf4
   (apply Row.use (w := w4) (g := p); (focus (exact rowA)); intro qf_0 ff_0 lf_0 Rf_0; (try simp only [lSet] at qf_0 Rf_0); apply Row.use (w := w4) (g := g8); (focus (exact rowA)); intro qf_1 ff_1 lf_1 Rf_1; (try simp only [lSet] at qf_1 Rf_1))
   go_wp2_with fail
   refine (denied_Own DN _ _ ((HK4.out.own.dn.rd inc_size).ext (by exact extA)) (by have := ((ckDn_ok _).1 HD3.out).2.1; omega)).mono ?_
   rintro e w5 ⟨s5, rfl, h5, ho5⟩
   obtain ⟨E5, e5, rfl⟩ := ho5.form
   have H5 := Lib.hid h5
   have hz5 := h5.size
   have HO5 := Lib.hid ho5
   clear h5 ho5
   (apply Row.use (w := w5) (g := p); (focus (exact rowA)); intro qg_0 fg_0 lg_0 Rg_0; (try simp only [lSet] at qg_0 Rg_0); apply Row.use (w := w5) (g := g8); (focus (exact rowA)); intro qg_1 fg_1 lg_1 Rg_1; (try simp only [lSet] at qg_1 Rg_1))
   go_upto_region 14 with fail
   refine wp_genP (S := fun W => Kp base W p ⟨.slice D0 M0.length j0, .slice D1 M1.length j1, .slice D2 M2.length j2, .slice DD DN.ids.length dd, y.sg, y.sv⟩ ⟨⟨M0, M1, M2⟩, DN, s.gates, s.views⟩ ∧ Bx W g8 52 #[.int .i64 x0, .int .i64 x1, .int .i64 x2, .slice none 0 0, .int .i64 DN.version, .slice E5 DN.ids.length e5, .int .i64 9, .int .i64 (time + 100)] ∧ OwnL 57 5 tpc base W (.slice C3 M3.length j3) M3 ∧ OwnL 3 1 inc base W (.slice E5 DN.ids.length e5) DN.ids ∧ Fr (fun q => base ≤ q) w W) ?_ ?_
   ·have hfs : Fr (fun q => q = g8) w5 ((w5.setCell ⟨g8, 4, none⟩ (.int .i64 DN.version)).setCell ⟨g8, 5, none⟩ (.slice E5 DN.ids.length e5)) := Fr.setC rfl (Fr.setC rfl (Fr.refl _ _))
    have hb5 := HB84.out.ext H5.out
    have hbg : base ≤ g8 := by omega
    refine ⟨(HK4.out.ext H5.out).gbox HSG.out hb5 hg8b hfs, bxC ((hb5.set (i := 4)).set (i := 5)) (by simp only [lSet]), ((HTO4.out.ext H5.out).keepT hfs (by rintro q rfl; exact ⟨_, _, hb5, by decide⟩)).lower (by omega), (HO5.out.keepT hfs (by rintro q rfl; exact ⟨_, _, hb5, by decide⟩)).lower (by omega), Fr.setC hbg (Fr.setC hbg (HFr4.out.step H5.out))⟩
   ·intro W hS
    obtain ⟨hk, hb, ht, hd, hfr⟩ := hS.out
    have HKW := Lib.hid hk
    have HTW := Lib.hid ht
    have HDW := Lib.hid hd
    have HFW := Lib.hid hfr
    have RPW := Lib.hid hk.box.row
    have RGW := Lib.hid hb.row
    unfold sta at RPW
    simp only [HSG.out, HBV.out] at RPW
    have HBG := Lib.hid (show (∃ cs, Bx W gb 52 cs) ∧ ∀ i, i < 8 → W.frozen? ⟨gb, m * 8 + i, none⟩ = false ∧ ∃ v, W.cell? ⟨gb, m * 8 + i, none⟩ = some v by
     obtain ⟨ys, h1, h2, h3⟩ := hk.own.gt
     have h1' : s.gates = ys.map (·.g) := h1
     rw [show (Sv.sg ⟨.slice D0 M0.length j0, .slice D1 M1.length j1, .slice D2 M2.length j2, .slice DD DN.ids.length dd, y.sg, y.sv⟩) = .slice (some ⟨gb, 0, none⟩) 3 c from HSG.out] at h2
     have hm' : m < ys.length := by have := HMG.out; rw [h1'] at this; simpa using this
     refine ⟨h2.bx gb rfl, fun i hi => ?_⟩
     have hz : i < (gyc ys[m]).size := hi
     have hx := OwnL.field gyc_size h2 m i hm' hi _ (Array.getElem?_eq_getElem hz)
     exact ⟨hx.2, _, hx.1⟩)
    have z0 : W.frozen? ⟨gb, m * 8, none⟩ = false := (HBG.out.2 0 (by decide)).1
    have z1 : W.frozen? ⟨gb, m * 8 + 1, none⟩ = false := (HBG.out.2 1 (by decide)).1
    have z2 : W.frozen? ⟨gb, m * 8 + 2, none⟩ = false := (HBG.out.2 2 (by decide)).1
    have z3 : W.frozen? ⟨gb, m * 8 + 3, none⟩ = false := (HBG.out.2 3 (by decide)).1
    have z4 : W.frozen? ⟨gb, m * 8 + 4, none⟩ = false := (HBG.out.2 4 (by decide)).1
    have z5 : W.frozen? ⟨gb, m * 8 + 5, none⟩ = false := (HBG.out.2 5 (by decide)).1
    have z6 : W.frozen? ⟨gb, m * 8 + 6, none⟩ = false := (HBG.out.2 6 (by decide)).1
    have z7 : W.frozen? ⟨gb, m * 8 + 7, none⟩ = false := (HBG.out.2 7 (by decide)).1
    obtain ⟨r0, y0⟩ : ∃ v, W.cell? ⟨gb, m * 8, none⟩ = some v := (HBG.out.2 0 (by decide)).2
    obtain ⟨r1, y1⟩ := (HBG.out.2 1 (by decide)).2
    obtain ⟨r2, y2⟩ := (HBG.out.2 2 (by decide)).2
    obtain ⟨r3, y3⟩ := (HBG.out.2 3 (by decide)).2
    obtain ⟨r4, y4⟩ := (HBG.out.2 4 (by decide)).2
    obtain ⟨r5, y5⟩ := (HBG.out.2 5 (by decide)).2
    obtain ⟨r6, y6⟩ := (HBG.out.2 6 (by decide)).2
    obtain ⟨r7, y7⟩ := (HBG.out.2 7 (by decide)).2
    have hgbW : gb < W.heap.size := HBG.out.1.choose_spec.lt
    clear hS hk hb ht hd hfr HK4 HB84 HTO4 HFr4 HO5 qg_0 fg_0 lg_0 Rg_0 qg_1 fg_1 lg_1 Rg_1 qf_0 ff_0 lf_0 Rf_0 qf_1 ff_1 lf_1 Rf_1 H5 hz5 hz4
    have HK := Lib.hid (fun (w' : World) (h : Row w' p #[.slice D0 M0.length j0, .slice D1 M1.length j1, .slice D2 M2.length j2, .int .i64 DN.version, .slice DD DN.ids.length dd, .slice (some ⟨gb, 0, none⟩) 3 c, .slice B5 s.views.length b5] ∧ Row w' g8 #[.int .i64 x0, .int .i64 x1, .int .i64 x2, .slice none 0 0, .int .i64 DN.version, .slice E5 DN.ids.length e5, .int .i64 9, .int .i64 (time + 100)]) => And.intro h.1.2.1 h.2.2.1)
    (refine T_begin (fun w' => Row w' p #[.slice D0 M0.length j0, .slice D1 M1.length j1, .slice D2 M2.length j2, .int .i64 DN.version, .slice DD DN.ids.length dd, .slice (some ⟨gb, 0, none⟩) 3 c, .slice B5 s.views.length b5] ∧ Row w' g8 #[.int .i64 x0, .int .i64 x1, .int .i64 x2, .slice none 0 0, .int .i64 DN.version, .slice E5 DN.ids.length e5, .int .i64 9, .int .i64 (time + 100)]) 8 (by kernel_rfl) (And.intro RPW.out.drew RGW.out.drew) (fun hS => ?_); simp only [List.length_cons, List.length_nil])
    (refine tkA 0 HK hS ?_; (try simp only [Act.put, lSet]); refine tkA 1 HK hS ?_; (try simp only [Act.put, lSet]); refine tkA 2 HK hS ?_; (try simp only [Act.put, lSet]); refine tkA 3 HK hS ?_; (try simp only [Act.put, lSet]); refine tkA 4 HK hS ?_; (try simp only [Act.put, lSet]); refine tkA 5 HK hS ?_; (try simp only [Act.put, lSet]); refine tkA 6 HK hS ?_; (try simp only [Act.put, lSet]); refine tkA 7 HK hS ?_; (try simp only [Act.put, lSet]))
    clear HK hS
    (refine T_only (i := 8) rfl (by kernel_rfl) rfl (fun K hK => ?_); go_simp; refine hK.out _ _ (.inl (by kernel_rfl)) ?_; clear hK; (try simp only [Act.put, lSet]); refine T_done (by kernel_rfl) ?_ _)
    go_wp2_with fail
    rw [HQ.out]
    have hfg : Fr (fun q => q = gb) W (((((((((W.setCell ⟨gb, m * 8, none⟩ (.int .i64 x0)).setCell ⟨gb, m * 8 + 1, none⟩ (.int .i64 x1)).setCell ⟨gb, m * 8 + 2, none⟩ (.int .i64 x2)).setCell ⟨gb, m * 8 + 3, none⟩ (.slice none 0 0)).setCell ⟨gb, m * 8 + 4, none⟩ (.int .i64 DN.version)).setCell ⟨gb, m * 8 + 5, none⟩ (.slice E5 DN.ids.length e5)).setCell ⟨gb, m * 8 + 6, none⟩ (.int .i64 9)).setCell ⟨gb, m * 8 + 7, none⟩ (.int .i64 (time + 100)))) := Fr.setC rfl (Fr.setC rfl (Fr.setC rfl (Fr.setC rfl (Fr.setC rfl (Fr.setC rfl (Fr.setC rfl (Fr.setC rfl (Fr.refl _ _))))))))
    refine bodyPost_ret (v := .tuple #[.slice C3 M3.length j3, .int .i64 0]) (by simp [results, Tryz.results105, go_sem, *]) rfl ⟨.slice C3 M3.length j3, _, rfl, ?_, ?_, (HKW.out.put (m := 3) (c := c) HSG.out HMG.out ⟨x0, x1, x2, [], DN, 9, time + 100⟩ (.slice none 0 0) (.slice E5 DN.ids.length e5) ⟨OwnL.nil, HDW.out⟩).ext ((Ext.refl _).drew)⟩
    ·exact (HFW.out.trans (hfg.weaken (fun q h => by rw [show q = gb from h]; exact hgl))).step ((Ext.refl _).drew)
    ·exact (HTW.out.keepT hfg (by rintro q rfl; exact ⟨_, _, HBG.out.1.choose_spec, by decide⟩)).ext ((Ext.refl _).drew)
  ·have h4b : (M4 == 0) = false := by simpa using h4
   have h4c : (M4 != 0) = true := by simpa using h4
   have HQ := Lib.hid (show T = (s, [], M4) by rw [HST3.out, if_pos h4])
   go_wp2_with fail
   rw [HQ.out]
   exact bodyPost_ret (v := .tuple #[.slice none 0 0, .int .i64 M4]) (by simp [results, Tryz.results105, go_sem, *]) rfl ⟨_, y, rfl, (HF.out _ (HXE.out.2.trans (by exact extA))).1, OwnL.nil, (HF.out _ (HXE.out.2.trans (by exact extA))).2⟩
end Go.Proofs.YteojjbhadgkfgaaGreat

/- A gate of a station tells: the function value. -/
namespace Go.Proofs.YteojjbhadgkfgaaGreat
set_option linter.unusedSimpArgs false
set_option linter.unusedVariables false
set_option maxRecDepth 100000
open Go Go.RowKit Lb

set_option maxHeartbeats 8000000 in
theorem rawsync_one (s : St) (y : Sv) (n time : Int) (v0 : Value) (p pn pt pv base : Nat) (w : World) (hk : Kp base w p y s) (rs : RightS s) (h2 : Row w pn #[.int .i64 n]) (h3 : Row w pt #[.int .i64 time]) (hv : Row w pv #[v0]) (hpv : pv < base) :
  Calls Tryz.prog 104 #[.pointer (some ⟨p, 0, none⟩), .pointer (some ⟨pn, 0, none⟩), .pointer (some ⟨pt, 0, none⟩), .pointer (some ⟨pv, 0, none⟩)] w fun e w' => e = .returned (.int .i64 (syncS s n time).2.2) ∧ Fr (fun q => base ≤ q ∨ q = pv) w w' ∧ (∃ v, Row w' pv #[v] ∧ OwnL 57 5 tpc base w' v (syncS s n time).2.1) ∧ ∃ y', Kp base w' p y' (syncS s n time).1 := by
 have KT := Lib.hid (fun (w' : World) (h : Ext w w') => skeeper_sync s y n time p base w' (hk.ext h) rs)
 generalize syncS s n time = T at *
 obtain ⟨T1, T2, T3⟩ := T
 have R2 := Lib.hid h2
 have R3 := Lib.hid h3
 have RV := Lib.hid hv
 have hge := hk.ge
 have hlv := hv.1
 clear hk rs h2 h3 hv
 go_enter Tryz.func104, Tryz.ntmps104
 (apply Row.use (w := w) (g := pn); (focus (exact rowA)); intro qa_0 fa_0 la_0 Ra_0; (try simp only [lSet] at qa_0 Ra_0); apply Row.use (w := w) (g := pt); (focus (exact rowA)); intro qa_1 fa_1 la_1 Ra_1; (try simp only [lSet] at qa_1 Ra_1); apply Row.use (w := w) (g := pv); (focus (exact rowA)); intro qa_2 fa_2 la_2 Ra_2; (try simp only [lSet] at qa_2 Ra_2))
 go_wp2_with fail
 refine (KT.out _ (by exact extA)).mono ?_
 rintro e w1 ⟨v, y', rfl, hf, ho, hk⟩
 obtain ⟨C, f, rfl⟩ := ho.form
 have hr := hf.row (fun h => by omega) RV.out
 have HR := Lib.hid hr
 have HF := Lib.hid hf
 have HK := Lib.hid hk
 have HO := Lib.hid ho
 have q1 := hr.2.1
 have f1 := hr.2.2
 have l1 := hr.1
 have hpp := hk.ge
 clear hr hf hk ho
 go_wp2_with fail
 go_ret
 refine ⟨rfl, Fr.setC (.inr rfl) (HF.out.weaken (fun q h => .inl h)), ⟨.slice C T2.length f, ?_, HO.out.setC (a := ⟨pv, 0, none⟩) hpv⟩, y', ?_⟩
 ·exact rowC (HR.out.set_ (i := 0)) (by simp only [List.setIfInBounds_toArray, List.set_cons_zero])
 ·exact ⟨Bx.far (a := ⟨pv, 0, none⟩) (show p ≠ pv by omega) HK.out.box, HK.out.ge, HK.out.own.setC (a := ⟨pv, 0, none⟩) hpv⟩
end Go.Proofs.YteojjbhadgkfgaaGreat

/- station.RawSync. -/
namespace Go.Proofs.YteojjbhadgkfgaaGreat
set_option linter.unusedSimpArgs false
set_option linter.unusedVariables false
set_option maxRecDepth 100000
open Go Go.RowKit Lb

theorem syncRaw_eq (s : St) (n time : Int) : syncRaw s n time = (if (syncS s n time).2.2 ≠ 0 then st0 else (syncS s n time).1, (syncS s n time).2.1, (syncS s n time).2.2) := by
 unfold syncRaw
 by_cases h : (syncS s n time).2.2 = 0
 ·rw [if_neg (by simpa using h), if_neg (by simpa using h)]
 ·rw [if_pos h, if_pos h]

set_option maxHeartbeats 16000000 in
theorem station_RawSync (s : St) (x : Sv) (n time : Int) (w : World) (hr : RdS w x s) (rs : RightS s) :
  Calls Tryz.prog 52 #[.agg (sta s x), .int .i64 n, .int .i64 time] w fun e w' => ∃ x' v, e = .returned (.tuple #[.agg (sta (syncRaw s n time).1 x'), v, .int .i64 (syncRaw s n time).2.2]) ∧ Ext w w' ∧ OwnS w.heap.size w' x' (syncRaw s n time).1 ∧ OwnL 57 5 tpc w.heap.size w' v (syncRaw s n time).2.1 := by
 rw [syncRaw_eq]
 have KW := Lib.hid (fun (w' : World) (h : Ext w w') (h1 : Row w' (w.heap.size + 1) #[.int .i64 n]) (h2 : Row w' (w.heap.size + 1 + 1) #[.int .i64 time]) (hv : Row w' (w.heap.size + 1 + 1 + 1 + 1) #[.slice none 0 0]) =>
  station_with 104 #[.pointer (some ⟨w.heap.size + 1, 0, none⟩), .pointer (some ⟨w.heap.size + 1 + 1, 0, none⟩), .pointer (some ⟨w.heap.size + 1 + 1 + 1 + 1, 0, none⟩)] (fun args w => by simp [go_sem]) s x w' (hr.ext h) rs (syncS s n time).1 (syncS s n time).2.2 (fun q => q = w.heap.size + 1 + 1 + 1 + 1) (by rintro q rfl; exact hv.1) (fun W => ∃ v, Row W (w.heap.size + 1 + 1 + 1 + 1) #[v] ∧ OwnL 57 5 tpc (w.heap.size + 1 + 1 + 1 + 1 + 1) W v (syncS s n time).2.1)
   (fun W W' q cs hb hq hf hro => by
    obtain ⟨v, h1, h2⟩ := hro
    exact ⟨v, hf.row (fun h => by have := hv.1; omega) h1, h2.keepT hf (by rintro z rfl; exact ⟨_, _, hb, by decide⟩)⟩)
   (fun b W p y hE hb2 hk => (rawsync_one s y n time (.slice none 0 0) p _ _ _ b W hk rs (h1.ext hE) (h2.ext hE) (hv.ext hE) (by have := hv.1; omega)).mono (fun e W' h => by
    obtain ⟨e1, e2, ⟨v, e3, e4⟩, e5⟩ := h
    exact ⟨e1, e2, ⟨v, e3, e4.lower (by have := hv.1; omega)⟩, e5⟩)))
 generalize syncS s n time = T at *
 obtain ⟨T1, T2, T3⟩ := T
 simp only at KW ⊢
 generalize (if T3 ≠ 0 then st0 else T1) = R1 at *
 obtain ⟨A0, c0, e0, -, -⟩ := hr.tk.form
 obtain ⟨A1, c1, e1, -, -⟩ := hr.tp.form
 obtain ⟨A2, c2, e2, -, -⟩ := hr.vd.form
 obtain ⟨A3, c3, e3, -, -⟩ := hr.dn.form
 obtain ⟨A4, c4, e4, -, -⟩ := hr.gt.form
 obtain ⟨A5, c5, e5, -, -⟩ := hr.vw.form
 obtain ⟨s0, s1, s2, si, sg, sv⟩ := x
 simp only at e0 e1 e2 e3 e4 e5
 subst e0 e1 e2 e3 e4 e5
 clear hr rs
 unfold sta at KW ⊢
 simp only at KW ⊢
 go_enter Tryz.func52, Tryz.ntmps52
 go_wp2_with fail
 refine (KW.out _ (by exact extA) (by exact rowA) (by exact rowA) (by exact rowA)).mono ?_
 rintro e w1 ⟨⟨t0, t1, t2, ti, tg, tv⟩, rfl, hf, ⟨vt, hv, hto⟩, ho⟩
 obtain ⟨C, fc, rfl⟩ := hto.form
 have HTO := Lib.hid hto
 clear hto
 obtain ⟨B0, d0, e0⟩ := ho.tk.form
 obtain ⟨B1, d1, e1⟩ := ho.tp.form
 obtain ⟨B2, d2, e2⟩ := ho.vd.form
 obtain ⟨B3, d3, e3⟩ := ho.dn.form
 obtain ⟨B4, d4, e4⟩ := ho.gt.form
 obtain ⟨B5, d5, e5⟩ := ho.vw.form
 simp only at e0 e1 e2 e3 e4 e5
 subst e0 e1 e2 e3 e4 e5
 have hrr := hf.row (g := w.heap.size + 1 + 1 + 1) (cs := #[.slice none 0 0, .slice none 0 0, .slice none 0 0, .int .i64 0, .slice none 0 0, .slice none 0 0, .slice none 0 0]) (by rintro (h | h); (simp only [World.size_alloc] at h; omega); omega) (by exact rowA)
 have h1 : Ext w w1 := Ext.fr (by exact extA) hf (by rintro q (h | h); (simp only [World.size_alloc] at h; omega); omega)
 have H1 := Lib.hid h1
 have hz1 := hf.size
 have HO := Lib.hid ho
 have RV := Lib.hid hv
 have RR := Lib.hid hrr
 clear hf h1 ho hv hrr
 (try simp only [World.size_alloc] at hz1 HO)
 (apply Row.use (w := w1) (g := w.heap.size + 1 + 1 + 1); (focus (exact rowA)); intro q1_0 f1_0 l1_0 R1_0; (try simp only [lSet] at q1_0 R1_0); apply Row.use (w := w1) (g := w.heap.size + 1 + 1 + 1 + 1); (focus (exact rowA)); intro q1_1 f1_1 l1_1 R1_1; (try simp only [lSet] at q1_1 R1_1))
 go_upto_region 3 with fail
 (apply wp_gen3 (w0 := w1) (g0 := w.heap.size + 1 + 1 + 1) (g1 := w.heap.size + 1 + 1 + 1 + 1) (g2 := w1.heap.size); (focus (exact rowA)); (focus (exact rowA)); (focus (exact rowA)); (focus (exact extA)); intro W HW hzW Rz_0 Rz_1 Rz_2; (try simp only [lSet, World.size_alloc, size_set, World.heap_drewN, size_drew] at hzW Rz_0 Rz_1 Rz_2); have lz_0 := Rz_0.out.size; have lz_1 := Rz_1.out.size; have lz_2 := Rz_2.out.size)
 have HWs := Lib.hid (show OwnS (w.heap.size + 1 + 1 + 1 + 1 + 1) W ⟨.slice B0 R1.ledger.tickets.length d0, .slice B1 R1.ledger.taps.length d1, .slice B2 R1.ledger.verdicts.length d2, .slice B3 R1.denied.ids.length d3, .slice B4 R1.gates.length d4, .slice B5 R1.views.length d5⟩ R1 from HO.out.ext HW.out)
 have HTW := Lib.hid (HTO.out.ext HW.out)
 have HK := Lib.hid (fun (w' : World) (h : Row w' (w.heap.size + 1 + 1 + 1 + 1) #[.slice C T2.length fc] ∧ Row w' w1.heap.size #[.slice B0 R1.ledger.tickets.length d0, .slice B1 R1.ledger.taps.length d1, .slice B2 R1.ledger.verdicts.length d2, .int .i64 R1.denied.version, .slice B3 R1.denied.ids.length d3, .slice B4 R1.gates.length d4, .slice B5 R1.views.length d5]) => And.intro h.1.2.1 h.2.2.1)
 (refine T_begin (fun w' => Row w' (w.heap.size + 1 + 1 + 1 + 1) #[.slice C T2.length fc] ∧ Row w' w1.heap.size #[.slice B0 R1.ledger.tickets.length d0, .slice B1 R1.ledger.taps.length d1, .slice B2 R1.ledger.verdicts.length d2, .int .i64 R1.denied.version, .slice B3 R1.denied.ids.length d3, .slice B4 R1.gates.length d4, .slice B5 R1.views.length d5]) 5 (by kernel_rfl) (And.intro Rz_1.out.drew Rz_2.out.drew) (fun hS => ?_); simp only [List.length_cons, List.length_nil])
 (refine tkA 0 HK hS ?_; (try simp only [Act.put, lSet]); refine tkA 1 HK hS ?_; (try simp only [Act.put, lSet]); refine tkA 2 HK hS ?_; (try simp only [Act.put, lSet]))
 have qz := Rz_0.out.2.1
 have fz := Rz_0.out.2.2
 clear HK hS
 refine T_only (i := 3) rfl (by kernel_rfl) rfl (fun K hK => ?_)
 go_simp
 refine hK.out _ _ (.inr (by exact ⟨Row.drew (Row.far (p := ⟨w.heap.size + 1 + 1 + 1, 6, none⟩) (show w.heap.size + 1 + 1 + 1 + 1 ≠ w.heap.size + 1 + 1 + 1 by omega) (Row.far (p := ⟨w.heap.size + 1 + 1 + 1, 5, none⟩) (show w.heap.size + 1 + 1 + 1 + 1 ≠ w.heap.size + 1 + 1 + 1 by omega) (Row.far (p := ⟨w.heap.size + 1 + 1 + 1, 4, none⟩) (show w.heap.size + 1 + 1 + 1 + 1 ≠ w.heap.size + 1 + 1 + 1 by omega) (Row.far (p := ⟨w.heap.size + 1 + 1 + 1, 3, none⟩) (show w.heap.size + 1 + 1 + 1 + 1 ≠ w.heap.size + 1 + 1 + 1 by omega) (Row.far (p := ⟨w.heap.size + 1 + 1 + 1, 2, none⟩) (show w.heap.size + 1 + 1 + 1 + 1 ≠ w.heap.size + 1 + 1 + 1 by omega) (Row.far (p := ⟨w.heap.size + 1 + 1 + 1, 1, none⟩) (show w.heap.size + 1 + 1 + 1 + 1 ≠ w.heap.size + 1 + 1 + 1 by omega) (Row.far (p := ⟨w.heap.size + 1 + 1 + 1, 0, none⟩) (show w.heap.size + 1 + 1 + 1 + 1 ≠ w.heap.size + 1 + 1 + 1 by omega) Rz_1.out))))))), Row.drew (Row.far (p := ⟨w.heap.size + 1 + 1 + 1, 6, none⟩) (show w1.heap.size ≠ w.heap.size + 1 + 1 + 1 by omega) (Row.far (p := ⟨w.heap.size + 1 + 1 + 1, 5, none⟩) (show w1.heap.size ≠ w.heap.size + 1 + 1 + 1 by omega) (Row.far (p := ⟨w.heap.size + 1 + 1 + 1, 4, none⟩) (show w1.heap.size ≠ w.heap.size + 1 + 1 + 1 by omega) (Row.far (p := ⟨w.heap.size + 1 + 1 + 1, 3, none⟩) (show w1.heap.size ≠ w.heap.size + 1 + 1 + 1 by omega) (Row.far (p := ⟨w.heap.size + 1 + 1 + 1, 2, none⟩) (show w1.heap.size ≠ w.heap.size + 1 + 1 + 1 by omega) (Row.far (p := ⟨w.heap.size + 1 + 1 + 1, 1, none⟩) (show w1.heap.size ≠ w.heap.size + 1 + 1 + 1 by omega) (Row.far (p := ⟨w.heap.size + 1 + 1 + 1, 0, none⟩) (show w1.heap.size ≠ w.heap.size + 1 + 1 + 1 by omega) Rz_2.out)))))))⟩)) ?_
 clear hK
 (try simp only [Act.put, lSet])
 refine T_only (i := 4) rfl (by kernel_rfl) rfl (fun K hK => ?_)
 go_simp
 refine hK.out _ _ (.inr (by exact ⟨Row.drew (Row.far (p := ⟨w.heap.size + 1 + 1 + 1, 6, none⟩) (show w.heap.size + 1 + 1 + 1 + 1 ≠ w.heap.size + 1 + 1 + 1 by omega) (Row.far (p := ⟨w.heap.size + 1 + 1 + 1, 5, none⟩) (show w.heap.size + 1 + 1 + 1 + 1 ≠ w.heap.size + 1 + 1 + 1 by omega) (Row.far (p := ⟨w.heap.size + 1 + 1 + 1, 4, none⟩) (show w.heap.size + 1 + 1 + 1 + 1 ≠ w.heap.size + 1 + 1 + 1 by omega) (Row.far (p := ⟨w.heap.size + 1 + 1 + 1, 3, none⟩) (show w.heap.size + 1 + 1 + 1 + 1 ≠ w.heap.size + 1 + 1 + 1 by omega) (Row.far (p := ⟨w.heap.size + 1 + 1 + 1, 2, none⟩) (show w.heap.size + 1 + 1 + 1 + 1 ≠ w.heap.size + 1 + 1 + 1 by omega) (Row.far (p := ⟨w.heap.size + 1 + 1 + 1, 1, none⟩) (show w.heap.size + 1 + 1 + 1 + 1 ≠ w.heap.size + 1 + 1 + 1 by omega) (Row.far (p := ⟨w.heap.size + 1 + 1 + 1, 0, none⟩) (show w.heap.size + 1 + 1 + 1 + 1 ≠ w.heap.size + 1 + 1 + 1 by omega) Rz_1.out))))))), Row.drew (Row.far (p := ⟨w.heap.size + 1 + 1 + 1, 6, none⟩) (show w1.heap.size ≠ w.heap.size + 1 + 1 + 1 by omega) (Row.far (p := ⟨w.heap.size + 1 + 1 + 1, 5, none⟩) (show w1.heap.size ≠ w.heap.size + 1 + 1 + 1 by omega) (Row.far (p := ⟨w.heap.size + 1 + 1 + 1, 4, none⟩) (show w1.heap.size ≠ w.heap.size + 1 + 1 + 1 by omega) (Row.far (p := ⟨w.heap.size + 1 + 1 + 1, 3, none⟩) (show w1.heap.size ≠ w.heap.size + 1 + 1 + 1 by omega) (Row.far (p := ⟨w.heap.size + 1 + 1 + 1, 2, none⟩) (show w1.heap.size ≠ w.heap.size + 1 + 1 + 1 by omega) (Row.far (p := ⟨w.heap.size + 1 + 1 + 1, 1, none⟩) (show w1.heap.size ≠ w.heap.size + 1 + 1 + 1 by omega) (Row.far (p := ⟨w.heap.size + 1 + 1 + 1, 0, none⟩) (show w1.heap.size ≠ w.heap.size + 1 + 1 + 1 by omega) Rz_2.out)))))))⟩)) ?_
 clear hK
 (try simp only [Act.put, lSet])
 (refine T_only (i := 5) rfl (by kernel_rfl) rfl (fun K hK => ?_); go_simp; refine hK.out _ _ (.inl (by kernel_rfl)) ?_; clear hK; (try simp only [Act.put, lSet]); refine T_done (by kernel_rfl) ?_ _)
 go_wp2_with fail
 have hWE : Ext w W := H1.out.trans HW.out
 refine bodyPost_ret (v := .tuple #[.agg #[.slice B0 R1.ledger.tickets.length d0, .slice B1 R1.ledger.taps.length d1, .slice B2 R1.ledger.verdicts.length d2, .int .i64 R1.denied.version, .slice B3 R1.denied.ids.length d3, .slice B4 R1.gates.length d4, .slice B5 R1.views.length d5], .slice C T2.length fc, .int .i64 T3]) (by simp [results, Tryz.results52, go_sem, *]) rfl ⟨⟨.slice B0 R1.ledger.tickets.length d0, .slice B1 R1.ledger.taps.length d1, .slice B2 R1.ledger.verdicts.length d2, .slice B3 R1.denied.ids.length d3, .slice B4 R1.gates.length d4, .slice B5 R1.views.length d5⟩, .slice C T2.length fc, rfl, ?_, ?_, ?_⟩
 ·refine Ext.drew ?_
  repeat (refine Ext.setCell ?_ (by simp; omega) _)
  exact hWE
 ·refine OwnS.lower (base := w.heap.size + 1 + 1 + 1 + 1 + 1) ?_ (by omega)
  have hb : w.heap.size + 1 + 1 + 1 < w.heap.size + 1 + 1 + 1 + 1 + 1 := by omega
  exact (OwnS.setC hb (OwnS.setC hb (OwnS.setC hb (OwnS.setC hb (OwnS.setC hb (OwnS.setC hb (OwnS.setC hb HWs.out))))))).ext ((Ext.refl _).drew)
 ·refine OwnL.lower (base := w.heap.size + 1 + 1 + 1 + 1 + 1) ?_ (by omega)
  have hb : w.heap.size + 1 + 1 + 1 < w.heap.size + 1 + 1 + 1 + 1 + 1 := by omega
  exact (OwnL.setC hb (OwnL.setC hb (OwnL.setC hb (OwnL.setC hb (OwnL.setC hb (OwnL.setC hb (OwnL.setC hb HTW.out))))))).ext ((Ext.refl _).drew)
end Go.Proofs.YteojjbhadgkfgaaGreat

/- station.Sync. -/
namespace Go.Proofs.YteojjbhadgkfgaaGreat
set_option linter.unusedSimpArgs false
set_option linter.unusedVariables false
set_option maxRecDepth 100000
open Go Go.RowKit Lb

set_option maxHeartbeats 16000000 in
theorem station_Sync (s : St) (x : Sv) (n time : Int) (w : World) (hr : RdS w x s) :
  Calls Tryz.prog 13 #[.agg (sta s x), .int .i64 n, .int .i64 time] w fun e w' => ∃ x' v, e = .returned (.tuple #[.agg (sta (syncSt s n time).1 x'), v, .int .i64 (syncSt s n time).2.2]) ∧ Ext w w' ∧ OwnS w.heap.size w' x' (syncSt s n time).1 ∧ OwnL 57 5 tpc w.heap.size w' v (syncSt s n time).2.1 := by
 have KC := Lib.hid (fun (w' : World) (h : Ext w w') => station_Check s x w' (hr.ext h))
 have KR := Lib.hid (fun (w' : World) (h : Ext w w') (hc : ckSt s = 0) => station_RawSync s x n time w' (hr.ext h) (rightS_iff.1 hc))
 have hres : syncSt s n time = if ckSt s ≠ 0 then (st0, [], ckSt s) else syncRaw s n time := rfl
 generalize syncSt s n time = R at *
 generalize hck : ckSt s = ck at *
 generalize syncRaw s n time = Q at *
 have HRES := Lib.hid hres
 obtain ⟨A0, c0, e0, -, -⟩ := hr.tk.form
 obtain ⟨A1, c1, e1, -, -⟩ := hr.tp.form
 obtain ⟨A2, c2, e2, -, -⟩ := hr.vd.form
 obtain ⟨A3, c3, e3, -, -⟩ := hr.dn.form
 obtain ⟨A4, c4, e4, -, -⟩ := hr.gt.form
 obtain ⟨A5, c5, e5, -, -⟩ := hr.vw.form
 obtain ⟨s0, s1, s2, si, sg, sv⟩ := x
 simp only at e0 e1 e2 e3 e4 e5
 subst e0 e1 e2 e3 e4 e5
 clear hr hres hck
 unfold sta at KC KR ⊢
 simp only at KC KR ⊢
 go_enter Tryz.func13, Tryz.ntmps13
 go_wp2_with fail
 (refine (KC.out _ (by exact extA)).mono ?_; rintro e w1 ⟨rfl, h1⟩; have H1 := Lib.hid h1; have hz1 := h1.size; clear h1; (try simp only [World.size_alloc, size_set, World.heap_drewN, size_drew] at hz1); apply Row.use (w := w1) (g := w.heap.size); (focus (exact rowA)); intro q1_0 f1_0 l1_0 R1_0; (try simp only [lSet] at q1_0 R1_0); apply Row.use (w := w1) (g := w.heap.size + 1); (focus (exact rowA)); intro q1_1 f1_1 l1_1 R1_1; (try simp only [lSet] at q1_1 R1_1))
 by_cases h0 : ck = 0
 ·subst h0
  have HQ := Lib.hid (show R = Q by rw [HRES.out]; simp)
  obtain ⟨Q1, Q2, Q3⟩ := Q
  go_wp2_with fail
  refine (KR.out _ (by exact extA) (by trivial)).mono ?_
  rintro e w2 ⟨⟨t0, t1, t2, ti, tg, tv⟩, vt, rfl, h2, ho, hto⟩
  obtain ⟨C, fc, rfl⟩ := hto.form
  have HTO := Lib.hid hto
  clear hto
  obtain ⟨B0, d0, e0⟩ := ho.tk.form
  obtain ⟨B1, d1, e1⟩ := ho.tp.form
  obtain ⟨B2, d2, e2⟩ := ho.vd.form
  obtain ⟨B3, d3, e3⟩ := ho.dn.form
  obtain ⟨B4, d4, e4⟩ := ho.gt.form
  obtain ⟨B5, d5, e5⟩ := ho.vw.form
  simp only at e0 e1 e2 e3 e4 e5
  subst e0 e1 e2 e3 e4 e5
  have H2 := Lib.hid h2
  have hz2 := h2.size
  have HO := Lib.hid ho
  clear h2 ho
  (apply Row.use (w := w2) (g := w.heap.size + 1); (focus (exact rowA)); intro q2_0 f2_0 l2_0 R2_0; (try simp only [lSet] at q2_0 R2_0))
  go_wp2_with fail
  rw [HQ.out]
  refine bodyPost_ret (v := .tuple #[.agg #[.slice B0 Q1.ledger.tickets.length d0, .slice B1 Q1.ledger.taps.length d1, .slice B2 Q1.ledger.verdicts.length d2, .int .i64 Q1.denied.version, .slice B3 Q1.denied.ids.length d3, .slice B4 Q1.gates.length d4, .slice B5 Q1.views.length d5], .slice C Q2.length fc, .int .i64 Q3]) (by simp [results, Tryz.results13, go_sem, *]) rfl ⟨⟨.slice B0 Q1.ledger.tickets.length d0, .slice B1 Q1.ledger.taps.length d1, .slice B2 Q1.ledger.verdicts.length d2, .slice B3 Q1.denied.ids.length d3, .slice B4 Q1.gates.length d4, .slice B5 Q1.views.length d5⟩, .slice C Q2.length fc, rfl, (show Ext w _ by exact extA), ?_, ?_⟩
  ·refine OwnS.lower (base := w1.heap.size) ?_ (by omega)
   repeat (refine OwnS.setC (by simp; omega) ?_)
   exact HO.out
  ·refine OwnL.lower (base := w1.heap.size) ?_ (by omega)
   repeat (refine OwnL.setC (by simp; omega) ?_)
   exact HTO.out
 ·have HQ := Lib.hid (show R = (st0, [], ck) by rw [HRES.out, if_pos h0])
  have h0b : (ck == 0) = false := by simpa using h0
  go_wp2_with fail
  rw [HQ.out]
  exact bodyPost_ret (v := .tuple #[.agg #[.slice none 0 0, .slice none 0 0, .slice none 0 0, .int .i64 0, .slice none 0 0, .slice none 0 0, .slice none 0 0], .slice none 0 0, .int .i64 ck]) (by simp [results, Tryz.results13, go_sem, *]) rfl ⟨sv0, _, rfl, (show Ext w _ by exact extA), OwnS.nil, OwnL.nil⟩
end Go.Proofs.YteojjbhadgkfgaaGreat

/- stationBegun. -/
namespace Go.Proofs.YteojjbhadgkfgaaGreat
set_option linter.unusedSimpArgs false
set_option linter.unusedVariables false
set_option maxRecDepth 100000
open Go Go.RowKit Lb

def aloneSt : St := ⟨⟨[single 1], [], []⟩, dn0, [newG 0 1, newG 1 2, newG 2 4], newS.views⟩
def sbA : St := ⟨⟨[single 1], [⟨1, 0, 1, 20, 1⟩], [1]⟩, dn0, [⟨0, 1, 1, [], dn0, 9, 100⟩, newG 1 2, newG 2 4], hallV⟩
def sbB : St := ⟨⟨[single 1], [], []⟩, dn0, [⟨0, 1, 1, [⟨1, 0, 1, 20, 1⟩], dn0, 8, 100⟩, newG 1 2, newG 2 4], newS.views⟩
def sbE : St := ⟨⟨[single 1], [], []⟩, dn0, [⟨0, 1, 1, [⟨1, 0, 1, 20, 1⟩], dn0, 8, 100⟩, newG 1 2, newG 2 4], hallV⟩
def sbD : St := ⟨⟨[single 1, single 2], [], []⟩, dn0, [newG 0 1, newG 1 2, newG 2 4], hallV⟩
def sbS : St := ⟨⟨[single 1], [⟨1, 0, 1, 20, 1⟩], [1]⟩, dn0, [⟨0, 1, 1, [], dn0, 9, 150⟩, newG 1 2, newG 2 4], hallV⟩
theorem sb_a : tapSt hallS 1 0 20 = (sbA, 1, 0) := by decide
theorem sb_b : tapSt aloneSt 1 0 20 = (sbB, 0, 0) := by decide
theorem sb_c : tapSt sbE 1 0 90 = (st0, 0, 10) := by decide
theorem sb_d : sellSt hallS (single 2) = (sbD, 0) := by decide
theorem sb_s : syncSt sbE 0 50 = (sbS, [], 0) := by decide
theorem sb_j : sellSt aloneSt (single 2) = (st0, 4) := by decide
theorem sb_n : ckSt newS = 0 := by decide
theorem sbt_a {b : Nat} (x : Sv) (w : World) (h : OwnS b w x hallS) : Calls Tryz.prog 12 #[.agg (sta hallS x), .int .i64 1, .int .i64 0, .int .i64 20] w fun e w' => ∃ x', e = .returned (.tuple #[.agg (sta sbA x'), .int .i64 1, .int .i64 0]) ∧ Ext w w' ∧ OwnS w.heap.size w' x' sbA := by
 have := station_Tap hallS x 1 0 20 w h.rd
 rw [sb_a] at this
 exact this
theorem sbt_b {b : Nat} (x : Sv) (w : World) (h : OwnS b w x aloneSt) : Calls Tryz.prog 12 #[.agg (sta aloneSt x), .int .i64 1, .int .i64 0, .int .i64 20] w fun e w' => ∃ x', e = .returned (.tuple #[.agg (sta sbB x'), .int .i64 0, .int .i64 0]) ∧ Ext w w' ∧ OwnS w.heap.size w' x' sbB := by
 have := station_Tap aloneSt x 1 0 20 w h.rd
 rw [sb_b] at this
 exact this
theorem sbt_c {b : Nat} (x : Sv) (w : World) (h : OwnS b w x sbE) : Calls Tryz.prog 12 #[.agg (sta sbE x), .int .i64 1, .int .i64 0, .int .i64 90] w fun e w' => ∃ x', e = .returned (.tuple #[.agg (sta st0 x'), .int .i64 0, .int .i64 10]) ∧ Ext w w' ∧ OwnS w.heap.size w' x' st0 := by
 have := station_Tap sbE x 1 0 90 w h.rd
 rw [sb_c] at this
 exact this
theorem sbt_d {b : Nat} (x : Sv) (w : World) (h : OwnS b w x hallS) : Calls Tryz.prog 11 #[.agg (sta hallS x), .agg (tkc (single 2))] w fun e w' => ∃ x', e = .returned (.tuple #[.agg (sta sbD x'), .int .i64 0]) ∧ Ext w w' ∧ OwnS w.heap.size w' x' sbD := by
 have := station_Sell hallS x (single 2) w h.rd
 rw [sb_d] at this
 exact this
theorem sbt_j {b : Nat} (x : Sv) (w : World) (h : OwnS b w x aloneSt) : Calls Tryz.prog 11 #[.agg (sta aloneSt x), .agg (tkc (single 2))] w fun e w' => ∃ x', e = .returned (.tuple #[.agg (sta st0 x'), .int .i64 4]) ∧ Ext w w' ∧ OwnS w.heap.size w' x' st0 := by
 have := station_Sell aloneSt x (single 2) w h.rd
 rw [sb_j] at this
 exact this
theorem sbt_s {b : Nat} (x : Sv) (w : World) (h : OwnS b w x sbE) : Calls Tryz.prog 13 #[.agg (sta sbE x), .int .i64 0, .int .i64 50] w fun e w' => ∃ x' v, e = .returned (.tuple #[.agg (sta sbS x'), v, .int .i64 0]) ∧ Ext w w' ∧ OwnS w.heap.size w' x' sbS ∧ OwnL 57 5 tpc w.heap.size w' v [] := by
 have := station_Sync sbE x 0 50 w h.rd
 rw [sb_s] at this
 exact this
theorem sbt_n {b : Nat} (x : Sv) (w : World) (h : OwnS b w x newS) : Calls Tryz.prog 22 #[.agg (sta newS x)] w fun e w' => e = .returned (.int .i64 0) ∧ Ext w w' := by
 have := station_Check newS x w h.rd
 rw [sb_n] at this
 exact this
theorem run_views (B0 B1 B2 B3 B4 B5 : Option Addr) (n0 n1 n2 n3 n4 n5 c0 c1 c2 c3 c4 c5 : Nat) (v : Int) (w : World) : (Instr.field 32 (.agg #[.slice B0 n0 c0, .slice B1 n1 c1, .slice B2 n2 c2, .int .i64 v, .slice B3 n3 c3, .slice B4 n4 c4, .slice B5 n5 c5]) 3).run Tryz.prog w = .ok (.slice B5 n5 c5) w := by kernel_rfl
section
variable {P : Program} {l : Array Oper} {Q : Exit → Act → World → Prop} {md : Region.Mode} {S : World → Prop} {n fuel : Nat} {listed : Array Bool} {a : Act} {w w0 : World}
theorem any_genP {S2 : World → Prop} (hE : S2 w) (k : ∀ X, Hid (S2 X) → wpAnyT P md l (NoPanic Q) S n fuel listed a X) : wpAnyT P md l (NoPanic Q) S n fuel listed a w := k w hE
end

set_option maxHeartbeats 64000000 in
theorem law_stationBegun (w : World) : Calls Tryz.prog 18 #[] w fun e w' => e = .returned (.bool true) ∧ Ext w w' := by
 go_enter Tryz.func18, Tryz.ntmps18
 go_wp2_with fail
 refine (law_hall _).mono ?_
 rintro e w1 ⟨⟨t0, t1, t2, ti, tg, tv⟩, rfl, h1, ho⟩
 obtain ⟨Ba0, da0, rfl⟩ : ∃ B d, t0 = .slice B 1 d := ho.tk.form
 obtain ⟨Ba1, da1, rfl⟩ : ∃ B d, t1 = .slice B 0 d := ho.tp.form
 obtain ⟨Ba2, da2, rfl⟩ : ∃ B d, t2 = .slice B 0 d := ho.vd.form
 obtain ⟨Ba3, da3, rfl⟩ : ∃ B d, ti = .slice B 0 d := ho.dn.form
 obtain ⟨Ba4, da4, rfl⟩ : ∃ B d, tg = .slice B 3 d := ho.gt.form
 obtain ⟨Ba5, da5, rfl⟩ : ∃ B d, tv = .slice B 3 d := ho.vw.form
 have Hw1 := Lib.hid h1
 have hzw1 := h1.size
 have HOa := Lib.hid ho
 clear h1 ho
 (try simp only [World.size_alloc, size_set, World.heap_drewN, size_drew] at hzw1 HOa)
 rw [show sta hallS ⟨.slice Ba0 1 da0, .slice Ba1 0 da1, .slice Ba2 0 da2, .slice Ba3 0 da3, .slice Ba4 3 da4, .slice Ba5 3 da5⟩ = #[.slice Ba0 1 da0, .slice Ba1 0 da1, .slice Ba2 0 da2, .int .i64 0, .slice Ba3 0 da3, .slice Ba4 3 da4, .slice Ba5 3 da5] from rfl]
 go_wp2_with fail
 refine (sbt_a ⟨.slice Ba0 1 da0, .slice Ba1 0 da1, .slice Ba2 0 da2, .slice Ba3 0 da3, .slice Ba4 3 da4, .slice Ba5 3 da5⟩ _ (HOa.out.ext (show Ext w1 _ by exact extA))).mono ?_
 rintro e w2 ⟨⟨t0, t1, t2, ti, tg, tv⟩, rfl, h1, ho⟩
 obtain ⟨Bb0, db0, rfl⟩ : ∃ B d, t0 = .slice B 1 d := ho.tk.form
 obtain ⟨Bb1, db1, rfl⟩ : ∃ B d, t1 = .slice B 1 d := ho.tp.form
 obtain ⟨Bb2, db2, rfl⟩ : ∃ B d, t2 = .slice B 1 d := ho.vd.form
 obtain ⟨Bb3, db3, rfl⟩ : ∃ B d, ti = .slice B 0 d := ho.dn.form
 obtain ⟨Bb4, db4, rfl⟩ : ∃ B d, tg = .slice B 3 d := ho.gt.form
 obtain ⟨Bb5, db5, rfl⟩ : ∃ B d, tv = .slice B 3 d := ho.vw.form
 have Hw2 := Lib.hid h1
 have hzw2 := h1.size
 have HOb := Lib.hid ho
 clear h1 ho
 (try simp only [World.size_alloc, size_set, World.heap_drewN, size_drew] at hzw2 HOb)
 rw [show sta sbA ⟨.slice Bb0 1 db0, .slice Bb1 1 db1, .slice Bb2 1 db2, .slice Bb3 0 db3, .slice Bb4 3 db4, .slice Bb5 3 db5⟩ = #[.slice Bb0 1 db0, .slice Bb1 1 db1, .slice Bb2 1 db2, .int .i64 0, .slice Bb3 0 db3, .slice Bb4 3 db4, .slice Bb5 3 db5] from rfl]
 clear HOa HOb
 go_wp2_with fail
 refine (law_hall _).mono ?_
 rintro e w3 ⟨⟨t0, t1, t2, ti, tg, tv⟩, rfl, h1, ho⟩
 obtain ⟨Bc0, dc0, rfl⟩ : ∃ B d, t0 = .slice B 1 d := ho.tk.form
 obtain ⟨Bc1, dc1, rfl⟩ : ∃ B d, t1 = .slice B 0 d := ho.tp.form
 obtain ⟨Bc2, dc2, rfl⟩ : ∃ B d, t2 = .slice B 0 d := ho.vd.form
 obtain ⟨Bc3, dc3, rfl⟩ : ∃ B d, ti = .slice B 0 d := ho.dn.form
 obtain ⟨Bc4, dc4, rfl⟩ : ∃ B d, tg = .slice B 3 d := ho.gt.form
 obtain ⟨Bc5, dc5, rfl⟩ : ∃ B d, tv = .slice B 3 d := ho.vw.form
 have Hw3 := Lib.hid h1
 have hzw3 := h1.size
 have HOc := Lib.hid ho
 clear h1 ho
 (try simp only [World.size_alloc, size_set, World.heap_drewN, size_drew] at hzw3 HOc)
 rw [show sta hallS ⟨.slice Bc0 1 dc0, .slice Bc1 0 dc1, .slice Bc2 0 dc2, .slice Bc3 0 dc3, .slice Bc4 3 dc4, .slice Bc5 3 dc5⟩ = #[.slice Bc0 1 dc0, .slice Bc1 0 dc1, .slice Bc2 0 dc2, .int .i64 0, .slice Bc3 0 dc3, .slice Bc4 3 dc4, .slice Bc5 3 dc5] from rfl]
 (apply Row.use (w := w3) (g := w2.heap.size); (focus (exact rowA)); intro qc_0 fc_0 lc_0 Rc_0; (try simp only [lSet] at qc_0 Rc_0))
 go_wp2_with fail
 refine (ref_NewStation _).mono ?_
 rintro e w4 ⟨⟨t0, t1, t2, ti, tg, tv⟩, rfl, h1, ho⟩
 obtain ⟨Be0, de0, rfl⟩ : ∃ B d, t0 = .slice B 0 d := ho.tk.form
 obtain ⟨Be1, de1, rfl⟩ : ∃ B d, t1 = .slice B 0 d := ho.tp.form
 obtain ⟨Be2, de2, rfl⟩ : ∃ B d, t2 = .slice B 0 d := ho.vd.form
 obtain ⟨Be3, de3, rfl⟩ : ∃ B d, ti = .slice B 0 d := ho.dn.form
 obtain ⟨Be4, de4, rfl⟩ : ∃ B d, tg = .slice B 3 d := ho.gt.form
 obtain ⟨Be5, de5, rfl⟩ : ∃ B d, tv = .slice B 3 d := ho.vw.form
 have Hw4 := Lib.hid h1
 have hzw4 := h1.size
 have HOe := Lib.hid ho
 clear h1 ho
 (try simp only [World.size_alloc, size_set, World.heap_drewN, size_drew] at hzw4 HOe)
 rw [show sta newS ⟨.slice Be0 0 de0, .slice Be1 0 de1, .slice Be2 0 de2, .slice Be3 0 de3, .slice Be4 3 de4, .slice Be5 3 de5⟩ = #[.slice Be0 0 de0, .slice Be1 0 de1, .slice Be2 0 de2, .int .i64 0, .slice Be3 0 de3, .slice Be4 3 de4, .slice Be5 3 de5] from rfl]
 have hb4 : Bx w4 w3.heap.size 32 #[.slice Bc0 1 dc0, .slice Bc1 0 dc1, .slice Bc2 0 dc2, .int .i64 0, .slice Bc3 0 dc3, .slice Bc4 3 dc4, .slice Bc5 3 dc5] := Bx.ext (Bx.newAt rfl) Hw4.out
 have HB4 := Lib.hid hb4
 clear hb4
 have HAL0 := Lib.hid (show OwnS w.heap.size w4 ⟨.slice Bc0 1 dc0, .slice Bc1 0 dc1, .slice Bc2 0 dc2, .slice Bc3 0 dc3, .slice Bc4 3 dc4, .slice Be5 3 de5⟩ aloneSt from ⟨((HOc.out.tk.ext (show Ext w3 w4 by exact extA)).lower (by omega)), ((HOc.out.tp.ext (show Ext w3 w4 by exact extA)).lower (by omega)), ((HOc.out.vd.ext (show Ext w3 w4 by exact extA)).lower (by omega)), ((HOc.out.dn.ext (show Ext w3 w4 by exact extA)).lower (by omega)), ((HOc.out.gt.ext (show Ext w3 w4 by exact extA)).lower (by omega)), (HOe.out.vw.lower (by omega))⟩)
 clear HOc HOe
 (apply Row.use (w := w4) (g := w2.heap.size); (focus (exact rowA)); intro qe_0 fe_0 le_0 Re_0; (try simp only [lSet] at qe_0 Re_0); apply Row.use (w := w4) (g := w3.heap.size); (focus (exact rowA)); intro qe_1 fe_1 le_1 Re_1; (try simp only [lSet] at qe_1 Re_1))
 have hfd := run_views Be0 Be1 Be2 Be3 Be4 Be5 0 0 0 0 3 3 de0 de1 de2 de3 de4 de5 0
 go_wp2_with fail
 have HAL := Lib.hid (HAL0.out.keep (own := fun q => q = w3.heap.size) (Fr.setC (a := ⟨w3.heap.size, 6, none⟩) (u := .slice Be5 3 de5) rfl (Fr.refl _ _)) (by rintro q rfl; exact ⟨_, _, HB4.out, by decide⟩))
 have HB4b := Lib.hid ((HB4.out).set (i := 6) (u := .slice Be5 3 de5))
 refine (sbt_b ⟨.slice Bc0 1 dc0, .slice Bc1 0 dc1, .slice Bc2 0 dc2, .slice Bc3 0 dc3, .slice Bc4 3 dc4, .slice Be5 3 de5⟩ _ HAL.out).mono ?_
 rintro e w5 ⟨⟨t0, t1, t2, ti, tg, tv⟩, rfl, h1, ho⟩
 obtain ⟨Bf0, df0, rfl⟩ : ∃ B d, t0 = .slice B 1 d := ho.tk.form
 obtain ⟨Bf1, df1, rfl⟩ : ∃ B d, t1 = .slice B 0 d := ho.tp.form
 obtain ⟨Bf2, df2, rfl⟩ : ∃ B d, t2 = .slice B 0 d := ho.vd.form
 obtain ⟨Bf3, df3, rfl⟩ : ∃ B d, ti = .slice B 0 d := ho.dn.form
 obtain ⟨Bf4, df4, rfl⟩ : ∃ B d, tg = .slice B 3 d := ho.gt.form
 obtain ⟨Bf5, df5, rfl⟩ : ∃ B d, tv = .slice B 3 d := ho.vw.form
 have Hw5 := Lib.hid h1
 have hzw5 := h1.size
 have HOf := Lib.hid ho
 clear h1 ho
 (try simp only [World.size_alloc, size_set, World.heap_drewN, size_drew] at hzw5 HOf)
 rw [show sta sbB ⟨.slice Bf0 1 df0, .slice Bf1 0 df1, .slice Bf2 0 df2, .slice Bf3 0 df3, .slice Bf4 3 df4, .slice Bf5 3 df5⟩ = #[.slice Bf0 1 df0, .slice Bf1 0 df1, .slice Bf2 0 df2, .int .i64 0, .slice Bf3 0 df3, .slice Bf4 3 df4, .slice Bf5 3 df5] from rfl]
 (apply Row.use (w := w5) (g := w2.heap.size); (focus (exact rowA)); intro qf_0 ff_0 lf_0 Rf_0; (try simp only [lSet] at qf_0 Rf_0); apply Row.use (w := w5) (g := w3.heap.size); (focus (exact rowA)); intro qf_1 ff_1 lf_1 Rf_1; (try simp only [lSet] at qf_1 Rf_1))
 clear HAL0 HB4
 go_wp2_with fail
 refine (law_hall _).mono ?_
 rintro e w6 ⟨⟨t0, t1, t2, ti, tg, tv⟩, rfl, h1, ho⟩
 obtain ⟨Bg0, dg0, rfl⟩ : ∃ B d, t0 = .slice B 1 d := ho.tk.form
 obtain ⟨Bg1, dg1, rfl⟩ : ∃ B d, t1 = .slice B 0 d := ho.tp.form
 obtain ⟨Bg2, dg2, rfl⟩ : ∃ B d, t2 = .slice B 0 d := ho.vd.form
 obtain ⟨Bg3, dg3, rfl⟩ : ∃ B d, ti = .slice B 0 d := ho.dn.form
 obtain ⟨Bg4, dg4, rfl⟩ : ∃ B d, tg = .slice B 3 d := ho.gt.form
 obtain ⟨Bg5, dg5, rfl⟩ : ∃ B d, tv = .slice B 3 d := ho.vw.form
 have Hw6 := Lib.hid h1
 have hzw6 := h1.size
 have HOg := Lib.hid ho
 clear h1 ho
 (try simp only [World.size_alloc, size_set, World.heap_drewN, size_drew] at hzw6 HOg)
 rw [show sta hallS ⟨.slice Bg0 1 dg0, .slice Bg1 0 dg1, .slice Bg2 0 dg2, .slice Bg3 0 dg3, .slice Bg4 3 dg4, .slice Bg5 3 dg5⟩ = #[.slice Bg0 1 dg0, .slice Bg1 0 dg1, .slice Bg2 0 dg2, .int .i64 0, .slice Bg3 0 dg3, .slice Bg4 3 dg4, .slice Bg5 3 dg5] from rfl]
 (apply Row.use (w := w6) (g := w2.heap.size); (focus (exact rowA)); intro qg_0 fg_0 lg_0 Rg_0; (try simp only [lSet] at qg_0 Rg_0); apply Row.use (w := w6) (g := w3.heap.size); (focus (exact rowA)); intro qg_1 fg_1 lg_1 Rg_1; (try simp only [lSet] at qg_1 Rg_1); apply Row.use (w := w6) (g := w5.heap.size); (focus (exact rowA)); intro qg_2 fg_2 lg_2 Rg_2; (try simp only [lSet] at qg_2 Rg_2))
 have HB5 := Lib.hid (show Bx w6 w5.heap.size 32 #[.slice Bf0 1 df0, .slice Bf1 0 df1, .slice Bf2 0 df2, .int .i64 0, .slice Bf3 0 df3, .slice Bf4 3 df4, .slice Bf5 3 df5] from Bx.ext (Bx.newAt rfl) Hw6.out)
 have HBE0 := Lib.hid (show OwnS w.heap.size w6 ⟨.slice Bf0 1 df0, .slice Bf1 0 df1, .slice Bf2 0 df2, .slice Bf3 0 df3, .slice Bf4 3 df4, .slice Bg5 3 dg5⟩ sbE from ⟨((HOf.out.tk.ext (show Ext w5 w6 by exact extA)).lower (by omega)), ((HOf.out.tp.ext (show Ext w5 w6 by exact extA)).lower (by omega)), ((HOf.out.vd.ext (show Ext w5 w6 by exact extA)).lower (by omega)), ((HOf.out.dn.ext (show Ext w5 w6 by exact extA)).lower (by omega)), ((HOf.out.gt.ext (show Ext w5 w6 by exact extA)).lower (by omega)), (HOg.out.vw.lower (by omega))⟩)
 have HAL1 := Lib.hid ((HAL.out.ext (show Ext _ w6 from Hw5.out.trans (show Ext w5 w6 by exact extA))).lower (Nat.le_refl w.heap.size))
 clear HOf HOg HAL hfd
 have hfd := run_views Bg0 Bg1 Bg2 Bg3 Bg4 Bg5 1 0 0 0 3 3 dg0 dg1 dg2 dg3 dg4 dg5 0
 go_upto_region 6 with fail
 refine wp_genP (S := fun V => Ext w V ∧ Row V w2.heap.size #[.slice Bb0 1 db0, .slice Bb1 1 db1, .slice Bb2 1 db2, .int .i64 0, .slice Bb3 0 db3, .slice Bb4 3 db4, .slice Bb5 3 db5] ∧ Row V w3.heap.size #[.slice Bc0 1 dc0, .slice Bc1 0 dc1, .slice Bc2 0 dc2, .int .i64 0, .slice Bc3 0 dc3, .slice Bc4 3 dc4, .slice Be5 3 de5] ∧ Row V w5.heap.size #[.slice Bf0 1 df0, .slice Bf1 0 df1, .slice Bf2 0 df2, .int .i64 0, .slice Bf3 0 df3, .slice Bf4 3 df4, .slice Bg5 3 dg5] ∧ OwnS w.heap.size V ⟨.slice Bc0 1 dc0, .slice Bc1 0 dc1, .slice Bc2 0 dc2, .slice Bc3 0 dc3, .slice Bc4 3 dc4, .slice Be5 3 de5⟩ aloneSt ∧ OwnS w.heap.size V ⟨.slice Bf0 1 df0, .slice Bf1 0 df1, .slice Bf2 0 df2, .slice Bf3 0 df3, .slice Bf4 3 df4, .slice Bg5 3 dg5⟩ sbE) ⟨by exact extA, by exact rowA, by exact rowA, rowC (Rg_2.out.set_ (i := 6)) (by simp only [lSet]), HAL1.out.keep (own := fun q => q = w5.heap.size) (Fr.setC (a := ⟨w5.heap.size, 6, none⟩) (u := .slice Bg5 3 dg5) rfl (Fr.refl _ _)) (by rintro q rfl; exact ⟨_, _, HB5.out, by decide⟩), HBE0.out.keep (own := fun q => q = w5.heap.size) (Fr.setC (a := ⟨w5.heap.size, 6, none⟩) (u := .slice Bg5 3 dg5) rfl (Fr.refl _ _)) (by rintro q rfl; exact ⟨_, _, HB5.out, by decide⟩)⟩ ?_
 intro V hS
 obtain ⟨hv, r1, r4, r5, hal, hbe⟩ := hS.out
 have hzV := hv.size
 have l1 := r1.1
 have l4 := r4.1
 have l5 := r5.1
 have HV := Lib.hid hv
 have R1 := Lib.hid r1
 have R4 := Lib.hid r4
 have R5 := Lib.hid r5
 have HAL := Lib.hid hal
 have HBE := Lib.hid hbe
 obtain ⟨b1, hb1⟩ : ∃ b, b = w2.heap.size := ⟨_, rfl⟩
 obtain ⟨b4, hb4⟩ : ∃ b, b = w3.heap.size := ⟨_, rfl⟩
 obtain ⟨b5, hb5⟩ : ∃ b, b = w5.heap.size := ⟨_, rfl⟩
 have hw1 : w.heap.size ≤ b1 := by omega
 have hw4 : w.heap.size ≤ b4 := by omega
 have hw5 : w.heap.size ≤ b5 := by omega
 rw [← hb1] at R1 l1 ⊢
 rw [← hb4] at R4 l4 ⊢
 rw [← hb5] at R5 l5 ⊢
 clear hfd hb1 hb4 hb5 hS hv r1 r4 r5 hal hbe HAL1 HBE0 HB5 HB4b Hw1 Hw2 Hw3 Hw4 Hw5 Hw6 hzw1 hzw2 hzw3 hzw4 hzw5 hzw6
 clear qc_0 fc_0 lc_0 Rc_0 qe_0 fe_0 le_0 Re_0 qe_1 fe_1 le_1 Re_1 qf_0 ff_0 lf_0 Rf_0 qf_1 ff_1 lf_1 Rf_1 qg_0 fg_0 lg_0 Rg_0 qg_1 fg_1 lg_1 Rg_1 qg_2 fg_2 lg_2 Rg_2
 (apply Row.use (w := V) (g := b1); (focus (exact rowA)); intro qv_0 fv_0 lv_0 Rv_0; (try simp only [lSet] at qv_0 Rv_0); apply Row.use (w := V) (g := b4); (focus (exact rowA)); intro qv_1 fv_1 lv_1 Rv_1; (try simp only [lSet] at qv_1 Rv_1); apply Row.use (w := V) (g := b5); (focus (exact rowA)); intro qv_2 fv_2 lv_2 Rv_2; (try simp only [lSet] at qv_2 Rv_2))
 go_wp2_with fail
 refine (sbt_c ⟨.slice Bf0 1 df0, .slice Bf1 0 df1, .slice Bf2 0 df2, .slice Bf3 0 df3, .slice Bf4 3 df4, .slice Bg5 3 dg5⟩ _ (HBE.out.ext (show Ext V _ by exact extA))).mono ?_
 rintro e w7 ⟨⟨t0, t1, t2, ti, tg, tv⟩, rfl, h1, ho⟩
 obtain ⟨Bh0, dh0, rfl⟩ : ∃ B d, t0 = .slice B 0 d := ho.tk.form
 obtain ⟨Bh1, dh1, rfl⟩ : ∃ B d, t1 = .slice B 0 d := ho.tp.form
 obtain ⟨Bh2, dh2, rfl⟩ : ∃ B d, t2 = .slice B 0 d := ho.vd.form
 obtain ⟨Bh3, dh3, rfl⟩ : ∃ B d, ti = .slice B 0 d := ho.dn.form
 obtain ⟨Bh4, dh4, rfl⟩ : ∃ B d, tg = .slice B 0 d := ho.gt.form
 obtain ⟨Bh5, dh5, rfl⟩ : ∃ B d, tv = .slice B 0 d := ho.vw.form
 have Hw7 := Lib.hid h1
 have hzw7 := h1.size
 have HOh := Lib.hid ho
 clear h1 ho
 (try simp only [World.size_alloc, size_set, World.heap_drewN, size_drew] at hzw7 HOh)
 rw [show sta st0 ⟨.slice Bh0 0 dh0, .slice Bh1 0 dh1, .slice Bh2 0 dh2, .slice Bh3 0 dh3, .slice Bh4 0 dh4, .slice Bh5 0 dh5⟩ = #[.slice Bh0 0 dh0, .slice Bh1 0 dh1, .slice Bh2 0 dh2, .int .i64 0, .slice Bh3 0 dh3, .slice Bh4 0 dh4, .slice Bh5 0 dh5] from rfl]
 clear HOh
 (apply Row.use (w := w7) (g := b1); (focus (exact rowA)); intro qh_0 fh_0 lh_0 Rh_0; (try simp only [lSet] at qh_0 Rh_0); apply Row.use (w := w7) (g := b4); (focus (exact rowA)); intro qh_1 fh_1 lh_1 Rh_1; (try simp only [lSet] at qh_1 Rh_1); apply Row.use (w := w7) (g := b5); (focus (exact rowA)); intro qh_2 fh_2 lh_2 Rh_2; (try simp only [lSet] at qh_2 Rh_2))
 go_wp2_with fail
 refine (law_hall _).mono ?_
 rintro e w8 ⟨⟨t0, t1, t2, ti, tg, tv⟩, rfl, h1, ho⟩
 obtain ⟨Bi0, di0, rfl⟩ : ∃ B d, t0 = .slice B 1 d := ho.tk.form
 obtain ⟨Bi1, di1, rfl⟩ : ∃ B d, t1 = .slice B 0 d := ho.tp.form
 obtain ⟨Bi2, di2, rfl⟩ : ∃ B d, t2 = .slice B 0 d := ho.vd.form
 obtain ⟨Bi3, di3, rfl⟩ : ∃ B d, ti = .slice B 0 d := ho.dn.form
 obtain ⟨Bi4, di4, rfl⟩ : ∃ B d, tg = .slice B 3 d := ho.gt.form
 obtain ⟨Bi5, di5, rfl⟩ : ∃ B d, tv = .slice B 3 d := ho.vw.form
 have Hw8 := Lib.hid h1
 have hzw8 := h1.size
 have HOi := Lib.hid ho
 clear h1 ho
 (try simp only [World.size_alloc, size_set, World.heap_drewN, size_drew] at hzw8 HOi)
 rw [show sta hallS ⟨.slice Bi0 1 di0, .slice Bi1 0 di1, .slice Bi2 0 di2, .slice Bi3 0 di3, .slice Bi4 3 di4, .slice Bi5 3 di5⟩ = #[.slice Bi0 1 di0, .slice Bi1 0 di1, .slice Bi2 0 di2, .int .i64 0, .slice Bi3 0 di3, .slice Bi4 3 di4, .slice Bi5 3 di5] from rfl]
 (apply Row.use (w := w8) (g := b1); (focus (exact rowA)); intro qi_0 fi_0 li_0 Ri_0; (try simp only [lSet] at qi_0 Ri_0); apply Row.use (w := w8) (g := b4); (focus (exact rowA)); intro qi_1 fi_1 li_1 Ri_1; (try simp only [lSet] at qi_1 Ri_1); apply Row.use (w := w8) (g := b5); (focus (exact rowA)); intro qi_2 fi_2 li_2 Ri_2; (try simp only [lSet] at qi_2 Ri_2); apply Row.use (w := w8) (g := w7.heap.size); (focus (exact rowA)); intro qi_3 fi_3 li_3 Ri_3; (try simp only [lSet] at qi_3 Ri_3))
 go_wp2_with fail
 (refine (law_single 2 _).mono ?_; rintro e w9 ⟨rfl, h9⟩; have H9 := Lib.hid h9; have hz9 := h9.size; clear h9; (try simp only [World.size_alloc, size_set, World.heap_drewN, size_drew] at hz9); apply Row.use (w := w9) (g := b1); (focus (exact rowA)); intro q9_0 f9_0 l9_0 R9_0; (try simp only [lSet] at q9_0 R9_0); apply Row.use (w := w9) (g := b4); (focus (exact rowA)); intro q9_1 f9_1 l9_1 R9_1; (try simp only [lSet] at q9_1 R9_1); apply Row.use (w := w9) (g := b5); (focus (exact rowA)); intro q9_2 f9_2 l9_2 R9_2; (try simp only [lSet] at q9_2 R9_2); apply Row.use (w := w9) (g := w7.heap.size); (focus (exact rowA)); intro q9_3 f9_3 l9_3 R9_3; (try simp only [lSet] at q9_3 R9_3))
 go_wp2_with fail
 refine (sbt_d ⟨.slice Bi0 1 di0, .slice Bi1 0 di1, .slice Bi2 0 di2, .slice Bi3 0 di3, .slice Bi4 3 di4, .slice Bi5 3 di5⟩ _ (HOi.out.ext (show Ext w8 _ by exact extA))).mono ?_
 rintro e w10 ⟨⟨t0, t1, t2, ti, tg, tv⟩, rfl, h1, ho⟩
 obtain ⟨Bj0, dj0, rfl⟩ : ∃ B d, t0 = .slice B 2 d := ho.tk.form
 obtain ⟨Bj1, dj1, rfl⟩ : ∃ B d, t1 = .slice B 0 d := ho.tp.form
 obtain ⟨Bj2, dj2, rfl⟩ : ∃ B d, t2 = .slice B 0 d := ho.vd.form
 obtain ⟨Bj3, dj3, rfl⟩ : ∃ B d, ti = .slice B 0 d := ho.dn.form
 obtain ⟨Bj4, dj4, rfl⟩ : ∃ B d, tg = .slice B 3 d := ho.gt.form
 obtain ⟨Bj5, dj5, rfl⟩ : ∃ B d, tv = .slice B 3 d := ho.vw.form
 have Hw10 := Lib.hid h1
 have hzw10 := h1.size
 have HOj := Lib.hid ho
 clear h1 ho
 (try simp only [World.size_alloc, size_set, World.heap_drewN, size_drew] at hzw10 HOj)
 rw [show sta sbD ⟨.slice Bj0 2 dj0, .slice Bj1 0 dj1, .slice Bj2 0 dj2, .slice Bj3 0 dj3, .slice Bj4 3 dj4, .slice Bj5 3 dj5⟩ = #[.slice Bj0 2 dj0, .slice Bj1 0 dj1, .slice Bj2 0 dj2, .int .i64 0, .slice Bj3 0 dj3, .slice Bj4 3 dj4, .slice Bj5 3 dj5] from rfl]
 clear HOi HOj
 (apply Row.use (w := w10) (g := b1); (focus (exact rowA)); intro qj_0 fj_0 lj_0 Rj_0; (try simp only [lSet] at qj_0 Rj_0); apply Row.use (w := w10) (g := b4); (focus (exact rowA)); intro qj_1 fj_1 lj_1 Rj_1; (try simp only [lSet] at qj_1 Rj_1); apply Row.use (w := w10) (g := b5); (focus (exact rowA)); intro qj_2 fj_2 lj_2 Rj_2; (try simp only [lSet] at qj_2 Rj_2); apply Row.use (w := w10) (g := w7.heap.size); (focus (exact rowA)); intro qj_3 fj_3 lj_3 Rj_3; (try simp only [lSet] at qj_3 Rj_3))
 go_wp2_with fail
 refine (sbt_s ⟨.slice Bf0 1 df0, .slice Bf1 0 df1, .slice Bf2 0 df2, .slice Bf3 0 df3, .slice Bf4 3 df4, .slice Bg5 3 dg5⟩ _ (HBE.out.ext (show Ext V _ by exact extA))).mono ?_
 rintro e w11 ⟨⟨t0, t1, t2, ti, tg, tv⟩, vt, rfl, h1, ho, hx⟩
 obtain ⟨Bk0, dk0, rfl⟩ : ∃ B d, t0 = .slice B 1 d := ho.tk.form
 obtain ⟨Bk1, dk1, rfl⟩ : ∃ B d, t1 = .slice B 1 d := ho.tp.form
 obtain ⟨Bk2, dk2, rfl⟩ : ∃ B d, t2 = .slice B 1 d := ho.vd.form
 obtain ⟨Bk3, dk3, rfl⟩ : ∃ B d, ti = .slice B 0 d := ho.dn.form
 obtain ⟨Bk4, dk4, rfl⟩ : ∃ B d, tg = .slice B 3 d := ho.gt.form
 obtain ⟨Bk5, dk5, rfl⟩ : ∃ B d, tv = .slice B 3 d := ho.vw.form
 obtain ⟨BT, dT, rfl⟩ : ∃ B d, vt = .slice B 0 d := hx.form
 clear hx
 have Hw11 := Lib.hid h1
 have hzw11 := h1.size
 have HOk := Lib.hid ho
 clear h1 ho
 (try simp only [World.size_alloc, size_set, World.heap_drewN, size_drew] at hzw11 HOk)
 rw [show sta sbS ⟨.slice Bk0 1 dk0, .slice Bk1 1 dk1, .slice Bk2 1 dk2, .slice Bk3 0 dk3, .slice Bk4 3 dk4, .slice Bk5 3 dk5⟩ = #[.slice Bk0 1 dk0, .slice Bk1 1 dk1, .slice Bk2 1 dk2, .int .i64 0, .slice Bk3 0 dk3, .slice Bk4 3 dk4, .slice Bk5 3 dk5] from rfl]
 clear HOk
 (apply Row.use (w := w11) (g := b1); (focus (exact rowA)); intro qk_0 fk_0 lk_0 Rk_0; (try simp only [lSet] at qk_0 Rk_0); apply Row.use (w := w11) (g := b4); (focus (exact rowA)); intro qk_1 fk_1 lk_1 Rk_1; (try simp only [lSet] at qk_1 Rk_1); apply Row.use (w := w11) (g := b5); (focus (exact rowA)); intro qk_2 fk_2 lk_2 Rk_2; (try simp only [lSet] at qk_2 Rk_2); apply Row.use (w := w11) (g := w7.heap.size); (focus (exact rowA)); intro qk_3 fk_3 lk_3 Rk_3; (try simp only [lSet] at qk_3 Rk_3); apply Row.use (w := w11) (g := w10.heap.size); (focus (exact rowA)); intro qk_4 fk_4 lk_4 Rk_4; (try simp only [lSet] at qk_4 Rk_4))
 go_upto_region 9 with fail
 refine wp_genP (S := fun W => Ext V W ∧ Row W b1 #[.slice Bb0 1 db0, .slice Bb1 1 db1, .slice Bb2 1 db2, .int .i64 0, .slice Bb3 0 db3, .slice Bb4 3 db4, .slice Bb5 3 db5] ∧ Row W b4 #[.slice Bc0 1 dc0, .slice Bc1 0 dc1, .slice Bc2 0 dc2, .int .i64 0, .slice Bc3 0 dc3, .slice Bc4 3 dc4, .slice Be5 3 de5] ∧ Row W b5 #[.slice Bf0 1 df0, .slice Bf1 0 df1, .slice Bf2 0 df2, .int .i64 0, .slice Bf3 0 df3, .slice Bf4 3 df4, .slice Bg5 3 dg5] ∧ Row W w7.heap.size #[.slice Bh0 0 dh0, .slice Bh1 0 dh1, .slice Bh2 0 dh2, .int .i64 0, .slice Bh3 0 dh3, .slice Bh4 0 dh4, .slice Bh5 0 dh5] ∧ Row W w10.heap.size #[.slice Bj0 2 dj0, .slice Bj1 0 dj1, .slice Bj2 0 dj2, .int .i64 0, .slice Bj3 0 dj3, .slice Bj4 3 dj4, .slice Bj5 3 dj5] ∧ Row W w11.heap.size #[.slice Bk0 1 dk0, .slice Bk1 1 dk1, .slice Bk2 1 dk2, .int .i64 0, .slice Bk3 0 dk3, .slice Bk4 3 dk4, .slice Bk5 3 dk5]) ⟨by exact extA, by exact rowA, by exact rowA, by exact rowA, by exact rowA, by exact rowA, by exact rowA⟩ ?_
 intro W hS
 obtain ⟨hv, r1, r4, r5, r8, r11, r13⟩ := hS.out
 have Q1 := Lib.hid r1
 have Q4 := Lib.hid r4
 have Q5 := Lib.hid r5
 have Q8 := Lib.hid r8
 have Q11 := Lib.hid r11
 have Q13 := Lib.hid r13
 have HVW := Lib.hid hv
 have HWW := Lib.hid (And.intro trivial (HV.out.trans hv))
 obtain ⟨b8, hb8⟩ : ∃ b, b = w7.heap.size := ⟨_, rfl⟩
 obtain ⟨b11, hb11⟩ : ∃ b, b = w10.heap.size := ⟨_, rfl⟩
 obtain ⟨b13, hb13⟩ : ∃ b, b = w11.heap.size := ⟨_, rfl⟩
 rw [← hb8] at Q8 ⊢
 rw [← hb11] at Q11 ⊢
 rw [← hb13] at Q13 ⊢
 obtain ⟨gb, go, sa, si, hA, hgb, hra, -, -, -, -, hc3, -⟩ := RdG.at_ (HBE.out.rd.gt.ext hv) rfl (k := 0) (by decide)
 obtain ⟨AA, cA, rfl⟩ : ∃ A c, sa = .slice A 1 c := by obtain ⟨A, c, h, -, -⟩ := hra.form; exact ⟨A, c, h⟩
 subst hA
 simp only [Nat.zero_mul, Nat.add_zero] at hc3
 have hd4 : (3 : Int) ≤ (df4 : Int) := by obtain ⟨A, c, h, h2, -⟩ := (HBE.out.rd.gt.ext hv).form; injection h with _ _ h3; subst h3; have : 3 ≤ df4 := h2; omega
 have HSELL := Lib.hid (fun (X : World) (h : Ext W X) => sbt_j ⟨.slice Bc0 1 dc0, .slice Bc1 0 dc1, .slice Bc2 0 dc2, .slice Bc3 0 dc3, .slice Bc4 3 dc4, .slice Be5 3 de5⟩ X (HAL.out.ext (hv.trans h)))
 clear hS hv r1 r4 r5 r8 r11 r13 hra hb8 hb11 hb13 HV HAL HBE R1 R4 R5 HVW l1 l4 l5 hw1 hw4 hw5
 clear qv_0 fv_0 lv_0 Rv_0 qv_1 fv_1 lv_1 Rv_1 qv_2 fv_2 lv_2 Rv_2 qh_0 fh_0 lh_0 Rh_0 qh_1 fh_1 lh_1 Rh_1 qh_2 fh_2 lh_2 Rh_2 qi_0 fi_0 li_0 Ri_0 qi_1 fi_1 li_1 Ri_1 qi_2 fi_2 li_2 Ri_2 qi_3 fi_3 li_3 Ri_3 q9_0 f9_0 l9_0 R9_0 q9_1 f9_1 l9_1 R9_1 q9_2 f9_2 l9_2 R9_2 q9_3 f9_3 l9_3 R9_3 qj_0 fj_0 lj_0 Rj_0 qj_1 fj_1 lj_1 Rj_1 qj_2 fj_2 lj_2 Rj_2 qj_3 fj_3 lj_3 Rj_3 qk_0 fk_0 lk_0 Rk_0 qk_1 fk_1 lk_1 Rk_1 qk_2 fk_2 lk_2 Rk_2 qk_3 fk_3 lk_3 Rk_3 qk_4 fk_4 lk_4 Rk_4
 have HK := Lib.hid (fun (X : World) (h : Ext W X) => And.intro (Row.ext h Q1.out).2.1 (And.intro (Row.ext h Q4.out).2.1 (And.intro (Row.ext h Q5.out).2.1 (And.intro (Row.ext h Q8.out).2.1 (And.intro (Row.ext h Q11.out).2.1 (And.intro (Row.ext h Q13.out).2.1 ((h.cells _ _ hgb).trans hc3)))))))
 clear Q1 Q4 Q5 Q8 Q11 Q13 hc3
 go_cut [17] (fun s17 wx => s17 = .int .i64 4 ∧ Aside (Ext W wx))
 case first =>
  (refine T_begin (fun w' => Ext W w') 8 (by kernel_rfl) ((Ext.refl _).drew) (fun hS => ?_); simp only [List.length_cons, List.length_nil])
  (refine tkA 0 HK hS ?_; (try simp only [Act.put, lSet]))
  clear hS
  refine T_two (i := 1) (j := 6) rfl rfl (by kernel_rfl) rfl rfl (fun K hK => ?_) (fun K hK => ?_)
  ·go_simp
   refine (law_single 2 _).mono ?_
   rintro e y1 ⟨rfl, h1⟩
   rw [show tkc (single 2) = #[.int .i64 2, .int .i64 1, .int .i64 10, .int .i64 500, .int .i64 15, .int .i64 0] from rfl]
   have Hy1 := Lib.hid h1
   have hzy1 := h1.size
   clear h1
   (try simp only [World.size_alloc, size_set, World.heap_drewN, size_drew] at hzy1)
   go_wp2_with fail
   refine hK.out _ _ (.inr (show Ext W _ by exact extA)) ?_
   clear hK
   (try simp only [Act.put, lSet])
   refine T_two (i := 2) (j := 6) rfl rfl (by kernel_rfl) rfl rfl (fun K hK => ?_) (fun K hK => ?_)
   ·go_simp
    refine (HSELL.out _ (by exact extA)).mono ?_
    rintro e y2 ⟨⟨t0, t1, t2, ti, tg, tv⟩, rfl, h1, ho⟩
    obtain ⟨Bs0, ds0, rfl⟩ : ∃ B d, t0 = .slice B 0 d := ho.tk.form
    obtain ⟨Bs1, ds1, rfl⟩ : ∃ B d, t1 = .slice B 0 d := ho.tp.form
    obtain ⟨Bs2, ds2, rfl⟩ : ∃ B d, t2 = .slice B 0 d := ho.vd.form
    obtain ⟨Bs3, ds3, rfl⟩ : ∃ B d, ti = .slice B 0 d := ho.dn.form
    obtain ⟨Bs4, ds4, rfl⟩ : ∃ B d, tg = .slice B 0 d := ho.gt.form
    obtain ⟨Bs5, ds5, rfl⟩ : ∃ B d, tv = .slice B 0 d := ho.vw.form
    have Hy2 := Lib.hid h1
    have hzy2 := h1.size
    have HOs := Lib.hid ho
    clear h1 ho
    (try simp only [World.size_alloc, size_set, World.heap_drewN, size_drew] at hzy2 HOs)
    rw [show sta st0 ⟨.slice Bs0 0 ds0, .slice Bs1 0 ds1, .slice Bs2 0 ds2, .slice Bs3 0 ds3, .slice Bs4 0 ds4, .slice Bs5 0 ds5⟩ = #[.slice Bs0 0 ds0, .slice Bs1 0 ds1, .slice Bs2 0 ds2, .int .i64 0, .slice Bs3 0 ds3, .slice Bs4 0 ds4, .slice Bs5 0 ds5] from rfl]
    clear HOs
    go_wp2_with fail
    refine hK.out _ _ (.inr (show Ext W _ by exact extA)) ?_
    clear hK
    (try simp only [Act.put, lSet])
    have hS : Ext W y2 := by exact extA
    (refine tkP 3 ?_; (try simp only [Act.put, lSet]); refine tkP 4 ?_; (try simp only [Act.put, lSet]); refine tkP 5 ?_; (try simp only [Act.put, lSet]))
    clear hS
    refine T_only (i := 6) rfl (by kernel_rfl) rfl (fun K hK => ?_)
    go_simp
    refine hK.out _ _ (.inr (show Ext W _ by exact extA)) ?_
    clear hK
    (try simp only [Act.put, lSet])
    refine T_only (i := 7) rfl (by kernel_rfl) rfl (fun K hK => ?_)
    go_simp
    refine hK.out _ _ (.inr (show Ext W _ by exact extA)) ?_
    clear hK
    (try simp only [Act.put, lSet])
    (refine T_only (i := 8) rfl (by kernel_rfl) rfl (fun K hK => ?_); go_simp; refine hK.out _ _ (.inl (by kernel_rfl)) ?_; clear hK; (try simp only [Act.put, lSet]); refine T_done (by kernel_rfl) ?_ _)
    go_wp2_with fail
    go_meet
    case rel => exact ⟨rfl, (show Ext W _ by exact extA)⟩
   ·go_simp
    refine hK.out _ _ (.inr (show Ext W _ by exact extA)) ?_
    clear hK
    (try simp only [Act.put, lSet])
    refine T_only (i := 2) rfl (by kernel_rfl) rfl (fun K hK => ?_)
    go_simp
    refine (HSELL.out _ (by exact extA)).mono ?_
    rintro e y2 ⟨⟨t0, t1, t2, ti, tg, tv⟩, rfl, h1, ho⟩
    obtain ⟨Bs0, ds0, rfl⟩ : ∃ B d, t0 = .slice B 0 d := ho.tk.form
    obtain ⟨Bs1, ds1, rfl⟩ : ∃ B d, t1 = .slice B 0 d := ho.tp.form
    obtain ⟨Bs2, ds2, rfl⟩ : ∃ B d, t2 = .slice B 0 d := ho.vd.form
    obtain ⟨Bs3, ds3, rfl⟩ : ∃ B d, ti = .slice B 0 d := ho.dn.form
    obtain ⟨Bs4, ds4, rfl⟩ : ∃ B d, tg = .slice B 0 d := ho.gt.form
    obtain ⟨Bs5, ds5, rfl⟩ : ∃ B d, tv = .slice B 0 d := ho.vw.form
    have Hy2 := Lib.hid h1
    have hzy2 := h1.size
    have HOs := Lib.hid ho
    clear h1 ho
    (try simp only [World.size_alloc, size_set, World.heap_drewN, size_drew] at hzy2 HOs)
    rw [show sta st0 ⟨.slice Bs0 0 ds0, .slice Bs1 0 ds1, .slice Bs2 0 ds2, .slice Bs3 0 ds3, .slice Bs4 0 ds4, .slice Bs5 0 ds5⟩ = #[.slice Bs0 0 ds0, .slice Bs1 0 ds1, .slice Bs2 0 ds2, .int .i64 0, .slice Bs3 0 ds3, .slice Bs4 0 ds4, .slice Bs5 0 ds5] from rfl]
    clear HOs
    (apply Row.use (w := y2) (g := y1.heap.size); (focus (exact rowA)); intro qz_0 fz_0 lz_0 Rz_0; (try simp only [lSet] at qz_0 Rz_0))
    go_wp2_with fail
    refine hK.out _ _ (.inr (show Ext W _ by exact extA)) ?_
    clear hK
    (try simp only [Act.put, lSet])
    have hS : Ext W y2 := by exact extA
    (refine tkP 3 ?_; (try simp only [Act.put, lSet]); refine tkP 4 ?_; (try simp only [Act.put, lSet]); refine tkP 5 ?_; (try simp only [Act.put, lSet]))
    clear hS
    refine T_only (i := 7) rfl (by kernel_rfl) rfl (fun K hK => ?_)
    go_simp
    refine hK.out _ _ (.inr (show Ext W _ by exact extA)) ?_
    clear hK
    (try simp only [Act.put, lSet])
    (refine T_only (i := 8) rfl (by kernel_rfl) rfl (fun K hK => ?_); go_simp; refine hK.out _ _ (.inl (by kernel_rfl)) ?_; clear hK; (try simp only [Act.put, lSet]); refine T_done (by kernel_rfl) ?_ _)
    go_wp2_with fail
    go_meet
    case rel => exact ⟨rfl, (show Ext W _ by exact extA)⟩
  ·go_simp
   refine hK.out _ _ (.inr (show Ext W _ by exact extA)) ?_
   clear hK
   (try simp only [Act.put, lSet])
   refine T_only (i := 1) rfl (by kernel_rfl) rfl (fun K hK => ?_)
   go_simp
   refine (law_single 2 _).mono ?_
   rintro e y1 ⟨rfl, h1⟩
   rw [show tkc (single 2) = #[.int .i64 2, .int .i64 1, .int .i64 10, .int .i64 500, .int .i64 15, .int .i64 0] from rfl]
   have Hy1 := Lib.hid h1
   have hzy1 := h1.size
   clear h1
   (try simp only [World.size_alloc, size_set, World.heap_drewN, size_drew] at hzy1)
   (apply Row.use (w := y1) (g := W.heap.size); (focus (exact rowA)); intro qy_0 fy_0 ly_0 Ry_0; (try simp only [lSet] at qy_0 Ry_0))
   go_wp2_with fail
   refine hK.out _ _ (.inr (show Ext W _ by exact extA)) ?_
   clear hK
   (try simp only [Act.put, lSet])
   refine T_only (i := 2) rfl (by kernel_rfl) rfl (fun K hK => ?_)
   go_simp
   refine (HSELL.out _ (by exact extA)).mono ?_
   rintro e y2 ⟨⟨t0, t1, t2, ti, tg, tv⟩, rfl, h1, ho⟩
   obtain ⟨Bs0, ds0, rfl⟩ : ∃ B d, t0 = .slice B 0 d := ho.tk.form
   obtain ⟨Bs1, ds1, rfl⟩ : ∃ B d, t1 = .slice B 0 d := ho.tp.form
   obtain ⟨Bs2, ds2, rfl⟩ : ∃ B d, t2 = .slice B 0 d := ho.vd.form
   obtain ⟨Bs3, ds3, rfl⟩ : ∃ B d, ti = .slice B 0 d := ho.dn.form
   obtain ⟨Bs4, ds4, rfl⟩ : ∃ B d, tg = .slice B 0 d := ho.gt.form
   obtain ⟨Bs5, ds5, rfl⟩ : ∃ B d, tv = .slice B 0 d := ho.vw.form
   have Hy2 := Lib.hid h1
   have hzy2 := h1.size
   have HOs := Lib.hid ho
   clear h1 ho
   (try simp only [World.size_alloc, size_set, World.heap_drewN, size_drew] at hzy2 HOs)
   rw [show sta st0 ⟨.slice Bs0 0 ds0, .slice Bs1 0 ds1, .slice Bs2 0 ds2, .slice Bs3 0 ds3, .slice Bs4 0 ds4, .slice Bs5 0 ds5⟩ = #[.slice Bs0 0 ds0, .slice Bs1 0 ds1, .slice Bs2 0 ds2, .int .i64 0, .slice Bs3 0 ds3, .slice Bs4 0 ds4, .slice Bs5 0 ds5] from rfl]
   clear HOs
   (apply Row.use (w := y2) (g := W.heap.size); (focus (exact rowA)); intro qz_0 fz_0 lz_0 Rz_0; (try simp only [lSet] at qz_0 Rz_0))
   go_wp2_with fail
   refine hK.out _ _ (.inr (show Ext W _ by exact extA)) ?_
   clear hK
   (try simp only [Act.put, lSet])
   have hS : Ext W y2 := by exact extA
   (refine tkP 3 ?_; (try simp only [Act.put, lSet]); refine tkP 4 ?_; (try simp only [Act.put, lSet]); refine tkP 5 ?_; (try simp only [Act.put, lSet]))
   clear hS
   refine T_only (i := 7) rfl (by kernel_rfl) rfl (fun K hK => ?_)
   go_simp
   refine hK.out _ _ (.inr (show Ext W _ by exact extA)) ?_
   clear hK
   (try simp only [Act.put, lSet])
   (refine T_only (i := 8) rfl (by kernel_rfl) rfl (fun K hK => ?_); go_simp; refine hK.out _ _ (.inl (by kernel_rfl)) ?_; clear hK; (try simp only [Act.put, lSet]); refine T_done (by kernel_rfl) ?_ _)
   go_wp2_with fail
   go_meet
   case rel => exact ⟨rfl, (show Ext W _ by exact extA)⟩
 case rest =>
  obtain ⟨rfl, HX⟩ := hcut
  have HWC := Lib.hid HX.out
  clear HX
  go_upto_region 10 with fail
  refine wp_genP (S := fun X => Ext W X) HWC.out ?_
  intro X hX
  have HX := Lib.hid hX.out
  clear hX HWC
  have HK2 := Lib.hid (fun (Y : World) (h : Ext X Y) => HK.out Y (HX.out.trans h))
  clear HK
  have HK := Lib.hid HK2.out
  clear HK2
  go_wp2_with fail
  refine (station_New_own _).mono ?_
  rintro e z1 ⟨⟨t0, t1, t2, ti, tg, tv⟩, rfl, h1, ho⟩
  obtain ⟨Bn0, dn0, rfl⟩ : ∃ B d, t0 = .slice B 0 d := ho.tk.form
  obtain ⟨Bn1, dn1, rfl⟩ : ∃ B d, t1 = .slice B 0 d := ho.tp.form
  obtain ⟨Bn2, dn2, rfl⟩ : ∃ B d, t2 = .slice B 0 d := ho.vd.form
  obtain ⟨Bn3, dn3, rfl⟩ : ∃ B d, ti = .slice B 0 d := ho.dn.form
  obtain ⟨Bn4, dn4, rfl⟩ : ∃ B d, tg = .slice B 3 d := ho.gt.form
  obtain ⟨Bn5, dn5, rfl⟩ : ∃ B d, tv = .slice B 3 d := ho.vw.form
  have Hz1 := Lib.hid h1
  have hzz1 := h1.size
  have HOn := Lib.hid ho
  clear h1 ho
  (try simp only [World.size_alloc, size_set, World.heap_drewN, size_drew] at hzz1 HOn)
  rw [show sta newS ⟨.slice Bn0 0 dn0, .slice Bn1 0 dn1, .slice Bn2 0 dn2, .slice Bn3 0 dn3, .slice Bn4 3 dn4, .slice Bn5 3 dn5⟩ = #[.slice Bn0 0 dn0, .slice Bn1 0 dn1, .slice Bn2 0 dn2, .int .i64 0, .slice Bn3 0 dn3, .slice Bn4 3 dn4, .slice Bn5 3 dn5] from rfl]
  go_wp2_with fail
  refine (sbt_n ⟨.slice Bn0 0 dn0, .slice Bn1 0 dn1, .slice Bn2 0 dn2, .slice Bn3 0 dn3, .slice Bn4 3 dn4, .slice Bn5 3 dn5⟩ _ HOn.out).mono ?_
  rintro e z2 ⟨rfl, h1⟩
  have Hz2 := Lib.hid h1
  clear h1
  obtain ⟨k1, k4, k5, k8, k11, k13, kg⟩ := HK.out z2 (show Ext X z2 by exact extA)
  clear HK HOn
  go_wp2_with fail
  go_ret
  exact ⟨rfl, HWW.out.2.trans (HX.out.trans (show Ext X _ by exact extA))⟩
end Go.Proofs.YteojjbhadgkfgaaGreat
