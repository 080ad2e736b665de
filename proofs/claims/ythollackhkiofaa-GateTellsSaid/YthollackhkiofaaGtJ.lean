/- The document's own tap at a gate. -/
import Derived.Test.YthollackhkiofaaGtI
import Derived.Test.YthollackhkiofaaRegD
import Derived.Test.YthollackhkiofaaDnC
namespace Go.Proofs.Ythollackhkiofaa
set_option linter.unusedSimpArgs false
set_option linter.unusedVariables false
set_option maxRecDepth 100000
open Go Go.RowKit Lb

set_option maxHeartbeats 64000000 in
theorem ref_TapOf (g : Gt) (sa si : Value) (t : Tk) (time : Int) (w : World) (hgr : ckGate g = 0) (htk : ckTicket t = 0) (hr : RdL 5 tpc w sa g.alone) (hs : RdL 1 inc w si g.denied.ids) :
    Calls Try.prog 39 #[.agg (gta g sa si), .agg (tkc t), .int .i64 time] w fun e w' => ∃ sa' si', e = .returned (.tuple #[.agg (gta (tapG g t time).1 sa' si'), .agg (tpc (tapG g t time).2.1), .int .i64 (tapG g t time).2.2]) ∧ Ext w w' ∧
      OwnL 64 5 tpc w.heap.size w' sa' (tapG g t time).1.alone ∧ ((si' = .slice none 0 0 ∧ (tapG g t time).1.denied.ids = []) ∨ (si' = si ∧ (tapG g t time).1.denied.ids = g.denied.ids)) := by
  have rg := ckGate_ok.1 hgr
  have hzn := zones_ok' htk
  have HCO := Lib.hid (fun (w' : World) (h : Ext w w') => ref_HasInt g.denied.ids t.id si w' (hs.ext h))
  have HW1 := Lib.hid (fun w => ref_between time 0 9999 w)
  have HW4 := Lib.hid (fun w => ref_between time t.frm t.til w)
  have hE : tapE g t time = if within time 0 9999 = false then 3 else if Lb.early g.alone time = true then 4 else if g.denied.ids.contains t.id = true then 11 else if g.untl < time then 8 else if place t time g.zone ≠ 0 then place t time g.zone else if g.left = 0 ∨ t.kind ≠ 2 ∧ twiceG g t.id = true then 10 else if g.alone.length = 12 ∨ g.seq = 99 then 2 else 0 := rfl
  have hres : tapG g t time = if tapE g t time ≠ 0 then (gt0, tp0, tapE g t time) else (tapped g t time, tapOf g t time, 0) := rfl
  have htw : twiceG g t.id = g.alone.any (fun p => p.ticket == t.id) := rfl
  have hpl : place t time g.zone = if within time t.frm t.til = false then 8 else if t.zones / g.zone % 2 = 0 then 9 else 0 := by
    unfold place within
    simp only [Bool.and_eq_false_iff, decide_eq_false_iff_not, Int.not_le]
  obtain ⟨A, c, rfl, hmc, hmm⟩ := hr.form
  obtain ⟨A2, c2, rfl, -, -⟩ := hs.form
  have hl12 := rg.len
  have b2 := rg.seq
  have b3 := rg.left
  have hzz := rg.zone
  simp only [within, Bool.and_eq_true, decide_eq_true_eq] at b2 b3
  have ea : (tapped g t time) = ⟨g.id, g.zone, g.seq + 1, g.alone ++ [⟨t.id, g.id, g.seq + 1, time, g.zone⟩], g.denied, g.left - 1, g.untl⟩ := rfl
  have eb : tapOf g t time = ⟨t.id, g.id, g.seq + 1, time, g.zone⟩ := rfl
  rw [ea, eb] at hres
  clear ea eb
  obtain ⟨t0, t1, t2, t3, t4, t5⟩ := t
  obtain ⟨gid, zone, seq, l, ⟨ver, ids⟩, left, untl⟩ := g
  simp only at hr hs hmc hmm hE hres htw hpl hl12 b2 b3 hzz hzn HCO HW4 ⊢
  have hz1 : 1 ≤ zone := by simp [isZone] at hzz; omega
  obtain ⟨e1, e2, e3, e4⟩ := ediv_zone hzn.1 hzz
  have hzn1 := hzn.2
  have hm : l.length ≤ 9223372036854775807 := by omega
  obtain ⟨i0, ji, ji0, ji1, ji2⟩ := info_parts info_tp
  have hws : IntKind.i64.wrap (seq + 1) = seq + 1 := IntWalk.i64_in _ (by omega)
  have hwl : left ≠ 0 → IntKind.i64.wrap (left - 1) = left - 1 := fun h => IntWalk.i64_in _ (by omega)
  generalize tapG ⟨gid, zone, seq, l, ⟨ver, ids⟩, left, untl⟩ ⟨t0, t1, t2, t3, t4, t5⟩ time = res at *
  generalize tapE ⟨gid, zone, seq, l, ⟨ver, ids⟩, left, untl⟩ ⟨t0, t1, t2, t3, t4, t5⟩ time = tE at *
  generalize place ⟨t0, t1, t2, t3, t4, t5⟩ time zone = pl at *
  generalize twiceG ⟨gid, zone, seq, l, ⟨ver, ids⟩, left, untl⟩ t0 = r at *
  have HERR := Lib.hid (fun (cc : Int) (h : tE = cc) (h0 : cc ≠ 0) => (show res = (gt0, tp0, cc) by rw [hres, h, if_pos h0]))
  have HOK := Lib.hid (fun (h : tE = 0) => (show res = (⟨gid, zone, seq + 1, l ++ [⟨t0, gid, seq + 1, time, zone⟩], ⟨ver, ids⟩, left - 1, untl⟩, ⟨t0, gid, seq + 1, time, zone⟩, 0) by rw [hres, h, if_neg (by decide)]))
  have HE := Lib.hid hE
  have HPL := Lib.hid hpl
  have HRd := Lib.hid hr
  have HSd := Lib.hid hs
  have HTW := Lib.hid htw
  have HWL := Lib.hid hwl
  clear hres hE hpl hr hs htw hgr htk rg hmc hmm hzn hzz hwl b3
  generalize within time 0 9999 = z1 at *
  generalize hear : Lb.early l time = ear at *
  have HEAR := Lib.hid hear
  clear hear
  generalize ids.contains t0 = z3 at *
  generalize within time t2 t3 = z4 at *
  unfold gta tkc
  simp only
  go_enter Try.func39, Try.ntmps39
  go_wp2_with fail
  go_loopg [10, 11] l.length (fun gg s10 s11 wr => ∃ (k : Nat) (tw : Bool), k ≤ l.length ∧ l.length - k ≤ gg ∧ s10 = .bool tw ∧ s11 = .int .i64 k ∧ Aside (Ext w wr ∧ Row wr w.heap.size #[.int .i64 gid, .int .i64 zone, .int .i64 seq, .slice A l.length c, .int .i64 ver, .slice A2 ids.length c2, .int .i64 left, .int .i64 untl] ∧ Row wr (w.heap.size + 1) #[.int .i64 t0, .int .i64 t1, .int .i64 t2, .int .i64 t3, .int .i64 t4, .int .i64 t5] ∧ Row wr (w.heap.size + 1 + 1) #[.int .i64 0, .int .i64 0, .int .i64 0, .slice none 0 0, .int .i64 0, .slice none 0 0, .int .i64 0, .int .i64 0] ∧ Row wr (w.heap.size + 1 + 1 + 1) #[.int .i64 0, .int .i64 0, .int .i64 0, .int .i64 0, .int .i64 0]) ∧ Aside ((tw || (l.drop k).any (fun p => p.ticket == t0)) = r))
  case atStart => exact ⟨0, false, by omega, by omega, rfl, rfl, ⟨((((Ext.refl _).alloc _).alloc _).alloc _).alloc _, (Row.newAt rfl).alloc.alloc.alloc, (Row.newAt (by simp)).alloc.alloc, (Row.newAt (by simp)).alloc, Row.newAt (by simp)⟩, by rw [HTW.out]; rfl⟩
  case round =>
    obtain ⟨k, tw, hk, hg, rfl, rfl, HV, HA⟩ := hrel
    have HE2 := Lib.hid HV.out.1
    have HR0 := Lib.hid HV.out.2.1
    have HR1 := Lib.hid HV.out.2.2.1
    have HR2 := Lib.hid HV.out.2.2.2.1
    have HR3 := Lib.hid HV.out.2.2.2.2
    have HA2 := Lib.hid HA.out
    clear HV HA
    (apply Row.use (w := wr) (g := w.heap.size); (focus (repeat (first | (with_reducible exact Hid.out ‹Hid (Row _ _ _)›) | (with_reducible exact Row.newAt rfl) | (with_reducible apply Row.newAt; (simp; done)) | (with_reducible apply Row.set_) | (with_reducible apply Row.far; focus (simp <;> omega)) | (with_reducible apply Row.alloc) | (with_reducible apply Row.drew) | (with_reducible apply Row.drewN) | (with_reducible apply Row.ext (Hid.out ‹Hid (Ext _ _)›))))); intro qr_0 fr_0 lr_0 Rr_0; (try simp only [List.setIfInBounds_toArray, List.set_cons_zero, List.set_cons_succ] at qr_0 Rr_0); apply Row.use (w := wr) (g := w.heap.size + 1); (focus (repeat (first | (with_reducible exact Hid.out ‹Hid (Row _ _ _)›) | (with_reducible exact Row.newAt rfl) | (with_reducible apply Row.newAt; (simp; done)) | (with_reducible apply Row.set_) | (with_reducible apply Row.far; focus (simp <;> omega)) | (with_reducible apply Row.alloc) | (with_reducible apply Row.drew) | (with_reducible apply Row.drewN) | (with_reducible apply Row.ext (Hid.out ‹Hid (Ext _ _)›))))); intro qr_1 fr_1 lr_1 Rr_1; (try simp only [List.setIfInBounds_toArray, List.set_cons_zero, List.set_cons_succ] at qr_1 Rr_1); apply Row.use (w := wr) (g := w.heap.size + 1 + 1); (focus (repeat (first | (with_reducible exact Hid.out ‹Hid (Row _ _ _)›) | (with_reducible exact Row.newAt rfl) | (with_reducible apply Row.newAt; (simp; done)) | (with_reducible apply Row.set_) | (with_reducible apply Row.far; focus (simp <;> omega)) | (with_reducible apply Row.alloc) | (with_reducible apply Row.drew) | (with_reducible apply Row.drewN) | (with_reducible apply Row.ext (Hid.out ‹Hid (Ext _ _)›))))); intro qr_2 fr_2 lr_2 Rr_2; (try simp only [List.setIfInBounds_toArray, List.set_cons_zero, List.set_cons_succ] at qr_2 Rr_2); apply Row.use (w := wr) (g := w.heap.size + 1 + 1 + 1); (focus (repeat (first | (with_reducible exact Hid.out ‹Hid (Row _ _ _)›) | (with_reducible exact Row.newAt rfl) | (with_reducible apply Row.newAt; (simp; done)) | (with_reducible apply Row.set_) | (with_reducible apply Row.far; focus (simp <;> omega)) | (with_reducible apply Row.alloc) | (with_reducible apply Row.drew) | (with_reducible apply Row.drewN) | (with_reducible apply Row.ext (Hid.out ‹Hid (Ext _ _)›))))); intro qr_3 fr_3 lr_3 Rr_3; (try simp only [List.setIfInBounds_toArray, List.set_cons_zero, List.set_cons_succ] at qr_3 Rr_3))
    by_cases hlt : k < l.length
    · have hlt' : (k : Int) < (l.length : Int) := by omega
      obtain ⟨b, o, rfl, hb, c0, c1, c2', c3, c4⟩ := (HRd.out.ext HE2.out).tp_at rfl hlt
      have hA := HA2.out
      rw [List.drop_eq_getElem_cons hlt, List.any_cons] at hA
      generalize l[k].ticket = x at *
      clear c1 c2' c3 c4 HA2
      have HA3 := Lib.hid (show ((tw || x == t0) || (l.drop (k + 1)).any (fun p => p.ticket == t0)) = r by rw [Bool.or_assoc]; exact hA)
      clear hA
      cases tw
      all_goals
        go_wp2_with fail
        go_quiet (fail)
        go_wp2_with fail
        go_roundg (l.length - (k + 1))
        case measure => omega
        case rel => exact ⟨k + 1, _, by omega, by omega, rfl, by go_num, ⟨(show Ext w _ by repeat (first | (with_reducible exact Ext.refl _) | (with_reducible refine Ext.alloc ?_ _) | (with_reducible apply Ext.setC; focus (simp <;> omega)) | (with_reducible refine Ext.drew ?_) | (with_reducible refine Ext.drewN ?_ _) | (with_reducible refine Ext.trans ?_ (Hid.out ‹Hid (Ext _ _)›)))), Rr_0.out.drewN, Rr_1.out.drewN, Rr_2.out.drewN, Rr_3.out.drewN⟩, by first | exact HA3.out | (have h := HA3.out; simpa using h)⟩
    · have hkl : k = l.length := by omega
      have hge : ¬ (k : Int) < (l.length : Int) := by omega
      have hA := HA2.out
      rw [hkl, List.drop_length] at hA
      have htr : tw = r := by simpa using hA
      subst htr
      clear hA HA2 hkl
      go_wp2_with fail
      refine (HW1.out _).mono ?_
      rintro e w' ⟨rfl, rfl⟩
      cases z1
      · have hQ := HERR.out 3 (by rw [HE.out]; simp) (by decide)
        subst hQ
        clear HERR HE HOK
        go_wp2_with fail
        refine bodyPost_ret (v := .tuple #[.agg #[.int .i64 0, .int .i64 0, .int .i64 0, .slice none 0 0, .int .i64 0, .slice none 0 0, .int .i64 0, .int .i64 0], .agg #[.int .i64 0, .int .i64 0, .int .i64 0, .int .i64 0, .int .i64 0], .int .i64 3]) (by simp [results, Try.results39, go_sem, *]) rfl ⟨_, _, rfl, ?_, OwnL.nil, .inl ⟨rfl, rfl⟩⟩
        repeat (first | (with_reducible exact Ext.refl _) | (with_reducible refine Ext.alloc ?_ _) | (with_reducible apply Ext.setC; focus (simp <;> omega)) | (with_reducible refine Ext.drew ?_) | (with_reducible refine Ext.drewN ?_ _) | (with_reducible refine Ext.trans ?_ (Hid.out ‹Hid (Ext _ _)›)))
      by_cases hl0 : l = []
      case' pos =>
        have hz : l.length = 0 := by rw [hl0]; rfl
        have hn0 : decide (0 < l.length) = false := by rw [hz]; rfl
        have hq : ear = false := by rw [← HEAR.out, hl0]; rfl
        subst hq
        clear hl0 HEAR hz
        go_wp2_with fail
        try (go_quiet (fail); go_wp2_with fail)
      case' neg =>
        have hlp : 0 < l.length := List.length_pos_iff.2 hl0
        have hn0 : decide (0 < l.length) = true := by simpa using hlp
        have hll : l.length - 1 < l.length := by omega
        have hy := early_last hll time
        rw [HEAR.out] at hy
        obtain ⟨b, o, hAe, hb, -, -, -, k3, -⟩ := (HRd.out.ext HE2.out).tp_at rfl hll
        have hw1 : IntKind.i64.wrap ((l.length : Int) - 1) = ((l.length - 1 : Nat) : Int) := by rw [IntWalk.i64_in _ (by omega)]; omega
        have hk1 : ((l.length - 1 : Nat) : Int) < (l.length : Int) := by omega
        clear hl0 HEAR
        generalize l[l.length - 1].time = y at *
        subst hAe
        cases ear
        case' true =>
          have hyt := hy.symm
          clear hy
          go_wp2_with fail
          try (go_quiet (fail); go_wp2_with fail)
          have hQ := HERR.out 4 (by rw [HE.out]; simp) (by decide)
          subst hQ
          clear HERR HE HOK
          refine bodyPost_ret (v := .tuple #[.agg #[.int .i64 0, .int .i64 0, .int .i64 0, .slice none 0 0, .int .i64 0, .slice none 0 0, .int .i64 0, .int .i64 0], .agg #[.int .i64 0, .int .i64 0, .int .i64 0, .int .i64 0, .int .i64 0], .int .i64 4]) (by simp [results, Try.results39, go_sem, *]) rfl ⟨_, _, rfl, ?_, OwnL.nil, .inl ⟨rfl, rfl⟩⟩
          repeat (first | (with_reducible exact Ext.refl _) | (with_reducible refine Ext.alloc ?_ _) | (with_reducible apply Ext.setC; focus (simp <;> omega)) | (with_reducible refine Ext.drew ?_) | (with_reducible refine Ext.drewN ?_ _) | (with_reducible refine Ext.trans ?_ (Hid.out ‹Hid (Ext _ _)›)))
        case' false =>
          have hyt := hy.symm
          clear hy
          go_wp2_with fail
          try (go_quiet (fail); go_wp2_with fail)
          clear hyt k3 hw1 hk1 hb hlp hll
          generalize hAe : some (⟨b, o, none⟩ : Addr) = A at *
          clear hAe
      all_goals
        refine (HCO.out _ (by repeat (first | (with_reducible exact Ext.refl _) | (with_reducible refine Ext.alloc ?_ _) | (with_reducible apply Ext.setC; focus (simp <;> omega)) | (with_reducible refine Ext.drew ?_) | (with_reducible refine Ext.drewN ?_ _) | (with_reducible refine Ext.trans ?_ (Hid.out ‹Hid (Ext _ _)›))))).mono ?_
        rintro e w' ⟨rfl, rfl⟩
        cases z3
        rotate_left
        · have hQ := HERR.out 11 (by rw [HE.out]; simp) (by decide)
          subst hQ
          clear HERR HE HOK
          go_wp2_with fail
          refine bodyPost_ret (v := .tuple #[.agg #[.int .i64 0, .int .i64 0, .int .i64 0, .slice none 0 0, .int .i64 0, .slice none 0 0, .int .i64 0, .int .i64 0], .agg #[.int .i64 0, .int .i64 0, .int .i64 0, .int .i64 0, .int .i64 0], .int .i64 11]) (by simp [results, Try.results39, go_sem, *]) rfl ⟨_, _, rfl, ?_, OwnL.nil, .inl ⟨rfl, rfl⟩⟩
          repeat (first | (with_reducible exact Ext.refl _) | (with_reducible refine Ext.alloc ?_ _) | (with_reducible apply Ext.setC; focus (simp <;> omega)) | (with_reducible refine Ext.drew ?_) | (with_reducible refine Ext.drewN ?_ _) | (with_reducible refine Ext.trans ?_ (Hid.out ‹Hid (Ext _ _)›)))
        by_cases hu : untl < time
        · have hQ := HERR.out 8 (by rw [HE.out]; simp [hu]) (by decide)
          subst hQ
          clear HERR HE HOK
          go_wp2_with fail
          refine bodyPost_ret (v := .tuple #[.agg #[.int .i64 0, .int .i64 0, .int .i64 0, .slice none 0 0, .int .i64 0, .slice none 0 0, .int .i64 0, .int .i64 0], .agg #[.int .i64 0, .int .i64 0, .int .i64 0, .int .i64 0, .int .i64 0], .int .i64 8]) (by simp [results, Try.results39, go_sem, *]) rfl ⟨_, _, rfl, ?_, OwnL.nil, .inl ⟨rfl, rfl⟩⟩
          repeat (first | (with_reducible exact Ext.refl _) | (with_reducible refine Ext.alloc ?_ _) | (with_reducible apply Ext.setC; focus (simp <;> omega)) | (with_reducible refine Ext.drew ?_) | (with_reducible refine Ext.drewN ?_ _) | (with_reducible refine Ext.trans ?_ (Hid.out ‹Hid (Ext _ _)›)))
        go_wp2_with fail
        refine (HW4.out _).mono ?_
        rintro e w' ⟨rfl, rfl⟩
        cases z4
        · have hpl := HPL.out
          have hQ := HERR.out 8 (by rw [HE.out]; rw [hpl]; simp [hu]) (by decide)
          subst hQ
          clear HERR HE HOK
          go_wp2_with fail
          refine bodyPost_ret (v := .tuple #[.agg #[.int .i64 0, .int .i64 0, .int .i64 0, .slice none 0 0, .int .i64 0, .slice none 0 0, .int .i64 0, .int .i64 0], .agg #[.int .i64 0, .int .i64 0, .int .i64 0, .int .i64 0, .int .i64 0], .int .i64 8]) (by simp [results, Try.results39, go_sem, *]) rfl ⟨_, _, rfl, ?_, OwnL.nil, .inl ⟨rfl, rfl⟩⟩
          repeat (first | (with_reducible exact Ext.refl _) | (with_reducible refine Ext.alloc ?_ _) | (with_reducible apply Ext.setC; focus (simp <;> omega)) | (with_reducible refine Ext.drew ?_) | (with_reducible refine Ext.drewN ?_ _) | (with_reducible refine Ext.trans ?_ (Hid.out ‹Hid (Ext _ _)›)))
        by_cases hz : t4 / zone % 2 = 0
        · have hpl := HPL.out
          have hQ := HERR.out 9 (by rw [HE.out]; rw [hpl]; simp [hu, hz]) (by decide)
          subst hQ
          clear HERR HE HOK
          go_wp2_with fail
          refine bodyPost_ret (v := .tuple #[.agg #[.int .i64 0, .int .i64 0, .int .i64 0, .slice none 0 0, .int .i64 0, .slice none 0 0, .int .i64 0, .int .i64 0], .agg #[.int .i64 0, .int .i64 0, .int .i64 0, .int .i64 0, .int .i64 0], .int .i64 9]) (by simp [results, Try.results39, go_sem, *]) rfl ⟨_, _, rfl, ?_, OwnL.nil, .inl ⟨rfl, rfl⟩⟩
          repeat (first | (with_reducible exact Ext.refl _) | (with_reducible refine Ext.alloc ?_ _) | (with_reducible apply Ext.setC; focus (simp <;> omega)) | (with_reducible refine Ext.drew ?_) | (with_reducible refine Ext.drewN ?_ _) | (with_reducible refine Ext.trans ?_ (Hid.out ‹Hid (Ext _ _)›)))
        have hp0 : pl = 0 := by rw [HPL.out]; simp [hz]
        have hzb : (t4 / zone % 2 == 0) = false := by simpa using hz
        by_cases hf : left = 0
        · have hfb : (left == 0) = true := by simpa using hf
          have hQ := HERR.out 10 (by rw [HE.out]; simp [hu, hp0, hf]) (by decide)
          subst hQ
          clear HERR HE HOK
          go_wp2_with fail
          refine bodyPost_ret (v := .tuple #[.agg #[.int .i64 0, .int .i64 0, .int .i64 0, .slice none 0 0, .int .i64 0, .slice none 0 0, .int .i64 0, .int .i64 0], .agg #[.int .i64 0, .int .i64 0, .int .i64 0, .int .i64 0, .int .i64 0], .int .i64 10]) (by simp [results, Try.results39, go_sem, *]) rfl ⟨_, _, rfl, ?_, OwnL.nil, .inl ⟨rfl, rfl⟩⟩
          repeat (first | (with_reducible exact Ext.refl _) | (with_reducible refine Ext.alloc ?_ _) | (with_reducible apply Ext.setC; focus (simp <;> omega)) | (with_reducible refine Ext.drew ?_) | (with_reducible refine Ext.drewN ?_ _) | (with_reducible refine Ext.trans ?_ (Hid.out ‹Hid (Ext _ _)›)))
        have hfb : (left == 0) = false := by simpa using hf
        have hwl := HWL.out hf
        have hkd : (t1 = 2) ∨ (t1 ≠ 2 ∧ tw = false) ∨ (t1 ≠ 2 ∧ tw = true) := by by_cases h : t1 = 2 <;> cases tw <;> simp [h]
        rcases hkd with hkd | ⟨hkd, htw⟩ | ⟨hkd, htw⟩
        case' inr.inr =>
          have hkb : (t1 != 2) = true := by simpa using hkd
          subst htw
          have hQ := HERR.out 10 (by rw [HE.out]; simp [hu, hp0, hkd]) (by decide)
          subst hQ
          clear HERR HE HOK
          go_wp2_with fail
          refine bodyPost_ret (v := .tuple #[.agg #[.int .i64 0, .int .i64 0, .int .i64 0, .slice none 0 0, .int .i64 0, .slice none 0 0, .int .i64 0, .int .i64 0], .agg #[.int .i64 0, .int .i64 0, .int .i64 0, .int .i64 0, .int .i64 0], .int .i64 10]) (by simp [results, Try.results39, go_sem, *]) rfl ⟨_, _, rfl, ?_, OwnL.nil, .inl ⟨rfl, rfl⟩⟩
          repeat (first | (with_reducible exact Ext.refl _) | (with_reducible refine Ext.alloc ?_ _) | (with_reducible apply Ext.setC; focus (simp <;> omega)) | (with_reducible refine Ext.drew ?_) | (with_reducible refine Ext.drewN ?_ _) | (with_reducible refine Ext.trans ?_ (Hid.out ‹Hid (Ext _ _)›)))
        case' inl =>
          have hkb : (t1 != 2) = false := by simpa using hkd
          have h6 : ¬ (left = 0 ∨ t1 ≠ 2 ∧ tw = true) := by simp [hf, hkd]
        case' inr.inl =>
          have hkb : (t1 != 2) = true := by simpa using hkd
          have h6 : ¬ (left = 0 ∨ t1 ≠ 2 ∧ tw = true) := by simp [hf, htw]
          subst htw
        all_goals
          by_cases hl : l.length = 12
          · have hlb : ((l.length : Int) == 12) = true := by rw [hl]; rfl
            have hQ := HERR.out 2 (by rw [HE.out]; rw [hp0, if_neg (by simp), if_neg (by simp), if_neg (by simp), if_neg (show ¬ untl < time by omega), if_neg (by simp), if_neg h6, if_pos (.inl hl)]) (by decide)
            subst hQ
            clear HERR HE HOK
            go_wp2_with fail
            refine bodyPost_ret (v := .tuple #[.agg #[.int .i64 0, .int .i64 0, .int .i64 0, .slice none 0 0, .int .i64 0, .slice none 0 0, .int .i64 0, .int .i64 0], .agg #[.int .i64 0, .int .i64 0, .int .i64 0, .int .i64 0, .int .i64 0], .int .i64 2]) (by simp [results, Try.results39, go_sem, *]) rfl ⟨_, _, rfl, ?_, OwnL.nil, .inl ⟨rfl, rfl⟩⟩
            repeat (first | (with_reducible exact Ext.refl _) | (with_reducible refine Ext.alloc ?_ _) | (with_reducible apply Ext.setC; focus (simp <;> omega)) | (with_reducible refine Ext.drew ?_) | (with_reducible refine Ext.drewN ?_ _) | (with_reducible refine Ext.trans ?_ (Hid.out ‹Hid (Ext _ _)›)))
          have hlb : ((l.length : Int) == 12) = false := by rw [beq_eq_false_iff_ne]; omega
          by_cases hs9 : seq = 99
          · have hsb : (seq == 99) = true := by rw [hs9]; rfl
            have hQ := HERR.out 2 (by rw [HE.out]; rw [hp0, if_neg (by simp), if_neg (by simp), if_neg (by simp), if_neg (show ¬ untl < time by omega), if_neg (by simp), if_neg h6, if_pos (.inr hs9)]) (by decide)
            subst hQ
            clear HERR HE HOK
            go_wp2_with fail
            refine bodyPost_ret (v := .tuple #[.agg #[.int .i64 0, .int .i64 0, .int .i64 0, .slice none 0 0, .int .i64 0, .slice none 0 0, .int .i64 0, .int .i64 0], .agg #[.int .i64 0, .int .i64 0, .int .i64 0, .int .i64 0, .int .i64 0], .int .i64 2]) (by simp [results, Try.results39, go_sem, *]) rfl ⟨_, _, rfl, ?_, OwnL.nil, .inl ⟨rfl, rfl⟩⟩
            repeat (first | (with_reducible exact Ext.refl _) | (with_reducible refine Ext.alloc ?_ _) | (with_reducible apply Ext.setC; focus (simp <;> omega)) | (with_reducible refine Ext.drew ?_) | (with_reducible refine Ext.drewN ?_ _) | (with_reducible refine Ext.trans ?_ (Hid.out ‹Hid (Ext _ _)›)))
          have hsb : (seq == 99) = false := by rw [beq_eq_false_iff_ne]; omega
          have hQ := HOK.out (by rw [HE.out]; rw [hp0, if_neg (by simp), if_neg (by simp), if_neg (by simp), if_neg (show ¬ untl < time by omega), if_neg (by simp), if_neg h6, if_neg (by simp [hl, hs9])])
          subst hQ
          clear HERR HE HOK HPL HWL HTW hp0 h6
          go_wp2_with fail
          clear hu hzb hfb hlb hsb hkb hkd hf hs9 hn0
          have hg0 : Row (((wr.setCell ⟨w.heap.size, 2, none⟩ (.int .i64 (seq + 1))).setCell ⟨w.heap.size, 6, none⟩ (.int .i64 (left - 1))).alloc (.cells (tpc ⟨t0, gid, seq + 1, time, zone⟩) 64)) w.heap.size #[.int .i64 gid, .int .i64 zone, .int .i64 (seq + 1), .slice A l.length c, .int .i64 ver, .slice A2 ids.length c2, .int .i64 (left - 1), .int .i64 untl] := by
            have := ((Rr_0.out.set_ (i := 2) (u := .int .i64 (seq + 1))).set_ (i := 6) (u := .int .i64 (left - 1))).alloc (o := .cells (tpc ⟨t0, gid, seq + 1, time, zone⟩) 64)
            simpa only [List.setIfInBounds_toArray, List.set_cons_zero, List.set_cons_succ] using this
          have hg1 : Row (((wr.setCell ⟨w.heap.size, 2, none⟩ (.int .i64 (seq + 1))).setCell ⟨w.heap.size, 6, none⟩ (.int .i64 (left - 1))).alloc (.cells (tpc ⟨t0, gid, seq + 1, time, zone⟩) 64)) wr.heap.size (tpc ⟨t0, gid, seq + 1, time, zone⟩) := Row.newAt (by simp)
          have hg2 : Row (((wr.setCell ⟨w.heap.size, 2, none⟩ (.int .i64 (seq + 1))).setCell ⟨w.heap.size, 6, none⟩ (.int .i64 (left - 1))).alloc (.cells (tpc ⟨t0, gid, seq + 1, time, zone⟩) 64)) (w.heap.size + 1 + 1) #[.int .i64 0, .int .i64 0, .int .i64 0, .slice none 0 0, .int .i64 0, .slice none 0 0, .int .i64 0, .int .i64 0] := Row.alloc (Row.far (by simp <;> omega) (Row.far (by simp <;> omega) Rr_2.out))
          have hg3 : Row (((wr.setCell ⟨w.heap.size, 2, none⟩ (.int .i64 (seq + 1))).setCell ⟨w.heap.size, 6, none⟩ (.int .i64 (left - 1))).alloc (.cells (tpc ⟨t0, gid, seq + 1, time, zone⟩) 64)) (w.heap.size + 1 + 1 + 1) #[.int .i64 0, .int .i64 0, .int .i64 0, .int .i64 0, .int .i64 0] := Row.alloc (Row.far (by simp <;> omega) (Row.far (by simp <;> omega) Rr_3.out))
          have hgE : Ext w (((wr.setCell ⟨w.heap.size, 2, none⟩ (.int .i64 (seq + 1))).setCell ⟨w.heap.size, 6, none⟩ (.int .i64 (left - 1))).alloc (.cells (tpc ⟨t0, gid, seq + 1, time, zone⟩) 64)) := by repeat (first | (with_reducible exact Ext.refl _) | (with_reducible refine Ext.alloc ?_ _) | (with_reducible apply Ext.setC; focus (simp <;> omega)) | (with_reducible refine Ext.drew ?_) | (with_reducible refine Ext.drewN ?_ _) | (with_reducible refine Ext.trans ?_ (Hid.out ‹Hid (Ext _ _)›)))
          unfold tpc at hg0 hg1 hg2 hg3 hgE
          simp only at hg0 hg1 hg2 hg3 hgE
          generalize hpb : wr.heap.size = pb at *
          generalize ((wr.setCell ⟨w.heap.size, 2, none⟩ (.int .i64 (seq + 1))).setCell ⟨w.heap.size, 6, none⟩ (.int .i64 (left - 1))).alloc (.cells #[.int .i64 t0, .int .i64 gid, .int .i64 (seq + 1), .int .i64 time, .int .i64 zone] 64) = W at *
          have HG0 := Lib.hid hg0
          have HG1 := Lib.hid hg1
          have HG2 := Lib.hid hg2
          have HG3 := Lib.hid hg3
          have HGE := Lib.hid hgE
          have hbs : w.heap.size < W.heap.size := hg0.1
          clear hg0 hg1 hg2 hg3 hgE Rr_0 Rr_1 Rr_2 Rr_3 HR0 HR1 HR2 HR3 HE2 hbs
          refine T_begin (fun w' => (∀ o, w'.cell? ⟨w.heap.size, o, none⟩ = (#[.int .i64 gid, .int .i64 zone, .int .i64 (seq + 1), .slice A l.length c, .int .i64 ver, .slice A2 ids.length c2, .int .i64 (left - 1), .int .i64 untl] : Array Value)[o]?) ∧ (∀ o, w'.cell? ⟨pb, o, none⟩ = (#[.int .i64 t0, .int .i64 gid, .int .i64 (seq + 1), .int .i64 time, .int .i64 zone] : Array Value)[o]?)) 8 (by kernel_rfl) ⟨fun o => HG0.out.2.1 o, fun o => HG1.out.2.1 o⟩ (fun hS => ?_)
          simp only [List.length_cons, List.length_nil]
          ((refine T_take (i := 1) (v := ?_) rfl (by kernel_rfl) rfl hS ?_ ?_; rotate_left; focus (intro w hSw; (try dsimp only at hSw); go_simp; try (with_reducible rfl))); (try simp only [Act.put, List.setIfInBounds_toArray, List.set_cons_zero, List.set_cons_succ]); (refine T_take (i := 2) (v := ?_) rfl (by kernel_rfl) rfl hS ?_ ?_; rotate_left; focus (intro w hSw; (try dsimp only at hSw); go_simp; try (with_reducible rfl))); (try simp only [Act.put, List.setIfInBounds_toArray, List.set_cons_zero, List.set_cons_succ]); (refine T_take (i := 4) (v := ?_) rfl (by kernel_rfl) rfl hS ?_ ?_; rotate_left; focus (intro w hSw; (try dsimp only at hSw); go_simp; try (with_reducible rfl))); (try simp only [Act.put, List.setIfInBounds_toArray, List.set_cons_zero, List.set_cons_succ]))
          clear hS
          refine T_copy1 (enc := tpc) (k := 5) (i0 := 0) (i3 := 3) (i5 := 5) (i6 := 6) (d0 := 129) (d3 := 132) (d5 := 134) (d6 := 135) (x2 := 131) (px := 133) 64 56 i0 (.agg #[.int .i64 0, .int .i64 0, .int .i64 0, .int .i64 0, .int .i64 0]) 40 Try.underlying56 ji ji0 ji1 ji2 rfl (by decide) tpc_size rfl rfl rfl rfl rfl rfl rfl rfl ⟨t0, gid, seq + 1, time, zone⟩ ?s0 ?s5 rfl rfl rfl rfl (by decide) ⟨?z1, ?z2, ?z3⟩ (by decide) (by kernel_rfl) (by kernel_rfl) (by kernel_rfl) (by kernel_rfl) (by kernel_rfl) (by kernel_rfl) (fun w' he => ⟨(Row.ext he (Row.drew HG0.out)).2.1, (Row.ext he (Row.drew HG1.out)).2.1⟩) (.slice A l.length c) l rfl ((HRd.out.ext HGE.out).ext ((Ext.refl _).drew)) rfl (taps_one _) (taps_one _) (by unfold maxLen; omega) (by omega) ?fin
          case s0 => exact fun a w K h => bs0_tp a w K h
          case s5 => exact fun a w K hp h => bs1_tp ⟨t0, gid, seq + 1, time, zone⟩ a w K hp h
          case z1 => simp
          case z2 => simp
          case z3 => simp
          case fin =>
            intro v0 v3 v5 v6 W2 ho2 he2
            obtain ⟨A', c', rfl⟩ := ho2.form
            simp only [List.length_append, List.length_cons, List.length_nil, Nat.zero_add] at ho2 ⊢
            have hpw := HG1.out.1
            (try simp only [World.size_alloc, size_set, World.heap_drewN, size_drew] at ho2)
            have hj0 := Row.ext he2 (Row.drew HG0.out)
            have hj1 := Row.ext he2 (Row.drew HG1.out)
            have hj2 := Row.ext he2 (Row.drew HG2.out)
            have hj3 := Row.ext he2 (Row.drew HG3.out)
            have HO2 := Lib.hid ho2
            have HE2 := Lib.hid he2
            have HJ0 := Lib.hid hj0
            have HJ1 := Lib.hid hj1
            have HJ2 := Lib.hid hj2
            have HJ3 := Lib.hid hj3
            have hq0 := hj0.2.1
            have hf0 := hj0.2.2
            have hl0 := hj0.1
            clear ho2 he2 hj0 hj1 hj2 hj3
            have hS := And.intro (fun o => HJ0.out.2.1 o) (fun o => HJ1.out.2.1 o)
            (try simp only [Act.put, List.setIfInBounds_toArray, List.set_cons_zero, List.set_cons_succ])
            ((refine T_take (i := 7) (v := ?_) rfl (by kernel_rfl) rfl hS ?_ ?_; rotate_left; focus (intro w hSw; (try dsimp only at hSw); go_simp; try (with_reducible rfl))); (try simp only [Act.put, List.setIfInBounds_toArray, List.set_cons_zero, List.set_cons_succ]))
            clear hS
            refine T_only (i := 8) rfl (by kernel_rfl) rfl (fun K hK => ?_)
            go_simp
            refine hK.out _ _ (.inl (by kernel_rfl)) ?_
            clear hK
            refine T_done (by kernel_rfl) ?_ _
            have hk0 := HJ0.out.set_ (i := 3) (u := .slice A' (l.length + 1) c')
            simp only [List.setIfInBounds_toArray, List.set_cons_zero, List.set_cons_succ] at hk0
            have hk1 := Row.far (p := ⟨w.heap.size, 3, none⟩) (u := .slice A' (l.length + 1) c') (by simp <;> omega) HJ1.out
            have hk2 := Row.far (p := ⟨w.heap.size, 3, none⟩) (u := .slice A' (l.length + 1) c') (by simp <;> omega) HJ2.out
            have hk3 := Row.far (p := ⟨w.heap.size, 3, none⟩) (u := .slice A' (l.length + 1) c') (by simp <;> omega) HJ3.out
            have hkE : Ext w (W2.setCell ⟨w.heap.size, 3, none⟩ (.slice A' (l.length + 1) c')) := by repeat (first | (with_reducible exact Ext.refl _) | (with_reducible refine Ext.alloc ?_ _) | (with_reducible apply Ext.setC; focus (simp <;> omega)) | (with_reducible refine Ext.drew ?_) | (with_reducible refine Ext.drewN ?_ _) | (with_reducible refine Ext.trans ?_ (Hid.out ‹Hid (Ext _ _)›)))
            have hkO : OwnL 64 5 tpc W.heap.size (W2.setCell ⟨w.heap.size, 3, none⟩ (.slice A' (l.length + 1) c')) (.slice A' (l.length + 1) c') (l ++ [⟨t0, gid, seq + 1, time, zone⟩]) := OwnL.setC (by simp; omega) HO2.out
            generalize hLL : (l ++ [(⟨t0, gid, seq + 1, time, zone⟩ : Tp)]) = LL at *
            generalize W2.setCell ⟨w.heap.size, 3, none⟩ (.slice A' (l.length + 1) c') = W3 at *
            have HK0 := Lib.hid hk0
            have HK1 := Lib.hid hk1
            have HK2 := Lib.hid hk2
            have HK3 := Lib.hid hk3
            have HKE := Lib.hid hkE
            have HKO := Lib.hid hkO
            have hlt3 := hk3.1
            have hq2 := hk2.2.1
            have hq3 := hk3.2.1
            have hf2 := hk2.2.2
            have hf3 := hk3.2.2
            clear hk0 hk1 hk2 hk3 hkE hkO hq0 hf0 hl0 HJ0 HJ1 HJ2 HJ3 HG0 HG1 HG2 HG3 HO2
            go_wp2_with fail
            refine T_begin (fun w' => (∀ o, w'.cell? ⟨w.heap.size, o, none⟩ = (#[.int .i64 gid, .int .i64 zone, .int .i64 (seq + 1), .slice A' (l.length + 1) c', .int .i64 ver, .slice A2 ids.length c2, .int .i64 (left - 1), .int .i64 untl] : Array Value)[o]?) ∧ (∀ o, w'.cell? ⟨pb, o, none⟩ = (#[.int .i64 t0, .int .i64 gid, .int .i64 (seq + 1), .int .i64 time, .int .i64 zone] : Array Value)[o]?)) 5 (by kernel_rfl) ⟨fun o => HK0.out.2.1 o, fun o => HK1.out.2.1 o⟩ (fun hS => ?_)
            simp only [List.length_cons, List.length_nil]
            ((refine T_take (i := 0) (v := ?_) rfl (by kernel_rfl) rfl hS ?_ ?_; rotate_left; focus (intro w hSw; (try dsimp only at hSw); go_simp; try (with_reducible rfl))); (try simp only [Act.put, List.setIfInBounds_toArray, List.set_cons_zero, List.set_cons_succ]); (refine T_take (i := 1) (v := ?_) rfl (by kernel_rfl) rfl hS ?_ ?_; rotate_left; focus (intro w hSw; (try dsimp only at hSw); go_simp; try (with_reducible rfl))); (try simp only [Act.put, List.setIfInBounds_toArray, List.set_cons_zero, List.set_cons_succ]); (refine T_take (i := 2) (v := ?_) rfl (by kernel_rfl) rfl hS ?_ ?_; rotate_left; focus (intro w hSw; (try dsimp only at hSw); go_simp; try (with_reducible rfl))); (try simp only [Act.put, List.setIfInBounds_toArray, List.set_cons_zero, List.set_cons_succ]))
            clear hS
            refine T_only (i := 3) rfl (by kernel_rfl) rfl (fun K hK => ?_)
            go_simp
            refine hK.out _ _ (.inr ⟨(show Row _ w.heap.size _ from ?_).2.1, (show Row _ pb _ from ?_).2.1⟩) ?_
            · repeat (first | (with_reducible exact Hid.out ‹Hid (Row _ _ _)›) | (with_reducible exact Row.newAt rfl) | (with_reducible apply Row.newAt; (simp; done)) | (with_reducible apply Row.set_) | (with_reducible apply Row.far; focus (simp <;> omega)) | (with_reducible apply Row.alloc) | (with_reducible apply Row.drew) | (with_reducible apply Row.drewN) | (with_reducible apply Row.ext (Hid.out ‹Hid (Ext _ _)›)))
            · repeat (first | (with_reducible exact Hid.out ‹Hid (Row _ _ _)›) | (with_reducible exact Row.newAt rfl) | (with_reducible apply Row.newAt; (simp; done)) | (with_reducible apply Row.set_) | (with_reducible apply Row.far; focus (simp <;> omega)) | (with_reducible apply Row.alloc) | (with_reducible apply Row.drew) | (with_reducible apply Row.drewN) | (with_reducible apply Row.ext (Hid.out ‹Hid (Ext _ _)›)))
            clear hK
            (try simp only [Act.put, List.setIfInBounds_toArray, List.set_cons_zero, List.set_cons_succ])
            refine T_only (i := 4) rfl (by kernel_rfl) rfl (fun K hK => ?_)
            go_simp
            refine hK.out _ _ (.inr ⟨(show Row _ w.heap.size _ from ?_).2.1, (show Row _ pb _ from ?_).2.1⟩) ?_
            · repeat (first | (with_reducible exact Hid.out ‹Hid (Row _ _ _)›) | (with_reducible exact Row.newAt rfl) | (with_reducible apply Row.newAt; (simp; done)) | (with_reducible apply Row.set_) | (with_reducible apply Row.far; focus (simp <;> omega)) | (with_reducible apply Row.alloc) | (with_reducible apply Row.drew) | (with_reducible apply Row.drewN) | (with_reducible apply Row.ext (Hid.out ‹Hid (Ext _ _)›)))
            · repeat (first | (with_reducible exact Hid.out ‹Hid (Row _ _ _)›) | (with_reducible exact Row.newAt rfl) | (with_reducible apply Row.newAt; (simp; done)) | (with_reducible apply Row.set_) | (with_reducible apply Row.far; focus (simp <;> omega)) | (with_reducible apply Row.alloc) | (with_reducible apply Row.drew) | (with_reducible apply Row.drewN) | (with_reducible apply Row.ext (Hid.out ‹Hid (Ext _ _)›)))
            clear hK
            (try simp only [Act.put, List.setIfInBounds_toArray, List.set_cons_zero, List.set_cons_succ])
            refine T_only (i := 5) rfl (by kernel_rfl) rfl (fun K hK => ?_)
            go_simp
            refine hK.out _ _ (.inl (by kernel_rfl)) ?_
            clear hK
            refine T_done (by kernel_rfl) ?_ _
            go_wp2_with fail
            refine bodyPost_ret (v := .tuple #[.agg #[.int .i64 gid, .int .i64 zone, .int .i64 (seq + 1), .slice A' (l.length + 1) c', .int .i64 ver, .slice A2 ids.length c2, .int .i64 (left - 1), .int .i64 untl], .agg #[.int .i64 t0, .int .i64 gid, .int .i64 (seq + 1), .int .i64 time, .int .i64 zone], .int .i64 0]) (by simp [results, Try.results39, go_sem, *]) rfl ⟨.slice A' (l.length + 1) c', .slice A2 ids.length c2, rfl, ?_, ?_, ?_⟩
            · repeat (first | (with_reducible exact Ext.refl _) | (with_reducible refine Ext.alloc ?_ _) | (with_reducible apply Ext.setC; focus (simp <;> omega)) | (with_reducible refine Ext.drew ?_) | (with_reducible refine Ext.drewN ?_ _) | (with_reducible refine Ext.trans ?_ (Hid.out ‹Hid (Ext _ _)›)))
            · (refine OwnL.lower (base := W.heap.size) ?_ (by omega); repeat (first | (with_reducible assumption) | (with_reducible exact Hid.out ‹Hid (OwnL _ _ _ _ _ _ _)›) | (with_reducible apply OwnL.setC; focus (simp <;> omega)) | (with_reducible refine OwnL.put ?_ (by assumption) _) | (with_reducible apply OwnL.alloc) | (with_reducible apply OwnL.drew) | (with_reducible apply OwnL.drewN) | (with_reducible refine OwnL.ext ?_ (Hid.out ‹Hid (Ext _ _)›))))
            · first | exact .inr ⟨rfl, rfl⟩ | exact .inr rfl
end Go.Proofs.Ythollackhkiofaa
