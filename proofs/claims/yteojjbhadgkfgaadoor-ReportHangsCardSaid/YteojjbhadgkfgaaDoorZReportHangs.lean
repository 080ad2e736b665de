/- ReportHangs: for every input the law returns true, and each argument reads afterwards as it read before; the three listed tables are tied to the text of the program by the card. No other condition. -/
import Derived.Test.YteojjbhadgkfgaaDoorRows
import Derived.Test.YteojjbhadgkfgaaDoorTie
import Derived.Test.YteojjbhadgkfgaaDoorCards
import Derived.LaidLaws
import Derived.LaidMore
import Derived.Lay
import Derived.MakeChecks
import Derived.Lib.LaidTab
import Derived.Stop.Joined
import Derived.Stop.LaidErr
import Derived.SevenTiedAt
import Derived.Test.YteojjbhadgkfgaaDoorMac
import Derived.Test.YteojjbhadgkfgaaDoorMn
import Derived.Test.YteojjbhadgkfgaaDoorMw
import Derived.Test.YteojjbhadgkfgaaDoorMs
import Derived.Test.YteojjbhadgkfgaaDoorMo
/- ReportHangs: the plain side; the walk. -/
namespace Go.Proofs.YteojjbhadgkfgaaDoor
set_option linter.unusedSimpArgs false
set_option linter.unusedVariables false
set_option maxRecDepth 100000
open Go Go.RowKit Lb

/-- a gate without its list and its budget -/
def bareG (g : Gt) : Gt := ⟨g.id, g.zone, g.seq, g.alone, dn0, 0, 0⟩
theorem bare_right {g : Gt} (h : ckGate g = 0) : ckGate (bareG g) = 0 := by
 unfold ckGate at h
 show (if within g.id 0 2 = false ∨ within g.seq 0 99 = false then 3
  else if isZone g.zone = false then 9
  else if 12 < g.alone.length then 2
  else if aloneE g ≠ 0 then aloneE g
  else if ckDn dn0 ≠ 0 then ckDn dn0
  else if within 0 0 9 = false ∨ within 0 0 10099 = false then 3 else 0) = (0 : Int)
 by_cases h1 : within g.id 0 2 = false ∨ within g.seq 0 99 = false
 ·rw [if_pos h1] at h; simp at h
 rw [if_neg h1] at h ⊢
 by_cases h2 : isZone g.zone = false
 ·rw [if_pos h2] at h; simp at h
 rw [if_neg h2] at h ⊢
 by_cases h3 : 12 < g.alone.length
 ·rw [if_pos h3] at h; simp at h
 rw [if_neg h3] at h ⊢
 by_cases h4 : aloneE g ≠ 0
 ·rw [if_pos h4] at h; exact absurd h h4
 rw [if_neg h4]
 rfl
def bareS (s : St) : St := ⟨s.ledger, s.denied, s.gates.map bareG, s.views⟩
theorem bareS_right {s : St} (h : ckSt s = 0) : ckSt (bareS s) = 0 := by
 obtain ⟨h1, h2, h3, h4, h5⟩ := ckSt_ok.1 h
 refine ckSt_ok.2 ⟨h1, h2, by simp [bareS, h3], ?_, h5⟩
 have hv : 0 ≤ s.denied.version := by
  unfold ckDn at h2
  by_cases hw : within s.denied.version 0 999 = false
  ·rw [if_pos hw] at h2; simp at h2
  ·simp [within] at hw; omega
 refine ckGates_ok.2 (fun k hk => ?_)
 have hk' : k < s.gates.length := by simpa [bareS] using hk
 have ha := ckGates_ok.1 h4 k hk'
 have he : (bareS s).gates[k] = bareG s.gates[k] := by simp [bareS]
 rw [he]
 show atG s.ledger.taps s.denied.version _ (bareG s.gates[k]) = 0
 unfold atG at ha ⊢
 by_cases c1 : ckGate s.gates[k] = 0
 ·rw [if_neg (by simpa using c1)] at ha
  rw [if_neg (by simpa using bare_right c1)]
  by_cases c2 : s.gates[k].id ≠ ((0 + k : Nat) : Int) ∨ s.denied.version < s.gates[k].denied.version
  ·rw [if_pos c2] at ha; simp at ha
  ·rw [if_neg c2] at ha
   have c3 : ¬ ((bareG s.gates[k]).id ≠ ((0 + k : Nat) : Int) ∨ s.denied.version < (bareG s.gates[k]).denied.version) := by
    intro hc
    rcases hc with hc | hc
    ·exact c2 (.inl hc)
    ·exact absurd hc (by show ¬ s.denied.version < 0; omega)
   rw [if_neg c3]
   exact ha
 ·rw [if_pos c1] at ha; exact absurd ha c1
theorem textTo_bare (s : St) : ∀ k, textTo (bareS s) k = textTo s k
 | 0 => rfl
 | k + 1 => by
  show (textTo (bareS s) k ++ _) ++ _ = (textTo s k ++ _) ++ _
  rw [textTo_bare s k]
  rfl
theorem textAll_bare {s : St} (h : ckSt s = 0) : textAll (bareS s) = (textR s, 0) := by
 rw [textAll_ok (bareS_right h)]
 exact congrArg (fun l => (l, (0 : Int))) (textTo_bare s _)
theorem textR_count (s : St) : (textR s).countP (· == 10) = s.ledger.tickets.length + 1 := textTo_count s _ (Nat.le_refl _)
def bareY (y : Gy) : Gy := ⟨bareG y.g, y.sa, .slice none 0 0⟩
/-- the first k are bare -/
def bareTo (ys : List Gy) (k : Nat) : List Gy := (ys.take k).map bareY ++ ys.drop k
theorem bareTo_zero (ys : List Gy) : bareTo ys 0 = ys := by simp [bareTo]
theorem bareTo_len (ys : List Gy) (k : Nat) : (bareTo ys k).length = ys.length := by simp [bareTo]; omega
theorem bareTo_get (ys : List Gy) (k : Nat) (h : k < ys.length) (h2 : k < (bareTo ys k).length) : (bareTo ys k)[k] = ys[k] := by
 have h3 : (bareTo ys k)[k]? = some ys[k] := by
  unfold bareTo
  rw [List.getElem?_append_right (by simp; omega)]
  simp [Nat.min_eq_left (Nat.le_of_lt h), h]
 rw [List.getElem?_eq_getElem h2] at h3
 exact Option.some.inj h3
theorem bareTo_succ (ys : List Gy) (k : Nat) (h : k < ys.length) : bareTo ys (k + 1) = (bareTo ys k).set k (bareY ys[k]) := by
 unfold bareTo
 rw [List.take_succ_eq_append_getElem h, List.map_append, List.set_append_right _ _ (by simp; omega)]
 simp [Nat.min_eq_left (Nat.le_of_lt h)]
 rw [List.drop_eq_getElem_cons h, List.set_cons_zero]
theorem bareTo_all (ys : List Gy) : bareTo ys ys.length = ys.map bareY := by simp [bareTo]
theorem own_bare {base g n c : Nat} {w : World} {l : List Gy} (h : OwnL 47 8 gyc base w (.slice (some ⟨g, 0, none⟩) n c) l) (k : Nat) (hk : k < l.length) :
  OwnL 47 8 gyc base ((((w.setCell ⟨g, k * 8 + 6, none⟩ (.int .i64 0)).setCell ⟨g, k * 8 + 7, none⟩ (.int .i64 0)).setCell ⟨g, k * 8 + 4, none⟩ (.int .i64 0)).setCell ⟨g, k * 8 + 5, none⟩ (.slice none 0 0)) (.slice (some ⟨g, 0, none⟩) n c) (l.set k (bareY l[k])) := by
 obtain ⟨y, hy⟩ : ∃ y, y = l[k] := ⟨_, rfl⟩
 have h1 := OwnL.put_field gyc_size h k 6 hk (by decide) ⟨⟨y.g.id, y.g.zone, y.g.seq, y.g.alone, y.g.denied, 0, y.g.untl⟩, y.sa, y.si⟩ (.int .i64 0) (by rw [hy]; rfl)
 have h2 := OwnL.put_field gyc_size h1 k 7 (by rw [List.length_set]; exact hk) (by decide) ⟨⟨y.g.id, y.g.zone, y.g.seq, y.g.alone, y.g.denied, 0, 0⟩, y.sa, y.si⟩ (.int .i64 0) (by rw [List.getElem_set_self]; rfl)
 have h3 := OwnL.put_field gyc_size h2 k 4 (by rw [List.length_set, List.length_set]; exact hk) (by decide) ⟨⟨y.g.id, y.g.zone, y.g.seq, y.g.alone, ⟨0, y.g.denied.ids⟩, 0, 0⟩, y.sa, y.si⟩ (.int .i64 0) (by rw [List.getElem_set_self]; rfl)
 have h4 := OwnL.put_field gyc_size h3 k 5 (by rw [List.length_set, List.length_set, List.length_set]; exact hk) (by decide) (bareY y) (.slice none 0 0) (by rw [List.getElem_set_self]; rfl)
 rw [List.set_set, List.set_set, List.set_set] at h4
 rw [← hy]
 exact h4
set_option maxHeartbeats 32000000 in
theorem law_ReportHangs (s : St) (x : Sv) (w : World) (HT : TabE w) (hr : RdS w x s) :
  Calls Tryd.prog 4 #[.agg (sta s x)] w fun e w' => e = .returned (.bool true) ∧ Ext w w' := by
 have KT := Lib.hid (fun (w' : World) (h : Ext w w') => report_Text s x w' (HT.ext h) (hr.ext h))
 have KB := Lib.hid (fun (w' : World) (h : Ext w w') => law_reportBegun w' (HT.ext h))
 by_cases hck : ckSt s = 0
 case neg =>
  rw [textAll_no hck] at KT
  have hqb : (ckSt s != 0) = true := by simpa using hck
  generalize ckSt s = q at *
  obtain ⟨A0, c0, e0, -, -⟩ := hr.tk.form
  obtain ⟨A1, c1, e1, -, -⟩ := hr.tp.form
  obtain ⟨A2, c2, e2, -, -⟩ := hr.vd.form
  obtain ⟨A3, c3, e3, -, -⟩ := hr.dn.form
  obtain ⟨A4, c4, e4, -, -⟩ := hr.gt.form
  obtain ⟨A5, c5, e5, -, -⟩ := hr.vw.form
  obtain ⟨s0, s1, s2, si, sg, sv⟩ := x
  simp only at e0 e1 e2 e3 e4 e5
  subst e0 e1 e2 e3 e4 e5
  clear hr HT hck
  unfold sta at KT ⊢
  simp only at KT ⊢
  have hbe := bs_self (bs [])
  have hbf := bs_nil
  have hbg : ((bs []).toList == (⟨#[]⟩ : ByteArray).toList) = true := hbe
  go_enter Tryd.func4, Tryd.ntmps4
  go_wp2_with fail
  (refine (KT.out _ (by exact extA)).mono ?_; rintro e w1 ⟨rfl, h1⟩; have H1 := Lib.hid h1; have hz1 := h1.size; clear h1; (try simp only [World.size_alloc, size_set, World.heap_drewN, size_drew] at hz1); apply Row.use (w := w1) (g := w.heap.size); (focus (exact rowA)); intro q1_0 f1_0 l1_0 R1_0; (try simp only [lSet] at q1_0 R1_0))
  go_wp2_with fail
  (refine (KB.out _ (by exact extA)).mono ?_; rintro e w2 ⟨rfl, h2⟩; have H2 := Lib.hid h2; have hz2 := h2.size; clear h2; (try simp only [World.size_alloc, size_set, World.heap_drewN, size_drew] at hz2); apply Row.use (w := w2) (g := w.heap.size); (focus (exact rowA)); intro q2_0 f2_0 l2_0 R2_0; (try simp only [lSet] at q2_0 R2_0))
  go_wp2_with fail
  (refine (law_leadBegun _).mono ?_; rintro e w3 ⟨rfl, h3⟩; have H3 := Lib.hid h3; have hz3 := h3.size; clear h3; (try simp only [World.size_alloc, size_set, World.heap_drewN, size_drew] at hz3); apply Row.use (w := w3) (g := w.heap.size); (focus (exact rowA)); intro q3_0 f3_0 l3_0 R3_0; (try simp only [lSet] at q3_0 R3_0))
  go_wp2_with fail
  go_ret
  exact ⟨rfl, (show Ext w _ by exact extA)⟩
 rw [textAll_ok hck] at KT
 have hcnt := textR_count s
 obtain ⟨hL, hD, hg3, hG, hV⟩ := ckSt_ok.1 hck
 have htl : (textR s).length ≤ 8000000 := by
  have h1 := textTo_len hL (who_in hV).2 s.ledger.tickets.length (Nat.le_refl _)
  have h2 := (right_iff.1 hL).1
  unfold textR
  omega
 have h12 := (right_iff.1 hL).1
 have KT2 := Lib.hid (fun (x' : Sv) (w' : World) (h : Ext w w') (hx : RdS w' x' (bareS s)) => report_Text (bareS s) x' w' (HT.ext h) hx)
 rw [textAll_bare hck] at KT2
 obtain ⟨ys, hys, hrow, hin⟩ := hr.gt
 have hyl : ys.length = 3 := by rw [hys] at hg3; simpa using hg3
 have HYS := Lib.hid (And.intro hys (And.intro hin hyl))
 have HROW := Lib.hid hrow
 have HRS := Lib.hid hr
 have HCNT := Lib.hid hcnt
 obtain ⟨i0, ji, ji0, ji1, ji2⟩ := info_parts info_gtC
 obtain ⟨A0, c0, e0, -, -⟩ := hr.tk.form
 obtain ⟨A1, c1, e1, -, -⟩ := hr.tp.form
 obtain ⟨A2, c2, e2, -, -⟩ := hr.vd.form
 obtain ⟨A3, c3, e3, -, -⟩ := hr.dn.form
 obtain ⟨A4, c4, e4, -, -⟩ := hrow.form
 obtain ⟨A5, c5, e5, -, -⟩ := hr.vw.form
 obtain ⟨s0, s1, s2, si, sg, sv⟩ := x
 simp only at e0 e1 e2 e3 e4 e5
 subst e0 e1 e2 e3 e4 e5
 clear hr HT hck hcnt hL hD hg3 hG hV hrow hin hys hyl
 unfold sta at KT ⊢
 simp only at KT HROW HRS ⊢
 generalize hTT : textR s = T at *
 have HTT := Lib.hid hTT
 clear hTT
 go_enter Tryd.func4, Tryd.ntmps4
 go_wp2_with fail
 (refine (KT.out _ (by exact extA)).mono ?_; rintro e w1 ⟨rfl, h1⟩; have H1 := Lib.hid h1; have hz1 := h1.size; clear h1; (try simp only [World.size_alloc, size_set, World.heap_drewN, size_drew] at hz1); apply Row.use (w := w1) (g := w.heap.size); (focus (exact rowA)); intro q1_0 f1_0 l1_0 R1_0; (try simp only [lSet] at q1_0 R1_0))
 go_wp2_with fail
 (refine (KB.out _ (by exact extA)).mono ?_; rintro e w2 ⟨rfl, h2⟩; have H2 := Lib.hid h2; have hz2 := h2.size; clear h2; (try simp only [World.size_alloc, size_set, World.heap_drewN, size_drew] at hz2); apply Row.use (w := w2) (g := w.heap.size); (focus (exact rowA)); intro q2_0 f2_0 l2_0 R2_0; (try simp only [lSet] at q2_0 R2_0))
 go_wp2_with fail
 (refine (law_leadBegun _).mono ?_; rintro e w3 ⟨rfl, h3⟩; have H3 := Lib.hid h3; have hz3 := h3.size; clear h3; (try simp only [World.size_alloc, size_set, World.heap_drewN, size_drew] at hz3); apply Row.use (w := w3) (g := w.heap.size); (focus (exact rowA)); intro q3_0 f3_0 l3_0 R3_0; (try simp only [lSet] at q3_0 R3_0))
 go_upto_region 7 with fail
 obtain ⟨p, hpe⟩ : ∃ p, p = w3.heap.size := ⟨_, rfl⟩
 rw [← hpe]
 have hpw : w.heap.size < p := by omega
 have HP0 := Lib.hid (show Row (w3.alloc (.cells #[.slice A0 s.ledger.tickets.length c0, .slice A1 s.ledger.taps.length c1, .slice A2 s.ledger.verdicts.length c2, .int .i64 s.denied.version, .slice A3 s.denied.ids.length c3, .slice A4 ys.length c4, .slice A5 s.views.length c5] 32)) p #[.slice A0 s.ledger.tickets.length c0, .slice A1 s.ledger.taps.length c1, .slice A2 s.ledger.verdicts.length c2, .int .i64 s.denied.version, .slice A3 s.denied.ids.length c3, .slice A4 ys.length c4, .slice A5 s.views.length c5] from by rw [hpe]; exact Row.new)
 clear hpe
 (apply wp_gen2 (w0 := w) (g0 := w.heap.size) (g1 := p); (focus (exact rowA)); (focus (exact rowA)); (focus (exact extA)); intro W HW hzW Ra_0 Ra_1; (try simp only [lSet, World.size_alloc, size_set, World.heap_drewN, size_drew] at hzW Ra_0 Ra_1); have la_0 := Ra_0.out.size; have la_1 := Ra_1.out.size)
 have HWW := Lib.hid (And.intro trivial HW.out)
 (apply Row.use (w := W) (g := w.heap.size); (focus (exact rowA)); intro qd_0 fd_0 ld_0 Rd_0; (try simp only [lSet] at qd_0 Rd_0); apply Row.use (w := W) (g := p); (focus (exact rowA)); intro qd_1 fd_1 ld_1 Rd_1; (try simp only [lSet] at qd_1 Rd_1))
 go_wp2_with (at_builtin; go_loud (refine wpList_append_rd (enc := gyc) (k := 8) _ rfl _ _ 29 rfl W.heap.size 47 i0 (.agg #[.int .i64 0, .int .i64 0, .int .i64 0, .slice none 0 0, .int .i64 0, .slice none 0 0, .int .i64 0, .int .i64 0]) 96 Tryd.underlying29 ji ji0 ji1 ji2 rfl (by decide) gyc_size _ ([] : List Gy) rfl (OwnL.made (base := W.heap.size) (by simp) (by simp)) _ ys rfl (HROW.out.ext (HWW.out.2.trans ((Ext.refl _).alloc _))) (gyc_ones (w := w) HYS.out.2.1) ?g1 ?g2 (by simp) ?_))
 case g1 => have := HYS.out.2.2; unfold maxLen; simp; omega
 case g2 => have := HYS.out.2.2; simp; omega
 intro v8 w8 ho8 hg8 hn8
 (try simp only [List.nil_append] at ho8)
 obtain ⟨g8, c8, rfl, hg8w, hz8, -⟩ := ho8.slot (by rw [HYS.out.2.2]; decide)
 have HO8 := Lib.hid ho8
 have HE8 := Lib.hid (Ext.grown ((Ext.refl W).alloc (.cells #[] 47)) hg8 (fun q hq => by simp [Value.ownBlock] at hq; omega))
 clear ho8 hg8 hn8
 have hne : p ≠ g8 := by omega
 have hne2 : g8 ≠ p := by omega
 have hnw : w.heap.size ≠ g8 := by omega
 (apply Row.use (w := w8) (g := w.heap.size); (focus (exact rowA)); intro q8_0 f8_0 l8_0 R8_0; (try simp only [lSet] at q8_0 R8_0); apply Row.use (w := w8) (g := p); (focus (exact rowA)); intro q8_1 f8_1 l8_1 R8_1; (try simp only [lSet] at q8_1 R8_1))
 have hE8 : Ext w w8 := by exact extA
 have HX8 := Lib.hid (And.intro trivial hE8)
 clear hE8
 go_wp2_with fail
 go_loopg [6] 3 (fun gg s6 wr => ∃ k : Nat, k ≤ 3 ∧ 3 - k ≤ gg ∧ s6 = .int .i64 k ∧ Aside (Ext w wr ∧ Row wr w.heap.size #[.slice A0 s.ledger.tickets.length c0, .slice A1 s.ledger.taps.length c1, .slice A2 s.ledger.verdicts.length c2, .int .i64 s.denied.version, .slice A3 s.denied.ids.length c3, .slice A4 ys.length c4, .slice A5 s.views.length c5] ∧ Row wr p #[.slice A0 s.ledger.tickets.length c0, .slice A1 s.ledger.taps.length c1, .slice A2 s.ledger.verdicts.length c2, .int .i64 s.denied.version, .slice A3 s.denied.ids.length c3, .slice (some ⟨g8, 0, none⟩) ys.length c8, .slice A5 s.views.length c5] ∧ OwnL 47 8 gyc W.heap.size wr (.slice (some ⟨g8, 0, none⟩) ys.length c8) (bareTo ys k)))
 case atStart => exact ⟨0, by omega, by omega, rfl, Ext.setC (Nat.le_of_lt hpw) HX8.out.2, by exact rowA, by
  have h := Row.set_ (i := 5) (u := .slice (some ⟨g8, 0, none⟩) ys.length c8) R8_1.out
  simpa only [List.setIfInBounds_toArray, List.set_cons_zero, List.set_cons_succ] using h, by rw [bareTo_zero]; exact OwnL.setC (by simp [Value.ownBlock]; omega) HO8.out⟩
 case round =>
  obtain ⟨k, hk, hgg, rfl, HV⟩ := hrel
  obtain ⟨v1, v2, v3, v4⟩ := HV.out
  have HE := Lib.hid (And.intro trivial v1)
  have HB := Lib.hid v2
  have HP := Lib.hid v3
  have HO := Lib.hid v4
  have hgr := (v4.lt g8 rfl).2
  clear HV v1 v2 v3 v4
  apply Row.use HB.out; intro qb fb lb Rb
  apply Row.use HP.out; intro qp fp lp Rp
  have hyl := HYS.out.2.2
  by_cases hlt : k < 3
  ·have hk8 : k < ys.length := by omega
   have hk8' : (k : Int) < (ys.length : Int) := by omega
   have hbl : k < (bareTo ys k).length := by rw [bareTo_len]; exact hk8
   have HN := Lib.hid (own_bare HO.out k hbl)
   rw [bareTo_get ys k hk8 hbl, ← bareTo_succ ys k hk8] at HN
   obtain ⟨j4, i4⟩ := HO.out.field gyc_size k 4 hbl (by omega) _ rfl
   obtain ⟨j5, i5⟩ := HO.out.field gyc_size k 5 hbl (by omega) _ rfl
   obtain ⟨j6, i6⟩ := HO.out.field gyc_size k 6 hbl (by omega) _ rfl
   obtain ⟨j7, i7⟩ := HO.out.field gyc_size k 7 hbl (by omega) _ rfl
   generalize (bareTo ys k)[k] = y at *
   have hk3 : (k : Int) < 3 := by omega
   clear hbl hyl
   go_wp2_with fail
   go_roundg (3 - (k + 1))
   case measure => omega
   case rel =>
    have hwg : w.heap.size ≤ g8 := by omega
    exact ⟨k + 1, by omega, by omega, by go_num, Ext.setC hwg (Ext.setC hwg (Ext.setC hwg (Ext.setC hwg HE.out.2))), Row.far hnw (Row.far hnw (Row.far hnw (Row.far hnw HB.out))), Row.far hne (Row.far hne (Row.far hne (Row.far hne HP.out))), HN.out⟩
  ·have hge : ¬ (k : Int) < 3 := by omega
   have hge2 : ¬ (k : Int) < (ys.length : Int) := by omega
   have hkl : k = ys.length := by omega
   have HALL := Lib.hid (show OwnL 47 8 gyc W.heap.size wr (.slice (some ⟨g8, 0, none⟩) ys.length c8) (ys.map bareY) from by have h := HO.out; rw [hkl, bareTo_all] at h; exact h)
   have HX := Lib.hid (show RdS wr ⟨.slice A0 s.ledger.tickets.length c0, .slice A1 s.ledger.taps.length c1, .slice A2 s.ledger.verdicts.length c2, .slice A3 s.denied.ids.length c3, .slice (some ⟨g8, 0, none⟩) ys.length c8, .slice A5 s.views.length c5⟩ (bareS s) from
    ⟨HRS.out.tk.ext HE.out.2, HRS.out.tp.ext HE.out.2, HRS.out.vd.ext HE.out.2, HRS.out.dn.ext HE.out.2, ⟨ys.map bareY, by simp [bareS, HYS.out.1, bareY], HALL.out.rd gyc_size, fun y hy => by
     obtain ⟨z, hz, rfl⟩ := List.mem_map.1 hy
     exact ⟨(HYS.out.2.1 z hz).1.ext HE.out.2, RdL.nil⟩⟩, HRS.out.vw.ext HE.out.2⟩)
   clear hkl hyl HO
   go_wp2_with fail
   refine (KT2.out _ _ HE.out.2 HX.out).mono ?_
   rintro e w9 ⟨rfl, h9⟩
   have H9 := Lib.hid h9
   have HE9 := Lib.hid (And.intro trivial (HE.out.2.trans h9))
   clear h9 HALL HX HROW KT2
   (apply Row.use (w := w9) (g := w.heap.size); (focus (exact rowA)); intro q9_0 f9_0 l9_0 R9_0; (try simp only [lSet] at q9_0 R9_0))
   clear qb fb lb Rb qp fp lp Rp
   have hsz := bs_size T
   go_wp2_with fail
   go_loopg [9, 10] T.length (fun gg s9 s10 wr => wr = w9 ∧ ∃ k : Nat, k ≤ T.length ∧ T.length - k ≤ gg ∧ s9 = .int .i64 ((T.take k).countP (· == 10) : Nat) ∧ s10 = .int .i64 k)
   case atStart => exact ⟨rfl, 0, by omega, by omega, by simp, rfl⟩
   case round =>
    obtain ⟨rfl, k', hk', hgg', rfl, rfl⟩ := hrel
    by_cases hlt' : k' < T.length
    ·have hlt2 : (k' : Int) < (T.length : Int) := by omega
     have hltn : k' < (bs T).size := by omega
     have hget : (bs T)[k']'hltn = T[k'] := rfl
     have hct : (T.take (k' + 1)).countP (· == 10) = (T.take k').countP (· == 10) + (if T[k'] == 10 then 1 else 0) := by
      rw [List.take_succ_eq_append_getElem hlt', List.countP_append, List.countP_singleton]
      rfl
     have hcl : (T.take k').countP (· == 10) ≤ T.length := Nat.le_trans List.countP_le_length (by simp; omega)
     generalize T[k'] = y at *
     generalize (T.take k').countP (· == 10) = n1 at *
     generalize hn2 : (T.take (k' + 1)).countP (· == 10) = n2 at *
     have HN2 := Lib.hid hn2
     clear hn2
     have hw1 : IntKind.i64.wrap ((n1 : Int) + 1) = ((n1 + 1 : Nat) : Int) := by rw [IntWalk.i64_in _ (by omega)]; omega
     by_cases hy : y = 10
     ·subst hy
      have hct2 : n2 = n1 + 1 := by simpa using hct
      subst hct2
      clear hct
      go_wp2_with fail
      go_roundg (T.length - (k' + 1))
      case measure => omega
      case rel => exact ⟨rfl, k' + 1, by omega, by omega, by rw [HN2.out]; exact congrArg (Value.int .i64) (by omega), by go_num⟩
     ·have hyb : ((y.toNat : Int) == 10) = false := by
       rw [beq_eq_false_iff_ne]
       intro hc
       apply hy
       have : y.toNat = 10 := by omega
       exact UInt8.toNat_inj.1 this
      have hct2 : n2 = n1 := by simpa [hy] using hct
      subst hct2
      clear hct hy
      go_wp2_with fail
      go_roundg (T.length - (k' + 1))
      case measure => omega
      case rel => exact ⟨rfl, k' + 1, by omega, by omega, by rw [HN2.out], by go_num⟩
    ·have hge3 : ¬ (k' : Int) < (T.length : Int) := by omega
     have hkt : k' = T.length := by omega
     have hcn : (T.take k').countP (· == 10) = s.ledger.tickets.length + 1 := by
      rw [hkt, List.take_length]
      exact HCNT.out
     rw [hcn]
     have hbe := bs_self (bs T)
     have hw2 : IntKind.i64.wrap ((s.ledger.tickets.length : Int) + 1) = ((s.ledger.tickets.length + 1 : Nat) : Int) := by rw [IntWalk.i64_in _ (by omega)]; omega
     clear hcn hkt
     go_wp2_with fail
     go_ret
     exact ⟨by simp, HE9.out.2.trans (show Ext _ _ by exact extA)⟩
end Go.Proofs.YteojjbhadgkfgaaDoor

namespace Go.Proofs.YteojjbhadgkfgaaDoor
set_option linter.unusedSimpArgs false
set_option linter.unusedVariables false
open Go.ChangeShapes Go.WideShapes Go.ChangeAt Go.RowKit
open Go.ChangeMaps (open_string shut_string)

/-- what the row lists gives the table -/
theorem tab_of_laid {W : World} (h : laidMetH Tryd.prog Rows.reportHangsRow.laid W) : Lib.TabIs Tryd.prog W tabN .u64 Lib.pow10Tab := by
 rw [MakeChecks.laidMetH_plain _ _ _ (by kernel_rfl)] at h
 have h2 : laidMet Tryd.prog [(tabN, Lib.tabData .u64 Lib.pow10Tab)] W := (laidMet.tail h).tail
 exact Lib.tabIs_of_head (g := 0) (t := 133) (e := 107) (n := 20) (by kernel_rfl) (by kernel_rfl) Tryd.underlying133 Tryd.underlying107 (by kernel_rfl) (by kernel_rfl) h2
theorem laid_met (os : Os) (args : Array Value) : laidMetH Tryd.prog Rows.reportHangsRow.laid ((World.laidAll Tryd.prog os Rows.reportHangsRow.laid).forCall (fun _ _ => 0) ⟨#[], args, []⟩).memory := by
 rw [MakeChecks.laidMetH_plain _ _ _ (by kernel_rfl)]
 exact laidMet_laidAll _ (by kernel_rfl) (by kernel_rfl)

set_option maxRecDepth 100000 in
theorem reportHangs_lifted (os : Os) (started : os.Started) (H : Type) (enc : TypeId × Value → H) :
  ReturnsInHanded {} Tryd.checked os 4 .any (fun w args => (Rows.reportHangsSpec.pre enc Tryd.prog Tryd.f4 Rows.reportHangsRow.domain false w args ∧ laidMetH Tryd.prog Rows.reportHangsRow.laid w) ∧ sizedMet enc Tryd.prog Tryd.f4 (OpenSpec.ofChange Rows.reportHangsSpec) false w args)
   (Rows.reportHangsSpec.post enc Tryd.prog Tryd.f4 false true false false) := by
 refine returnsInHanded_of_change_and (C := Tryd.checked) (X := fun w _ => laidMetH Tryd.prog Rows.reportHangsRow.laid w) (fun _ _ _ hh h => h.of_heap hh) own started (by kernel_rfl) Tryd.func4
  (ChangeSpec.witness_shaped (enc := enc) (C := Tryd.checked) (os := os) (X := fun w _ => laidMetH Tryd.prog Rows.reportHangsRow.laid w) false (World.laidAll Tryd.prog os Rows.reportHangsRow.laid) #[.agg #[.slice none 0 0, .slice none 0 0, .slice none 0 0, .int .i64 0, .slice none 0 0, .slice none 0 0, .slice none 0 0]] 8 (World.laidAll_os _ _ _) (World.shaped_of_ZipB (by kernel_rfl) (by kernel_rfl)) (by kernel_rfl) (by kernel_rfl) (by kernel_rfl) (laid_met os _)) ?_
 intro W base args ds gs before hval0 hW _ _ hL _
 have HT := tabE_of (tab_of_laid hL)
 have hval : ∀ (j : Nat) t v, Tryd.f4.params[j]? = some t → args[j]? = some v → Value.okWide Tryd.prog W .any base t v := hval0
 have hW' := hW
 obtain ⟨p, q, hA0, hV, rfl, hfz, hnd⟩ := hW
 have hA : DataW.TrodAll enc Tryd.prog W 0 (fun _ => true) true Tryd.f4.params.toList args.toList ds p := hA0
 rw [Tryd.params4] at hA hval
 obtain ⟨v0, vs0, d0, ds0, p0, q0, hargs, rfl, rfl, h0, r0⟩ := trodAll_cons hA
 obtain ⟨rfl, rfl, rfl⟩ := trodAll_nil r0
 obtain rfl : args = #[v0] := by cases args; simp_all
 obtain ⟨rfl, rfl⟩ := trodVars_none hV
 have k0 := h0
 have lt0 : ∀ x ∈ p0, x.block < W.heap.size := by obtain ⟨m, hm⟩ := k0; exact DataW.trod_lt m _ _ _ hm
 obtain ⟨t0, x0, rfl, e0⟩ := open_st (hval 0 32 v0 rfl rfl) h0
 clear hA0 hval0
 refine (law_ReportHangs t0 x0 W HT e0).mono fun e W' ⟨he, bel⟩ => ?_
 subst he
 exact ⟨_, rfl, _, _, _, [], _, [], hW', trodAll_mk1 (shut_bool Tryd.underlying4 _), (trodAll_cons_mk (Below.trod laidOut (by kernel_rfl) (of_decide_eq_true (by kernel_rfl)) k0 bel lt0) trodAll_mk0), rfl, bel.frame _, fun h => by cases h⟩

theorem reportHangs_holds : Rows.ReportHangsSaid :=
 OpenClaim.holds_of_wide 4 Tryd.f4 rfl rfl rfl rfl rfl rfl rfl ⟨rfl, rfl, rfl, rfl, rfl⟩ rfl rfl rfl rfl rfl (by kernel_rfl) Tryd.func4 (by kernel_rfl)
  (of_decide_eq_true (by kernel_rfl)) (by unfold Func.isWrapper; first | (rw [if_pos (by decide +kernel)]; kernel_rfl) | (rw [if_neg (by decide +kernel)]; exact ⟨rfl, rfl⟩))
  (fun os started H enc _ => reportHangs_lifted os started H enc)

/-- the tied card -/
theorem reportHangs_card : Rows.ReportHangsCardSaid :=
 Claim7.holds_tied_plain_at .later [] [.data, .data, .data] true Rows.reportHangsCard.stood.harness false
  reportHangs_holds (fun _ h => by cases h) (by kernel_rfl) (fun _ h => by cases h) reportHangs_row_tie rfl ⟨rfl, rfl⟩ (by kernel_rfl) rfl
  (fun f fn hf hfn => by
   obtain rfl : f = 4 := Option.some.inj ((show Tryd.prog.funcNamed Rows.reportHangsRow.func = some 4 by kernel_rfl).symm.trans hf) |>.symm
   obtain rfl : fn = Tryd.f4 := (Option.some.inj (Tryd.func4.symm.trans hfn)).symm
   exact ⟨by kernel_rfl, fun j t ht => by
    rw [Tryd.params4] at ht
    have hm : t ∈ [32] := by simpa using Array.mem_of_getElem? ht
    have hall : ([32].all fun u => !Tryd.prog.wantsStandIn u) = true := by kernel_rfl
    exact (show Tryd.prog.wantsStandIn t = false by simpa using List.all_eq_true.1 hall t hm)⟩)
  (by kernel_rfl)

end Go.Proofs.YteojjbhadgkfgaaDoor
