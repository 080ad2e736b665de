/- Taps, gates side by side; a sync by the document. -/
import Derived.Test.YthollackhkiofaaGtH
import Derived.Test.YthollackhkiofaaDnH
namespace Go.Proofs.Ythollackhkiofaa
set_option linter.unusedSimpArgs false
set_option linter.unusedVariables false
set_option maxRecDepth 100000
open Go Go.RowKit Lb

theorem neq_tp (a b c d e a' b' c' d' e' : Int) (W : World) :
    (binOp .neq 64 (.agg #[.int .i64 a, .int .i64 b, .int .i64 c, .int .i64 d, .int .i64 e]) (.agg #[.int .i64 a', .int .i64 b', .int .i64 c', .int .i64 d', .int .i64 e'])).run Try.prog W = .ok (.bool (!decide ((⟨a, b, c, d, e⟩ : Tp) = ⟨a', b', c', d', e'⟩))) W := by
  have hst : Try.prog.stoodInHeld 64 = false := by kernel_rfl
  simp [go_sem, hst]
  repeat' split
  all_goals simp_all
theorem eql_tp (a b c d e a' b' c' d' e' : Int) (W : World) :
    (binOp .eql 64 (.agg #[.int .i64 a, .int .i64 b, .int .i64 c, .int .i64 d, .int .i64 e]) (.agg #[.int .i64 a', .int .i64 b', .int .i64 c', .int .i64 d', .int .i64 e'])).run Try.prog W = .ok (.bool (decide ((⟨a, b, c, d, e⟩ : Tp) = ⟨a', b', c', d', e'⟩))) W := by
  have hst : Try.prog.stoodInHeld 64 = false := by kernel_rfl
  simp [go_sem, hst]
  repeat' split
  all_goals simp_all
theorem eql_bd (a b a' b' : Int) (W : World) :
    (binOp .eql 58 (.agg #[.int .i64 a, .int .i64 b]) (.agg #[.int .i64 a', .int .i64 b'])).run Try.prog W = .ok (.bool (a == a' && b == b')) W := by
  have hst : Try.prog.stoodInHeld 58 = false := by kernel_rfl
  simp [go_sem, hst]
  repeat' split
  all_goals simp_all

set_option maxHeartbeats 1000000 in
theorem ref_SameTaps (l m : List Tp) (v u : Value) (w : World) (hr : RdL 5 tpc w v l) (hs : RdL 5 tpc w u m) :
    Calls Try.prog 44 #[v, u] w fun e w' => e = .returned (.bool (l == m)) ∧ Ext w w' := by
  obtain ⟨A, c, rfl, hmc, hmm⟩ := hr.form
  obtain ⟨A2, c2, rfl, -, -⟩ := hs.form
  have hm : l.length ≤ 9223372036854775807 := by unfold maxLen at hmm; omega
  have HRd := Lib.hid hr
  have HSd := Lib.hid hs
  clear hr hmm hmc hs
  by_cases hl : l.length = m.length
  · rw [← hl] at HSd ⊢
    have HL := Lib.hid hl
    generalize hR : (l == m) = r
    have HR := Lib.hid hR
    clear hR hl
    go_enter Try.func44, Try.ntmps44
    go_wp2_with fail
    go_loopg [4, 5] l.length (fun gg _ s5 wr => ∃ k : Nat, k ≤ l.length ∧ l.length - k ≤ gg ∧ s5 = .int .i64 k ∧ Aside (Ext w wr) ∧ Aside ((l.drop k == m.drop k) = r))
    case atStart => exact ⟨0, by omega, by omega, rfl, Ext.refl _, HR.out⟩
    case round =>
      obtain ⟨k, hk, hg, rfl, HE, HA⟩ := hrel
      by_cases hlt : k < l.length
      · have hlt' : (k : Int) < (l.length : Int) := by omega
        have hltm : k < m.length := by have := HL.out; omega
        obtain ⟨b, o, rfl, hb, c0, c1, c2', c3, c4⟩ := (HRd.out.ext HE.out).tp_at rfl hlt
        obtain ⟨b2, o2, rfl, hb2, d0, d1, d2, d3, d4⟩ := (HSd.out.ext HE.out).tp_at rfl hltm
        have hA := HA.out
        rw [List.drop_eq_getElem_cons hlt, List.drop_eq_getElem_cons hltm, List.cons_beq_cons] at hA
        generalize l[k] = x at *
        generalize m[k] = y at *
        obtain ⟨x0, x1, x2, x3, x4⟩ := x
        obtain ⟨y0, y1, y2, y3, y4⟩ := y
        simp only at c0 c1 c2' c3 c4 d0 d1 d2 d3 d4
        have hn := neq_tp x0 x1 x2 x3 x4 y0 y1 y2 y3 y4
        by_cases hx : (⟨x0, x1, x2, x3, x4⟩ : Tp) = ⟨y0, y1, y2, y3, y4⟩
        · rw [decide_eq_true hx] at hn
          have hA2 : (l.drop (k + 1) == m.drop (k + 1)) = r := by rw [← hA]; simp [hx]
          have HA2 := Lib.hid hA2
          clear hA hA2 HA hx
          go_wp2_with fail
          go_quiet (fail)
          go_wp2_with fail
          go_roundg (l.length - (k + 1))
          case measure => omega
          case rel => exact ⟨k + 1, by omega, by omega, by go_num, HE.out.drewN _, HA2.out⟩
        · rw [decide_eq_false hx] at hn
          have hA2 : r = false := by rw [← hA, beq_eq_false_iff_ne.2 hx]; rfl
          have HA2 := Lib.hid hA2
          clear hA hA2 HA hx
          go_wp2_with fail
          go_quiet (fail)
          go_wp2_with fail
          go_ret
          exact ⟨ret_bool (by rw [HA2.out]), HE.out.drewN _⟩
      · have hkl : k = l.length := by omega
        have hge : ¬ (k : Int) < (l.length : Int) := by omega
        have hA := HA.out
        rw [hkl, List.drop_length, HL.out, List.drop_length] at hA
        have HA2 := Lib.hid hA
        clear hA HA hkl
        go_wp2_with fail
        go_ret
        exact ⟨ret_bool (by rw [← HA2.out]; rfl), HE.out⟩
  · have hl1 : ((l.length : Int) != (m.length : Int)) = true := by
      have : (l.length : Int) ≠ (m.length : Int) := by omega
      simpa using this
    have hl2 : (l == m) = false := by
      rw [beq_eq_false_iff_ne]
      rintro rfl
      exact hl rfl
    rw [hl2]
    clear hl HRd HSd
    go_enter Try.func44, Try.ntmps44
    go_wp2_with fail
    go_ret
    exact ⟨ret_bool rfl, Ext.refl _⟩

theorem same_gt (a b : Gt) : (a.id == b.id && (a.zone == b.zone && (a.seq == b.seq && ((a.left == b.left && a.untl == b.untl) && (a.alone == b.alone && sameDn a.denied b.denied))))) = decide (a = b) := by
  obtain ⟨a1, a2, a3, a4, ⟨a5, a6⟩, a7, a8⟩ := a
  obtain ⟨b1, b2, b3, b4, ⟨b5, b6⟩, b7, b8⟩ := b
  unfold sameDn
  rw [Bool.eq_iff_iff]
  simp only [Bool.and_eq_true, beq_iff_eq, decide_eq_true_eq, Gt.mk.injEq, Dn.mk.injEq]
  constructor
  · rintro ⟨rfl, rfl, rfl, ⟨rfl, rfl⟩, rfl, rfl, rfl⟩; simp
  · rintro ⟨rfl, rfl, rfl, rfl, ⟨rfl, rfl⟩, rfl, rfl⟩; simp
set_option maxHeartbeats 16000000 in
theorem ref_SameGate (a b : Gt) (sa si ta ti : Value) (w : World) (hr : RdL 5 tpc w sa a.alone) (hs : RdL 1 inc w si a.denied.ids) (hr2 : RdL 5 tpc w ta b.alone) (hs2 : RdL 1 inc w ti b.denied.ids) :
    Calls Try.prog 45 #[.agg (gta a sa si), .agg (gta b ta ti)] w fun e w' => e = .returned (.bool (decide (a = b))) ∧ Ext w w' := by
  have HT := Lib.hid (fun (w' : World) (h : Ext w w') => ref_SameTaps a.alone b.alone sa ta w' (hr.ext h) (hr2.ext h))
  have HD := Lib.hid (fun (w' : World) (h : Ext w w') => ref_SameDenied a.denied b.denied si ti w' (hs.ext h) (hs2.ext h))
  have HB := eql_bd a.left a.untl b.left b.untl
  obtain ⟨A, c, rfl, -, -⟩ := hr.form
  obtain ⟨A2, c2, rfl, -, -⟩ := hs.form
  obtain ⟨B, d, rfl, -, -⟩ := hr2.form
  obtain ⟨B2, d2, rfl, -, -⟩ := hs2.form
  rw [← same_gt]
  generalize hz0 : (a.id == b.id) = z0
  generalize hz1 : (a.zone == b.zone) = z1
  generalize hz2 : (a.seq == b.seq) = z2
  generalize (a.left == b.left && a.untl == b.untl) = z3 at *
  generalize (a.alone == b.alone) = z4 at *
  generalize sameDn a.denied b.denied = z5 at *
  clear hr hs hr2 hs2
  unfold gta
  cases z0
  · go_enter Try.func45, Try.ntmps45
    go_wp2_with fail
    go_ret
    refine ⟨ret_bool (by simp), ?_⟩
    repeat (first | (with_reducible exact Ext.refl _) | (with_reducible refine Ext.alloc ?_ _) | (with_reducible apply Ext.setC; focus (simp <;> omega)) | (with_reducible refine Ext.drew ?_) | (with_reducible refine Ext.drewN ?_ _) | (with_reducible refine Ext.trans ?_ (Hid.out ‹Hid (Ext _ _)›)))
  cases z1
  · go_enter Try.func45, Try.ntmps45
    go_wp2_with fail
    go_ret
    refine ⟨ret_bool (by simp), ?_⟩
    repeat (first | (with_reducible exact Ext.refl _) | (with_reducible refine Ext.alloc ?_ _) | (with_reducible apply Ext.setC; focus (simp <;> omega)) | (with_reducible refine Ext.drew ?_) | (with_reducible refine Ext.drewN ?_ _) | (with_reducible refine Ext.trans ?_ (Hid.out ‹Hid (Ext _ _)›)))
  cases z2
  · go_enter Try.func45, Try.ntmps45
    go_wp2_with fail
    go_ret
    refine ⟨ret_bool (by simp), ?_⟩
    repeat (first | (with_reducible exact Ext.refl _) | (with_reducible refine Ext.alloc ?_ _) | (with_reducible apply Ext.setC; focus (simp <;> omega)) | (with_reducible refine Ext.drew ?_) | (with_reducible refine Ext.drewN ?_ _) | (with_reducible refine Ext.trans ?_ (Hid.out ‹Hid (Ext _ _)›)))
  cases z3
  · go_enter Try.func45, Try.ntmps45
    go_wp2_with fail
    go_ret
    refine ⟨ret_bool (by simp), ?_⟩
    repeat (first | (with_reducible exact Ext.refl _) | (with_reducible refine Ext.alloc ?_ _) | (with_reducible apply Ext.setC; focus (simp <;> omega)) | (with_reducible refine Ext.drew ?_) | (with_reducible refine Ext.drewN ?_ _) | (with_reducible refine Ext.trans ?_ (Hid.out ‹Hid (Ext _ _)›)))
  cases z4
  · go_enter Try.func45, Try.ntmps45
    go_wp2_with fail
    refine (HT.out _ (by repeat (first | (with_reducible exact Ext.refl _) | (with_reducible refine Ext.alloc ?_ _) | (with_reducible apply Ext.setC; focus (simp <;> omega)) | (with_reducible refine Ext.drew ?_) | (with_reducible refine Ext.drewN ?_ _) | (with_reducible refine Ext.trans ?_ (Hid.out ‹Hid (Ext _ _)›))))).mono ?_
    rintro e w1 ⟨rfl, h1⟩
    have H1 := Lib.hid h1
    clear h1
    (apply Row.use (w := w1) (g := w.heap.size); (focus (repeat (first | (with_reducible exact Hid.out ‹Hid (Row _ _ _)›) | (with_reducible exact Row.newAt rfl) | (with_reducible apply Row.newAt; (simp; done)) | (with_reducible apply Row.set_) | (with_reducible apply Row.far; focus (simp <;> omega)) | (with_reducible apply Row.alloc) | (with_reducible apply Row.drew) | (with_reducible apply Row.drewN) | (with_reducible apply Row.ext (Hid.out ‹Hid (Ext _ _)›))))); intro q1_0 f1_0 l1_0 R1_0; (try simp only [List.setIfInBounds_toArray, List.set_cons_zero, List.set_cons_succ] at q1_0 R1_0); apply Row.use (w := w1) (g := w.heap.size + 1); (focus (repeat (first | (with_reducible exact Hid.out ‹Hid (Row _ _ _)›) | (with_reducible exact Row.newAt rfl) | (with_reducible apply Row.newAt; (simp; done)) | (with_reducible apply Row.set_) | (with_reducible apply Row.far; focus (simp <;> omega)) | (with_reducible apply Row.alloc) | (with_reducible apply Row.drew) | (with_reducible apply Row.drewN) | (with_reducible apply Row.ext (Hid.out ‹Hid (Ext _ _)›))))); intro q1_1 f1_1 l1_1 R1_1; (try simp only [List.setIfInBounds_toArray, List.set_cons_zero, List.set_cons_succ] at q1_1 R1_1))
    go_wp2_with fail
    go_ret
    refine ⟨ret_bool (by simp), ?_⟩
    repeat (first | (with_reducible exact Ext.refl _) | (with_reducible refine Ext.alloc ?_ _) | (with_reducible apply Ext.setC; focus (simp <;> omega)) | (with_reducible refine Ext.drew ?_) | (with_reducible refine Ext.drewN ?_ _) | (with_reducible refine Ext.trans ?_ (Hid.out ‹Hid (Ext _ _)›)))
  go_enter Try.func45, Try.ntmps45
  go_wp2_with fail
  refine (HT.out _ (by repeat (first | (with_reducible exact Ext.refl _) | (with_reducible refine Ext.alloc ?_ _) | (with_reducible apply Ext.setC; focus (simp <;> omega)) | (with_reducible refine Ext.drew ?_) | (with_reducible refine Ext.drewN ?_ _) | (with_reducible refine Ext.trans ?_ (Hid.out ‹Hid (Ext _ _)›))))).mono ?_
  rintro e w1 ⟨rfl, h1⟩
  have H1 := Lib.hid h1
  clear h1
  (apply Row.use (w := w1) (g := w.heap.size); (focus (repeat (first | (with_reducible exact Hid.out ‹Hid (Row _ _ _)›) | (with_reducible exact Row.newAt rfl) | (with_reducible apply Row.newAt; (simp; done)) | (with_reducible apply Row.set_) | (with_reducible apply Row.far; focus (simp <;> omega)) | (with_reducible apply Row.alloc) | (with_reducible apply Row.drew) | (with_reducible apply Row.drewN) | (with_reducible apply Row.ext (Hid.out ‹Hid (Ext _ _)›))))); intro q1_0 f1_0 l1_0 R1_0; (try simp only [List.setIfInBounds_toArray, List.set_cons_zero, List.set_cons_succ] at q1_0 R1_0); apply Row.use (w := w1) (g := w.heap.size + 1); (focus (repeat (first | (with_reducible exact Hid.out ‹Hid (Row _ _ _)›) | (with_reducible exact Row.newAt rfl) | (with_reducible apply Row.newAt; (simp; done)) | (with_reducible apply Row.set_) | (with_reducible apply Row.far; focus (simp <;> omega)) | (with_reducible apply Row.alloc) | (with_reducible apply Row.drew) | (with_reducible apply Row.drewN) | (with_reducible apply Row.ext (Hid.out ‹Hid (Ext _ _)›))))); intro q1_1 f1_1 l1_1 R1_1; (try simp only [List.setIfInBounds_toArray, List.set_cons_zero, List.set_cons_succ] at q1_1 R1_1))
  go_wp2_with fail
  refine (HD.out _ (by repeat (first | (with_reducible exact Ext.refl _) | (with_reducible refine Ext.alloc ?_ _) | (with_reducible apply Ext.setC; focus (simp <;> omega)) | (with_reducible refine Ext.drew ?_) | (with_reducible refine Ext.drewN ?_ _) | (with_reducible refine Ext.trans ?_ (Hid.out ‹Hid (Ext _ _)›))))).mono ?_
  rintro e w2 ⟨rfl, h2⟩
  have H2 := Lib.hid h2
  clear h2
  go_wp2_with fail
  go_ret
  refine ⟨ret_bool (by simp), ?_⟩
  repeat (first | (with_reducible exact Ext.refl _) | (with_reducible refine Ext.alloc ?_ _) | (with_reducible apply Ext.setC; focus (simp <;> omega)) | (with_reducible refine Ext.drew ?_) | (with_reducible refine Ext.drewN ?_ _) | (with_reducible refine Ext.trans ?_ (Hid.out ‹Hid (Ext _ _)›)))

set_option maxHeartbeats 4000000 in
theorem ref_SyncOf (g : Gt) (sa si : Value) (d : Dn) (sd : Value) (time : Int) (w : World) (ht : within time 0 9999 = true) (ha : ∃ A n c, sa = .slice A n c) (hs : ∃ A n c, si = .slice A n c) (hd : ∃ A n c, sd = .slice A n c) :
    Calls Try.prog 40 #[.agg (gta g sa si), .agg #[.int .i64 d.version, sd], .int .i64 time] w fun e w' => e = .returned (.tuple #[.agg (gta (synced g d time) (.slice none 0 0) (if g.denied.version < d.version then sd else si)), sa]) ∧ Ext w w' := by
  have HN := Lib.hid (fun (w' : World) => ref_NewerOf g.denied d si sd w' hs hd)
  have hsy : synced g d time = ⟨g.id, g.zone, g.seq, [], pickD g.denied d, 9, time + 100⟩ := rfl
  rw [hsy]
  generalize pickD g.denied d = pk at *
  obtain ⟨A, n, c, rfl⟩ := ha
  have hpk : ∃ A' n' c', (if g.denied.version < d.version then sd else si) = .slice A' n' c' := by split <;> assumption
  generalize (if g.denied.version < d.version then sd else si) = pv at *
  obtain ⟨A1, n1, c1, rfl⟩ := hs
  obtain ⟨A2, n2, c2, rfl⟩ := hd
  obtain ⟨A3, n3, c3, rfl⟩ := hpk
  have hw1 : IntKind.i64.wrap (time + 100) = time + 100 := IntWalk.i64_in _ (by simp [within] at ht; omega)
  clear ht hsy
  unfold gta
  simp only
  go_enter Try.func40, Try.ntmps40
  go_wp2_with fail
  (refine (HN.out _).mono ?_; rintro e w1 ⟨rfl, h1⟩; have H1 := Lib.hid h1; have hz1 := h1.size; clear h1; (try simp only [World.size_alloc, size_set, World.heap_drewN, size_drew] at hz1); apply Row.use (w := w1) (g := w.heap.size); (focus (repeat (first | (with_reducible exact Hid.out ‹Hid (Row _ _ _)›) | (with_reducible exact Row.newAt rfl) | (with_reducible apply Row.newAt; (simp; done)) | (with_reducible apply Row.set_) | (with_reducible apply Row.far; focus (simp <;> omega)) | (with_reducible apply Row.alloc) | (with_reducible apply Row.drew) | (with_reducible apply Row.drewN) | (with_reducible apply Row.ext (Hid.out ‹Hid (Ext _ _)›))))); intro q1_0 f1_0 l1_0 R1_0; (try simp only [List.setIfInBounds_toArray, List.set_cons_zero, List.set_cons_succ] at q1_0 R1_0); apply Row.use (w := w1) (g := w.heap.size + 1 + 1); (focus (repeat (first | (with_reducible exact Hid.out ‹Hid (Row _ _ _)›) | (with_reducible exact Row.newAt rfl) | (with_reducible apply Row.newAt; (simp; done)) | (with_reducible apply Row.set_) | (with_reducible apply Row.far; focus (simp <;> omega)) | (with_reducible apply Row.alloc) | (with_reducible apply Row.drew) | (with_reducible apply Row.drewN) | (with_reducible apply Row.ext (Hid.out ‹Hid (Ext _ _)›))))); intro q1_1 f1_1 l1_1 R1_1; (try simp only [List.setIfInBounds_toArray, List.set_cons_zero, List.set_cons_succ] at q1_1 R1_1))
  go_wp2_with fail
  refine bodyPost_ret (v := .tuple #[.agg #[.int .i64 g.id, .int .i64 g.zone, .int .i64 g.seq, .slice none 0 0, .int .i64 pk.version, .slice A3 n3 c3, .int .i64 9, .int .i64 (time + 100)], .slice A n c]) (by simp [results, Try.results40, go_sem, *]) rfl ⟨rfl, ?_⟩
  repeat (first | (with_reducible exact Ext.refl _) | (with_reducible refine Ext.alloc ?_ _) | (with_reducible apply Ext.setC; focus (simp <;> omega)) | (with_reducible refine Ext.drew ?_) | (with_reducible refine Ext.drewN ?_ _) | (with_reducible refine Ext.trans ?_ (Hid.out ‹Hid (Ext _ _)›)))

def post0 : Gt := ⟨1, 2, 4, [], ⟨1, [7]⟩, 2, 90⟩
set_option maxHeartbeats 4000000 in
theorem law_post (w : World) :
    Calls Try.prog 66 #[] w fun e w' => ∃ si, e = .returned (.agg (gta post0 (.slice none 0 0) si)) ∧ Ext w w' ∧ RdL 1 inc w' si [7] := by
  unfold gta post0
  go_enter Try.func66, Try.ntmps66
  go_wp2_with fail
  refine bodyPost_ret (v := .agg #[.int .i64 1, .int .i64 2, .int .i64 4, .slice none 0 0, .int .i64 1, .slice (some ⟨w.heap.size + 1, 0, none⟩) 1 1, .int .i64 2, .int .i64 90]) (by simp [results, Try.results66, go_sem, *]) rfl ⟨_, rfl, ?_, ?_⟩
  · repeat (first | (with_reducible exact Ext.refl _) | (with_reducible refine Ext.alloc ?_ _) | (with_reducible apply Ext.setC; focus (simp <;> omega)) | (with_reducible refine Ext.drew ?_) | (with_reducible refine Ext.drewN ?_ _) | (with_reducible refine Ext.trans ?_ (Hid.out ‹Hid (Ext _ _)›)))
  · exact RdL.lit (enc := inc) 7 (by simp) rfl

set_option maxHeartbeats 8000000 in
theorem law_gateIs (a b : Gt) (e1 e2 : Int) (sa si ta ti : Value) (w : World) (hr : RdL 5 tpc w sa a.alone) (hs : RdL 1 inc w si a.denied.ids) (hr2 : RdL 5 tpc w ta b.alone) (hs2 : RdL 1 inc w ti b.denied.ids) :
    Calls Try.prog 43 #[.agg (gta a sa si), .int .i64 e1, .int .i64 e2, .agg (gta b ta ti)] w fun e w' => e = .returned (.bool (e1 == e2 && decide (a = if e2 ≠ 0 then gt0 else b))) ∧ Ext w w' := by
  have HS := Lib.hid (fun (w' : World) (h : Ext w w') => ref_SameGate a b sa si ta ti w' (hr.ext h) (hs.ext h) (hr2.ext h) (hs2.ext h))
  have HZ := Lib.hid (fun (w' : World) (h : Ext w w') => ref_SameGate a gt0 sa si (.slice none 0 0) (.slice none 0 0) w' (hr.ext h) (hs.ext h) RdL.nil RdL.nil)
  obtain ⟨A, c, rfl, -, -⟩ := hr.form
  obtain ⟨A2, c2, rfl, -, -⟩ := hs.form
  obtain ⟨B, d, rfl, -, -⟩ := hr2.form
  obtain ⟨B2, d2, rfl, -, -⟩ := hs2.form
  clear hr hs hr2 hs2
  have hif : (decide (a = if e2 ≠ 0 then gt0 else b)) = if e2 ≠ 0 then decide (a = gt0) else decide (a = b) := by split <;> rfl
  rw [hif]
  clear hif
  generalize decide (a = gt0) = q0 at *
  generalize decide (a = b) = q1 at *
  unfold gta at HS HZ ⊢
  simp only [gt0, dn0] at HZ
  by_cases h2 : e2 = 0
  · have hb2 : (e2 != 0) = false := by simpa using h2
    rw [if_neg (by simpa using h2)]
    clear h2 HZ
    by_cases h1 : e1 = e2
    · have hb1 : (e1 == e2) = true := by simpa using h1
      rw [hb1, Bool.true_and]
      clear h1
      go_enter Try.func43, Try.ntmps43
      go_wp2_with fail
      refine (HS.out _ (by repeat (first | (with_reducible exact Ext.refl _) | (with_reducible refine Ext.alloc ?_ _) | (with_reducible apply Ext.setC; focus (simp <;> omega)) | (with_reducible refine Ext.drew ?_) | (with_reducible refine Ext.drewN ?_ _) | (with_reducible refine Ext.trans ?_ (Hid.out ‹Hid (Ext _ _)›))))).mono ?_
      rintro e w1 ⟨rfl, h1⟩
      have H1 := Lib.hid h1
      clear h1
      go_wp2_with fail
      go_ret
      refine ⟨ret_bool rfl, ?_⟩
      repeat (first | (with_reducible exact Ext.refl _) | (with_reducible refine Ext.alloc ?_ _) | (with_reducible apply Ext.setC; focus (simp <;> omega)) | (with_reducible refine Ext.drew ?_) | (with_reducible refine Ext.drewN ?_ _) | (with_reducible refine Ext.trans ?_ (Hid.out ‹Hid (Ext _ _)›)))
    · have hb1 : (e1 == e2) = false := by simpa using h1
      rw [hb1, Bool.false_and]
      clear h1
      go_enter Try.func43, Try.ntmps43
      go_wp2_with fail
      go_ret
      refine ⟨ret_bool rfl, ?_⟩
      repeat (first | (with_reducible exact Ext.refl _) | (with_reducible refine Ext.alloc ?_ _) | (with_reducible apply Ext.setC; focus (simp <;> omega)) | (with_reducible refine Ext.drew ?_) | (with_reducible refine Ext.drewN ?_ _) | (with_reducible refine Ext.trans ?_ (Hid.out ‹Hid (Ext _ _)›)))
  · have hb2 : (e2 != 0) = true := by simpa using h2
    rw [if_pos (by simpa using h2)]
    clear h2 HS
    by_cases h1 : e1 = e2
    · have hb1 : (e1 == e2) = true := by simpa using h1
      rw [hb1, Bool.true_and]
      clear h1
      go_enter Try.func43, Try.ntmps43
      go_wp2_with fail
      refine (HZ.out _ (by repeat (first | (with_reducible exact Ext.refl _) | (with_reducible refine Ext.alloc ?_ _) | (with_reducible apply Ext.setC; focus (simp <;> omega)) | (with_reducible refine Ext.drew ?_) | (with_reducible refine Ext.drewN ?_ _) | (with_reducible refine Ext.trans ?_ (Hid.out ‹Hid (Ext _ _)›))))).mono ?_
      rintro e w1 ⟨rfl, h1⟩
      have H1 := Lib.hid h1
      clear h1
      go_wp2_with fail
      go_ret
      refine ⟨ret_bool rfl, ?_⟩
      repeat (first | (with_reducible exact Ext.refl _) | (with_reducible refine Ext.alloc ?_ _) | (with_reducible apply Ext.setC; focus (simp <;> omega)) | (with_reducible refine Ext.drew ?_) | (with_reducible refine Ext.drewN ?_ _) | (with_reducible refine Ext.trans ?_ (Hid.out ‹Hid (Ext _ _)›)))
    · have hb1 : (e1 == e2) = false := by simpa using h1
      rw [hb1, Bool.false_and]
      clear h1
      go_enter Try.func43, Try.ntmps43
      go_wp2_with fail
      go_ret
      refine ⟨ret_bool rfl, ?_⟩
      repeat (first | (with_reducible exact Ext.refl _) | (with_reducible refine Ext.alloc ?_ _) | (with_reducible apply Ext.setC; focus (simp <;> omega)) | (with_reducible refine Ext.drew ?_) | (with_reducible refine Ext.drewN ?_ _) | (with_reducible refine Ext.trans ?_ (Hid.out ‹Hid (Ext _ _)›)))
end Go.Proofs.Ythollackhkiofaa
