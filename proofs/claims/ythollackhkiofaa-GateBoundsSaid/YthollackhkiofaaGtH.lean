/- The document's own check of a gate. -/
import Derived.Test.YthollackhkiofaaGtF
import Derived.Test.YthollackhkiofaaRuleB
namespace Go.Proofs.Ythollackhkiofaa
set_option linter.unusedSimpArgs false
set_option linter.unusedVariables false
set_option maxRecDepth 100000
open Go Go.RowKit Lb

set_option maxHeartbeats 16000000 in
theorem ref_CheckGate (g : Gt) (sa si : Value) (w : World) (hr : RdL 5 tpc w sa g.alone) (hs : RdL 1 inc w si g.denied.ids) :
    Calls Try.prog 37 #[.agg (gta g sa si)] w fun e w' => e = .returned (.int .i64 (ckGate g)) ∧ Ext w w' := by
  have HDN := Lib.hid (fun (w' : World) (h : Ext w w') => ref_CheckDenied g.denied si w' (hs.ext h))
  obtain ⟨A, c, rfl, hmc, hmm⟩ := hr.form
  obtain ⟨A2, c2, rfl, -, -⟩ := hs.form
  obtain ⟨gid, zone, seq, l, ⟨ver, ids⟩, left, untl⟩ := g
  simp only at hr hs hmc hmm HDN
  have hm : l.length ≤ 9223372036854775807 := by unfold maxLen at hmm; omega
  have HW1 := Lib.hid (fun w => ref_between gid 0 2 w)
  have HW2 := Lib.hid (fun w => ref_between seq 0 99 w)
  have HW4 := Lib.hid (fun w => ref_between left 0 9 w)
  have HW5 := Lib.hid (fun w => ref_between untl 0 10099 w)
  have HZN := Lib.hid (fun w => ref_IsZone zone w)
  have hE : ckGate ⟨gid, zone, seq, l, ⟨ver, ids⟩, left, untl⟩ = if within gid 0 2 = false ∨ within seq 0 99 = false then 3 else if isZone zone = false then 9 else if 12 < l.length then 2 else if ckAlone gid zone none l ≠ 0 then ckAlone gid zone none l else if lastOk l seq = false then 4 else if ckDn ⟨ver, ids⟩ ≠ 0 then ckDn ⟨ver, ids⟩ else if within left 0 9 = false ∨ within untl 0 10099 = false then 3 else 0 := by
    unfold ckGate aloneE
    simp only
    by_cases h1 : ckAlone gid zone none l = 0
    · cases h2 : lastOk l seq <;> simp [h1]
    · simp [h1]
  generalize hX : ckGate ⟨gid, zone, seq, l, ⟨ver, ids⟩, left, untl⟩ = res at *
  clear hX
  unfold gta
  simp only
  generalize within gid 0 2 = z1 at *
  generalize within seq 0 99 = z2 at *
  generalize isZone zone = z3 at *
  generalize ckDn ⟨ver, ids⟩ = d at *
  generalize within left 0 9 = z4 at *
  generalize within untl 0 10099 = z5 at *
  generalize hR : ckAlone gid zone none l = r at *
  have HRd := Lib.hid hr
  have HR := Lib.hid hR
  clear hr hs hmc hmm hR
  cases z1
  · have HQ := Lib.hid (show res = 3 by rw [hE]; simp)
    clear hE
    go_enter Try.func37, Try.ntmps37
    go_wp2_with fail
    refine (HW1.out _).mono ?_
    rintro e w' ⟨rfl, rfl⟩
    go_wp2_with fail
    go_ret
    refine ⟨ret_int (by rw [HQ.out]), ?_⟩
    repeat (first | (with_reducible exact Ext.refl _) | (with_reducible refine Ext.alloc ?_ _) | (with_reducible apply Ext.setC; focus (simp <;> omega)) | (with_reducible refine Ext.drew ?_) | (with_reducible refine Ext.drewN ?_ _) | (with_reducible refine Ext.trans ?_ (Hid.out ‹Hid (Ext _ _)›)))
  cases z2
  · have HQ := Lib.hid (show res = 3 by rw [hE]; simp)
    clear hE
    go_enter Try.func37, Try.ntmps37
    go_wp2_with fail
    refine (HW1.out _).mono ?_
    rintro e w' ⟨rfl, rfl⟩
    go_wp2_with fail
    refine (HW2.out _).mono ?_
    rintro e w' ⟨rfl, rfl⟩
    go_wp2_with fail
    go_ret
    refine ⟨ret_int (by rw [HQ.out]), ?_⟩
    repeat (first | (with_reducible exact Ext.refl _) | (with_reducible refine Ext.alloc ?_ _) | (with_reducible apply Ext.setC; focus (simp <;> omega)) | (with_reducible refine Ext.drew ?_) | (with_reducible refine Ext.drewN ?_ _) | (with_reducible refine Ext.trans ?_ (Hid.out ‹Hid (Ext _ _)›)))
  cases z3
  · have HQ := Lib.hid (show res = 9 by rw [hE]; simp)
    clear hE
    go_enter Try.func37, Try.ntmps37
    go_wp2_with fail
    refine (HW1.out _).mono ?_
    rintro e w' ⟨rfl, rfl⟩
    go_wp2_with fail
    refine (HW2.out _).mono ?_
    rintro e w' ⟨rfl, rfl⟩
    go_wp2_with fail
    refine (HZN.out _).mono ?_
    rintro e w' ⟨rfl, rfl⟩
    go_wp2_with fail
    go_ret
    refine ⟨ret_int (by rw [HQ.out]), ?_⟩
    repeat (first | (with_reducible exact Ext.refl _) | (with_reducible refine Ext.alloc ?_ _) | (with_reducible apply Ext.setC; focus (simp <;> omega)) | (with_reducible refine Ext.drew ?_) | (with_reducible refine Ext.drewN ?_ _) | (with_reducible refine Ext.trans ?_ (Hid.out ‹Hid (Ext _ _)›)))
  by_cases hl : 12 < l.length
  · have hl' : (12 : Int) < (l.length : Int) := by omega
    have HQ := Lib.hid (show res = 2 by rw [hE]; simp [hl])
    clear hE hl
    go_enter Try.func37, Try.ntmps37
    go_wp2_with fail
    refine (HW1.out _).mono ?_
    rintro e w' ⟨rfl, rfl⟩
    go_wp2_with fail
    refine (HW2.out _).mono ?_
    rintro e w' ⟨rfl, rfl⟩
    go_wp2_with fail
    refine (HZN.out _).mono ?_
    rintro e w' ⟨rfl, rfl⟩
    go_wp2_with fail
    go_ret
    refine ⟨ret_int (by rw [HQ.out]), ?_⟩
    repeat (first | (with_reducible exact Ext.refl _) | (with_reducible refine Ext.alloc ?_ _) | (with_reducible apply Ext.setC; focus (simp <;> omega)) | (with_reducible refine Ext.drew ?_) | (with_reducible refine Ext.drewN ?_ _) | (with_reducible refine Ext.trans ?_ (Hid.out ‹Hid (Ext _ _)›)))
  have hl' : ¬ (12 : Int) < (l.length : Int) := by omega
  have HS := Lib.hid (show (if r ≠ 0 then r else if lastOk l seq = false then (4 : Int) else if d ≠ 0 then d else if z4 = false ∨ z5 = false then 3 else 0) = res by rw [hE]; simp [hl])
  clear hE hl
  go_enter Try.func37, Try.ntmps37
  go_wp2_with fail
  refine (HW1.out _).mono ?_
  rintro e w' ⟨rfl, rfl⟩
  go_wp2_with fail
  refine (HW2.out _).mono ?_
  rintro e w' ⟨rfl, rfl⟩
  go_wp2_with fail
  refine (HZN.out _).mono ?_
  rintro e w' ⟨rfl, rfl⟩
  go_wp2_with fail
  clear hl'
  go_loopg [2, 3, 4, 5] l.length (fun gg _ s3 _ _ wr => ∃ k : Nat, k ≤ l.length ∧ l.length - k ≤ gg ∧ s3 = .int .i64 k ∧ Aside (Ext w wr ∧ Row wr w.heap.size #[.int .i64 gid, .int .i64 zone, .int .i64 seq, .slice A l.length c, .int .i64 ver, .slice A2 ids.length c2, .int .i64 left, .int .i64 untl]) ∧ Aside (ckAlone gid zone (prevT l k) (l.drop k) = r ∧ ∀ x, prevT l k = some x → ckTap x = 0))
  case atStart => exact ⟨0, by omega, by omega, rfl, ⟨(Ext.refl _).alloc _, Row.newAt rfl⟩, HR.out, fun x h => by simp [prevT] at h⟩
  case round =>
    obtain ⟨k, hk, hg, rfl, HE, HA⟩ := hrel
    have hq := HE.out.2.2.1
    have hfz := HE.out.2.2.2
    have hlt2 := HE.out.2.1
    by_cases hlt : k < l.length
    · have hlt' : (k : Int) < (l.length : Int) := by omega
      obtain ⟨b, o, rfl, hb, c0, c1, c2', c3, c4⟩ := (HRd.out.ext HE.out.1).tp_at rfl hlt
      obtain ⟨hA, hP⟩ := HA.out
      rw [List.drop_eq_getElem_cons hlt, ckAlone_cons] at hA
      have hn := prevT_succ l k hlt
      rw [← hn] at hA
      have HRC := Lib.hid (fun w => ref_CheckTap l[k] w)
      have hpv : 0 < k → ∃ x, prevT l k = some x ∧ ∀ W, Ext wr W → W.cell? ⟨b, o + (k - 1) * 5 + 2, none⟩ = some (.int .i64 x.seq) ∧ W.cell? ⟨b, o + (k - 1) * 5 + 3, none⟩ = some (.int .i64 x.time) := by
        intro h0
        have hk1 : k - 1 < l.length := by omega
        refine ⟨l[k - 1], by unfold prevT; rw [if_neg (by omega), List.getElem?_eq_getElem hk1], fun W hW => ?_⟩
        obtain ⟨b', o', hAA, _, _, _, d2, d3, _⟩ := ((HRd.out.ext HE.out.1).ext hW).tp_at rfl hk1
        injection hAA with hAA
        injection hAA with e1 e2
        subst e1 e2
        exact ⟨d2, d3⟩
      have HPV := Lib.hid hpv
      have HE2 := Lib.hid HE.out.1
      have HRW := Lib.hid HE.out.2
      have hk0 : k = 0 → prevT l k = none := fun h => by subst h; rfl
      have hP2 := Lib.hid hP
      have HN := Lib.hid hn
      clear HE HA hP hpv hn
      generalize hp : l[k] = p at *
      clear hp
      obtain ⟨x0, x1, x2, x3, x4⟩ := p
      simp only at c0 c1 c2' c3 c4
      unfold tpc at HRC
      generalize hck : ckTap ⟨x0, x1, x2, x3, x4⟩ = q at HRC hA
      by_cases hq0 : q = 0
      · rw [if_neg (by simpa using hq0)] at hA
        subst hq0
        have HCK := Lib.hid hck
        clear hck
        by_cases e1 : x1 = gid
        · have e1b : (x1 != gid) = false := by simpa using e1
          by_cases e2 : x4 = zone
          · have e2b : (x4 != zone) = false := by simpa using e2
            by_cases hz : k = 0
            · rw [hk0 hz, if_neg (by simp [e1, e2, follows])] at hA
              subst hz
              simp only [Nat.zero_mul, Nat.add_zero] at c0 c1 c2' c3 c4
              have HA2 := Lib.hid hA
              clear hA hk0 e1 e2 hP2 HPV
              go_wp2_with fail
              (refine (HRC.out _).mono ?_; rintro e w1 ⟨rfl, h1⟩; have H1 := Lib.hid h1; have hz1 := h1.size; clear h1; (try simp only [World.size_alloc, size_set, World.heap_drewN, size_drew] at hz1); apply Row.use (w := w1) (g := w.heap.size); (focus (repeat (first | (with_reducible exact Hid.out ‹Hid (Row _ _ _)›) | (with_reducible exact Row.newAt rfl) | (with_reducible apply Row.newAt; (simp; done)) | (with_reducible apply Row.set_) | (with_reducible apply Row.far; focus (simp <;> omega)) | (with_reducible apply Row.alloc) | (with_reducible apply Row.drew) | (with_reducible apply Row.drewN) | (with_reducible apply Row.ext (Hid.out ‹Hid (Ext _ _)›))))); intro q1_0 f1_0 l1_0 R1_0; (try simp only [List.setIfInBounds_toArray, List.set_cons_zero, List.set_cons_succ] at q1_0 R1_0); apply Row.use (w := w1) (g := wr.heap.size); (focus (repeat (first | (with_reducible exact Hid.out ‹Hid (Row _ _ _)›) | (with_reducible exact Row.newAt rfl) | (with_reducible apply Row.newAt; (simp; done)) | (with_reducible apply Row.set_) | (with_reducible apply Row.far; focus (simp <;> omega)) | (with_reducible apply Row.alloc) | (with_reducible apply Row.drew) | (with_reducible apply Row.drewN) | (with_reducible apply Row.ext (Hid.out ‹Hid (Ext _ _)›))))); intro q1_1 f1_1 l1_1 R1_1; (try simp only [List.setIfInBounds_toArray, List.set_cons_zero, List.set_cons_succ] at q1_1 R1_1))
              go_wp2_with fail
              go_quiet (fail)
              go_wp2_with fail
              go_roundg (l.length - (0 + 1))
              case measure => omega
              case rel => exact ⟨0 + 1, by omega, by omega, by go_num, ⟨(show Ext w _ by repeat (first | (with_reducible exact Ext.refl _) | (with_reducible refine Ext.alloc ?_ _) | (with_reducible apply Ext.setC; focus (simp <;> omega)) | (with_reducible refine Ext.drew ?_) | (with_reducible refine Ext.drewN ?_ _) | (with_reducible refine Ext.trans ?_ (Hid.out ‹Hid (Ext _ _)›)))), R1_0.out.drewN⟩, HA2.out, fun y hy => by rw [HN.out] at hy; injection hy with hy; subst hy; exact HCK.out⟩
            · obtain ⟨y, hy, hyc⟩ := HPV.out (by omega)
              have hyk := hP2.out y hy
              have hys : y.seq ≤ 99 ∧ 1 ≤ y.seq := by
                have := (ckTap_ok.1 hyk).2.2.1
                simp [within] at this
                omega
              
              have hkn : 0 < k := by omega
              have hkd : decide (0 < k) = true := by simpa using hkn
              have hw1 : IntKind.i64.wrap ((k : Int) - 1) = ((k - 1 : Nat) : Int) := by rw [IntWalk.i64_in _ (by omega)]; omega
              have hk1 : ((k - 1 : Nat) : Int) < (l.length : Int) := by omega
              have hk2 : k - 1 < l.length := by omega
              rw [hy] at hA
              have HYC := Lib.hid hyc
              clear hyk hy hyc HPV hP2 hk0
              obtain ⟨y0, y1, y2, y3, y4⟩ := y
              simp only at hys HYC
              have hx2 := (ckTap_ok.1 HCK.out).2.2.1
              simp only [within, Bool.and_eq_true, decide_eq_true_eq] at hx2
              have hws : IntKind.i64.wrap (x2 - 1) = x2 - 1 := IntWalk.i64_in _ (by omega)
              by_cases e3 : y3 ≤ x3
              · have e3b : decide (x3 < y3) = false := by simpa using e3
                by_cases e4 : x2 = y2 + 1
                · have e4b : (x2 - 1 != y2) = false := by simp; omega
                  rw [if_neg (by simp [e1, e2, e3, e4, follows])] at hA
                  have HA2 := Lib.hid hA
                  clear hA e1 e2 e3 e4 hx2
                  go_wp2_with fail
                  (refine (HRC.out _).mono ?_; rintro e w1 ⟨rfl, h1⟩; have H1 := Lib.hid h1; have hz1 := h1.size; clear h1; (try simp only [World.size_alloc, size_set, World.heap_drewN, size_drew] at hz1); apply Row.use (w := w1) (g := w.heap.size); (focus (repeat (first | (with_reducible exact Hid.out ‹Hid (Row _ _ _)›) | (with_reducible exact Row.newAt rfl) | (with_reducible apply Row.newAt; (simp; done)) | (with_reducible apply Row.set_) | (with_reducible apply Row.far; focus (simp <;> omega)) | (with_reducible apply Row.alloc) | (with_reducible apply Row.drew) | (with_reducible apply Row.drewN) | (with_reducible apply Row.ext (Hid.out ‹Hid (Ext _ _)›))))); intro q1_0 f1_0 l1_0 R1_0; (try simp only [List.setIfInBounds_toArray, List.set_cons_zero, List.set_cons_succ] at q1_0 R1_0); apply Row.use (w := w1) (g := wr.heap.size); (focus (repeat (first | (with_reducible exact Hid.out ‹Hid (Row _ _ _)›) | (with_reducible exact Row.newAt rfl) | (with_reducible apply Row.newAt; (simp; done)) | (with_reducible apply Row.set_) | (with_reducible apply Row.far; focus (simp <;> omega)) | (with_reducible apply Row.alloc) | (with_reducible apply Row.drew) | (with_reducible apply Row.drewN) | (with_reducible apply Row.ext (Hid.out ‹Hid (Ext _ _)›))))); intro q1_1 f1_1 l1_1 R1_1; (try simp only [List.setIfInBounds_toArray, List.set_cons_zero, List.set_cons_succ] at q1_1 R1_1))
                  obtain ⟨f2, f3⟩ := HYC.out w1 (by repeat (first | (with_reducible exact Ext.refl _) | (with_reducible refine Ext.alloc ?_ _) | (with_reducible apply Ext.setC; focus (simp <;> omega)) | (with_reducible refine Ext.drew ?_) | (with_reducible refine Ext.drewN ?_ _) | (with_reducible refine Ext.trans ?_ (Hid.out ‹Hid (Ext _ _)›))))
                  go_wp2_with fail
                  go_quiet (fail)
                  go_wp2_with fail
                  go_roundg (l.length - (k + 1))
                  case measure => omega
                  case rel => exact ⟨k + 1, by omega, by omega, by go_num, ⟨(show Ext w _ by repeat (first | (with_reducible exact Ext.refl _) | (with_reducible refine Ext.alloc ?_ _) | (with_reducible apply Ext.setC; focus (simp <;> omega)) | (with_reducible refine Ext.drew ?_) | (with_reducible refine Ext.drewN ?_ _) | (with_reducible refine Ext.trans ?_ (Hid.out ‹Hid (Ext _ _)›)))), R1_0.out.drewN⟩, HA2.out, fun y hy => by rw [HN.out] at hy; injection hy with hy; subst hy; exact HCK.out⟩
                · have e4b : (x2 - 1 != y2) = true := by simp; omega
                  have HQ := Lib.hid (show res = 4 by rw [if_pos (by simp [follows, e4])] at hA; rw [← HS.out, ← hA]; simp)
                  clear hA e1 e2 e3 e4 hx2
                  go_wp2_with fail
                  (refine (HRC.out _).mono ?_; rintro e w1 ⟨rfl, h1⟩; have H1 := Lib.hid h1; have hz1 := h1.size; clear h1; (try simp only [World.size_alloc, size_set, World.heap_drewN, size_drew] at hz1); apply Row.use (w := w1) (g := w.heap.size); (focus (repeat (first | (with_reducible exact Hid.out ‹Hid (Row _ _ _)›) | (with_reducible exact Row.newAt rfl) | (with_reducible apply Row.newAt; (simp; done)) | (with_reducible apply Row.set_) | (with_reducible apply Row.far; focus (simp <;> omega)) | (with_reducible apply Row.alloc) | (with_reducible apply Row.drew) | (with_reducible apply Row.drewN) | (with_reducible apply Row.ext (Hid.out ‹Hid (Ext _ _)›))))); intro q1_0 f1_0 l1_0 R1_0; (try simp only [List.setIfInBounds_toArray, List.set_cons_zero, List.set_cons_succ] at q1_0 R1_0); apply Row.use (w := w1) (g := wr.heap.size); (focus (repeat (first | (with_reducible exact Hid.out ‹Hid (Row _ _ _)›) | (with_reducible exact Row.newAt rfl) | (with_reducible apply Row.newAt; (simp; done)) | (with_reducible apply Row.set_) | (with_reducible apply Row.far; focus (simp <;> omega)) | (with_reducible apply Row.alloc) | (with_reducible apply Row.drew) | (with_reducible apply Row.drewN) | (with_reducible apply Row.ext (Hid.out ‹Hid (Ext _ _)›))))); intro q1_1 f1_1 l1_1 R1_1; (try simp only [List.setIfInBounds_toArray, List.set_cons_zero, List.set_cons_succ] at q1_1 R1_1))
                  obtain ⟨f2, f3⟩ := HYC.out w1 (by repeat (first | (with_reducible exact Ext.refl _) | (with_reducible refine Ext.alloc ?_ _) | (with_reducible apply Ext.setC; focus (simp <;> omega)) | (with_reducible refine Ext.drew ?_) | (with_reducible refine Ext.drewN ?_ _) | (with_reducible refine Ext.trans ?_ (Hid.out ‹Hid (Ext _ _)›))))
                  go_wp2_with fail
                  go_quiet (fail)
                  go_wp2_with fail
                  go_ret
                  refine ⟨ret_int (by rw [HQ.out]), ?_⟩
                  repeat (first | (with_reducible exact Ext.refl _) | (with_reducible refine Ext.alloc ?_ _) | (with_reducible apply Ext.setC; focus (simp <;> omega)) | (with_reducible refine Ext.drew ?_) | (with_reducible refine Ext.drewN ?_ _) | (with_reducible refine Ext.trans ?_ (Hid.out ‹Hid (Ext _ _)›)))
              · have e3b : decide (x3 < y3) = true := by simpa using e3
                have HQ := Lib.hid (show res = 4 by rw [if_pos (by simp [follows, e3])] at hA; rw [← HS.out, ← hA]; simp)
                clear hA e1 e2 e3 hx2
                go_wp2_with fail
                (refine (HRC.out _).mono ?_; rintro e w1 ⟨rfl, h1⟩; have H1 := Lib.hid h1; have hz1 := h1.size; clear h1; (try simp only [World.size_alloc, size_set, World.heap_drewN, size_drew] at hz1); apply Row.use (w := w1) (g := w.heap.size); (focus (repeat (first | (with_reducible exact Hid.out ‹Hid (Row _ _ _)›) | (with_reducible exact Row.newAt rfl) | (with_reducible apply Row.newAt; (simp; done)) | (with_reducible apply Row.set_) | (with_reducible apply Row.far; focus (simp <;> omega)) | (with_reducible apply Row.alloc) | (with_reducible apply Row.drew) | (with_reducible apply Row.drewN) | (with_reducible apply Row.ext (Hid.out ‹Hid (Ext _ _)›))))); intro q1_0 f1_0 l1_0 R1_0; (try simp only [List.setIfInBounds_toArray, List.set_cons_zero, List.set_cons_succ] at q1_0 R1_0); apply Row.use (w := w1) (g := wr.heap.size); (focus (repeat (first | (with_reducible exact Hid.out ‹Hid (Row _ _ _)›) | (with_reducible exact Row.newAt rfl) | (with_reducible apply Row.newAt; (simp; done)) | (with_reducible apply Row.set_) | (with_reducible apply Row.far; focus (simp <;> omega)) | (with_reducible apply Row.alloc) | (with_reducible apply Row.drew) | (with_reducible apply Row.drewN) | (with_reducible apply Row.ext (Hid.out ‹Hid (Ext _ _)›))))); intro q1_1 f1_1 l1_1 R1_1; (try simp only [List.setIfInBounds_toArray, List.set_cons_zero, List.set_cons_succ] at q1_1 R1_1))
                obtain ⟨f2, f3⟩ := HYC.out w1 (by repeat (first | (with_reducible exact Ext.refl _) | (with_reducible refine Ext.alloc ?_ _) | (with_reducible apply Ext.setC; focus (simp <;> omega)) | (with_reducible refine Ext.drew ?_) | (with_reducible refine Ext.drewN ?_ _) | (with_reducible refine Ext.trans ?_ (Hid.out ‹Hid (Ext _ _)›))))
                go_wp2_with fail
                go_quiet (fail)
                go_wp2_with fail
                go_ret
                refine ⟨ret_int (by rw [HQ.out]), ?_⟩
                repeat (first | (with_reducible exact Ext.refl _) | (with_reducible refine Ext.alloc ?_ _) | (with_reducible apply Ext.setC; focus (simp <;> omega)) | (with_reducible refine Ext.drew ?_) | (with_reducible refine Ext.drewN ?_ _) | (with_reducible refine Ext.trans ?_ (Hid.out ‹Hid (Ext _ _)›)))
          · have e2b : (x4 != zone) = true := by simpa using e2
            have HQ := Lib.hid (show res = 4 by rw [if_pos (by simp [e2])] at hA; rw [← HS.out, ← hA]; simp)
            clear hA e1 e2 hk0 hP2 HPV
            go_wp2_with fail
            (refine (HRC.out _).mono ?_; rintro e w1 ⟨rfl, h1⟩; have H1 := Lib.hid h1; have hz1 := h1.size; clear h1; (try simp only [World.size_alloc, size_set, World.heap_drewN, size_drew] at hz1); apply Row.use (w := w1) (g := w.heap.size); (focus (repeat (first | (with_reducible exact Hid.out ‹Hid (Row _ _ _)›) | (with_reducible exact Row.newAt rfl) | (with_reducible apply Row.newAt; (simp; done)) | (with_reducible apply Row.set_) | (with_reducible apply Row.far; focus (simp <;> omega)) | (with_reducible apply Row.alloc) | (with_reducible apply Row.drew) | (with_reducible apply Row.drewN) | (with_reducible apply Row.ext (Hid.out ‹Hid (Ext _ _)›))))); intro q1_0 f1_0 l1_0 R1_0; (try simp only [List.setIfInBounds_toArray, List.set_cons_zero, List.set_cons_succ] at q1_0 R1_0); apply Row.use (w := w1) (g := wr.heap.size); (focus (repeat (first | (with_reducible exact Hid.out ‹Hid (Row _ _ _)›) | (with_reducible exact Row.newAt rfl) | (with_reducible apply Row.newAt; (simp; done)) | (with_reducible apply Row.set_) | (with_reducible apply Row.far; focus (simp <;> omega)) | (with_reducible apply Row.alloc) | (with_reducible apply Row.drew) | (with_reducible apply Row.drewN) | (with_reducible apply Row.ext (Hid.out ‹Hid (Ext _ _)›))))); intro q1_1 f1_1 l1_1 R1_1; (try simp only [List.setIfInBounds_toArray, List.set_cons_zero, List.set_cons_succ] at q1_1 R1_1))
            go_wp2_with fail
            go_quiet (fail)
            go_wp2_with fail
            go_ret
            refine ⟨ret_int (by rw [HQ.out]), ?_⟩
            repeat (first | (with_reducible exact Ext.refl _) | (with_reducible refine Ext.alloc ?_ _) | (with_reducible apply Ext.setC; focus (simp <;> omega)) | (with_reducible refine Ext.drew ?_) | (with_reducible refine Ext.drewN ?_ _) | (with_reducible refine Ext.trans ?_ (Hid.out ‹Hid (Ext _ _)›)))
        · have e1b : (x1 != gid) = true := by simpa using e1
          have HQ := Lib.hid (show res = 4 by rw [if_pos (by simp [e1])] at hA; rw [← HS.out, ← hA]; simp)
          clear hA e1 hk0 hP2 HPV
          go_wp2_with fail
          (refine (HRC.out _).mono ?_; rintro e w1 ⟨rfl, h1⟩; have H1 := Lib.hid h1; have hz1 := h1.size; clear h1; (try simp only [World.size_alloc, size_set, World.heap_drewN, size_drew] at hz1); apply Row.use (w := w1) (g := w.heap.size); (focus (repeat (first | (with_reducible exact Hid.out ‹Hid (Row _ _ _)›) | (with_reducible exact Row.newAt rfl) | (with_reducible apply Row.newAt; (simp; done)) | (with_reducible apply Row.set_) | (with_reducible apply Row.far; focus (simp <;> omega)) | (with_reducible apply Row.alloc) | (with_reducible apply Row.drew) | (with_reducible apply Row.drewN) | (with_reducible apply Row.ext (Hid.out ‹Hid (Ext _ _)›))))); intro q1_0 f1_0 l1_0 R1_0; (try simp only [List.setIfInBounds_toArray, List.set_cons_zero, List.set_cons_succ] at q1_0 R1_0); apply Row.use (w := w1) (g := wr.heap.size); (focus (repeat (first | (with_reducible exact Hid.out ‹Hid (Row _ _ _)›) | (with_reducible exact Row.newAt rfl) | (with_reducible apply Row.newAt; (simp; done)) | (with_reducible apply Row.set_) | (with_reducible apply Row.far; focus (simp <;> omega)) | (with_reducible apply Row.alloc) | (with_reducible apply Row.drew) | (with_reducible apply Row.drewN) | (with_reducible apply Row.ext (Hid.out ‹Hid (Ext _ _)›))))); intro q1_1 f1_1 l1_1 R1_1; (try simp only [List.setIfInBounds_toArray, List.set_cons_zero, List.set_cons_succ] at q1_1 R1_1))
          go_wp2_with fail
          go_quiet (fail)
          go_wp2_with fail
          go_ret
          refine ⟨ret_int (by rw [HQ.out]), ?_⟩
          repeat (first | (with_reducible exact Ext.refl _) | (with_reducible refine Ext.alloc ?_ _) | (with_reducible apply Ext.setC; focus (simp <;> omega)) | (with_reducible refine Ext.drew ?_) | (with_reducible refine Ext.drewN ?_ _) | (with_reducible refine Ext.trans ?_ (Hid.out ‹Hid (Ext _ _)›)))
      · have hqb : (q != 0) = true := by simpa using hq0
        have HQ := Lib.hid (show res = q by rw [if_pos hq0] at hA; rw [← HS.out, ← hA, if_pos hq0])
        clear hA hq0 hck hk0 hP2 HPV
        go_wp2_with fail
        (refine (HRC.out _).mono ?_; rintro e w1 ⟨rfl, h1⟩; have H1 := Lib.hid h1; have hz1 := h1.size; clear h1; (try simp only [World.size_alloc, size_set, World.heap_drewN, size_drew] at hz1); apply Row.use (w := w1) (g := w.heap.size); (focus (repeat (first | (with_reducible exact Hid.out ‹Hid (Row _ _ _)›) | (with_reducible exact Row.newAt rfl) | (with_reducible apply Row.newAt; (simp; done)) | (with_reducible apply Row.set_) | (with_reducible apply Row.far; focus (simp <;> omega)) | (with_reducible apply Row.alloc) | (with_reducible apply Row.drew) | (with_reducible apply Row.drewN) | (with_reducible apply Row.ext (Hid.out ‹Hid (Ext _ _)›))))); intro q1_0 f1_0 l1_0 R1_0; (try simp only [List.setIfInBounds_toArray, List.set_cons_zero, List.set_cons_succ] at q1_0 R1_0); apply Row.use (w := w1) (g := wr.heap.size); (focus (repeat (first | (with_reducible exact Hid.out ‹Hid (Row _ _ _)›) | (with_reducible exact Row.newAt rfl) | (with_reducible apply Row.newAt; (simp; done)) | (with_reducible apply Row.set_) | (with_reducible apply Row.far; focus (simp <;> omega)) | (with_reducible apply Row.alloc) | (with_reducible apply Row.drew) | (with_reducible apply Row.drewN) | (with_reducible apply Row.ext (Hid.out ‹Hid (Ext _ _)›))))); intro q1_1 f1_1 l1_1 R1_1; (try simp only [List.setIfInBounds_toArray, List.set_cons_zero, List.set_cons_succ] at q1_1 R1_1))
        go_wp2_with fail
        go_ret
        refine ⟨ret_int (by rw [HQ.out]), ?_⟩
        repeat (first | (with_reducible exact Ext.refl _) | (with_reducible refine Ext.alloc ?_ _) | (with_reducible apply Ext.setC; focus (simp <;> omega)) | (with_reducible refine Ext.drew ?_) | (with_reducible refine Ext.drewN ?_ _) | (with_reducible refine Ext.trans ?_ (Hid.out ‹Hid (Ext _ _)›)))
    · have hkl : k = l.length := by omega
      have hge : ¬ (k : Int) < (l.length : Int) := by omega
      have hA := HA.out.1
      rw [hkl, List.drop_length] at hA
      simp only [ckAlone] at hA
      have HE2 := Lib.hid HE.out.1
      have HRW := Lib.hid HE.out.2
      have HZ := Lib.hid (show (if lastOk l seq = false then (4 : Int) else if d ≠ 0 then d else if z4 = false ∨ z5 = false then 3 else 0) = res by rw [← HS.out, ← hA]; simp)
      clear HE HA hA hkl
      have hgo : ∃ zl : Bool, lastOk l seq = zl ∧ (l = [] → zl = true) ∧ (l ≠ [] → ∃ (hll : l.length - 1 < l.length), zl = (l[l.length - 1].seq == seq)) := by
        refine ⟨_, rfl, fun h => by rw [h]; rfl, fun h => ?_⟩
        have hlp : 0 < l.length := List.length_pos_iff.2 h
        have hll : l.length - 1 < l.length := by omega
        refine ⟨hll, ?_⟩
        unfold lastOk
        rw [List.getLast?_eq_getElem?, List.getElem?_eq_getElem hll]
      obtain ⟨zl, hzl, hz0, hz1⟩ := hgo
      rw [hzl] at HZ
      by_cases hl0 : l = []
      · have hz : l.length = 0 := by rw [hl0]; rfl
        have hn0 : decide (0 < l.length) = false := by rw [hz]; rfl
        have := hz0 hl0
        subst this
        clear hl0 hz0 hz1 hzl
        have HZ2 := Lib.hid (show (if d ≠ 0 then d else if z4 = false ∨ z5 = false then 3 else 0) = res by rw [← HZ.out]; simp)
        clear HZ
        go_wp2_with fail
        go_quiet (fail)
        go_wp2_with fail
        (refine (HDN.out _ (by repeat (first | (with_reducible exact Ext.refl _) | (with_reducible refine Ext.alloc ?_ _) | (with_reducible apply Ext.setC; focus (simp <;> omega)) | (with_reducible refine Ext.drew ?_) | (with_reducible refine Ext.drewN ?_ _) | (with_reducible refine Ext.trans ?_ (Hid.out ‹Hid (Ext _ _)›))))).mono ?_; rintro e w2 ⟨rfl, h2⟩; have H2 := Lib.hid h2; have hz2 := h2.size; clear h2; (try simp only [World.size_alloc, size_set, World.heap_drewN, size_drew] at hz2); apply Row.use (w := w2) (g := w.heap.size); (focus (repeat (first | (with_reducible exact Hid.out ‹Hid (Row _ _ _)›) | (with_reducible exact Row.newAt rfl) | (with_reducible apply Row.newAt; (simp; done)) | (with_reducible apply Row.set_) | (with_reducible apply Row.far; focus (simp <;> omega)) | (with_reducible apply Row.alloc) | (with_reducible apply Row.drew) | (with_reducible apply Row.drewN) | (with_reducible apply Row.ext (Hid.out ‹Hid (Ext _ _)›))))); intro q2_0 f2_0 l2_0 R2_0; (try simp only [List.setIfInBounds_toArray, List.set_cons_zero, List.set_cons_succ] at q2_0 R2_0))
        by_cases hd : d = 0
        · subst hd
          cases z4
          · have HQ := Lib.hid (show res = 3 by rw [← HZ2.out]; simp)
            clear HZ2
            go_wp2_with fail
            refine (HW4.out _).mono ?_
            rintro e w' ⟨rfl, rfl⟩
            go_wp2_with fail
            go_ret
            refine ⟨ret_int (by rw [HQ.out]), ?_⟩
            repeat (first | (with_reducible exact Ext.refl _) | (with_reducible refine Ext.alloc ?_ _) | (with_reducible apply Ext.setC; focus (simp <;> omega)) | (with_reducible refine Ext.drew ?_) | (with_reducible refine Ext.drewN ?_ _) | (with_reducible refine Ext.trans ?_ (Hid.out ‹Hid (Ext _ _)›)))
          · have HQ := Lib.hid (show res = if z5 = false then 3 else 0 by rw [← HZ2.out]; simp)
            clear HZ2
            cases z5
            all_goals
              go_wp2_with fail
              refine (HW4.out _).mono ?_
              rintro e w' ⟨rfl, rfl⟩
              go_wp2_with fail
              refine (HW5.out _).mono ?_
              rintro e w' ⟨rfl, rfl⟩
              go_wp2_with fail
              go_ret
              refine ⟨ret_int (by rw [HQ.out]; simp), ?_⟩
              repeat (first | (with_reducible exact Ext.refl _) | (with_reducible refine Ext.alloc ?_ _) | (with_reducible apply Ext.setC; focus (simp <;> omega)) | (with_reducible refine Ext.drew ?_) | (with_reducible refine Ext.drewN ?_ _) | (with_reducible refine Ext.trans ?_ (Hid.out ‹Hid (Ext _ _)›)))
        · have hdb : (d == 0) = false := by simpa using hd
          have HQ := Lib.hid (show res = d by rw [← HZ2.out, if_pos hd])
          clear HZ2 hd
          go_wp2_with fail
          go_ret
          refine ⟨ret_int (by rw [HQ.out]), ?_⟩
          repeat (first | (with_reducible exact Ext.refl _) | (with_reducible refine Ext.alloc ?_ _) | (with_reducible apply Ext.setC; focus (simp <;> omega)) | (with_reducible refine Ext.drew ?_) | (with_reducible refine Ext.drewN ?_ _) | (with_reducible refine Ext.trans ?_ (Hid.out ‹Hid (Ext _ _)›)))
      · have hlp : 0 < l.length := List.length_pos_iff.2 hl0
        have hn0 : decide (0 < l.length) = true := by simpa using hlp
        obtain ⟨hll, hzz⟩ := hz1 hl0
        obtain ⟨b, o, rfl, hb, c0, c1, c2', c3, c4⟩ := (HRd.out.ext HE2.out).tp_at rfl hll
        have hw1 : IntKind.i64.wrap ((l.length : Int) - 1) = ((l.length - 1 : Nat) : Int) := by rw [IntWalk.i64_in _ (by omega)]; omega
        have hk1 : ((l.length - 1 : Nat) : Int) < (l.length : Int) := by omega
        clear c0 c1 c3 c4 hl0 hz0 hz1 hzl
        generalize l[l.length - 1].seq = y at *
        have hyb : (y != seq) = !zl := by rw [hzz]; rfl
        clear hzz
        cases zl
        · have HQ := Lib.hid (show res = 4 by rw [← HZ.out]; simp)
          clear HZ
          go_wp2_with fail
          go_quiet (fail)
          go_wp2_with fail
          go_ret
          refine ⟨ret_int (by rw [HQ.out]), ?_⟩
          repeat (first | (with_reducible exact Ext.refl _) | (with_reducible refine Ext.alloc ?_ _) | (with_reducible apply Ext.setC; focus (simp <;> omega)) | (with_reducible refine Ext.drew ?_) | (with_reducible refine Ext.drewN ?_ _) | (with_reducible refine Ext.trans ?_ (Hid.out ‹Hid (Ext _ _)›)))
        · have HZ2 := Lib.hid (show (if d ≠ 0 then d else if z4 = false ∨ z5 = false then 3 else 0) = res by rw [← HZ.out]; simp)
          clear HZ
          go_wp2_with fail
          go_quiet (fail)
          go_wp2_with fail
          (refine (HDN.out _ (by repeat (first | (with_reducible exact Ext.refl _) | (with_reducible refine Ext.alloc ?_ _) | (with_reducible apply Ext.setC; focus (simp <;> omega)) | (with_reducible refine Ext.drew ?_) | (with_reducible refine Ext.drewN ?_ _) | (with_reducible refine Ext.trans ?_ (Hid.out ‹Hid (Ext _ _)›))))).mono ?_; rintro e w2 ⟨rfl, h2⟩; have H2 := Lib.hid h2; have hz2 := h2.size; clear h2; (try simp only [World.size_alloc, size_set, World.heap_drewN, size_drew] at hz2); apply Row.use (w := w2) (g := w.heap.size); (focus (repeat (first | (with_reducible exact Hid.out ‹Hid (Row _ _ _)›) | (with_reducible exact Row.newAt rfl) | (with_reducible apply Row.newAt; (simp; done)) | (with_reducible apply Row.set_) | (with_reducible apply Row.far; focus (simp <;> omega)) | (with_reducible apply Row.alloc) | (with_reducible apply Row.drew) | (with_reducible apply Row.drewN) | (with_reducible apply Row.ext (Hid.out ‹Hid (Ext _ _)›))))); intro q2_0 f2_0 l2_0 R2_0; (try simp only [List.setIfInBounds_toArray, List.set_cons_zero, List.set_cons_succ] at q2_0 R2_0))
          by_cases hd : d = 0
          · subst hd
            cases z4
            · have HQ := Lib.hid (show res = 3 by rw [← HZ2.out]; simp)
              clear HZ2
              go_wp2_with fail
              refine (HW4.out _).mono ?_
              rintro e w' ⟨rfl, rfl⟩
              go_wp2_with fail
              go_ret
              refine ⟨ret_int (by rw [HQ.out]), ?_⟩
              repeat (first | (with_reducible exact Ext.refl _) | (with_reducible refine Ext.alloc ?_ _) | (with_reducible apply Ext.setC; focus (simp <;> omega)) | (with_reducible refine Ext.drew ?_) | (with_reducible refine Ext.drewN ?_ _) | (with_reducible refine Ext.trans ?_ (Hid.out ‹Hid (Ext _ _)›)))
            · have HQ := Lib.hid (show res = if z5 = false then 3 else 0 by rw [← HZ2.out]; simp)
              clear HZ2
              cases z5
              all_goals
                go_wp2_with fail
                refine (HW4.out _).mono ?_
                rintro e w' ⟨rfl, rfl⟩
                go_wp2_with fail
                refine (HW5.out _).mono ?_
                rintro e w' ⟨rfl, rfl⟩
                go_wp2_with fail
                go_ret
                refine ⟨ret_int (by rw [HQ.out]; simp), ?_⟩
                repeat (first | (with_reducible exact Ext.refl _) | (with_reducible refine Ext.alloc ?_ _) | (with_reducible apply Ext.setC; focus (simp <;> omega)) | (with_reducible refine Ext.drew ?_) | (with_reducible refine Ext.drewN ?_ _) | (with_reducible refine Ext.trans ?_ (Hid.out ‹Hid (Ext _ _)›)))
          · have hdb : (d == 0) = false := by simpa using hd
            have HQ := Lib.hid (show res = d by rw [← HZ2.out, if_pos hd])
            clear HZ2 hd
            go_wp2_with fail
            go_ret
            refine ⟨ret_int (by rw [HQ.out]), ?_⟩
            repeat (first | (with_reducible exact Ext.refl _) | (with_reducible refine Ext.alloc ?_ _) | (with_reducible apply Ext.setC; focus (simp <;> omega)) | (with_reducible refine Ext.drew ?_) | (with_reducible refine Ext.drewN ?_ _) | (with_reducible refine Ext.trans ?_ (Hid.out ‹Hid (Ext _ _)›)))
end Go.Proofs.Ythollackhkiofaa
