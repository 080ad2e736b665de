/- lead.Raw, Win, Turn, Set. -/
import Derived.Test.YthollackhkiofaaViewD
import Derived.Test.YthollackhkiofaaCnVw
import Derived.Test.YthollackhkiofaaOwnC
namespace Go.Proofs.Ythollackhkiofaa
set_option linter.unusedSimpArgs false
set_option linter.unusedVariables false
open Go Go.RowKit Lb

theorem part_step {α : Type} {m l : List α} {k : Nat} (h : m.length = l.length) (hk : k < l.length) : (m.take k ++ l.drop k).set k (m[k]'(by omega)) = m.take (k + 1) ++ l.drop (k + 1) := by
  have h1 : (m.take k).length = k := by rw [List.length_take]; omega
  rw [List.set_append_right _ _ (by omega), h1, Nat.sub_self, List.drop_eq_getElem_cons hk, List.set_cons_zero, List.take_succ_eq_append_getElem (by omega), List.append_assoc]
  rfl
theorem part_same {α : Type} {m l : List α} {k : Nat} (h : m.length = l.length) (hk : k < l.length) (he : m[k]'(by omega) = l[k]) : m.take k ++ l.drop k = m.take (k + 1) ++ l.drop (k + 1) := by
  rw [← part_step h hk, he, List.set_append_right _ _ (by rw [List.length_take]; omega), List.length_take, Nat.min_eq_left (by omega), Nat.sub_self, List.drop_eq_getElem_cons hk, List.set_cons_zero]
theorem part_get {α : Type} {m l : List α} {k : Nat} (h : m.length = l.length) (hk : k < l.length) : (m.take k ++ l.drop k)[k]? = some l[k] := by
  rw [List.getElem?_append_right (by rw [List.length_take]; omega), List.length_take, Nat.min_eq_left (by omega), Nat.sub_self, List.drop_eq_getElem_cons hk]
  rfl
theorem modify_set {α : Type} (l : List α) (n : Nat) (hn : n < l.length) (f : α → α) : l.modify n f = l.set n (f l[n]) := by
  apply List.ext_getElem?
  intro i
  rw [List.getElem?_modify, List.getElem?_set]
  by_cases h : n = i
  · subst h
    simp [hn]
  · cases l[i]? <;> simp [h]

set_option maxHeartbeats 8000000 in
theorem lead_Raw (l : List Vw) (v : Value) (who : Int) (w : World) (hr : RdL 3 vwc w v l) (hd : ckViews l = 0) :
    Calls Try.prog 48 #[v, .int .i64 who] w fun e w' => ∃ s', e = .returned (.tuple #[s', .bool (winV l who).2.1, .int .i64 (winV l who).2.2]) ∧ Ext w w' ∧ OwnL 39 3 vwc w.heap.size w' s' (winV l who).1 := by
  have hR := (rightV_iff l).1 hd
  have h3 := hR.1
  have HW := Lib.hid (fun w => lead_within who 0 1 w)
  have HCl := Lib.hid (fun (w' : World) (h : Ext w w') => Clone_vw l v w' (hr.ext h) (by omega))
  have HM := Lib.hid (fun (w' : World) (h : Ext w w') => lead_many isUpV 72 #[] (fun args w => by simp [go_sem]) l v w' (hr.ext h) h3 (fun W x h => by
    rw [show (#[.agg (vwc x)] ++ #[] : Array Value) = #[.agg (vwc x)] from rfl]
    exact lead_Raw1 x W))
  have HG := Lib.hid (fun (w' : World) (h : Ext w w') => lead_greatest l v w' (hr.ext h) h3)
  cases hwi : within who 0 1 with
  | false =>
    have hres : winV l who = ([], false, 3) := by unfold winV; rw [if_pos hwi]
    rw [hres]
    rw [hwi] at HW
    clear hres hwi hd hR h3
    go_enter Try.func48, Try.ntmps48
    go_wp2_with (go_at_call 51; refine (HW.out _).mono ?_; rintro e w' ⟨rfl, rfl⟩)
    refine bodyPost_ret (v := .tuple #[.slice none 0 0, .bool false, .int .i64 3]) (by simp [results, Try.results48, go_sem, *]) rfl ⟨_, rfl, Ext.refl _, OwnL.nil⟩
  | true =>
    rw [hwi] at HW
    have hwi2 : 0 ≤ who ∧ who ≤ 1 := by simpa [within] using hwi
    obtain ⟨n, rfl⟩ : ∃ n : Nat, who = n := ⟨who.toNat, by omega⟩
    have hn3 : n < l.length := by omega
    have hup : isUp l n = l[n].up := by
      unfold isUp
      rw [Int.toNat_natCast, List.getElem?_eq_getElem hn3]
    obtain ⟨A, c, rfl, -, -⟩ := hr.form
    obtain ⟨b, o, rfl, hb, -, -, d2⟩ := hr.vw_at rfl hn3
    have hcnt := countV_nonneg isUpV l
    have hcl : countV isUpV l ≤ 3 := by
      have : ∀ m : List Vw, countV isUpV m ≤ m.length := by
        intro m
        induction m with
        | nil => simp [countV]
        | cons a m ih => rw [countV_cons, List.length_cons]; push_cast; split <;> omega
      have := this l
      rw [h3] at this
      exact this
    have hw2 : IntKind.i64.wrap (2 * countV isUpV l) = 2 * countV isUpV l := IntWalk.i64_in _ (by omega)
    have hni : (n : Int) < 3 := by omega
    have hn3' : n < 3 := by omega
    rw [h3] at HCl HM HG ⊢
    have HU := Lib.hid hup
    have HL := Lib.hid h3
    by_cases hc : l[n].up = false ∨ 2 * countV isUpV l ≤ 3
    · have hres : winV l n = (l, false, 0) := by unfold winV; rw [if_neg (by rw [hwi]; decide), if_pos (by rw [hup]; exact hc)]
      rw [hres]
      have hcb : l[n].up = false ∨ (l[n].up = true ∧ decide (2 * countV isUpV l ≤ 3) = true) := by
        cases hu : l[n].up with
        | false => exact .inl rfl
        | true => right; refine ⟨rfl, decide_eq_true ?_⟩; rcases hc with h | h; · rw [hu] at h; cases h
                  · exact h
      generalize countV isUpV l = m at *
      generalize l[n].up = u at *
      clear hres hc hup hd hR h3 hwi hwi2
      rcases hcb with rfl | ⟨rfl, hmd⟩
      · go_enter Try.func48, Try.ntmps48
        go_wp2_with (go_at_call 51; refine (HW.out _).mono ?_; rintro e w' ⟨rfl, rfl⟩)
        refine (HCl.out _ (by repeat (first | (with_reducible exact Ext.refl _) | (with_reducible refine Ext.alloc ?_ _) | (with_reducible apply Ext.setC; focus (simp <;> omega)) | (with_reducible refine Ext.drew ?_) | (with_reducible refine Ext.drewN ?_ _) | (with_reducible refine Ext.trans ?_ (Hid.out ‹Hid (Ext _ _)›))))).mono ?_
        rintro e w1 ⟨s1, rfl, h1, ho1⟩
        obtain ⟨A1, c1, rfl⟩ := ho1.form
        have H1 := Lib.hid h1
        have HO1 := Lib.hid ho1
        clear h1 ho1
        go_wp2_with fail
        refine (HM.out _ (by repeat (first | (with_reducible exact Ext.refl _) | (with_reducible refine Ext.alloc ?_ _) | (with_reducible apply Ext.setC; focus (simp <;> omega)) | (with_reducible refine Ext.drew ?_) | (with_reducible refine Ext.drewN ?_ _) | (with_reducible refine Ext.trans ?_ (Hid.out ‹Hid (Ext _ _)›))))).mono ?_
        rintro e w2 ⟨rfl, h2⟩
        have H2 := Lib.hid h2
        clear h2
        have hE2 : Ext w w2 := by repeat (first | (with_reducible exact Ext.refl _) | (with_reducible refine Ext.alloc ?_ _) | (with_reducible apply Ext.setC; focus (simp <;> omega)) | (with_reducible refine Ext.drew ?_) | (with_reducible refine Ext.drewN ?_ _) | (with_reducible refine Ext.trans ?_ (Hid.out ‹Hid (Ext _ _)›)))
        have e2 := (hE2.cells b (o + n * 3 + 2) hb).trans d2
        go_wp2_with fail
        refine bodyPost_ret (v := .tuple #[.slice A1 l.length c1, .bool false, .int .i64 0]) (by simp [results, Try.results48, go_sem, *]) rfl ⟨_, rfl, ?_, ?_⟩
        · repeat (first | (with_reducible exact Ext.refl _) | (with_reducible refine Ext.alloc ?_ _) | (with_reducible apply Ext.setC; focus (simp <;> omega)) | (with_reducible refine Ext.drew ?_) | (with_reducible refine Ext.drewN ?_ _) | (with_reducible refine Ext.trans ?_ (Hid.out ‹Hid (Ext _ _)›)))
        · repeat (first | (with_reducible assumption) | (with_reducible exact Hid.out ‹Hid (OwnL _ _ _ _ _ _ _)›) | (with_reducible apply OwnL.setC; focus (simp <;> omega)) | (with_reducible apply OwnL.alloc) | (with_reducible apply OwnL.drew) | (with_reducible apply OwnL.drewN) | (with_reducible refine OwnL.ext ?_ (Hid.out ‹Hid (Ext _ _)›)))
      · go_enter Try.func48, Try.ntmps48
        go_wp2_with (go_at_call 51; refine (HW.out _).mono ?_; rintro e w' ⟨rfl, rfl⟩)
        refine (HCl.out _ (by repeat (first | (with_reducible exact Ext.refl _) | (with_reducible refine Ext.alloc ?_ _) | (with_reducible apply Ext.setC; focus (simp <;> omega)) | (with_reducible refine Ext.drew ?_) | (with_reducible refine Ext.drewN ?_ _) | (with_reducible refine Ext.trans ?_ (Hid.out ‹Hid (Ext _ _)›))))).mono ?_
        rintro e w1 ⟨s1, rfl, h1, ho1⟩
        obtain ⟨A1, c1, rfl⟩ := ho1.form
        have H1 := Lib.hid h1
        have HO1 := Lib.hid ho1
        clear h1 ho1
        go_wp2_with fail
        refine (HM.out _ (by repeat (first | (with_reducible exact Ext.refl _) | (with_reducible refine Ext.alloc ?_ _) | (with_reducible apply Ext.setC; focus (simp <;> omega)) | (with_reducible refine Ext.drew ?_) | (with_reducible refine Ext.drewN ?_ _) | (with_reducible refine Ext.trans ?_ (Hid.out ‹Hid (Ext _ _)›))))).mono ?_
        rintro e w2 ⟨rfl, h2⟩
        have H2 := Lib.hid h2
        clear h2
        have hE2 : Ext w w2 := by repeat (first | (with_reducible exact Ext.refl _) | (with_reducible refine Ext.alloc ?_ _) | (with_reducible apply Ext.setC; focus (simp <;> omega)) | (with_reducible refine Ext.drew ?_) | (with_reducible refine Ext.drewN ?_ _) | (with_reducible refine Ext.trans ?_ (Hid.out ‹Hid (Ext _ _)›)))
        have e2 := (hE2.cells b (o + n * 3 + 2) hb).trans d2
        go_wp2_with fail
        refine bodyPost_ret (v := .tuple #[.slice A1 l.length c1, .bool false, .int .i64 0]) (by simp [results, Try.results48, go_sem, *]) rfl ⟨_, rfl, ?_, ?_⟩
        · repeat (first | (with_reducible exact Ext.refl _) | (with_reducible refine Ext.alloc ?_ _) | (with_reducible apply Ext.setC; focus (simp <;> omega)) | (with_reducible refine Ext.drew ?_) | (with_reducible refine Ext.drewN ?_ _) | (with_reducible refine Ext.trans ?_ (Hid.out ‹Hid (Ext _ _)›)))
        · repeat (first | (with_reducible assumption) | (with_reducible exact Hid.out ‹Hid (OwnL _ _ _ _ _ _ _)›) | (with_reducible apply OwnL.setC; focus (simp <;> omega)) | (with_reducible apply OwnL.alloc) | (with_reducible apply OwnL.drew) | (with_reducible apply OwnL.drewN) | (with_reducible refine OwnL.ext ?_ (Hid.out ‹Hid (Ext _ _)›)))
    · have hut : l[n].up = true := by
        cases hu : l[n].up with
        | true => rfl
        | false => exact absurd (.inl hu) hc
      have hmd : decide (2 * countV isUpV l ≤ 3) = false := decide_eq_false (fun h => hc (.inr h))
      rw [hut] at d2
      have hres : winV l n = if topV 0 l = 99 then ([], false, 2) else (raise (topV 0 l + 1) n l, true, 0) := by
        unfold winV; rw [if_neg (by rw [hwi]; decide), if_neg (by rw [hup]; exact hc)]
      rw [hres]
      have hT0 := topV_ge 0 l
      generalize countV isUpV l = m at *
      by_cases h99 : topV 0 l = 99
      · rw [if_pos h99]
        rw [h99] at HG
        clear hres hc hup hut hd hR h3 hwi hwi2 hT0 h99
        go_enter Try.func48, Try.ntmps48
        go_wp2_with (go_at_call 51; refine (HW.out _).mono ?_; rintro e w' ⟨rfl, rfl⟩)
        refine (HCl.out _ (by repeat (first | (with_reducible exact Ext.refl _) | (with_reducible refine Ext.alloc ?_ _) | (with_reducible apply Ext.setC; focus (simp <;> omega)) | (with_reducible refine Ext.drew ?_) | (with_reducible refine Ext.drewN ?_ _) | (with_reducible refine Ext.trans ?_ (Hid.out ‹Hid (Ext _ _)›))))).mono ?_
        rintro e w1 ⟨s1, rfl, h1, ho1⟩
        obtain ⟨A1, c1, rfl⟩ := ho1.form
        have H1 := Lib.hid h1
        clear h1 ho1
        go_wp2_with fail
        refine (HM.out _ (by repeat (first | (with_reducible exact Ext.refl _) | (with_reducible refine Ext.alloc ?_ _) | (with_reducible apply Ext.setC; focus (simp <;> omega)) | (with_reducible refine Ext.drew ?_) | (with_reducible refine Ext.drewN ?_ _) | (with_reducible refine Ext.trans ?_ (Hid.out ‹Hid (Ext _ _)›))))).mono ?_
        rintro e w2 ⟨rfl, h2⟩
        have H2 := Lib.hid h2
        clear h2
        have hE2 : Ext w w2 := by repeat (first | (with_reducible exact Ext.refl _) | (with_reducible refine Ext.alloc ?_ _) | (with_reducible apply Ext.setC; focus (simp <;> omega)) | (with_reducible refine Ext.drew ?_) | (with_reducible refine Ext.drewN ?_ _) | (with_reducible refine Ext.trans ?_ (Hid.out ‹Hid (Ext _ _)›)))
        have e2 := (hE2.cells b (o + n * 3 + 2) hb).trans d2
        go_wp2_with fail
        refine (HG.out _ hE2).mono ?_
        rintro e w3 ⟨rfl, h4⟩
        have H3 := Lib.hid h4
        clear h4
        go_wp2_with fail
        refine bodyPost_ret (v := .tuple #[.slice none 0 0, .bool false, .int .i64 2]) (by simp [results, Try.results48, go_sem, *]) rfl ⟨_, rfl, ?_, OwnL.nil⟩
        repeat (first | (with_reducible exact Ext.refl _) | (with_reducible refine Ext.alloc ?_ _) | (with_reducible apply Ext.setC; focus (simp <;> omega)) | (with_reducible refine Ext.drew ?_) | (with_reducible refine Ext.drewN ?_ _) | (with_reducible refine Ext.trans ?_ (Hid.out ‹Hid (Ext _ _)›)))
      · rw [if_neg h99]
        have hlt := top_lt hR h99
        have h99b : (topV 0 l == 99) = false := by simpa using h99
        have hrl : (raise (topV 0 l + 1) n l).length = l.length := raise_length _ _ _
        have hrg : ∀ k (hk : k < l.length) (hk2 : k < (raise (topV 0 l + 1) n l).length), (raise (topV 0 l + 1) n l)[k] = if l[k].up = true then ⟨topV 0 l + 1, n, true⟩ else l[k] := by
          intro k hk hk2
          have := raise_get (t := topV 0 l + 1) (who := n) (List.getElem?_eq_getElem hk)
          rw [List.getElem?_eq_getElem hk2] at this
          injection this
        generalize topV 0 l = top at *
        have hwt : IntKind.i64.wrap (top + 1) = top + 1 := IntWalk.i64_in _ (by omega)
        generalize hRS : raise (top + 1) n l = rs at *
        have HRL := Lib.hid hrl
        have HRG := Lib.hid hrg
        clear hres hc hup hut hd hR h3 hwi hwi2 hT0 h99 hrl hrg hRS
        go_enter Try.func48, Try.ntmps48
        go_wp2_with (go_at_call 51; refine (HW.out _).mono ?_; rintro e w' ⟨rfl, rfl⟩)
        refine (HCl.out _ (by repeat (first | (with_reducible exact Ext.refl _) | (with_reducible refine Ext.alloc ?_ _) | (with_reducible apply Ext.setC; focus (simp <;> omega)) | (with_reducible refine Ext.drew ?_) | (with_reducible refine Ext.drewN ?_ _) | (with_reducible refine Ext.trans ?_ (Hid.out ‹Hid (Ext _ _)›))))).mono ?_
        rintro e w1 ⟨s1, rfl, h1, ho1⟩
        obtain ⟨g, c1, rfl, hg1, hg2, hg3⟩ := ho1.slot (by rw [HL.out]; omega)
        have H1 := Lib.hid h1
        have HO1 := Lib.hid ho1
        clear h1 ho1
        go_wp2_with fail
        refine (HM.out _ (by repeat (first | (with_reducible exact Ext.refl _) | (with_reducible refine Ext.alloc ?_ _) | (with_reducible apply Ext.setC; focus (simp <;> omega)) | (with_reducible refine Ext.drew ?_) | (with_reducible refine Ext.drewN ?_ _) | (with_reducible refine Ext.trans ?_ (Hid.out ‹Hid (Ext _ _)›))))).mono ?_
        rintro e w2 ⟨rfl, h2⟩
        have H2 := Lib.hid h2
        clear h2
        have hE2 : Ext w w2 := by repeat (first | (with_reducible exact Ext.refl _) | (with_reducible refine Ext.alloc ?_ _) | (with_reducible apply Ext.setC; focus (simp <;> omega)) | (with_reducible refine Ext.drew ?_) | (with_reducible refine Ext.drewN ?_ _) | (with_reducible refine Ext.trans ?_ (Hid.out ‹Hid (Ext _ _)›)))
        have e2 := (hE2.cells b (o + n * 3 + 2) hb).trans d2
        go_wp2_with fail
        refine (HG.out _ hE2).mono ?_
        rintro e w3 ⟨rfl, h4⟩
        have H3 := Lib.hid h4
        clear h4
        have hE3 : Ext w w3 := by repeat (first | (with_reducible exact Ext.refl _) | (with_reducible refine Ext.alloc ?_ _) | (with_reducible apply Ext.setC; focus (simp <;> omega)) | (with_reducible refine Ext.drew ?_) | (with_reducible refine Ext.drewN ?_ _) | (with_reducible refine Ext.trans ?_ (Hid.out ‹Hid (Ext _ _)›)))
        have hO3 : OwnL 39 3 vwc w.heap.size w3 (.slice (some ⟨g, 0, none⟩) l.length c1) l := by repeat (first | (with_reducible assumption) | (with_reducible exact Hid.out ‹Hid (OwnL _ _ _ _ _ _ _)›) | (with_reducible apply OwnL.setC; focus (simp <;> omega)) | (with_reducible apply OwnL.alloc) | (with_reducible apply OwnL.drew) | (with_reducible apply OwnL.drewN) | (with_reducible refine OwnL.ext ?_ (Hid.out ‹Hid (Ext _ _)›)))
        have HE3 := Lib.hid hE3
        have HO3 := Lib.hid hO3
        rw [HL.out] at HO3 ⊢
        clear hE2 hE3 hO3 HO1 H1 H2 H3 HM HG HCl HW e2
        go_wp2_with fail
        go_loopg [10, 11, 37] 3 (fun gg _ _ s37 wr => ∃ k : Nat, k ≤ 3 ∧ 3 - k ≤ gg ∧ s37 = .int .i64 k ∧ Aside (Ext w wr) ∧ Aside (OwnL 39 3 vwc w.heap.size wr (.slice (some ⟨g, 0, none⟩) 3 c1) (rs.take k ++ l.drop k)))
        case atStart => exact ⟨0, by omega, by omega, rfl, HE3.out, HO3.out⟩
        case round =>
          obtain ⟨k, hk, hgk, rfl, HE, HB⟩ := hrel
          by_cases hlt : k < 3
          · have hkl : k < l.length := by rw [HL.out]; exact hlt
            have hlt' : (k : Int) < 3 := by omega
            have hpg := part_get HRL.out hkl
            have hps := part_step HRL.out hkl
            have hpe := part_same HRL.out hkl
            have hgk2 := HRG.out k hkl (by rw [HRL.out]; exact hkl)
            have hpl : k < (rs.take k ++ l.drop k).length := (List.getElem?_eq_some_iff.1 hpg).1
            have hpx : (rs.take k ++ l.drop k)[k] = l[k] := (List.getElem?_eq_some_iff.1 hpg).2
            have f0 := HB.out.field vwc_size k 0 hpl (by omega) (.int .i64 l[k].epoch) (by rw [hpx]; rfl)
            have f1 := HB.out.field vwc_size k 1 hpl (by omega) (.int .i64 l[k].leader) (by rw [hpx]; rfl)
            have f2 := HB.out.field vwc_size k 2 hpl (by omega) (.bool l[k].up) (by rw [hpx]; rfl)
            simp only [Nat.add_zero] at f0
            cases hu : l[k].up with
            | false =>
              rw [hu] at f2
              rw [if_neg (by rw [hu]; decide)] at hgk2
              have HN := Lib.hid (hpe hgk2)
              have HE2 := Lib.hid HE.out
              have HB2 := Lib.hid HB.out
              obtain ⟨e0, z0⟩ := f0
              obtain ⟨e1, z1⟩ := f1
              obtain ⟨e2, z2⟩ := f2
              clear hpg hps hpe hgk2 hpx HE HB hu hpl
              go_wp2_with fail
              go_roundg (3 - (k + 1))
              case measure => omega
              case rel => exact ⟨k + 1, by omega, by omega, by go_num, HE2.out, by rw [← HN.out]; exact HB2.out⟩
            | true =>
              rw [hu] at f2
              rw [if_pos hu] at hgk2
              rw [hgk2] at hps
              have hp1 := HB.out.put_field vwc_size k 0 hpl (by omega) ⟨top + 1, l[k].leader, l[k].up⟩ (.int .i64 (top + 1)) (by rw [hpx]; rfl)
              have hp2 := hp1.put_field vwc_size k 1 (by rw [List.length_set]; exact hpl) (by omega) ⟨top + 1, n, true⟩ (.int .i64 n) (by rw [List.getElem_set_self]; simp [vwc, hu])
              rw [List.set_set, hps, Nat.add_zero] at hp2
              have HE2 := Lib.hid HE.out
              have HB2 := Lib.hid hp2
              obtain ⟨e0, z0⟩ := f0
              obtain ⟨e1, z1⟩ := f1
              obtain ⟨e2, z2⟩ := f2
              clear hpg hps hpe hgk2 hpx HE HB hu hpl hp1 hp2
              go_wp2_with fail
              go_roundg (3 - (k + 1))
              case measure => omega
              case rel => exact ⟨k + 1, by omega, by omega, by go_num, (HE2.out.setCell hg1 _).setCell hg1 _, HB2.out⟩
          · have hk3 : k = 3 := by omega
            subst hk3
            have HB2 := Lib.hid (show OwnL 39 3 vwc w.heap.size wr (.slice (some ⟨g, 0, none⟩) 3 c1) rs by
              have := HB.out
              rwa [List.take_of_length_le (by rw [HRL.out, HL.out]; exact Nat.le_refl _), List.drop_of_length_le (by rw [HL.out]; exact Nat.le_refl _), List.append_nil] at this)
            have HE2 := Lib.hid HE.out
            clear HE HB
            go_wp2_with fail
            refine bodyPost_ret (v := .tuple #[.slice (some ⟨g, 0, none⟩) 3 c1, .bool true, .int .i64 0]) (by simp [results, Try.results48, go_sem, *]) rfl ⟨_, rfl, HE2.out, HB2.out⟩

set_option maxHeartbeats 4000000 in
theorem lead_Turn (l : List Vw) (v : Value) (who : Int) (up : Bool) (w : World) (hr : RdL 3 vwc w v l) (hd : ckViews l = 0) :
    Calls Try.prog 46 #[v, .int .i64 who, .bool up] w fun e w' => ∃ s', e = .returned (.tuple #[s', .int .i64 (setV l who up).2]) ∧ Ext w w' ∧ OwnL 39 3 vwc w.heap.size w' s' (setV l who up).1 := by
  have hR := (rightV_iff l).1 hd
  have h3 := hR.1
  have HW := Lib.hid (fun w => lead_within who 0 2 w)
  have HCl := Lib.hid (fun (w' : World) (h : Ext w w') => Clone_vw l v w' (hr.ext h) (by omega))
  obtain ⟨A, c, rfl, -, -⟩ := hr.form
  cases hwi : within who 0 2 with
  | false =>
    have hres : setV l who up = ([], 3) := by unfold setV; rw [if_pos hwi]
    rw [hres]
    rw [hwi] at HW
    clear hres hwi hd hR h3
    go_enter Try.func46, Try.ntmps46
    go_wp2_with (go_at_call 51; refine (HW.out _).mono ?_; rintro e w' ⟨rfl, rfl⟩)
    refine bodyPost_ret (v := .tuple #[.slice none 0 0, .int .i64 3]) (by simp [results, Try.results46, go_sem, *]) rfl ⟨_, rfl, Ext.refl _, OwnL.nil⟩
  | true =>
    rw [hwi] at HW
    have hwi2 : 0 ≤ who ∧ who ≤ 2 := by simpa [within] using hwi
    obtain ⟨n, rfl⟩ : ∃ n : Nat, who = n := ⟨who.toNat, by omega⟩
    have hn3 : n < l.length := by omega
    have hres : setV l n up = (l.set n ⟨l[n].epoch, l[n].leader, up⟩, 0) := by
      unfold setV; rw [if_neg (by rw [hwi]; decide), Int.toNat_natCast, modify_set l n hn3]
    rw [hres]
    have hni : (n : Int) < 3 := by omega
    have hn3' : n < 3 := by omega
    have HL := Lib.hid h3
    have HN := Lib.hid hn3
    clear hres hwi hd hR hwi2
    rw [h3] at HCl ⊢
    clear h3
    go_enter Try.func46, Try.ntmps46
    go_wp2_with (go_at_call 51; refine (HW.out _).mono ?_; rintro e w' ⟨rfl, rfl⟩)
    refine (HCl.out _ (by repeat (first | (with_reducible exact Ext.refl _) | (with_reducible refine Ext.alloc ?_ _) | (with_reducible apply Ext.setC; focus (simp <;> omega)) | (with_reducible refine Ext.drew ?_) | (with_reducible refine Ext.drewN ?_ _) | (with_reducible refine Ext.trans ?_ (Hid.out ‹Hid (Ext _ _)›))))).mono ?_
    rintro e w1 ⟨s1, rfl, h1, ho1⟩
    obtain ⟨g, c1, rfl, hg1, hg2, hg3⟩ := ho1.slot (by rw [HL.out]; omega)
    have f2 := ho1.field vwc_size n 2 HN.out (by omega) (.bool l[n].up) rfl
    have hp2 := ho1.put_field vwc_size n 2 HN.out (by omega) ⟨l[n].epoch, l[n].leader, up⟩ (.bool up) rfl
    obtain ⟨e2, z2⟩ := f2
    have H1 := Lib.hid h1
    have HP := Lib.hid hp2
    rw [HL.out] at HP ⊢
    clear h1 ho1 hp2
    go_wp2_with fail
    refine bodyPost_ret (v := .tuple #[.slice (some ⟨g, 0, none⟩) 3 c1, .int .i64 0]) (by simp [results, Try.results46, go_sem, *]) rfl ⟨_, rfl, ?_, HP.out⟩
    exact Ext.setCell H1.out hg1 _

set_option maxHeartbeats 4000000 in
theorem lead_Win (l : List Vw) (v : Value) (who : Int) (w : World) (hr : RdL 3 vwc w v l) :
    Calls Try.prog 15 #[v, .int .i64 who] w fun e w' => ∃ s', e = .returned (.tuple #[s', .bool (winAll l who).2.1, .int .i64 (winAll l who).2.2]) ∧ Ext w w' ∧ OwnL 39 3 vwc w.heap.size w' s' (winAll l who).1 := by
  have HC := Lib.hid (fun (w' : World) (h : Ext w w') => lead_Check l v w' (hr.ext h))
  obtain ⟨A, c, rfl, -, -⟩ := hr.form
  by_cases hd : ckViews l = 0
  · have HW := Lib.hid (fun (w' : World) (h : Ext w w') => lead_Raw l _ who w' (hr.ext h) hd)
    have hn : winAll l who = winV l who := by unfold winAll; rw [if_neg (by rw [hd]; decide)]
    rw [hn]
    rw [hd] at HC
    clear hn hd hr
    generalize winV l who = X at *
    obtain ⟨x1, x2, x3⟩ := X
    simp only at HW ⊢
    go_enter Try.func15, Try.ntmps15
    go_wp2_with fail
    (refine (HC.out _ (by repeat (first | (with_reducible exact Ext.refl _) | (with_reducible refine Ext.alloc ?_ _) | (with_reducible apply Ext.setC; focus (simp <;> omega)) | (with_reducible refine Ext.drew ?_) | (with_reducible refine Ext.drewN ?_ _) | (with_reducible refine Ext.trans ?_ (Hid.out ‹Hid (Ext _ _)›))))).mono ?_; rintro e w1 ⟨rfl, h1⟩; have H1 := Lib.hid h1; have hz1 := h1.size; clear h1; (try simp only [World.size_alloc, size_set, World.heap_drewN, size_drew] at hz1))
    go_wp2_with fail
    refine (HW.out _ (by repeat (first | (with_reducible exact Ext.refl _) | (with_reducible refine Ext.alloc ?_ _) | (with_reducible apply Ext.setC; focus (simp <;> omega)) | (with_reducible refine Ext.drew ?_) | (with_reducible refine Ext.drewN ?_ _) | (with_reducible refine Ext.trans ?_ (Hid.out ‹Hid (Ext _ _)›))))).mono ?_
    rintro e w2 ⟨s2, rfl, h2, ho2⟩
    obtain ⟨A2, c2, rfl⟩ := ho2.form
    have H2 := Lib.hid h2
    have HO2 := Lib.hid ho2
    have hz := H1.out.size
    clear h2 ho2
    go_wp2_with fail
    refine bodyPost_ret (v := .tuple #[.slice A2 x1.length c2, .bool x2, .int .i64 x3]) (by simp [results, Try.results15, go_sem, *]) rfl ⟨_, rfl, ?_, ?_⟩
    · repeat (first | (with_reducible exact Ext.refl _) | (with_reducible refine Ext.alloc ?_ _) | (with_reducible apply Ext.setC; focus (simp <;> omega)) | (with_reducible refine Ext.drew ?_) | (with_reducible refine Ext.drewN ?_ _) | (with_reducible refine Ext.trans ?_ (Hid.out ‹Hid (Ext _ _)›)))
    · (refine OwnL.lower (base := w1.heap.size) ?_ (by omega); repeat (first | (with_reducible assumption) | (with_reducible exact Hid.out ‹Hid (OwnL _ _ _ _ _ _ _)›) | (with_reducible apply OwnL.setC; focus (simp <;> omega)) | (with_reducible apply OwnL.alloc) | (with_reducible apply OwnL.drew) | (with_reducible apply OwnL.drewN) | (with_reducible refine OwnL.ext ?_ (Hid.out ‹Hid (Ext _ _)›))))
  · have hn : winAll l who = ([], false, ckViews l) := by unfold winAll; rw [if_pos hd]
    rw [hn]
    have hb : (ckViews l != 0) = true := by simpa using hd
    generalize ckViews l = r at *
    clear hn hd hr
    go_enter Try.func15, Try.ntmps15
    go_wp2_with fail
    (refine (HC.out _ (by repeat (first | (with_reducible exact Ext.refl _) | (with_reducible refine Ext.alloc ?_ _) | (with_reducible apply Ext.setC; focus (simp <;> omega)) | (with_reducible refine Ext.drew ?_) | (with_reducible refine Ext.drewN ?_ _) | (with_reducible refine Ext.trans ?_ (Hid.out ‹Hid (Ext _ _)›))))).mono ?_; rintro e w1 ⟨rfl, h1⟩; have H1 := Lib.hid h1; have hz1 := h1.size; clear h1; (try simp only [World.size_alloc, size_set, World.heap_drewN, size_drew] at hz1))
    go_wp2_with fail
    refine bodyPost_ret (v := .tuple #[.slice none 0 0, .bool false, .int .i64 r]) (by simp [results, Try.results15, go_sem, *]) rfl ⟨_, rfl, ?_, OwnL.nil⟩
    repeat (first | (with_reducible exact Ext.refl _) | (with_reducible refine Ext.alloc ?_ _) | (with_reducible apply Ext.setC; focus (simp <;> omega)) | (with_reducible refine Ext.drew ?_) | (with_reducible refine Ext.drewN ?_ _) | (with_reducible refine Ext.trans ?_ (Hid.out ‹Hid (Ext _ _)›)))
set_option maxHeartbeats 4000000 in
theorem lead_Set (l : List Vw) (v : Value) (who : Int) (up : Bool) (w : World) (hr : RdL 3 vwc w v l) :
    Calls Try.prog 13 #[v, .int .i64 who, .bool up] w fun e w' => ∃ s', e = .returned (.tuple #[s', .int .i64 (setAll l who up).2]) ∧ Ext w w' ∧ OwnL 39 3 vwc w.heap.size w' s' (setAll l who up).1 := by
  have HC := Lib.hid (fun (w' : World) (h : Ext w w') => lead_Check l v w' (hr.ext h))
  obtain ⟨A, c, rfl, -, -⟩ := hr.form
  by_cases hd : ckViews l = 0
  · have HW := Lib.hid (fun (w' : World) (h : Ext w w') => lead_Turn l _ who up w' (hr.ext h) hd)
    have hn : setAll l who up = setV l who up := by unfold setAll; rw [if_neg (by rw [hd]; decide)]
    rw [hn]
    rw [hd] at HC
    clear hn hd hr
    generalize setV l who up = X at *
    obtain ⟨x1, x3⟩ := X
    simp only at HW ⊢
    go_enter Try.func13, Try.ntmps13
    go_wp2_with fail
    (refine (HC.out _ (by repeat (first | (with_reducible exact Ext.refl _) | (with_reducible refine Ext.alloc ?_ _) | (with_reducible apply Ext.setC; focus (simp <;> omega)) | (with_reducible refine Ext.drew ?_) | (with_reducible refine Ext.drewN ?_ _) | (with_reducible refine Ext.trans ?_ (Hid.out ‹Hid (Ext _ _)›))))).mono ?_; rintro e w1 ⟨rfl, h1⟩; have H1 := Lib.hid h1; have hz1 := h1.size; clear h1; (try simp only [World.size_alloc, size_set, World.heap_drewN, size_drew] at hz1))
    go_wp2_with fail
    refine (HW.out _ (by repeat (first | (with_reducible exact Ext.refl _) | (with_reducible refine Ext.alloc ?_ _) | (with_reducible apply Ext.setC; focus (simp <;> omega)) | (with_reducible refine Ext.drew ?_) | (with_reducible refine Ext.drewN ?_ _) | (with_reducible refine Ext.trans ?_ (Hid.out ‹Hid (Ext _ _)›))))).mono ?_
    rintro e w2 ⟨s2, rfl, h2, ho2⟩
    obtain ⟨A2, c2, rfl⟩ := ho2.form
    have H2 := Lib.hid h2
    have HO2 := Lib.hid ho2
    have hz := H1.out.size
    clear h2 ho2
    go_wp2_with fail
    refine bodyPost_ret (v := .tuple #[.slice A2 x1.length c2, .int .i64 x3]) (by simp [results, Try.results13, go_sem, *]) rfl ⟨_, rfl, ?_, ?_⟩
    · repeat (first | (with_reducible exact Ext.refl _) | (with_reducible refine Ext.alloc ?_ _) | (with_reducible apply Ext.setC; focus (simp <;> omega)) | (with_reducible refine Ext.drew ?_) | (with_reducible refine Ext.drewN ?_ _) | (with_reducible refine Ext.trans ?_ (Hid.out ‹Hid (Ext _ _)›)))
    · (refine OwnL.lower (base := w1.heap.size) ?_ (by omega); repeat (first | (with_reducible assumption) | (with_reducible exact Hid.out ‹Hid (OwnL _ _ _ _ _ _ _)›) | (with_reducible apply OwnL.setC; focus (simp <;> omega)) | (with_reducible apply OwnL.alloc) | (with_reducible apply OwnL.drew) | (with_reducible apply OwnL.drewN) | (with_reducible refine OwnL.ext ?_ (Hid.out ‹Hid (Ext _ _)›))))
  · have hn : setAll l who up = ([], ckViews l) := by unfold setAll; rw [if_pos hd]
    rw [hn]
    have hb : (ckViews l != 0) = true := by simpa using hd
    generalize ckViews l = r at *
    clear hn hd hr
    go_enter Try.func13, Try.ntmps13
    go_wp2_with fail
    (refine (HC.out _ (by repeat (first | (with_reducible exact Ext.refl _) | (with_reducible refine Ext.alloc ?_ _) | (with_reducible apply Ext.setC; focus (simp <;> omega)) | (with_reducible refine Ext.drew ?_) | (with_reducible refine Ext.drewN ?_ _) | (with_reducible refine Ext.trans ?_ (Hid.out ‹Hid (Ext _ _)›))))).mono ?_; rintro e w1 ⟨rfl, h1⟩; have H1 := Lib.hid h1; have hz1 := h1.size; clear h1; (try simp only [World.size_alloc, size_set, World.heap_drewN, size_drew] at hz1))
    go_wp2_with fail
    refine bodyPost_ret (v := .tuple #[.slice none 0 0, .int .i64 r]) (by simp [results, Try.results13, go_sem, *]) rfl ⟨_, rfl, ?_, OwnL.nil⟩
    repeat (first | (with_reducible exact Ext.refl _) | (with_reducible refine Ext.alloc ?_ _) | (with_reducible apply Ext.setC; focus (simp <;> omega)) | (with_reducible refine Ext.drew ?_) | (with_reducible refine Ext.drewN ?_ _) | (with_reducible refine Ext.trans ?_ (Hid.out ‹Hid (Ext _ _)›)))
end Go.Proofs.Ythollackhkiofaa
