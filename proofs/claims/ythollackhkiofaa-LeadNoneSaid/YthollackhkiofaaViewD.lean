/- lead.Who and Now. -/
import Derived.Test.YthollackhkiofaaViewC
import Derived.Test.YthollackhkiofaaVwQ
namespace Go.Proofs.Ythollackhkiofaa
set_option linter.unusedSimpArgs false
set_option linter.unusedVariables false
open Go Go.RowKit Lb

theorem ixBy_find {α : Type} (p : α → Bool) (l : List α) {x : α} (h : l.find? p = some x) : ∃ i : Nat, ixBy p l = i ∧ ∃ hi : i < l.length, l[i] = x := by
  rw [List.find?_eq_some_iff_getElem] at h
  obtain ⟨hp, i, hi, hx, hj⟩ := h
  refine ⟨i, ?_, hi, hx⟩
  unfold ixBy
  rw [findIdx_some hi (fun j hj' => by simpa using hj j hj') (by rw [hx]; exact hp)]
theorem top_find {l : List Vw} (hr : RightV l) : ∃ v, l.find? (atTop (topV 0 l)) = some v := by
  cases hf : l.find? (atTop (topV 0 l)) with
  | some v => exact ⟨v, rfl⟩
  | none =>
    exfalso
    rw [List.find?_eq_none] at hf
    rcases topV_mem 0 l with h | ⟨v, hv, h⟩
    · have hp : 0 < l.length := by rw [hr.1]; omega
      have hm := List.getElem_mem hp
      have h1 := le_topV 0 l _ hm
      have h2 := (ckView_ok _).1 (hr.2.1 _ hm)
      have h3 := hf _ hm
      simp only [atTop, beq_iff_eq] at h3
      omega
    · have h3 := hf _ hv
      simp [atTop, h] at h3

set_option maxHeartbeats 4000000 in
theorem lead_Who (l : List Vw) (v : Value) (w : World) (hr : RdL 3 vwc w v l) (hd : ckViews l = 0) :
    Calls Try.prog 49 #[v] w fun e w' => e = .returned (.tuple #[.int .i64 (whoV l).1, .bool (whoV l).2]) ∧ Ext w w' := by
  have hR := (rightV_iff l).1 hd
  obtain ⟨x, hx⟩ := top_find hR
  obtain ⟨i, hi, hil, hlx⟩ := ixBy_find _ _ hx
  have hwt : whoTop l = x.leader := by unfold whoTop; rw [hx]
  have hxr := (ckView_ok x).1 (hR.2.1 x (by rw [← hlx]; exact List.getElem_mem hil))
  obtain ⟨n, hn⟩ : ∃ n : Nat, x.leader = n := ⟨x.leader.toNat, by omega⟩
  have hn3 : n < l.length := by rw [hR.1]; omega
  have hup : isUp l x.leader = l[n].up := by
    unfold isUp
    rw [hn, Int.toNat_natCast, List.getElem?_eq_getElem hn3]
  have HG := Lib.hid (fun (w' : World) (h : Ext w w') => lead_greatest l v w' (hr.ext h) hR.1)
  have HI := Lib.hid (fun (w' : World) (g : Nat) (h : Ext w w') (hg : Row w' g #[.int .i64 (topV 0 l)]) => IndexFunc_view (atTop (topV 0 l)) 75 #[.pointer (some ⟨g, 0, none⟩)] (fun args w => by simp [go_sem]) l v w' (hr.ext h) (fun W x h => lead_Who1 x (topV 0 l) g W (hg.ext h)))
  have HM := Lib.hid (fun (w' : World) (g : Nat) (h : Ext w w') (hg : Row w' g #[.int .i64 (topV 0 l)]) => lead_many (upTop (topV 0 l)) 76 #[.pointer (some ⟨g, 0, none⟩)] (fun args w => by simp [go_sem]) l v w' (hr.ext h) hR.1 (fun W x h => lead_Who2 x (topV 0 l) g W (hg.ext h)))
  have hcnt := countV_nonneg (upTop (topV 0 l)) l
  have hcl : countV (upTop (topV 0 l)) l ≤ 3 := by
    have : ∀ m : List Vw, countV (upTop (topV 0 l)) m ≤ m.length := by
      intro m
      induction m with
      | nil => simp [countV]
      | cons a m ih => rw [countV_cons, List.length_cons]; push_cast; split <;> omega
    have := this l
    rw [hR.1] at this
    exact this
  unfold whoV leads
  rw [hwt, hup]
  rw [hi] at HI
  have hli : l[i].leader = n := by rw [hlx]; exact hn
  obtain ⟨A, c, rfl, -, -⟩ := hr.form
  obtain ⟨b, o, rfl, hb, c0, c1, c2⟩ := hr.vw_at rfl hil
  obtain ⟨b', o', hA, -, d0, d1, d2⟩ := hr.vw_at rfl hn3
  injection hA with hA
  injection hA with h1 h2
  subst h1 h2
  rw [hli] at c1
  rw [hn]
  have hi3 : i < 3 := by rw [← hR.1]; exact hil
  have hn3' : n < 3 := by rw [← hR.1]; exact hn3
  rw [hR.1] at HG HI HM ⊢
  generalize l[n].up = u at *
  generalize topV 0 l = top at *
  generalize countV (upTop top) l = m at *
  generalize hres : (if (decide (0 < top) && decide (3 < 2 * m) && u) = true then ((n : Int), true) else (0, false)) = res
  have HRES := Lib.hid hres
  have hw2 : IntKind.i64.wrap (2 * m) = 2 * m := IntWalk.i64_in _ (by omega)
  have hii : (i : Int) < 3 := by omega
  have hni : (n : Int) < 3 := by omega
  clear hres hr hd hR hx hlx hwt hxr hn hup hli hi hil hn3 c0 c2 d0 d1 hcnt
  go_enter Try.func49, Try.ntmps49
  go_wp2_with fail
  (refine (HG.out _ (by repeat (first | (with_reducible exact Ext.refl _) | (with_reducible refine Ext.alloc ?_ _) | (with_reducible apply Ext.setC; focus (simp <;> omega)) | (with_reducible refine Ext.drew ?_) | (with_reducible refine Ext.drewN ?_ _) | (with_reducible refine Ext.trans ?_ (Hid.out ‹Hid (Ext _ _)›))))).mono ?_; rintro e w1 ⟨rfl, h1⟩; have H1 := Lib.hid h1; have hz1 := h1.size; clear h1; (try simp only [World.size_alloc, size_set, World.heap_drewN, size_drew] at hz1))
  go_wp2_with fail
  have hc1 : (w1.alloc (.cells #[.int .i64 top] 3)).cell? ⟨b, o + i * 3 + 1, none⟩ = some (.int .i64 n) := by
    have hE : Ext w (w1.alloc (.cells #[.int .i64 top] 3)) := by repeat (first | (with_reducible exact Ext.refl _) | (with_reducible refine Ext.alloc ?_ _) | (with_reducible apply Ext.setC; focus (simp <;> omega)) | (with_reducible refine Ext.drew ?_) | (with_reducible refine Ext.drewN ?_ _) | (with_reducible refine Ext.trans ?_ (Hid.out ‹Hid (Ext _ _)›)))
    exact (hE.cells b _ hb).trans c1
  refine (HI.out _ _ (by repeat (first | (with_reducible exact Ext.refl _) | (with_reducible refine Ext.alloc ?_ _) | (with_reducible apply Ext.setC; focus (simp <;> omega)) | (with_reducible refine Ext.drew ?_) | (with_reducible refine Ext.drewN ?_ _) | (with_reducible refine Ext.trans ?_ (Hid.out ‹Hid (Ext _ _)›)))) (Row.newAt rfl)).mono ?_
  rintro e w2 ⟨rfl, h2⟩
  have H2 := Lib.hid h2
  have hz2 := h2.size
  clear h2
  (apply Row.use (w := w2) (g := w1.heap.size); (focus (repeat (first | (with_reducible exact Hid.out ‹Hid (Row _ _ _)›) | (with_reducible exact Row.newAt rfl) | (with_reducible apply Row.newAt; (simp; done)) | (with_reducible apply Row.set_) | (with_reducible apply Row.far; focus (simp <;> omega)) | (with_reducible apply Row.alloc) | (with_reducible apply Row.drew) | (with_reducible apply Row.drewN) | (with_reducible apply Row.ext (Hid.out ‹Hid (Ext _ _)›))))); intro q2_0 f2_0 l2_0 R2_0; (try simp only [List.setIfInBounds_toArray, List.set_cons_zero, List.set_cons_succ] at q2_0 R2_0))
  have hE2 : Ext w w2 := by repeat (first | (with_reducible exact Ext.refl _) | (with_reducible refine Ext.alloc ?_ _) | (with_reducible apply Ext.setC; focus (simp <;> omega)) | (with_reducible refine Ext.drew ?_) | (with_reducible refine Ext.drewN ?_ _) | (with_reducible refine Ext.trans ?_ (Hid.out ‹Hid (Ext _ _)›)))
  have e1 := (hE2.cells b (o + i * 3 + 1) hb).trans c1
  go_wp2_with fail
  refine (HM.out _ _ hE2 R2_0.out).mono ?_
  rintro e w3 ⟨rfl, h3⟩
  have H3 := Lib.hid h3
  clear h3
  (apply Row.use (w := w3) (g := w1.heap.size); (focus (repeat (first | (with_reducible exact Hid.out ‹Hid (Row _ _ _)›) | (with_reducible exact Row.newAt rfl) | (with_reducible apply Row.newAt; (simp; done)) | (with_reducible apply Row.set_) | (with_reducible apply Row.far; focus (simp <;> omega)) | (with_reducible apply Row.alloc) | (with_reducible apply Row.drew) | (with_reducible apply Row.drewN) | (with_reducible apply Row.ext (Hid.out ‹Hid (Ext _ _)›))))); intro q3_0 f3_0 l3_0 R3_0; (try simp only [List.setIfInBounds_toArray, List.set_cons_zero, List.set_cons_succ] at q3_0 R3_0))
  have hE3 : Ext w w3 := by repeat (first | (with_reducible exact Ext.refl _) | (with_reducible refine Ext.alloc ?_ _) | (with_reducible apply Ext.setC; focus (simp <;> omega)) | (with_reducible refine Ext.drew ?_) | (with_reducible refine Ext.drewN ?_ _) | (with_reducible refine Ext.trans ?_ (Hid.out ‹Hid (Ext _ _)›)))
  have e2 := (hE3.cells b (o + n * 3 + 2) hb).trans d2
  have HE3 := Lib.hid hE3
  clear hE2 hE3
  by_cases ht : 0 < top
  · have htd : decide (0 < top) = true := by simpa using ht
    by_cases hm : 3 < 2 * m
    · have hmd : decide (3 < 2 * m) = true := by simpa using hm
      cases u
      · have HQ := Lib.hid (show res = (0, false) by rw [← HRES.out]; simp)
        clear HRES
        go_wp2_with fail
        go_ret2
        exact ⟨by rw [HQ.out]; rfl, HE3.out⟩
      · have HQ := Lib.hid (show res = ((n : Int), true) by rw [← HRES.out]; simp [ht, hm])
        clear HRES
        go_wp2_with fail
        go_ret2
        exact ⟨by rw [HQ.out]; rfl, HE3.out⟩
    · have hmd : decide (3 < 2 * m) = false := by simpa using hm
      have HQ := Lib.hid (show res = (0, false) by rw [← HRES.out]; simp [hm])
      clear HRES
      go_wp2_with fail
      go_ret2
      exact ⟨by rw [HQ.out]; rfl, HE3.out⟩
  · have htd : decide (0 < top) = false := by simpa using ht
    have HQ := Lib.hid (show res = (0, false) by rw [← HRES.out]; simp [ht])
    clear HRES
    go_wp2_with fail
    go_ret2
    exact ⟨by rw [HQ.out]; rfl, HE3.out⟩

set_option maxHeartbeats 4000000 in
theorem lead_Now (l : List Vw) (v : Value) (w : World) (hr : RdL 3 vwc w v l) :
    Calls Try.prog 16 #[v] w fun e w' => e = .returned (.tuple #[.int .i64 (nowAll l).1, .bool (nowAll l).2.1, .int .i64 (nowAll l).2.2]) ∧ Ext w w' := by
  have HC := Lib.hid (fun (w' : World) (h : Ext w w') => lead_Check l v w' (hr.ext h))
  obtain ⟨A, c, rfl, -, -⟩ := hr.form
  by_cases hd : ckViews l = 0
  · have HW := Lib.hid (fun (w' : World) (h : Ext w w') => lead_Who l _ w' (hr.ext h) hd)
    have hn : nowAll l = ((whoV l).1, (whoV l).2, 0) := by unfold nowAll; rw [if_neg (by rw [hd]; decide)]
    rw [hn]
    rw [hd] at HC
    clear hn hd hr
    generalize whoV l = X at *
    obtain ⟨x1, x2⟩ := X
    simp only at HW ⊢
    go_enter Try.func16, Try.ntmps16
    go_wp2_with fail
    (refine (HC.out _ (by repeat (first | (with_reducible exact Ext.refl _) | (with_reducible refine Ext.alloc ?_ _) | (with_reducible apply Ext.setC; focus (simp <;> omega)) | (with_reducible refine Ext.drew ?_) | (with_reducible refine Ext.drewN ?_ _) | (with_reducible refine Ext.trans ?_ (Hid.out ‹Hid (Ext _ _)›))))).mono ?_; rintro e w1 ⟨rfl, h1⟩; have H1 := Lib.hid h1; have hz1 := h1.size; clear h1; (try simp only [World.size_alloc, size_set, World.heap_drewN, size_drew] at hz1))
    go_wp2_with fail
    (refine (HW.out _ (by repeat (first | (with_reducible exact Ext.refl _) | (with_reducible refine Ext.alloc ?_ _) | (with_reducible apply Ext.setC; focus (simp <;> omega)) | (with_reducible refine Ext.drew ?_) | (with_reducible refine Ext.drewN ?_ _) | (with_reducible refine Ext.trans ?_ (Hid.out ‹Hid (Ext _ _)›))))).mono ?_; rintro e w2 ⟨rfl, h2⟩; have H2 := Lib.hid h2; have hz2 := h2.size; clear h2; (try simp only [World.size_alloc, size_set, World.heap_drewN, size_drew] at hz2))
    go_wp2_with fail
    refine bodyPost_ret (v := .tuple #[.int .i64 x1, .bool x2, .int .i64 0]) (by simp [results, Try.results16, go_sem, *]) rfl ⟨rfl, ?_⟩
    repeat (first | (with_reducible exact Ext.refl _) | (with_reducible refine Ext.alloc ?_ _) | (with_reducible apply Ext.setC; focus (simp <;> omega)) | (with_reducible refine Ext.drew ?_) | (with_reducible refine Ext.drewN ?_ _) | (with_reducible refine Ext.trans ?_ (Hid.out ‹Hid (Ext _ _)›)))
  · have hn : nowAll l = (0, false, ckViews l) := by unfold nowAll; rw [if_pos hd]
    rw [hn]
    have hb : (ckViews l != 0) = true := by simpa using hd
    generalize ckViews l = r at *
    clear hn hd hr
    go_enter Try.func16, Try.ntmps16
    go_wp2_with fail
    (refine (HC.out _ (by repeat (first | (with_reducible exact Ext.refl _) | (with_reducible refine Ext.alloc ?_ _) | (with_reducible apply Ext.setC; focus (simp <;> omega)) | (with_reducible refine Ext.drew ?_) | (with_reducible refine Ext.drewN ?_ _) | (with_reducible refine Ext.trans ?_ (Hid.out ‹Hid (Ext _ _)›))))).mono ?_; rintro e w1 ⟨rfl, h1⟩; have H1 := Lib.hid h1; have hz1 := h1.size; clear h1; (try simp only [World.size_alloc, size_set, World.heap_drewN, size_drew] at hz1))
    go_wp2_with fail
    refine bodyPost_ret (v := .tuple #[.int .i64 0, .bool false, .int .i64 r]) (by simp [results, Try.results16, go_sem, *]) rfl ⟨rfl, ?_⟩
    repeat (first | (with_reducible exact Ext.refl _) | (with_reducible refine Ext.alloc ?_ _) | (with_reducible apply Ext.setC; focus (simp <;> omega)) | (with_reducible refine Ext.drew ?_) | (with_reducible refine Ext.drewN ?_ _) | (with_reducible refine Ext.trans ?_ (Hid.out ‹Hid (Ext _ _)›)))
end Go.Proofs.Ythollackhkiofaa
