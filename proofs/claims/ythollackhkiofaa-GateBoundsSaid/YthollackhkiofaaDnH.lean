/- The references on lists: DenyOf, NewerOf, SameDenied; the laws' deniedIs. -/
import Derived.BigRegion
import Derived.Test.YthollackhkiofaaDnG
namespace Go.Proofs.Ythollackhkiofaa
set_option linter.unusedSimpArgs false
set_option linter.unusedVariables false
set_option maxRecDepth 100000
open Go Go.RowKit Lb

theorem swap_list {α : Type} (l : List α) (x y : α) (k : Nat) (hk : 0 < k) (hkl : k ≤ l.length) (hy : l[k - 1]? = some y) :
    ((l.take k ++ x :: l.drop k).set k y).set (k - 1) x = l.take (k - 1) ++ x :: l.drop (k - 1) := by
  obtain ⟨h1, h2⟩ := List.getElem?_eq_some_iff.1 hy
  obtain ⟨j, rfl⟩ : ∃ j, k = j + 1 := ⟨k - 1, by omega⟩
  simp only [Nat.add_sub_cancel] at *
  have hj : (l.take (j + 1)).length = j + 1 := by rw [List.length_take]; omega
  rw [List.set_append_right _ _ (by omega), hj, Nat.sub_self, List.set_cons_zero, List.set_append_left _ _ (by omega)]
  rw [List.take_succ_eq_append_getElem (by omega), h2, List.set_append_right _ _ (by rw [List.length_take]; omega)]
  rw [List.length_take, Nat.min_eq_left (by omega), Nat.sub_self, List.set_cons_zero, List.drop_eq_getElem_cons (i := j) (by omega), h2]
  simp
theorem OwnL.int_cell {base g n c : Nat} {w : World} {l : List Int} (h : OwnL 3 1 inc base w (.slice (some ⟨g, 0, none⟩) n c) l) (j : Nat) (x : Int) (hj : l[j]? = some x) :
    w.cell? ⟨g, j, none⟩ = some (.int .i64 x) ∧ w.frozen? ⟨g, j, none⟩ = false := by
  have hx : (encs inc l)[j]? = some (.int .i64 x) := by rw [encs_inc, List.getElem?_map, hj]; rfl
  have h1 := h.cells (g := g) rfl j _ hx
  rw [show (⟨g, 0, none⟩ : Addr).add j = ⟨g, j, none⟩ from by unfold Addr.add; split <;> simp_all] at h1
  refine ⟨h1, ?_⟩
  rcases h.2 with ⟨h', _⟩ | ⟨g', cap', cur, h', hb, hg, -⟩
  · simp at h'
  · simp only [Value.slice.injEq, Option.some.injEq, Addr.mk.injEq, and_true, true_and] at h'
    obtain ⟨rfl, -⟩ := h'
    unfold World.frozen?
    simp only [hg]
    simp
theorem OwnL.int_set {base g n c : Nat} {w : World} {l : List Int} (h : OwnL 3 1 inc base w (.slice (some ⟨g, 0, none⟩) n c) l) (j : Nat) (x : Int) :
    OwnL 3 1 inc base (w.setCell ⟨g, j, none⟩ (.int .i64 x)) (.slice (some ⟨g, 0, none⟩) n c) (l.set j x) := by
  obtain ⟨A, c', hv⟩ := h.form
  injection hv with _ hn hc
  subst hn hc
  unfold OwnL at h ⊢
  rw [List.length_set]
  have h1 := (h.stored j (.int .i64 x)).1
  rwa [show (encs inc l).set j (Value.int .i64 x) = encs inc (l.set j x) from by rw [encs_inc, encs_inc, List.map_set]] at h1

theorem ref_NewerOf (a b : Dn) (s u : Value) (w : World) (hr : ∃ A n c, s = .slice A n c) (hs : ∃ A n c, u = .slice A n c) :
    Calls Try.prog 29 #[.agg #[.int .i64 a.version, s], .agg #[.int .i64 b.version, u]] w fun e w' => e = .returned (.agg #[.int .i64 (pickD a b).version, if a.version < b.version then u else s]) ∧ Ext w w' := by
  obtain ⟨va, la⟩ := a
  obtain ⟨vb, lb⟩ := b
  obtain ⟨A, n, c, rfl⟩ := hr
  obtain ⟨A2, n2, c2, rfl⟩ := hs
  unfold pickD
  simp only
  by_cases h : va < vb
  · rw [if_pos h, if_pos h]
    have h' : ¬ vb ≤ va := by omega
    go_enter Try.func29, Try.ntmps29
    go_wp2_with fail
    refine bodyPost_ret (v := .agg #[.int .i64 vb, .slice A2 n2 c2]) (by simp [results, Try.results29, go_sem, *]) rfl ⟨rfl, ?_⟩
    repeat (first | (with_reducible exact Ext.refl _) | (with_reducible refine Ext.alloc ?_ _) | (with_reducible apply Ext.setC; focus (simp <;> omega)) | (with_reducible refine Ext.drew ?_) | (with_reducible refine Ext.drewN ?_ _) | (with_reducible refine Ext.trans ?_ (Hid.out ‹Hid (Ext _ _)›)))
  · rw [if_neg h, if_neg h]
    have h' : vb ≤ va := by omega
    go_enter Try.func29, Try.ntmps29
    go_wp2_with fail
    refine bodyPost_ret (v := .agg #[.int .i64 va, .slice A n c]) (by simp [results, Try.results29, go_sem, *]) rfl ⟨rfl, ?_⟩
    repeat (first | (with_reducible exact Ext.refl _) | (with_reducible refine Ext.alloc ?_ _) | (with_reducible apply Ext.setC; focus (simp <;> omega)) | (with_reducible refine Ext.drew ?_) | (with_reducible refine Ext.drewN ?_ _) | (with_reducible refine Ext.trans ?_ (Hid.out ‹Hid (Ext _ _)›)))

def sameDn (a b : Dn) : Bool := a.version == b.version && a.ids == b.ids
theorem sameDn_iff {a b : Dn} : sameDn a b = true ↔ a = b := by
  obtain ⟨va, la⟩ := a
  obtain ⟨vb, lb⟩ := b
  simp [sameDn]
set_option maxHeartbeats 1000000 in
theorem ref_SameDenied (a b : Dn) (s u : Value) (w : World) (hr : RdL 1 inc w s a.ids) (hs : RdL 1 inc w u b.ids) :
    Calls Try.prog 34 #[.agg #[.int .i64 a.version, s], .agg #[.int .i64 b.version, u]] w fun e w' => e = .returned (.bool (sameDn a b)) ∧ Ext w w' := by
  have HS := Lib.hid (fun (w' : World) (h : Ext w w') => ref_SameInts a.ids b.ids s u w' (hr.ext h) (hs.ext h))
  obtain ⟨va, la⟩ := a
  obtain ⟨vb, lb⟩ := b
  obtain ⟨A, c, rfl, -, -⟩ := hr.form
  obtain ⟨A2, c2, rfl, -, -⟩ := hs.form
  unfold sameDn
  simp only at HS ⊢
  generalize (la == lb) = z at HS ⊢
  clear hr hs
  by_cases h : va = vb
  · have hv : (va == vb) = true := by simpa using h
    rw [hv, Bool.true_and]
    go_enter Try.func34, Try.ntmps34
    go_wp2_with fail
    refine (HS.out _ (by repeat (first | (with_reducible exact Ext.refl _) | (with_reducible refine Ext.alloc ?_ _) | (with_reducible apply Ext.setC; focus (simp <;> omega)) | (with_reducible refine Ext.drew ?_) | (with_reducible refine Ext.drewN ?_ _) | (with_reducible refine Ext.trans ?_ (Hid.out ‹Hid (Ext _ _)›))))).mono ?_
    rintro e w1 ⟨rfl, h1⟩
    have H1 := Lib.hid h1
    clear h1
    go_wp2_with fail
    go_ret
    refine ⟨ret_bool rfl, ?_⟩
    repeat (first | (with_reducible exact Ext.refl _) | (with_reducible refine Ext.alloc ?_ _) | (with_reducible apply Ext.setC; focus (simp <;> omega)) | (with_reducible refine Ext.drew ?_) | (with_reducible refine Ext.drewN ?_ _) | (with_reducible refine Ext.trans ?_ (Hid.out ‹Hid (Ext _ _)›)))
  · have hv : (va == vb) = false := by simpa using h
    rw [hv, Bool.false_and]
    clear h
    go_enter Try.func34, Try.ntmps34
    go_wp2_with fail
    go_ret
    refine ⟨ret_bool rfl, ?_⟩
    repeat (first | (with_reducible exact Ext.refl _) | (with_reducible refine Ext.alloc ?_ _) | (with_reducible apply Ext.setC; focus (simp <;> omega)) | (with_reducible refine Ext.drew ?_) | (with_reducible refine Ext.drewN ?_ _) | (with_reducible refine Ext.trans ?_ (Hid.out ‹Hid (Ext _ _)›)))
set_option maxHeartbeats 1000000 in
theorem law_deniedIs (a b : Dn) (e1 e2 : Int) (s u : Value) (w : World) (hr : RdL 1 inc w s a.ids) (hs : RdL 1 inc w u b.ids) :
    Calls Try.prog 32 #[.agg #[.int .i64 a.version, s], .int .i64 e1, .int .i64 e2, .agg #[.int .i64 b.version, u]] w fun e w' => e = .returned (.bool (e1 == e2 && sameDn a (if e2 ≠ 0 then dn0 else b))) ∧ Ext w w' := by
  have HS := Lib.hid (fun (w' : World) (h : Ext w w') => ref_SameDenied a b s u w' (hr.ext h) (hs.ext h))
  have HZ := Lib.hid (fun (w' : World) (h : Ext w w') => ref_SameDenied a dn0 s (.slice none 0 0) w' (hr.ext h) RdL.nil)
  obtain ⟨va, la⟩ := a
  obtain ⟨vb, lb⟩ := b
  obtain ⟨A, c, rfl, -, -⟩ := hr.form
  obtain ⟨A2, c2, rfl, -, -⟩ := hs.form
  clear hr hs
  simp only [dn0] at HS HZ ⊢
  by_cases h2 : e2 = 0
  · have hb2 : (e2 != 0) = false := by simpa using h2
    rw [if_neg (by simpa using h2)]
    generalize sameDn ⟨va, la⟩ ⟨vb, lb⟩ = z at HS ⊢
    clear h2 HZ
    by_cases h1 : e1 = e2
    · have hb1 : (e1 == e2) = true := by simpa using h1
      rw [hb1, Bool.true_and]
      clear h1
      go_enter Try.func32, Try.ntmps32
      go_wp2_with fail
      refine (HS.out _ (by repeat (first | (with_reducible exact Ext.refl _) | (with_reducible refine Ext.alloc ?_ _) | (with_reducible apply Ext.setC; focus (simp <;> omega)) | (with_reducible refine Ext.drew ?_) | (with_reducible refine Ext.drewN ?_ _) | (with_reducible refine Ext.trans ?_ (Hid.out ‹Hid (Ext _ _)›))))).mono ?_
      rintro e w1 ⟨rfl, h1⟩
      have H1 := Lib.hid h1
      clear h1
      go_wp2_with fail
      go_ret
      refine ⟨ret_bool rfl, ?_⟩
      repeat (first | (with_reducible exact Ext.refl _) | (with_reducible refine Ext.alloc ?_ _) | (with_reducible apply Ext.setC; focus (simp <;> omega)) | (with_reducible refine Ext.drew ?_) | (with_reducible refine Ext.drewN ?_ _) | (with_reducible refine Ext.trans ?_ (Hid.out ‹Hid (Ext _ _)›)))
    · have hb1 : (e1 == e2) = false := by simpa using h1
      rw [hb1, Bool.false_and]
      clear h1
      go_enter Try.func32, Try.ntmps32
      go_wp2_with fail
      go_ret
      refine ⟨ret_bool rfl, ?_⟩
      repeat (first | (with_reducible exact Ext.refl _) | (with_reducible refine Ext.alloc ?_ _) | (with_reducible apply Ext.setC; focus (simp <;> omega)) | (with_reducible refine Ext.drew ?_) | (with_reducible refine Ext.drewN ?_ _) | (with_reducible refine Ext.trans ?_ (Hid.out ‹Hid (Ext _ _)›)))
  · have hb2 : (e2 != 0) = true := by simpa using h2
    rw [if_pos (by simpa using h2)]
    generalize sameDn ⟨va, la⟩ ⟨0, []⟩ = z at HZ ⊢
    clear h2 HS
    by_cases h1 : e1 = e2
    · have hb1 : (e1 == e2) = true := by simpa using h1
      rw [hb1, Bool.true_and]
      clear h1
      go_enter Try.func32, Try.ntmps32
      go_wp2_with fail
      refine (HZ.out _ (by repeat (first | (with_reducible exact Ext.refl _) | (with_reducible refine Ext.alloc ?_ _) | (with_reducible apply Ext.setC; focus (simp <;> omega)) | (with_reducible refine Ext.drew ?_) | (with_reducible refine Ext.drewN ?_ _) | (with_reducible refine Ext.trans ?_ (Hid.out ‹Hid (Ext _ _)›))))).mono ?_
      rintro e w1 ⟨rfl, h1⟩
      have H1 := Lib.hid h1
      clear h1
      go_wp2_with fail
      go_ret
      refine ⟨ret_bool rfl, ?_⟩
      repeat (first | (with_reducible exact Ext.refl _) | (with_reducible refine Ext.alloc ?_ _) | (with_reducible apply Ext.setC; focus (simp <;> omega)) | (with_reducible refine Ext.drew ?_) | (with_reducible refine Ext.drewN ?_ _) | (with_reducible refine Ext.trans ?_ (Hid.out ‹Hid (Ext _ _)›)))
    · have hb1 : (e1 == e2) = false := by simpa using h1
      rw [hb1, Bool.false_and]
      clear h1
      go_enter Try.func32, Try.ntmps32
      go_wp2_with fail
      go_ret
      refine ⟨ret_bool rfl, ?_⟩
      repeat (first | (with_reducible exact Ext.refl _) | (with_reducible refine Ext.alloc ?_ _) | (with_reducible apply Ext.setC; focus (simp <;> omega)) | (with_reducible refine Ext.drew ?_) | (with_reducible refine Ext.drewN ?_ _) | (with_reducible refine Ext.trans ?_ (Hid.out ‹Hid (Ext _ _)›)))
end Go.Proofs.Ythollackhkiofaa
