/- Views: laws of winning, and of being up or not. -/
import Derived.Test.YthollackhkiofaaVwP
namespace Lb
set_option linter.unusedVariables false
set_option linter.unusedSimpArgs false

theorem countV_pos {p : Vw → Bool} {l : List Vw} (h : 0 < countV p l) : ∃ v ∈ l, p v = true := by
  induction l with
  | nil => simp [countV] at h
  | cons x l ih =>
    rw [countV_cons] at h
    by_cases hx : p x = true
    · exact ⟨x, by simp, hx⟩
    · rw [if_neg hx] at h
      obtain ⟨v, hv, h2⟩ := ih (by omega)
      exact ⟨v, by simp [hv], h2⟩
theorem countV_nonneg (p : Vw → Bool) (l : List Vw) : 0 ≤ countV p l := by
  induction l with
  | nil => exact Int.le_refl _
  | cons x l ih => rw [countV_cons]; split <;> omega
theorem countV_congr {p q : Vw → Bool} {l m : List Vw} (h : l.length = m.length) (hpq : ∀ i (h1 : i < l.length) (h2 : i < m.length), p l[i] = q m[i]) : countV p l = countV q m := by
  induction l generalizing m with
  | nil =>
    cases m with
    | nil => rfl
    | cons _ _ => simp at h
  | cons x l ih =>
    cases m with
    | nil => simp at h
    | cons y m =>
      rw [countV_cons, countV_cons]
      have h0 := hpq 0 (by simp) (by simp)
      simp only [List.getElem_cons_zero] at h0
      rw [h0, ih (by simpa using h) (fun i h1 h2 => by
        have := hpq (i + 1) (by simpa using h1) (by simpa using h2)
        simpa using this)]
theorem isUp_get {l : List Vw} {i : Int} (h : isUp l i = true) : ∃ v, l[i.toNat]? = some v ∧ v.up = true := by
  unfold isUp at h
  cases hg : l[i.toNat]? with
  | none => simp [hg] at h
  | some v => exact ⟨v, rfl, by simpa [hg] using h⟩
theorem raise_length (t who : Int) (l : List Vw) : (raise t who l).length = l.length := by simp [raise]
theorem mem_raise {t who : Int} {l : List Vw} {x : Vw} (h : x ∈ raise t who l) : (x = ⟨t, who, true⟩ ∧ ∃ v ∈ l, v.up = true) ∨ (x ∈ l ∧ x.up = false) := by
  unfold raise at h
  rw [List.mem_map] at h
  obtain ⟨v, hv, rfl⟩ := h
  by_cases hu : v.up = true
  · rw [if_pos hu]; exact .inl ⟨rfl, v, hv, hu⟩
  · rw [if_neg hu]; exact .inr ⟨hv, by simpa using hu⟩
theorem raise_get {t who : Int} {l : List Vw} {i : Nat} {v : Vw} (h : l[i]? = some v) : (raise t who l)[i]? = some (if v.up = true then ⟨t, who, true⟩ else v) := by
  unfold raise
  rw [List.getElem?_map, h]
  rfl
theorem isUp_raise (t who : Int) (l : List Vw) (i : Int) : isUp (raise t who l) i = isUp l i := by
  unfold isUp
  cases hg : l[i.toNat]? with
  | none => simp [raise, hg]
  | some v =>
    rw [raise_get hg]
    by_cases hu : v.up = true
    · simp [hu]
    · simp [hu]
theorem top_lt {l : List Vw} (hr : RightV l) (h : topV 0 l ≠ 99) : topV 0 l ≤ 98 ∧ 0 ≤ topV 0 l := by
  have h1 := topV_le 0 99 l (by omega) (fun v hv => ((ckView_ok v).1 (hr.2.1 v hv)).2.1)
  have h2 := topV_ge 0 l
  omega
/-- what a win comes to -/
theorem win_cases {l : List Vw} {who : Int} (hr : RightV l) (hw : within who 0 1 = true) :
    (winV l who = (l, false, 0)) ∨ (winV l who = ([], false, 2)) ∨ (winV l who = (raise (topV 0 l + 1) who l, true, 0) ∧ isUp l who = true ∧ 3 < 2 * countV isUpV l ∧ topV 0 l ≤ 98 ∧ 0 ≤ topV 0 l) := by
  unfold winV
  rw [if_neg (by rw [hw]; decide)]
  by_cases h1 : isUp l who = false ∨ 2 * countV isUpV l ≤ 3
  · rw [if_pos h1]; exact .inl rfl
  · rw [if_neg h1]
    by_cases h2 : topV 0 l = 99
    · rw [if_pos h2]; exact .inr (.inl rfl)
    · rw [if_neg h2]
      have := top_lt hr h2
      refine .inr (.inr ⟨rfl, ?_, by omega, this.1, this.2⟩)
      cases h : isUp l who with
      | true => rfl
      | false => exact absurd (.inl h) h1
theorem raise_right {l : List Vw} {who : Int} (hr : RightV l) (hw : within who 0 1 = true) (h98 : topV 0 l ≤ 98) (h0 : 0 ≤ topV 0 l) : RightV (raise (topV 0 l + 1) who l) := by
  have hw' : 0 ≤ who ∧ who ≤ 1 := by simpa [within] using hw
  refine ⟨by rw [raise_length]; exact hr.1, fun v hv => ?_, fun v hv x hx hxe => ?_⟩
  · rcases mem_raise hv with ⟨rfl, -⟩ | ⟨hv, -⟩
    · rw [ckView_ok]; simp only; omega
    · exact hr.2.1 v hv
  · rcases mem_raise hv with ⟨rfl, -⟩ | ⟨hv, -⟩ <;> rcases mem_raise hx with ⟨rfl, -⟩ | ⟨hx, -⟩
    · rfl
    · have := le_topV 0 l x hx
      simp only at hxe
      omega
    · have := le_topV 0 l v hv
      simp only at hxe
      omega
    · exact hr.2.2 v hv x hx hxe
theorem raise_top {l : List Vw} {who : Int} (hr : RightV l) (hc : 3 < 2 * countV isUpV l) (h0 : 0 ≤ topV 0 l) : topV 0 (raise (topV 0 l + 1) who l) = topV 0 l + 1 ∧ whoTop (raise (topV 0 l + 1) who l) = who ∧ countV (upTop (topV 0 l + 1)) (raise (topV 0 l + 1) who l) = countV isUpV l := by
  obtain ⟨v, hv, hu⟩ := countV_pos (p := isUpV) (l := l) (by omega)
  have hm : (⟨topV 0 l + 1, who, true⟩ : Vw) ∈ raise (topV 0 l + 1) who l := by
    unfold raise
    rw [List.mem_map]
    exact ⟨v, hv, by rw [if_pos (by simpa [isUpV] using hu)]⟩
  have ht : topV 0 (raise (topV 0 l + 1) who l) = topV 0 l + 1 := by
    refine topV_eq (by omega) (fun x hx => ?_) ⟨_, hm, rfl⟩
    rcases mem_raise hx with ⟨rfl, -⟩ | ⟨hx, -⟩
    · exact Int.le_refl _
    · have := le_topV 0 l x hx; omega
  refine ⟨ht, whoTop_eq ⟨_, hm, by rw [ht]⟩ (fun x hx hxe => ?_), ?_⟩
  · rw [ht] at hxe
    rcases mem_raise hx with ⟨rfl, -⟩ | ⟨hx, -⟩
    · rfl
    · have := le_topV 0 l x hx; omega
  · refine countV_congr (raise_length _ _ _) (fun i h1 h2 => ?_)
    have hg : l[i]? = some l[i] := List.getElem?_eq_getElem h2
    have h3 := raise_get (t := topV 0 l + 1) (who := who) hg
    rw [List.getElem?_eq_getElem h1] at h3
    injection h3 with h3
    rw [h3]
    by_cases hu : l[i].up = true
    · rw [if_pos hu]; simp [upTop, isUpV, hu]
    · rw [if_neg hu]
      have := le_topV 0 l l[i] (List.getElem_mem h2)
      simp [upTop, isUpV, hu]
/-- who wins leads -/
theorem raise_who {l : List Vw} {who : Int} (hr : RightV l) (hu : isUp l who = true) (hc : 3 < 2 * countV isUpV l) (h0 : 0 ≤ topV 0 l) : whoV (raise (topV 0 l + 1) who l) = (who, true) := by
  obtain ⟨h1, h2, h3⟩ := raise_top (who := who) hr hc h0
  unfold whoV leads
  rw [h1, h2, h3, isUp_raise, hu]
  rw [if_pos]
  rw [Bool.and_true, Bool.and_eq_true, decide_eq_true_eq, decide_eq_true_eq]
  omega
theorem setV_ok {l : List Vw} {i : Int} {up : Bool} (h : (setV l i up).2 = 0) : within i 0 2 = true ∧ setV l i up = (l.modify i.toNat (fun v => ⟨v.epoch, v.leader, up⟩), 0) := by
  unfold setV at h ⊢
  cases hw : within i 0 2 with
  | false => simp [hw] at h
  | true => exact ⟨rfl, by simp⟩
theorem setV_err {l : List Vw} {i : Int} {up : Bool} (h : (setV l i up).2 ≠ 0) : (setV l i up).1 = [] := by
  unfold setV at h ⊢
  split
  · rfl
  · rename_i h0
    rw [if_neg h0] at h
    simp at h
/-- two lists of views that are alike but for who is up -/
def Alike (l m : List Vw) : Prop := l.length = m.length ∧ ∀ i (h1 : i < l.length) (h2 : i < m.length), l[i].epoch = m[i].epoch ∧ l[i].leader = m[i].leader
theorem modify_alike (l : List Vw) (i : Nat) (up : Bool) : Alike (l.modify i (fun v => ⟨v.epoch, v.leader, up⟩)) l := by
  refine ⟨by simp, fun j h1 h2 => ?_⟩
  rw [List.getElem_modify]
  split <;> exact ⟨rfl, rfl⟩
theorem Alike.mem {l m : List Vw} (h : Alike l m) {v : Vw} (hv : v ∈ l) : ∃ x ∈ m, v.epoch = x.epoch ∧ v.leader = x.leader := by
  obtain ⟨i, hi, rfl⟩ := List.mem_iff_getElem.1 hv
  have hi2 : i < m.length := by rw [← h.1]; exact hi
  exact ⟨m[i], List.getElem_mem hi2, h.2 i hi hi2⟩
theorem Alike.symm {l m : List Vw} (h : Alike l m) : Alike m l := ⟨h.1.symm, fun i h1 h2 => ⟨(h.2 i h2 h1).1.symm, (h.2 i h2 h1).2.symm⟩⟩
theorem Alike.right {l m : List Vw} (h : Alike l m) (hr : RightV m) : RightV l := by
  refine ⟨h.1.trans hr.1, fun v hv => ?_, fun v hv x hx hxe => ?_⟩
  · obtain ⟨y, hy, e1, e2⟩ := h.mem hv
    have := (ckView_ok y).1 (hr.2.1 y hy)
    rw [ckView_ok, e1, e2]
    exact this
  · obtain ⟨y, hy, e1, e2⟩ := h.mem hv
    obtain ⟨z, hz, e3, e4⟩ := h.mem hx
    rw [e2, e4]
    exact hr.2.2 y hy z hz (by rw [← e1, ← e3]; exact hxe)
theorem Alike.top {l m : List Vw} (h : Alike l m) : topV 0 l = topV 0 m := by
  have h1 := topV_le 0 (topV 0 m) l (topV_ge 0 m) (fun v hv => by
    obtain ⟨y, hy, e1, -⟩ := h.mem hv
    rw [e1]; exact le_topV 0 m y hy)
  have h2 := topV_le 0 (topV 0 l) m (topV_ge 0 l) (fun v hv => by
    obtain ⟨y, hy, e1, -⟩ := h.symm.mem hv
    rw [e1]; exact le_topV 0 l y hy)
  omega
theorem Alike.who {l m : List Vw} {L : Int} (h : Alike l m) (he : ∃ v ∈ m, v.epoch = topV 0 m) (hL : ∀ v ∈ m, v.epoch = topV 0 m → v.leader = L) : whoTop l = L := by
  obtain ⟨v, hv, hve⟩ := he
  obtain ⟨x, hx, e1, e2⟩ := h.symm.mem hv
  refine whoTop_eq ⟨x, hx, by rw [h.top, ← e1]; exact hve⟩ (fun y hy hye => ?_)
  obtain ⟨z, hz, e3, e4⟩ := h.mem hy
  rw [e4]
  exact hL z hz (by rw [← e3, ← h.top]; exact hye)
theorem one_who {l : List Vw} {who i : Int} {up : Bool} (hr : RightV l) (hu : isUp l who = true) (hc : 3 < 2 * countV isUpV l) (h0 : 0 ≤ topV 0 l) :
    let b := (raise (topV 0 l + 1) who l).modify i.toNat (fun v => ⟨v.epoch, v.leader, up⟩)
    whoV b = if (isUp b who && decide (2 ≤ countV (upTop (topV 0 l + 1)) b)) = true then (who, true) else (0, false) := by
  intro b
  have hal : Alike b (raise (topV 0 l + 1) who l) := modify_alike _ _ _
  obtain ⟨h1, h2, h3⟩ := raise_top (who := who) hr hc h0
  have ht : topV 0 b = topV 0 l + 1 := by rw [hal.top, h1]
  obtain ⟨v, hv, hvu⟩ := countV_pos (p := isUpV) (l := l) (by omega)
  have hm : (⟨topV 0 l + 1, who, true⟩ : Vw) ∈ raise (topV 0 l + 1) who l := by
    unfold raise
    rw [List.mem_map]
    exact ⟨v, hv, by rw [if_pos (by simpa [isUpV] using hvu)]⟩
  have hw : whoTop b = who := hal.who ⟨_, hm, by rw [h1]⟩ (fun x hx hxe => by
    rw [h1] at hxe
    rcases mem_raise hx with ⟨rfl, -⟩ | ⟨hx, -⟩
    · rfl
    · have := le_topV 0 l x hx; omega)
  unfold whoV leads
  rw [ht, hw]
  have hp : decide (0 < topV 0 l + 1) = true := decide_eq_true (by omega)
  rw [hp, Bool.true_and]
  have hd : decide (3 < 2 * countV (upTop (topV 0 l + 1)) b) = decide (2 ≤ countV (upTop (topV 0 l + 1)) b) := by
    rw [decide_eq_decide]; omega
  rw [hd, Bool.and_comm]
theorem up_le (t : Int) (l : List Vw) : countV (upTop t) l ≤ countV isUpV l := by
  induction l with
  | nil => exact Int.le_refl _
  | cons x l ih =>
    rw [countV_cons, countV_cons]
    cases hu : x.up
    · simp [upTop, isUpV, hu]; exact ih
    · simp only [isUpV, hu, if_true]; split <;> omega
theorem two_down {l : List Vw} {i j : Nat} (h : l.length = 3) (hij : i ≠ j) (hi : ∃ v, l[i]? = some v ∧ v.up = false) (hj : ∃ v, l[j]? = some v ∧ v.up = false) : countV isUpV l ≤ 1 := by
  match l, h with
  | [x, y, z], _ =>
    obtain ⟨v, hv, hvu⟩ := hi
    obtain ⟨u, hu, huu⟩ := hj
    have hi3 : i < 3 := (List.getElem?_eq_some_iff.1 hv).1
    have hj3 : j < 3 := (List.getElem?_eq_some_iff.1 hu).1
    have h1 : i = 0 ∨ i = 1 ∨ i = 2 := by omega
    have h2 : j = 0 ∨ j = 1 ∨ j = 2 := by omega
    have hb : ∀ u : Bool, (if u = true then (1 : Int) else 0) ≤ 1 := by intro u; cases u <;> simp
    have e1 := hb x.up
    have e2 := hb y.up
    have e3 := hb z.up
    simp only [countV, isUpV]
    rcases h1 with rfl | rfl | rfl <;> rcases h2 with rfl | rfl | rfl <;> simp at hv hu hij <;> subst hv <;> subst hu <;> simp only [hvu, huu, Bool.false_eq_true, if_false] <;> omega
theorem down_none {l : List Vw} (h : countV isUpV l ≤ 1) : whoV l = (0, false) := by
  unfold whoV leads
  rw [if_neg]
  have := up_le (topV 0 l) l
  rw [Bool.and_eq_true, Bool.and_eq_true, decide_eq_true_eq, decide_eq_true_eq]
  omega
theorem down_win {l : List Vw} {who : Int} (h : countV isUpV l ≤ 1) : winV l who = (l, false, 0) ∨ winV l who = ([], false, 3) := by
  unfold winV
  split
  · exact .inr rfl
  · rw [if_pos (.inr (by omega))]; exact .inl rfl
theorem off_win {l : List Vw} {a : Int} (h : isUp l a = false) : winV l a = (l, false, 0) ∨ winV l a = ([], false, 3) := by
  unfold winV
  split
  · exact .inr rfl
  · rw [if_pos (.inl h)]; exact .inl rfl
theorem modify_off (l : List Vw) (i : Nat) (hi : i < l.length) : ∃ v, (l.modify i (fun v => ⟨v.epoch, v.leader, false⟩))[i]? = some v ∧ v.up = false := by
  refine ⟨⟨l[i].epoch, l[i].leader, false⟩, ?_, rfl⟩
  rw [List.getElem?_modify]
  simp [hi]
theorem modify_other (l : List Vw) (i j : Nat) (hij : i ≠ j) (up : Bool) : (l.modify i (fun v => ⟨v.epoch, v.leader, up⟩))[j]? = l[j]? := by
  rw [List.getElem?_modify]
  cases l[j]? <;> simp [hij]
end Lb
