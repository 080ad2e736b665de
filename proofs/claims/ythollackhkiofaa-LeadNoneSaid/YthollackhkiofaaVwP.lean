/- Views of who leads: the plain side: what is right, who leads, who wins, who is up; laws of these. -/
import Derived.Test.YthollackhkiofaaPl
namespace Lb
set_option linter.unusedVariables false
set_option linter.unusedSimpArgs false

def ckView (v : Vw) : Int :=
  if within v.epoch 0 99 = false ∨ within v.leader 0 1 = false then 3 else if v.epoch = 0 ∧ v.leader ≠ 0 then 4 else 0
def clash (v x : Vw) : Bool := x.epoch == v.epoch && x.leader != v.leader
/-- do two of one epoch have not one leader? pre: those ahead -/
def clashes : List Vw → List Vw → Bool
  | _, [] => false
  | pre, v :: l => pre.any (clash v) || clashes (pre ++ [v]) l
theorem clashes_cons (pre : List Vw) (v : Vw) (l : List Vw) : clashes pre (v :: l) = (pre.any (clash v) || clashes (pre ++ [v]) l) := rfl
def ckViews (l : List Vw) : Int :=
  if l.length ≠ 3 then 1 else if eachE ckView l ≠ 0 then eachE ckView l else if clashes [] l = true then 4 else 0
def countV (p : Vw → Bool) : List Vw → Int
  | [] => 0
  | v :: l => (if p v = true then 1 else 0) + countV p l
theorem countV_cons (p : Vw → Bool) (v : Vw) (l : List Vw) : countV p (v :: l) = (if p v = true then 1 else 0) + countV p l := rfl
def topV : Int → List Vw → Int
  | m, [] => m
  | m, v :: l => topV (max m v.epoch) l
def atTop (top : Int) (v : Vw) : Bool := v.epoch == top
def upTop (top : Int) (v : Vw) : Bool := v.epoch == top && v.up
def isUpV (v : Vw) : Bool := v.up
/-- of three views: the leader of the first one of the greatest epoch -/
def whoTop (l : List Vw) : Int := match l.find? (atTop (topV 0 l)) with
  | some v => v.leader
  | none => 0
def isUp (l : List Vw) (i : Int) : Bool := match l[i.toNat]? with
  | some v => v.up
  | none => false
def leads (l : List Vw) : Bool := decide (0 < topV 0 l) && decide (3 < 2 * countV (upTop (topV 0 l)) l) && isUp l (whoTop l)
def whoV (l : List Vw) : Int × Bool := if leads l = true then (whoTop l, true) else (0, false)
def raise (t who : Int) (l : List Vw) : List Vw := l.map fun v => if v.up = true then ⟨t, who, true⟩ else v
def winV (l : List Vw) (who : Int) : List Vw × Bool × Int :=
  if within who 0 1 = false then ([], false, 3)
  else if isUp l who = false ∨ 2 * countV isUpV l ≤ 3 then (l, false, 0)
  else if topV 0 l = 99 then ([], false, 2)
  else (raise (topV 0 l + 1) who l, true, 0)
def setV (l : List Vw) (who : Int) (up : Bool) : List Vw × Int :=
  if within who 0 2 = false then ([], 3) else (l.modify who.toNat (fun v => ⟨v.epoch, v.leader, up⟩), 0)
def nowAll (l : List Vw) : Int × Bool × Int := if ckViews l ≠ 0 then (0, false, ckViews l) else ((whoV l).1, (whoV l).2, 0)
def winAll (l : List Vw) (who : Int) : List Vw × Bool × Int := if ckViews l ≠ 0 then ([], false, ckViews l) else winV l who
def setAll (l : List Vw) (who : Int) (up : Bool) : List Vw × Int := if ckViews l ≠ 0 then ([], ckViews l) else setV l who up

/- the references' way -/
def stepE (e : Int) : Bool × Int × Int → List Vw → Bool × Int × Int
  | s, [] => s
  | s, v :: l => stepE e (if v.epoch = e then (true, if v.up = true then s.2.1 + 1 else s.2.1, v.leader) else s) l
theorem stepE_cons (e : Int) (s : Bool × Int × Int) (v : Vw) (l : List Vw) : stepE e s (v :: l) = stepE e (if v.epoch = e then (true, if v.up = true then s.2.1 + 1 else s.2.1, v.leader) else s) l := rfl
def whoR (l : List Vw) : Nat → Int × Bool
  | 0 => (0, false)
  | e + 1 => if (stepE ((e : Int) + 1) (false, 0, 0) l).1 = true then (if 2 ≤ (stepE ((e : Int) + 1) (false, 0, 0) l).2.1 ∧ isUp l (stepE ((e : Int) + 1) (false, 0, 0) l).2.2 = true then ((stepE ((e : Int) + 1) (false, 0, 0) l).2.2, true) else (0, false)) else whoR l e

theorem ckView_ok (v : Vw) : ckView v = 0 ↔ 0 ≤ v.epoch ∧ v.epoch ≤ 99 ∧ 0 ≤ v.leader ∧ v.leader ≤ 1 ∧ (v.epoch = 0 → v.leader = 0) := by
  unfold ckView
  by_cases h : within v.epoch 0 99 = false ∨ within v.leader 0 1 = false
  · rw [if_pos h]
    simp [within] at h
    constructor
    · intro h; simp at h
    · omega
  · rw [if_neg h]
    simp [within] at h
    by_cases h2 : v.epoch = 0 ∧ v.leader ≠ 0
    · rw [if_pos h2]
      constructor
      · intro h; simp at h
      · rintro ⟨-, -, -, -, h3⟩; exact absurd (h3 h2.1) h2.2
    · rw [if_neg h2]
      simp only [true_iff]
      refine ⟨by omega, by omega, by omega, by omega, fun h3 => ?_⟩
      apply Classical.byContradiction
      intro h4
      exact h2 ⟨h3, h4⟩
theorem clashes_ok (l pre : List Vw) (hp : ∀ v ∈ pre, ∀ x ∈ pre, x.epoch = v.epoch → x.leader = v.leader) : clashes pre l = false ↔ ∀ v ∈ pre ++ l, ∀ x ∈ pre ++ l, x.epoch = v.epoch → x.leader = v.leader := by
  induction l generalizing pre with
  | nil => simpa [clashes] using hp
  | cons v l ih =>
    rw [clashes_cons, Bool.or_eq_false_iff, List.any_eq_false]
    have hcl : ∀ x, clash v x = true ↔ x.epoch = v.epoch ∧ x.leader ≠ v.leader := by intro x; simp [clash]
    constructor
    · rintro ⟨h1, h2⟩
      have hp2 : ∀ a ∈ pre ++ [v], ∀ x ∈ pre ++ [v], x.epoch = a.epoch → x.leader = a.leader := by
        intro a ha x hx hxa
        simp only [List.mem_append, List.mem_singleton] at ha hx
        rcases ha with ha | rfl <;> rcases hx with hx | rfl
        · exact hp a ha x hx hxa
        · have := h1 a ha
          rw [hcl] at this
          apply Classical.byContradiction
          intro h
          exact this ⟨hxa.symm, fun e => h e.symm⟩
        · have := h1 x hx
          rw [hcl] at this
          apply Classical.byContradiction
          intro h
          exact this ⟨hxa, h⟩
        · rfl
      have := (ih (pre ++ [v]) hp2).1 h2
      simpa using this
    · intro h
      have h' : ∀ a ∈ (pre ++ [v]) ++ l, ∀ x ∈ (pre ++ [v]) ++ l, x.epoch = a.epoch → x.leader = a.leader := by simpa using h
      refine ⟨fun x hx => ?_, (ih (pre ++ [v]) (fun a ha x hx => h' a (by simp only [List.mem_append] at ha ⊢; exact .inl ha) x (by simp only [List.mem_append] at hx ⊢; exact .inl hx))).2 h'⟩
      rw [hcl]
      rintro ⟨e1, e2⟩
      exact e2 (h v (by simp) x (by simp [hx]) e1)
def RightV (l : List Vw) : Prop := l.length = 3 ∧ (∀ v ∈ l, ckView v = 0) ∧ (∀ v ∈ l, ∀ x ∈ l, x.epoch = v.epoch → x.leader = v.leader)
theorem rightV_iff (l : List Vw) : ckViews l = 0 ↔ RightV l := by
  unfold ckViews RightV
  have hc := clashes_ok l [] (by simp)
  simp only [List.nil_append] at hc
  by_cases h3 : l.length = 3
  · rw [if_neg (by simpa using h3)]
    by_cases he : eachE ckView l = 0
    · rw [if_neg (by simpa using he)]
      have he2 := eachE_ok.1 he
      cases hcl : clashes [] l with
      | true =>
        simp only [if_true]
        constructor
        · intro h; simp at h
        · rintro ⟨-, -, h⟩
          rw [hc.2 h] at hcl
          cases hcl
      | false => exact ⟨fun _ => ⟨h3, he2, hc.1 hcl⟩, fun _ => rfl⟩
    · rw [if_pos he]
      constructor
      · intro h; exact absurd h he
      · rintro ⟨-, h, -⟩; exact absurd (eachE_ok.2 h) he
  · rw [if_pos h3]
    constructor
    · intro h; simp at h
    · rintro ⟨h, -, -⟩; exact absurd h h3

theorem topV_ge (m : Int) (l : List Vw) : m ≤ topV m l := by
  induction l generalizing m with
  | nil => exact Int.le_refl _
  | cons v l ih => have := ih (max m v.epoch); unfold topV; omega
theorem le_topV (m : Int) (l : List Vw) : ∀ v ∈ l, v.epoch ≤ topV m l := by
  induction l generalizing m with
  | nil => simp
  | cons x l ih =>
    intro v hv
    unfold topV
    rcases List.mem_cons.1 hv with rfl | hv
    · have := topV_ge (max m v.epoch) l; omega
    · exact ih _ v hv
theorem topV_le (m M : Int) (l : List Vw) (hm : m ≤ M) (h : ∀ v ∈ l, v.epoch ≤ M) : topV m l ≤ M := by
  induction l generalizing m with
  | nil => exact hm
  | cons x l ih =>
    unfold topV
    have := h x (by simp)
    exact ih _ (by omega) (fun v hv => h v (by simp [hv]))
theorem topV_eq {l : List Vw} {T : Int} (h0 : 0 ≤ T) (h : ∀ v ∈ l, v.epoch ≤ T) (he : ∃ v ∈ l, v.epoch = T) : topV 0 l = T := by
  obtain ⟨v, hv, rfl⟩ := he
  have := le_topV 0 l v hv
  have := topV_le 0 _ l h0 h
  omega
theorem topV_mem (m : Int) (l : List Vw) : topV m l = m ∨ ∃ v ∈ l, v.epoch = topV m l := by
  induction l generalizing m with
  | nil => exact .inl rfl
  | cons x l ih =>
    unfold topV
    rcases ih (max m x.epoch) with h | ⟨v, hv, h⟩
    · rw [h]
      by_cases hx : m ≤ x.epoch
      · exact .inr ⟨x, by simp, by omega⟩
      · exact .inl (by omega)
    · exact .inr ⟨v, by simp [hv], h⟩
theorem whoTop_eq {l : List Vw} {L : Int} (he : ∃ v ∈ l, v.epoch = topV 0 l) (hL : ∀ v ∈ l, v.epoch = topV 0 l → v.leader = L) : whoTop l = L := by
  unfold whoTop
  cases hf : l.find? (atTop (topV 0 l)) with
  | none =>
    obtain ⟨v, hv, h⟩ := he
    rw [List.find?_eq_none] at hf
    have := hf v hv
    simp [atTop, h] at this
  | some v =>
    have h1 := List.find?_some hf
    have h2 := List.mem_of_find?_eq_some hf
    simp only [atTop, beq_iff_eq] at h1
    exact hL v h2 h1
theorem stepE_fst (e : Int) (s : Bool × Int × Int) (l : List Vw) : (stepE e s l).1 = (s.1 || l.any (atTop e)) := by
  induction l generalizing s with
  | nil => simp [stepE]
  | cons v l ih =>
    rw [stepE_cons, ih]
    by_cases h : v.epoch = e
    · simp [h, atTop]
    · have hb : (v.epoch == e) = false := by simpa using h
      simp [h, atTop, hb]
theorem stepE_n (e : Int) (s : Bool × Int × Int) (l : List Vw) : (stepE e s l).2.1 = s.2.1 + countV (upTop e) l := by
  induction l generalizing s with
  | nil => simp [stepE, countV]
  | cons v l ih =>
    rw [stepE_cons, ih, countV_cons]
    by_cases h : v.epoch = e
    · cases hu : v.up <;> simp [h, upTop, hu] <;> omega
    · simp [h, upTop]
theorem stepE_who (e L : Int) (s : Bool × Int × Int) (l : List Vw) (hL : ∀ v ∈ l, v.epoch = e → v.leader = L) : (stepE e s l).2.2 = if l.any (atTop e) = true then L else s.2.2 := by
  induction l generalizing s with
  | nil => simp [stepE]
  | cons v l ih =>
    rw [stepE_cons, ih _ (fun x hx => hL x (by simp [hx]))]
    by_cases h : v.epoch = e
    · have := hL v (by simp) h
      simp [h, atTop, this]
    · simp [h, atTop]
theorem whoR_eq {l : List Vw} (hr : RightV l) : ∀ E : Nat, (∀ v ∈ l, v.epoch ≤ (E : Int)) → whoR l E = whoV l
  | 0, h => by
    have ht : topV 0 l = 0 := by
      have := topV_le 0 0 l (Int.le_refl _) (by simpa using h)
      have := topV_ge 0 l
      omega
    simp [whoR, whoV, leads, ht]
  | E + 1, h => by
    unfold whoR
    rw [stepE_fst, Bool.false_or]
    by_cases ha : l.any (atTop ((E : Int) + 1)) = true
    · rw [if_pos ha]
      obtain ⟨v, hv, hve⟩ := List.any_eq_true.1 ha
      simp only [atTop, beq_iff_eq] at hve
      have ht : topV 0 l = (E : Int) + 1 := topV_eq (by omega) (fun x hx => by have := h x hx; push_cast at this; omega) ⟨v, hv, hve⟩
      have hw : whoTop l = v.leader := whoTop_eq ⟨v, hv, by rw [ht]; exact hve⟩ (fun x hx hxe => hr.2.2 v hv x hx (by rw [hxe, ht, hve]))
      rw [stepE_n, stepE_who _ v.leader _ _ (fun x hx hxe => hr.2.2 v hv x hx (by rw [hxe, hve])), if_pos ha]
      unfold whoV leads
      rw [ht, hw]
      by_cases hc : 2 ≤ 0 + countV (upTop ((E : Int) + 1)) l ∧ isUp l v.leader = true
      · rw [if_pos hc, if_pos]
        rw [Bool.and_eq_true, Bool.and_eq_true, decide_eq_true_eq, decide_eq_true_eq]
        exact ⟨⟨by omega, by omega⟩, hc.2⟩
      · rw [if_neg hc, if_neg]
        rw [Bool.and_eq_true, Bool.and_eq_true, decide_eq_true_eq, decide_eq_true_eq]
        rintro ⟨⟨-, h2⟩, h3⟩
        exact hc ⟨by omega, h3⟩
    · rw [if_neg ha]
      refine whoR_eq hr E (fun x hx => ?_)
      have h1 := h x hx
      have h2 : ¬ x.epoch = (E : Int) + 1 := by
        intro e
        exact ha (List.any_eq_true.2 ⟨x, hx, by simp [atTop, e]⟩)
      push_cast at h1
      omega
theorem who_eq {l : List Vw} (h : ckViews l = 0) : whoR l 99 = whoV l := by
  have hr := (rightV_iff l).1 h
  exact whoR_eq hr 99 (fun v hv => ((ckView_ok v).1 (hr.2.1 v hv)).2.1)
end Lb
