/- Lists of denied tickets: the plain side: what is wrong with one, what comes of one more id, which one is newer; laws of these. -/
import Derived.Test.YthollackhkiofaaSpec
namespace Lb

def ckIds : Option Int → List Int → Int
  | _, [] => 0
  | prev, x :: l => if within x 1 9999 = false then 3 else if noRise prev x = true then 4 else ckIds (some x) l
theorem ckIds_cons (prev : Option Int) (x : Int) (l : List Int) : ckIds prev (x :: l) = if within x 1 9999 = false then 3 else if noRise prev x = true then 4 else ckIds (some x) l := rfl
def prevAt (l : List Int) (k : Nat) : Option Int := if k = 0 then none else l[k - 1]?
theorem prevAt_succ (l : List Int) (k : Nat) (h : k < l.length) : prevAt l (k + 1) = some l[k] := by simp [prevAt, h]
def ckDn (d : Dn) : Int :=
  if within d.version 0 999 = false then 3 else if 12 < d.ids.length then 2 else if ckIds none d.ids ≠ 0 then ckIds none d.ids else if d.version < d.ids.length then 4 else 0
def insI (n : Int) : List Int → List Int
  | [] => [n]
  | x :: l => if x < n then x :: insI n l else n :: x :: l
def denyD (d : Dn) (id : Int) : Dn × Int :=
  if within id 1 9999 = false then (dn0, 3)
  else if d.ids.contains id = true then (dn0, 6)
  else if d.ids.length = 12 ∨ d.version = 999 then (dn0, 2)
  else (⟨d.version + 1, insI id d.ids⟩, 0)
def denyAll (d : Dn) (id : Int) : Dn × Int := if ckDn d ≠ 0 then (dn0, ckDn d) else denyD d id
def pickD (a b : Dn) : Dn := if a.version < b.version then b else a
def newerAll (a b : Dn) : Dn × Int := if ckDn a ≠ 0 then (dn0, ckDn a) else if ckDn b ≠ 0 then (dn0, ckDn b) else (pickD a b, 0)
def hasAll (d : Dn) (id : Int) : Bool × Int := if ckDn d ≠ 0 then (false, ckDn d) else if within id 1 9999 = false then (false, 3) else (d.ids.contains id, 0)

theorem ckIds_ok (l : List Int) : ∀ prev, ckIds prev l = 0 ↔ (∀ x ∈ l, within x 1 9999 = true) ∧ (∀ b, prev = some b → ∀ x ∈ l, b < x) ∧ l.Pairwise (· < ·) := by
  induction l with
  | nil => intro prev; simp [ckIds]
  | cons x l ih =>
    intro prev
    rw [ckIds_cons]
    cases hw : within x 1 9999 with
    | false => simp [hw]
    | true =>
      simp only [Bool.true_eq_false, if_false]
      cases hn : noRise prev x with
      | true =>
        simp only [if_true]
        constructor
        · intro h; simp at h
        · rintro ⟨-, h, -⟩
          cases prev with
          | none => simp [noRise] at hn
          | some b =>
            have := h b rfl x (by simp)
            simp [noRise] at hn
            omega
      | false =>
        simp only [Bool.false_eq_true, if_false]
        rw [ih]
        simp only [List.mem_cons, forall_eq_or_imp, List.pairwise_cons, Option.some.injEq, forall_eq']
        constructor
        · rintro ⟨h1, h2, h3⟩
          refine ⟨⟨hw, h1⟩, ?_, h2, h3⟩
          intro b hb
          subst hb
          simp [noRise] at hn
          exact ⟨hn, fun y hy => Int.lt_trans hn (h2 y hy)⟩
        · rintro ⟨⟨-, h1⟩, -, h2, h3⟩
          exact ⟨h1, h2, h3⟩
theorem ckDn_ok (d : Dn) : ckDn d = 0 ↔ within d.version 0 999 = true ∧ d.ids.length ≤ 12 ∧ (∀ x ∈ d.ids, within x 1 9999 = true) ∧ d.ids.Pairwise (· < ·) ∧ d.ids.length ≤ d.version := by
  unfold ckDn
  cases hw : within d.version 0 999 with
  | false => simp
  | true =>
    simp only [Bool.true_eq_false, if_false]
    by_cases h12 : 12 < d.ids.length
    · rw [if_pos h12]
      constructor
      · intro h; simp at h
      · rintro ⟨-, h, -⟩; omega
    · rw [if_neg h12]
      by_cases hi : ckIds none d.ids = 0
      · rw [if_neg (by simpa using hi)]
        have h2 := (ckIds_ok d.ids none).1 hi
        by_cases hv : d.version < d.ids.length
        · rw [if_pos hv]
          constructor
          · intro h; simp at h
          · rintro ⟨-, -, -, -, h⟩; omega
        · rw [if_neg hv]
          simp only [true_iff, true_and]
          exact ⟨by omega, h2.1, h2.2.2, by omega⟩
      · rw [if_pos hi]
        constructor
        · intro h; exact absurd h hi
        · rintro ⟨-, -, h1, h2, -⟩
          exact absurd ((ckIds_ok d.ids none).2 ⟨h1, by simp, h2⟩) hi
theorem mem_insI (n x : Int) (l : List Int) : x ∈ insI n l ↔ x = n ∨ x ∈ l := by
  induction l with
  | nil => simp [insI]
  | cons y l ih =>
    unfold insI
    split
    · simp only [List.mem_cons, ih]
      constructor
      · rintro (h | h | h) <;> simp [h]
      · rintro (h | h | h) <;> simp [h]
    · simp
theorem insI_len (n : Int) (l : List Int) : (insI n l).length = l.length + 1 := by
  induction l with
  | nil => simp [insI]
  | cons y l ih => unfold insI; split <;> simp [ih]
theorem insI_sorted (n : Int) (l : List Int) (h : l.Pairwise (· < ·)) (hn : n ∉ l) : (insI n l).Pairwise (· < ·) := by
  induction l with
  | nil => simp [insI]
  | cons y l ih =>
    rw [List.pairwise_cons] at h
    simp only [List.mem_cons, not_or] at hn
    unfold insI
    split
    · rename_i hy
      rw [List.pairwise_cons]
      refine ⟨fun x hx => ?_, ih h.2 hn.2⟩
      rcases (mem_insI _ _ _).1 hx with rfl | hx
      · exact hy
      · exact h.1 x hx
    · rename_i hy
      have hlt : n < y := by omega
      rw [List.pairwise_cons, List.pairwise_cons]
      refine ⟨fun x hx => ?_, h⟩
      rcases List.mem_cons.1 hx with rfl | hx
      · exact hlt
      · exact Int.lt_trans hlt (h.1 x hx)
theorem insI_comm (a b : Int) (l : List Int) (hab : a ≠ b) : insI a (insI b l) = insI b (insI a l) := by
  induction l with
  | nil =>
    unfold insI
    by_cases h : b < a
    · have : ¬ a < b := by omega
      simp [h, this, insI]
    · have : a < b := by omega
      simp [h, this, insI]
  | cons y l ih =>
    by_cases h1 : y < a <;> by_cases h2 : y < b
    · simp [insI, h1, h2, ih]
    · have : b < a := by omega
      simp [insI, h1, h2, this]
    · have : a < b := by omega
      simp [insI, h1, h2, this]
    · by_cases h : b < a
      · have : ¬ a < b := by omega
        simp [insI, h1, h2, h, this]
      · have : a < b := by omega
        simp [insI, h1, h2, h, this]
/-- where an id is set in -/
theorem insI_at (n : Int) (l : List Int) (k : Nat) (h1 : ∀ x ∈ l.take k, x < n) (h2 : ∀ x ∈ l.drop k, ¬ x < n) : insI n l = l.take k ++ n :: l.drop k := by
  induction l generalizing k with
  | nil => simp [insI]
  | cons y l ih =>
    cases k with
    | zero =>
      have := h2 y (by simp)
      simp [insI, this]
    | succ k =>
      have := h1 y (by simp)
      simp only [insI, this, if_true, List.take_succ_cons, List.drop_succ_cons, List.cons_append]
      rw [ih k (fun x hx => h1 x (by simp [hx])) (fun x hx => h2 x (by simpa using hx))]
theorem countP_split (n : Int) (l : List Int) (h : l.Pairwise (· < ·)) : (∀ x ∈ l.take (l.countP (· < n)), x < n) ∧ (∀ x ∈ l.drop (l.countP (· < n)), ¬ x < n) := by
  induction l with
  | nil => simp
  | cons y l ih =>
    rw [List.pairwise_cons] at h
    by_cases hy : y < n
    · rw [List.countP_cons_of_pos (by simpa using hy)]
      obtain ⟨a, b⟩ := ih h.2
      refine ⟨fun x hx => ?_, fun x hx => b x (by simpa using hx)⟩
      rw [List.take_succ_cons, List.mem_cons] at hx
      rcases hx with rfl | hx
      · exact hy
      · exact a x hx
    · have h0 : l.countP (· < n) = 0 := by
        rw [List.countP_eq_zero]
        intro x hx
        have := h.1 x hx
        simp
        omega
      rw [List.countP_cons_of_neg (by simpa using hy), h0]
      refine ⟨by simp, fun x hx => ?_⟩
      rw [List.drop_zero, List.mem_cons] at hx
      rcases hx with rfl | hx
      · exact hy
      · have := h.1 x hx
        omega
theorem insI_countP (n : Int) (l : List Int) (h : l.Pairwise (· < ·)) : insI n l = l.take (l.countP (· < n)) ++ n :: l.drop (l.countP (· < n)) :=
  insI_at n l _ (countP_split n l h).1 (countP_split n l h).2

theorem denyD_ok {d : Dn} {id : Int} (h : (denyD d id).2 = 0) : within id 1 9999 = true ∧ id ∉ d.ids ∧ d.ids.length ≠ 12 ∧ d.version ≠ 999 ∧ denyD d id = (⟨d.version + 1, insI id d.ids⟩, 0) := by
  unfold denyD at h ⊢
  cases hw : within id 1 9999 with
  | false => simp [hw] at h
  | true =>
    simp only [hw, Bool.true_eq_false, if_false] at h ⊢
    by_cases hc : d.ids.contains id = true
    · rw [if_pos hc] at h; simp at h
    · rw [if_neg hc] at h ⊢
      by_cases hm : d.ids.length = 12 ∨ d.version = 999
      · rw [if_pos hm] at h; simp at h
      · rw [if_neg hm]
        have : id ∉ d.ids := by simpa using hc
        exact ⟨trivial, this, by omega, by omega, rfl⟩
theorem denyD_eq {d : Dn} {id : Int} (h : within id 1 9999 = true) : denyD d id = if d.ids.contains id = true then (dn0, 6) else if d.ids.length = 12 ∨ d.version = 999 then (dn0, 2) else (⟨d.version + 1, insI id d.ids⟩, 0) := by
  unfold denyD; rw [if_neg (by rw [h]; decide)]
theorem denyD_err {d : Dn} {id : Int} (h : (denyD d id).2 ≠ 0) : (denyD d id).1 = dn0 := by
  unfold denyD at h ⊢
  split
  · rfl
  · split
    · rfl
    · split
      · rfl
      · rename_i h1 h2 h3
        rw [if_neg h1, if_neg h2, if_neg h3] at h
        simp at h
theorem denyD_right {d : Dn} {id : Int} (hd : ckDn d = 0) (h : (denyD d id).2 = 0) : ckDn (denyD d id).1 = 0 := by
  obtain ⟨h1, h2, h3, h4, h5⟩ := denyD_ok h
  obtain ⟨g1, g2, g3, g4, g5⟩ := (ckDn_ok d).1 hd
  rw [h5]
  refine (ckDn_ok _).2 ⟨?_, ?_, ?_, insI_sorted _ _ g4 h2, ?_⟩
  · simp [within] at g1 ⊢; omega
  · simp only [insI_len]; omega
  · intro x hx
    rcases (mem_insI _ _ _).1 hx with rfl | hx
    · exact h1
    · exact g3 x hx
  · simp only [insI_len]; omega
end Lb
