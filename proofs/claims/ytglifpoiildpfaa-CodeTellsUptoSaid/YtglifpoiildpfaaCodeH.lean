/- A ticket's number, its digits, its code: the plain side. -/
import Derived.Test.YtglifpoiildpfaaCode
namespace Go.Proofs.Ytglifpoiildpfaa
set_option linter.unusedSimpArgs false
set_option linter.unusedVariables false
open Go Lb

def numFrom (a : Int) : List Int → Int
  | [] => a
  | b :: l => numFrom (256 * a + b) l
def sgn (n : Int) : UInt8 := signs.getD n.toNat 0
/-- m digits more of N, the least first, ahead of s -/
def cd : Nat → Int → List UInt8 → List UInt8
  | 0, _, s => s
  | m + 1, N, s => cd m (N / 31) (sgn (N % 31) :: s)
def codeDigs (t : Tk) : List UInt8 := cd 13 (numFrom 0 (tkBytes t)) []
def codeOf (t : Tk) : List UInt8 := codeDigs t ++ [markSign (codeDigs t)]

/-- bytes divided by 31 -/
def divs : Int → List Int → List Int
  | _, [] => []
  | r, b :: l => (256 * r + b) / 31 :: divs ((256 * r + b) % 31) l
def rest : Int → List Int → Int
  | r, [] => r
  | r, b :: l => rest ((256 * r + b) % 31) l
def byteL (l : List Int) : Prop := ∀ x ∈ l, 0 ≤ x ∧ x < 256
theorem divs_length (r : Int) (l : List Int) : (divs r l).length = l.length := by
  induction l generalizing r with
  | nil => rfl
  | cons b l ih => simp [divs, ih]
theorem divs_num (q r : Int) (l : List Int) : numFrom (31 * q + r) l = 31 * numFrom q (divs r l) + rest r l := by
  induction l generalizing q r with
  | nil => rfl
  | cons b l ih =>
    simp only [numFrom, divs, rest]
    rw [← ih]
    congr 1
    omega
theorem rest_lt (r : Int) (l : List Int) (h0 : 0 ≤ r) (h1 : r < 31) : 0 ≤ rest r l ∧ rest r l < 31 := by
  induction l generalizing r with
  | nil => exact ⟨h0, h1⟩
  | cons b l ih => exact ih _ (by omega) (by omega)
theorem divs_bytes (r : Int) (l : List Int) (h0 : 0 ≤ r) (h1 : r < 31) (hl : byteL l) : byteL (divs r l) := by
  induction l generalizing r with
  | nil => intro x hx; cases hx
  | cons b l ih =>
    have hb := hl b (by simp)
    intro x hx
    rcases List.mem_cons.1 hx with rfl | hx
    · omega
    · exact ih _ (by omega) (by omega) (fun y hy => hl y (by simp [hy])) x hx
theorem num_divs (l : List Int) : numFrom 0 (divs 0 l) = numFrom 0 l / 31 ∧ rest 0 l = numFrom 0 l % 31 := by
  have h := divs_num 0 0 l
  have h2 := rest_lt 0 l (by omega) (by omega)
  rw [show (31 * 0 + 0 : Int) = 0 from rfl] at h
  omega
theorem numFrom_append (a : Int) (l m : List Int) : numFrom a (l ++ m) = numFrom (numFrom a l) m := by
  induction l generalizing a with
  | nil => rfl
  | cons b l ih => simp only [List.cons_append, numFrom, ih]
theorem numFrom_bound (a : Int) (l : List Int) (h0 : 0 ≤ a) (hl : byteL l) : 0 ≤ numFrom a l ∧ numFrom a l < (a + 1) * 256 ^ l.length := by
  induction l generalizing a with
  | nil => simp [numFrom]; omega
  | cons b l ih =>
    have hb := hl b (by simp)
    have h := ih (256 * a + b) (by omega) (fun y hy => hl y (by simp [hy]))
    refine ⟨h.1, Int.lt_of_lt_of_le h.2 ?_⟩
    rw [List.length_cons, Int.pow_succ, Int.mul_comm (256 ^ l.length) 256, ← Int.mul_assoc]
    exact Int.mul_le_mul_of_nonneg_right (by omega) (Int.pow_nonneg (by omega))
theorem cd_length (m : Nat) (N : Int) (s : List UInt8) : (cd m N s).length = m + s.length := by
  induction m generalizing N s with
  | zero => simp [cd]
  | succ m ih => simp only [cd, ih, List.length_cons]; omega
theorem sgn_value (n : Int) (h0 : 0 ≤ n) (h1 : n < 31) : valueOf (sgn n) = n := by
  unfold sgn
  rw [valueOf_sign _ (by omega)]
  omega
theorem areSigns_cons (c : UInt8) (l : List UInt8) : areSigns (c :: l) = (decide (0 ≤ valueOf c) && areSigns l) := rfl
theorem areSigns_append (a b : List UInt8) : areSigns (a ++ b) = (areSigns a && areSigns b) := by unfold areSigns; rw [List.all_append]
theorem cd_signs (m : Nat) (N : Int) (s : List UInt8) (h : areSigns s = true) : areSigns (cd m N s) = true := by
  induction m generalizing N s with
  | zero => exact h
  | succ m ih =>
    refine ih _ _ ?_
    rw [areSigns_cons, h, Bool.and_true]
    have := sgn_value (N % 31) (by omega) (by omega)
    rw [this]
    exact decide_eq_true (by omega)
theorem codeDigs_length (t : Tk) : (codeDigs t).length = 13 := cd_length 13 _ _
theorem codeDigs_signs (t : Tk) : areSigns (codeDigs t) = true := cd_signs _ _ _ rfl
theorem codeOf_length (t : Tk) : (codeOf t).length = 14 := by simp [codeOf, codeDigs_length]
theorem markSign_value (l : List UInt8) : valueOf (markSign l) = markVal l := by
  have h := markVal_lt l
  exact sgn_value (markVal l) h.1 h.2
theorem codeOf_signs (t : Tk) : areSigns (codeOf t) = true := by
  unfold codeOf
  rw [areSigns_append, codeDigs_signs]
  have := markSign_value (codeDigs t)
  have h := markVal_lt (codeDigs t)
  rw [areSigns_cons, this, decide_eq_true h.1]
  rfl
theorem tkBytes_length (t : Tk) : (tkBytes t).length = 8 := rfl

/-- digits read back as a number -/
def valNum (a : Int) : List UInt8 → Int
  | [] => a
  | c :: l => valNum (31 * a + valueOf c) l
theorem valNum_append (a : Int) (l m : List UInt8) : valNum a (l ++ m) = valNum (valNum a l) m := by
  induction l generalizing a with
  | nil => rfl
  | cons c l ih => simp only [List.cons_append, valNum, ih]
end Go.Proofs.Ytglifpoiildpfaa
