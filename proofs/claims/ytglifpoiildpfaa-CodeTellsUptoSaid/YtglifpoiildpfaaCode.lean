/- Signs, their values, and the mark: the plain side. -/
import Derived.Test.YtglifpoiildpfaaTickI
namespace Go.Proofs.Ytglifpoiildpfaa
set_option linter.unusedSimpArgs false
set_option linter.unusedVariables false
open Go Lb

def signs : List UInt8 := [48, 49, 50, 51, 52, 53, 54, 55, 56, 57, 65, 66, 67, 68, 69, 70, 71, 72, 74, 75, 76, 77, 78, 80, 81, 82, 83, 84, 85, 86, 87]
theorem signs_len : signs.length = 31 := rfl
/-- the place of a sign; -1: it is none -/
def valueOf (c : UInt8) : Int := match signs.findIdx? (· == c) with
  | some k => (k : Int)
  | none => -1
def areSigns (l : List UInt8) : Bool := l.all fun c => decide (0 ≤ valueOf c)
/-- the weighted sum from weight k on -/
def markSum (k : Int) : List UInt8 → Int
  | [] => 0
  | c :: l => valueOf c * k + markSum (k + 1) l
def markVal (l : List UInt8) : Int := (31 - markSum 2 l % 31) % 31
def markSign (l : List UInt8) : UInt8 := signs.getD (markVal l).toNat 0
theorem valueOf_lt (c : UInt8) : -1 ≤ valueOf c ∧ valueOf c < 31 := by
  unfold valueOf
  split
  · rename_i k h
    have := (List.findIdx?_eq_some_iff_getElem.1 h).1
    rw [signs_len] at this
    omega
  · omega
theorem valueOf_sign : ∀ k, k < 31 → valueOf (signs.getD k 0) = (k : Int) := by decide +kernel
theorem sign_valueOf {c : UInt8} (h : 0 ≤ valueOf c) : signs.getD (valueOf c).toNat 0 = c := by
  unfold valueOf at h ⊢
  split
  · rename_i k hk
    obtain ⟨h1, h2, -⟩ := List.findIdx?_eq_some_iff_getElem.1 hk
    have h2 : signs[k] = c := by simpa using h2
    simp only [Int.toNat_natCast]
    rw [List.getD_eq_getElem?_getD, List.getElem?_eq_getElem h1, Option.getD_some, h2]
  · rename_i hk
    simp [hk] at h
theorem valueOf_inj {c d : UInt8} (hc : 0 ≤ valueOf c) (h : valueOf c = valueOf d) : c = d := by
  rw [← sign_valueOf hc, h, sign_valueOf (by rw [← h]; exact hc)]
theorem markVal_lt (l : List UInt8) : 0 ≤ markVal l ∧ markVal l < 31 := by
  unfold markVal; omega
theorem markSum_append (k : Int) (a b : List UInt8) : markSum k (a ++ b) = markSum k a + markSum (k + a.length) b := by
  induction a generalizing k with
  | nil => simp [markSum]
  | cons c a ih => simp only [List.cons_append, markSum, ih, List.length_cons]; rw [show k + 1 + (a.length : Int) = k + ((a.length + 1 : Nat) : Int) by push_cast; omega]; omega
end Go.Proofs.Ytglifpoiildpfaa
