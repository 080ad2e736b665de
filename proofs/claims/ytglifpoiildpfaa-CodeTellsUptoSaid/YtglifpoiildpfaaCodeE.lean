/- strings.IndexByte, laid from the shelf in plain words; over the signs it is valueOf. -/
import Derived.Shelf.Small.Strs
import Derived.Test.YtglifpoiildpfaaCodeD
namespace Go.Proofs.Ytglifpoiildpfaa
set_option linter.unusedSimpArgs false
set_option linter.unusedVariables false
open Go Go.RowKit Go.Shelf Lb

def ixRen : Go.Shelf.Ren := ⟨fun | 137 => 58 | 217 => 65 | 266 => 66 | n => n, fun | 9 => 9 | 5 => 5 | 3 => 3 | n => n, fun | n => n⟩
theorem ixLays : Go.Proofs.Lays.n137 Try.prog ixRen := {
  mixed := by kernel_rfl
  f137 := Try.func58.trans (congrArg some (by kernel_rfl))
  f217 := Try.func65.trans (congrArg some (by kernel_rfl))
  f266 := Try.func66.trans (congrArg some (by kernel_rfl))
  t3 := Try.underlying3
  a3 := Try.isAgg3
  z3 := Try.sizeOf3
  v3 := Try.zeroValue3
  t5 := Try.underlying5
  a5 := Try.isAgg5
  z5 := Try.sizeOf5
  v5 := Try.zeroValue5
  t9 := Try.underlying9
  a9 := Try.isAgg9
  z9 := Try.sizeOf9
  v9 := Try.zeroValue9 }

theorem idx_byte (s : ByteArray) (c : UInt8) (w : World) :
    Calls Try.prog 58 #[.string s, .int .u8 c.toNat] w fun e w' => e = .returned (.int .i64 (Lib.indexByte s.data.toList c)) ∧ w' = w := by
  have h := Any.strings_IndexByte ixLays s c.toNat w
  rw [show ((c.toNat : Int).toNat.toUInt8) = c by simp] at h
  exact h
theorem indexByte_find (l : List UInt8) (c : UInt8) : Lib.indexByte l c = match l.findIdx? (· == c) with
    | some k => (k : Int)
    | none => -1 := by
  induction l with
  | nil => rfl
  | cons b l ih =>
    simp only [Lib.indexByte, List.findIdx?_cons]
    cases hb : (b == c)
    · simp only [Bool.false_eq_true, if_false]
      rw [ih]
      cases h : l.findIdx? (· == c) with
      | none => simp
      | some k =>
        have : ((k : Int) == -1) = false := by
          rw [beq_eq_false_iff_ne]; omega
        simp [this]
    · simp
theorem indexByte_signs (c : UInt8) : Lib.indexByte signs c = valueOf c := indexByte_find signs c
theorem idx_sign (c : UInt8) (w : World) :
    Calls Try.prog 58 #[.string ⟨#[48, 49, 50, 51, 52, 53, 54, 55, 56, 57, 65, 66, 67, 68, 69, 70, 71, 72, 74, 75, 76, 77, 78, 80, 81, 82, 83, 84, 85, 86, 87]⟩, .int .u8 c.toNat] w fun e w' => e = .returned (.int .i64 (valueOf c)) ∧ w' = w := by
  have h := idx_byte (bs signs) c w
  rw [show (bs signs).data.toList = signs from rfl, indexByte_signs] at h
  exact h
end Go.Proofs.Ytglifpoiildpfaa
