/- How a string reads, with its datum. -/
import Derived.Test.YtglifpoiildpfaaOpenB
namespace Go.Proofs.Ytglifpoiildpfaa
set_option linter.unusedSimpArgs false
set_option linter.unusedVariables false
open Go Go.RowKit Go.Joins Go.ChangeShapes Go.WideShapes Go.Deep Lb
section
variable {H : Type} {enc : TypeId × Value → H} {w : World} {b0 base : Nat} {spare : Nat → Bool} {held : Bool} {r : Reach}
theorem open_bsu {v : Value} {d : DataW H} {p : List MemPlace} (hv : Value.okWide Try.prog w r b0 9 v) (h : DataW.Trod enc Try.prog w base spare held 9 v d p) : ∃ l : List UInt8, v = .string (bs l) ∧ d = .lit (.string l) := by
  obtain ⟨s, rfl, hd, _, hm⟩ := Go.ChangeMaps.open_string Try.underlying9 hv h
  exact ⟨s.data.toList, rfl, hd⟩
end
end Go.Proofs.Ytglifpoiildpfaa
