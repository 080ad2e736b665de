/-
  No cell of these rows narrows 'for every input' (looked for: loops, veiled, ifaces, maps, wideKeys, modest, calm, conditions, laid).
  DERIVED. THE GIVEN ROWS OF THIS SEAT. 10 by the template 'for every input the law returns true; each argument reads behind the call as it read before'; 0 by the template 'total and deterministic' (their statements: YthollackhkiofaaTotals.lean).
  GIVEN WITH THE SEED: the statements are not yours to turn. If you find one false, say at which input.
  Laid BY PROGRAM, IN A SANDBOX (cutbox-rows.mjs): the forced cells as the released guide's own fill.sh prints them over the translation 677c3e912893a216… (all of the seat's roots in one cut). By AI agents, Wed Nov 11 2026. No macro, syntax, notation, axiom, sorry.
-/
import Derived.Test.YthollackhkiofaaChecked
import GoSem.Claim
import GoSem.ClaimJoined
import GoSem.ClaimMapViews
import Derived.JoinedTies
import Derived.KernelRfl
namespace Go.Proofs.Ythollackhkiofaa
/- THE CELL 'sum', in the pinned program and in every row, IS THE sha256 OF THE DUMP (.gsa) THAT YthollackhkiofaaProg.lean LOADS. Nothing in Lean hashes anything: it is a label: what it is worth is what the hold of that sum in a sandbox is worth. -/
noncomputable def Try.pinned : Pinned := { name := "ythollackhkiofaa", sum := "677c3e912893a216af5df4ba60234ba789c7bfef36450adf09979f21340867e7", checked := Try.checked }
namespace Rows
def none {H : Type} : Left H := { results := [], args := [] }

/-- 'leeboardlaw.LeadNone': WHATEVER THE INPUT: true; the input reads as it did. -/
def leadNoneSpec : ChangeSpec := { name := "leadNone", fn := fun _ => fun
  | [d1, d2, d3, d4] => { results := [.lit (.bool true)], args := [d1, d2, d3, d4] }
  | _ => none }
def leadNoneRow : OpenClaim := { program := "ythollackhkiofaa", sum := "677c3e912893a216af5df4ba60234ba789c7bfef36450adf09979f21340867e7", func := "leeboard/leeboardlaw.LeadNone", spec := "leadNone", unfollowed := true, recurses := true, apart := false }
def LeadNoneSaid : Prop := leadNoneRow.holds Try.pinned (OpenSpec.ofChange leadNoneSpec)

/-- ITS FALSE NEIGHBOUR: 'it returns false'. Refute it at one input. -/
def leadNoneWrong : ChangeSpec := { name := "leadNone", fn := fun _ => fun
  | [d1, d2, d3, d4] => { results := [.lit (.bool false)], args := [d1, d2, d3, d4] }
  | _ => none }
def LeadNoneWrongFalsely : Prop := leadNoneRow.holds Try.pinned (OpenSpec.ofChange leadNoneWrong)

/-- 'leeboardlaw.LeadTells': WHATEVER THE INPUT: true; the input reads as it did. -/
def leadTellsSpec : ChangeSpec := { name := "leadTells", fn := fun _ => fun
  | [d1, d2, d3] => { results := [.lit (.bool true)], args := [d1, d2, d3] }
  | _ => none }
def leadTellsRow : OpenClaim := { program := "ythollackhkiofaa", sum := "677c3e912893a216af5df4ba60234ba789c7bfef36450adf09979f21340867e7", func := "leeboard/leeboardlaw.LeadTells", spec := "leadTells", unfollowed := true, recurses := true, apart := false }
def LeadTellsSaid : Prop := leadTellsRow.holds Try.pinned (OpenSpec.ofChange leadTellsSpec)

/-- ITS FALSE NEIGHBOUR: 'it returns false'. Refute it at one input. -/
def leadTellsWrong : ChangeSpec := { name := "leadTells", fn := fun _ => fun
  | [d1, d2, d3] => { results := [.lit (.bool false)], args := [d1, d2, d3] }
  | _ => none }
def LeadTellsWrongFalsely : Prop := leadTellsRow.holds Try.pinned (OpenSpec.ofChange leadTellsWrong)

/-- 'leeboardlaw.LeadOne': WHATEVER THE INPUT: true; the input reads as it did. -/
def leadOneSpec : ChangeSpec := { name := "leadOne", fn := fun _ => fun
  | [d1, d2, d3, d4] => { results := [.lit (.bool true)], args := [d1, d2, d3, d4] }
  | _ => none }
def leadOneRow : OpenClaim := { program := "ythollackhkiofaa", sum := "677c3e912893a216af5df4ba60234ba789c7bfef36450adf09979f21340867e7", func := "leeboard/leeboardlaw.LeadOne", spec := "leadOne", unfollowed := true, recurses := true, apart := false }
def LeadOneSaid : Prop := leadOneRow.holds Try.pinned (OpenSpec.ofChange leadOneSpec)

/-- ITS FALSE NEIGHBOUR: 'it returns false'. Refute it at one input. -/
def leadOneWrong : ChangeSpec := { name := "leadOne", fn := fun _ => fun
  | [d1, d2, d3, d4] => { results := [.lit (.bool false)], args := [d1, d2, d3, d4] }
  | _ => none }
def LeadOneWrongFalsely : Prop := leadOneRow.holds Try.pinned (OpenSpec.ofChange leadOneWrong)

/-- 'leeboardlaw.DeniedTells': WHATEVER THE INPUT: true; the input reads as it did. -/
def deniedTellsSpec : ChangeSpec := { name := "deniedTells", fn := fun _ => fun
  | [d1, d2, d3] => { results := [.lit (.bool true)], args := [d1, d2, d3] }
  | _ => none }
def deniedTellsRow : OpenClaim := { program := "ythollackhkiofaa", sum := "677c3e912893a216af5df4ba60234ba789c7bfef36450adf09979f21340867e7", func := "leeboard/leeboardlaw.DeniedTells", spec := "deniedTells", inPlace := ["slices.overlaps[int]"], apart := false }
def DeniedTellsSaid : Prop := deniedTellsRow.holds Try.pinned (OpenSpec.ofChange deniedTellsSpec)

/-- ITS FALSE NEIGHBOUR: 'it returns false'. Refute it at one input. -/
def deniedTellsWrong : ChangeSpec := { name := "deniedTells", fn := fun _ => fun
  | [d1, d2, d3] => { results := [.lit (.bool false)], args := [d1, d2, d3] }
  | _ => none }
def DeniedTellsWrongFalsely : Prop := deniedTellsRow.holds Try.pinned (OpenSpec.ofChange deniedTellsWrong)

/-- 'leeboardlaw.DeniedStays': WHATEVER THE INPUT: true; the input reads as it did. -/
def deniedStaysSpec : ChangeSpec := { name := "deniedStays", fn := fun _ => fun
  | [d1, d2, d3] => { results := [.lit (.bool true)], args := [d1, d2, d3] }
  | _ => none }
def deniedStaysRow : OpenClaim := { program := "ythollackhkiofaa", sum := "677c3e912893a216af5df4ba60234ba789c7bfef36450adf09979f21340867e7", func := "leeboard/leeboardlaw.DeniedStays", spec := "deniedStays", inPlace := ["slices.overlaps[int]"], apart := false }
def DeniedStaysSaid : Prop := deniedStaysRow.holds Try.pinned (OpenSpec.ofChange deniedStaysSpec)

/-- ITS FALSE NEIGHBOUR: 'it returns false'. Refute it at one input. -/
def deniedStaysWrong : ChangeSpec := { name := "deniedStays", fn := fun _ => fun
  | [d1, d2, d3] => { results := [.lit (.bool false)], args := [d1, d2, d3] }
  | _ => none }
def DeniedStaysWrongFalsely : Prop := deniedStaysRow.holds Try.pinned (OpenSpec.ofChange deniedStaysWrong)

/-- 'leeboardlaw.DeniedOrder': WHATEVER THE INPUT: true; the input reads as it did. -/
def deniedOrderSpec : ChangeSpec := { name := "deniedOrder", fn := fun _ => fun
  | [d1, d2, d3] => { results := [.lit (.bool true)], args := [d1, d2, d3] }
  | _ => none }
def deniedOrderRow : OpenClaim := { program := "ythollackhkiofaa", sum := "677c3e912893a216af5df4ba60234ba789c7bfef36450adf09979f21340867e7", func := "leeboard/leeboardlaw.DeniedOrder", spec := "deniedOrder", inPlace := ["slices.overlaps[int]"], apart := false }
def DeniedOrderSaid : Prop := deniedOrderRow.holds Try.pinned (OpenSpec.ofChange deniedOrderSpec)

/-- ITS FALSE NEIGHBOUR: 'it returns false'. Refute it at one input. -/
def deniedOrderWrong : ChangeSpec := { name := "deniedOrder", fn := fun _ => fun
  | [d1, d2, d3] => { results := [.lit (.bool false)], args := [d1, d2, d3] }
  | _ => none }
def DeniedOrderWrongFalsely : Prop := deniedOrderRow.holds Try.pinned (OpenSpec.ofChange deniedOrderWrong)

/-- 'leeboardlaw.GateTells': WHATEVER THE INPUT: true; the input reads as it did. -/
def gateTellsSpec : ChangeSpec := { name := "gateTells", fn := fun _ => fun
  | [d1, d2, d3, d4] => { results := [.lit (.bool true)], args := [d1, d2, d3, d4] }
  | _ => none }
def gateTellsRow : OpenClaim := { program := "ythollackhkiofaa", sum := "677c3e912893a216af5df4ba60234ba789c7bfef36450adf09979f21340867e7", func := "leeboard/leeboardlaw.GateTells", spec := "gateTells", unfollowed := true, recurses := true, apart := false }
def GateTellsSaid : Prop := gateTellsRow.holds Try.pinned (OpenSpec.ofChange gateTellsSpec)

/-- ITS FALSE NEIGHBOUR: 'it returns false'. Refute it at one input. -/
def gateTellsWrong : ChangeSpec := { name := "gateTells", fn := fun _ => fun
  | [d1, d2, d3, d4] => { results := [.lit (.bool false)], args := [d1, d2, d3, d4] }
  | _ => none }
def GateTellsWrongFalsely : Prop := gateTellsRow.holds Try.pinned (OpenSpec.ofChange gateTellsWrong)

/-- 'leeboardlaw.GateBounds': WHATEVER THE INPUT: true; the input reads as it did. -/
def gateBoundsSpec : ChangeSpec := { name := "gateBounds", fn := fun _ => fun
  | [d1, d2, d3] => { results := [.lit (.bool true)], args := [d1, d2, d3] }
  | _ => none }
def gateBoundsRow : OpenClaim := { program := "ythollackhkiofaa", sum := "677c3e912893a216af5df4ba60234ba789c7bfef36450adf09979f21340867e7", func := "leeboard/leeboardlaw.GateBounds", spec := "gateBounds", unfollowed := true, recurses := true, apart := false }
def GateBoundsSaid : Prop := gateBoundsRow.holds Try.pinned (OpenSpec.ofChange gateBoundsSpec)

/-- ITS FALSE NEIGHBOUR: 'it returns false'. Refute it at one input. -/
def gateBoundsWrong : ChangeSpec := { name := "gateBounds", fn := fun _ => fun
  | [d1, d2, d3] => { results := [.lit (.bool false)], args := [d1, d2, d3] }
  | _ => none }
def GateBoundsWrongFalsely : Prop := gateBoundsRow.holds Try.pinned (OpenSpec.ofChange gateBoundsWrong)

/-- 'leeboardlaw.GateDay': WHATEVER THE INPUT: true; the input reads as it did. -/
def gateDaySpec : ChangeSpec := { name := "gateDay", fn := fun _ => fun
  | [d1, d2, d3] => { results := [.lit (.bool true)], args := [d1, d2, d3] }
  | _ => none }
def gateDayRow : OpenClaim := { program := "ythollackhkiofaa", sum := "677c3e912893a216af5df4ba60234ba789c7bfef36450adf09979f21340867e7", func := "leeboard/leeboardlaw.GateDay", spec := "gateDay", unfollowed := true, recurses := true, apart := false }
def GateDaySaid : Prop := gateDayRow.holds Try.pinned (OpenSpec.ofChange gateDaySpec)

/-- ITS FALSE NEIGHBOUR: 'it returns false'. Refute it at one input. -/
def gateDayWrong : ChangeSpec := { name := "gateDay", fn := fun _ => fun
  | [d1, d2, d3] => { results := [.lit (.bool false)], args := [d1, d2, d3] }
  | _ => none }
def GateDayWrongFalsely : Prop := gateDayRow.holds Try.pinned (OpenSpec.ofChange gateDayWrong)

/-- 'leeboardlaw.GateTold': WHATEVER THE INPUT: true; the input reads as it did. -/
def gateToldSpec : ChangeSpec := { name := "gateTold", fn := fun _ => fun
  | [d1, d2, d3] => { results := [.lit (.bool true)], args := [d1, d2, d3] }
  | _ => none }
def gateToldRow : OpenClaim := { program := "ythollackhkiofaa", sum := "677c3e912893a216af5df4ba60234ba789c7bfef36450adf09979f21340867e7", func := "leeboard/leeboardlaw.GateTold", spec := "gateTold", inPlace := ["slices.overlaps[int]"], unfollowed := true, recurses := true, apart := false }
def GateToldSaid : Prop := gateToldRow.holds Try.pinned (OpenSpec.ofChange gateToldSpec)

/-- ITS FALSE NEIGHBOUR: 'it returns false'. Refute it at one input. -/
def gateToldWrong : ChangeSpec := { name := "gateTold", fn := fun _ => fun
  | [d1, d2, d3] => { results := [.lit (.bool false)], args := [d1, d2, d3] }
  | _ => none }
def GateToldWrongFalsely : Prop := gateToldRow.holds Try.pinned (OpenSpec.ofChange gateToldWrong)

/- THE SECOND FORM. 'bulk': how many values and letters a reading holds, each counted each time it is reached (what is shared counts as often as it is met; a slice's spare places count too). A statement '..UptoSaid' is the law's where the arguments, and the package variables that the reading takes, are together of bulk at most 1048576: NARROWER than '..Said'. Prove '..Said' where nothing that the law and all that it calls make is longer than what came in: it says more and counts as full. Else prove '..UptoSaid'. A law counts once. -/
mutual
def uptoBulk {H : Type} : DataW H → Nat
  | .lit (.string bytes) => bytes.length + 1
  | .lit _ => 1
  | .nil => 1
  | .ptr d => uptoBulk d + 1
  | .slice elems spare => uptoBulkAll elems + uptoBulkAll spare + 1
  | .agg parts => uptoBulkAll parts + 1
  | .iface _ d => uptoBulk d + 1
  | .map entries => uptoBulkEntries entries + 1
  | .held _ => 1
def uptoBulkAll {H : Type} : List (DataW H) → Nat
  | [] => 0
  | d :: r => uptoBulk d + uptoBulkAll r
def uptoBulkEntries {H : Type} : List (Lit × DataW H) → Nat
  | [] => 0
  | x :: r => uptoBulkEntry x + uptoBulkEntries r
def uptoBulkEntry {H : Type} : Lit × DataW H → Nat
  | (.string bytes, d) => bytes.length + uptoBulk d + 1
  | (_, d) => uptoBulk d + 1
 end
def uptoSmall : (H : Type) → List (DataW H) → Bool := fun _ ds => decide (uptoBulkAll ds ≤ 1048576)
def OpenSpec.upto (s : _root_.Go.ChangeSpec) : _root_.Go.OpenSpec := { _root_.Go.OpenSpec.ofChange s with cond := some uptoSmall }

/-- 'leeboardlaw.LeadNone', WHERE WHAT IT READS IS OF BULK AT MOST 1048576: true; the input reads as it did. -/
def leadNoneUptoRow : OpenClaim := { program := "ythollackhkiofaa", sum := "677c3e912893a216af5df4ba60234ba789c7bfef36450adf09979f21340867e7", func := "leeboard/leeboardlaw.LeadNone", spec := "leadNone", unfollowed := true, recurses := true, apart := false, narrowed := true }
def LeadNoneUptoSaid : Prop := leadNoneUptoRow.holds Try.pinned (OpenSpec.upto leadNoneSpec)

/-- 'leeboardlaw.LeadTells', WHERE WHAT IT READS IS OF BULK AT MOST 1048576: true; the input reads as it did. -/
def leadTellsUptoRow : OpenClaim := { program := "ythollackhkiofaa", sum := "677c3e912893a216af5df4ba60234ba789c7bfef36450adf09979f21340867e7", func := "leeboard/leeboardlaw.LeadTells", spec := "leadTells", unfollowed := true, recurses := true, apart := false, narrowed := true }
def LeadTellsUptoSaid : Prop := leadTellsUptoRow.holds Try.pinned (OpenSpec.upto leadTellsSpec)

/-- 'leeboardlaw.LeadOne', WHERE WHAT IT READS IS OF BULK AT MOST 1048576: true; the input reads as it did. -/
def leadOneUptoRow : OpenClaim := { program := "ythollackhkiofaa", sum := "677c3e912893a216af5df4ba60234ba789c7bfef36450adf09979f21340867e7", func := "leeboard/leeboardlaw.LeadOne", spec := "leadOne", unfollowed := true, recurses := true, apart := false, narrowed := true }
def LeadOneUptoSaid : Prop := leadOneUptoRow.holds Try.pinned (OpenSpec.upto leadOneSpec)

/-- 'leeboardlaw.DeniedTells', WHERE WHAT IT READS IS OF BULK AT MOST 1048576: true; the input reads as it did. -/
def deniedTellsUptoRow : OpenClaim := { program := "ythollackhkiofaa", sum := "677c3e912893a216af5df4ba60234ba789c7bfef36450adf09979f21340867e7", func := "leeboard/leeboardlaw.DeniedTells", spec := "deniedTells", inPlace := ["slices.overlaps[int]"], apart := false, narrowed := true }
def DeniedTellsUptoSaid : Prop := deniedTellsUptoRow.holds Try.pinned (OpenSpec.upto deniedTellsSpec)

/-- 'leeboardlaw.DeniedStays', WHERE WHAT IT READS IS OF BULK AT MOST 1048576: true; the input reads as it did. -/
def deniedStaysUptoRow : OpenClaim := { program := "ythollackhkiofaa", sum := "677c3e912893a216af5df4ba60234ba789c7bfef36450adf09979f21340867e7", func := "leeboard/leeboardlaw.DeniedStays", spec := "deniedStays", inPlace := ["slices.overlaps[int]"], apart := false, narrowed := true }
def DeniedStaysUptoSaid : Prop := deniedStaysUptoRow.holds Try.pinned (OpenSpec.upto deniedStaysSpec)

/-- 'leeboardlaw.DeniedOrder', WHERE WHAT IT READS IS OF BULK AT MOST 1048576: true; the input reads as it did. -/
def deniedOrderUptoRow : OpenClaim := { program := "ythollackhkiofaa", sum := "677c3e912893a216af5df4ba60234ba789c7bfef36450adf09979f21340867e7", func := "leeboard/leeboardlaw.DeniedOrder", spec := "deniedOrder", inPlace := ["slices.overlaps[int]"], apart := false, narrowed := true }
def DeniedOrderUptoSaid : Prop := deniedOrderUptoRow.holds Try.pinned (OpenSpec.upto deniedOrderSpec)

/-- 'leeboardlaw.GateTells', WHERE WHAT IT READS IS OF BULK AT MOST 1048576: true; the input reads as it did. -/
def gateTellsUptoRow : OpenClaim := { program := "ythollackhkiofaa", sum := "677c3e912893a216af5df4ba60234ba789c7bfef36450adf09979f21340867e7", func := "leeboard/leeboardlaw.GateTells", spec := "gateTells", unfollowed := true, recurses := true, apart := false, narrowed := true }
def GateTellsUptoSaid : Prop := gateTellsUptoRow.holds Try.pinned (OpenSpec.upto gateTellsSpec)

/-- 'leeboardlaw.GateBounds', WHERE WHAT IT READS IS OF BULK AT MOST 1048576: true; the input reads as it did. -/
def gateBoundsUptoRow : OpenClaim := { program := "ythollackhkiofaa", sum := "677c3e912893a216af5df4ba60234ba789c7bfef36450adf09979f21340867e7", func := "leeboard/leeboardlaw.GateBounds", spec := "gateBounds", unfollowed := true, recurses := true, apart := false, narrowed := true }
def GateBoundsUptoSaid : Prop := gateBoundsUptoRow.holds Try.pinned (OpenSpec.upto gateBoundsSpec)

/-- 'leeboardlaw.GateDay', WHERE WHAT IT READS IS OF BULK AT MOST 1048576: true; the input reads as it did. -/
def gateDayUptoRow : OpenClaim := { program := "ythollackhkiofaa", sum := "677c3e912893a216af5df4ba60234ba789c7bfef36450adf09979f21340867e7", func := "leeboard/leeboardlaw.GateDay", spec := "gateDay", unfollowed := true, recurses := true, apart := false, narrowed := true }
def GateDayUptoSaid : Prop := gateDayUptoRow.holds Try.pinned (OpenSpec.upto gateDaySpec)

/-- 'leeboardlaw.GateTold', WHERE WHAT IT READS IS OF BULK AT MOST 1048576: true; the input reads as it did. -/
def gateToldUptoRow : OpenClaim := { program := "ythollackhkiofaa", sum := "677c3e912893a216af5df4ba60234ba789c7bfef36450adf09979f21340867e7", func := "leeboard/leeboardlaw.GateTold", spec := "gateTold", inPlace := ["slices.overlaps[int]"], unfollowed := true, recurses := true, apart := false, narrowed := true }
def GateToldUptoSaid : Prop := gateToldUptoRow.holds Try.pinned (OpenSpec.upto gateToldSpec)

end Rows
end Go.Proofs.Ythollackhkiofaa
