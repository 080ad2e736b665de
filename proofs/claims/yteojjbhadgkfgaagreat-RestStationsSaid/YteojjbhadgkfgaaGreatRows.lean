/-
  No cell of these rows narrows 'for every input' (looked for: loops, veiled, ifaces, maps, wideKeys, modest, calm, conditions, laid).
  DERIVED. THE GIVEN ROWS OF THIS SEAT. 8 by the template 'for every input the law returns true; each argument reads behind the call as it read before'; 0 by the template 'total and deterministic' (their statements: YteojjbhadgkfgaaGreatTotals.lean).
  GIVEN WITH THE SEED: the statements are not yours to turn. If you find one false, say at which input.
  Laid BY PROGRAM, IN A SANDBOX (cutbox-rows.mjs): the forced cells as the released guide's own fill.sh prints them over the translation 1efbdf3943f20e16… (all of the seat's roots in one cut). By AI agents, Wed Nov 11 2026. No macro, syntax, notation, axiom, sorry.
-/
import Derived.Test.YteojjbhadgkfgaaGreatChecked
import GoSem.Claim
import GoSem.ClaimJoined
import GoSem.ClaimMapViews
import Derived.JoinedTies
import Derived.KernelRfl
namespace Go.Proofs.YteojjbhadgkfgaaGreat
/- THE CELL 'sum', in the pinned program and in every row, IS THE sha256 OF THE DUMP (.gsa) THAT YteojjbhadgkfgaaGreatProg.lean LOADS. Nothing in Lean hashes anything: it is a label: what it is worth is what the hold of that sum in a sandbox is worth. -/
noncomputable def Tryz.pinned : Pinned := { name := "yteojjbhadgkfgaagreat", sum := "1efbdf3943f20e16df9f886c04cb6809fdf6876857ca680304b5e6dfd589c353", checked := Tryz.checked }
namespace Rows
def none {H : Type} : Left H := { results := [], args := [] }

/-- 'leeboardlaw.StationTells': WHATEVER THE INPUT: true; the input reads as it did. -/
def stationTellsSpec : ChangeSpec := { name := "stationTells", fn := fun _ => fun
  | [d1, d2, d3, d4, d5] => { results := [.lit (.bool true)], args := [d1, d2, d3, d4, d5] }
  | _ => none }
def stationTellsRow : OpenClaim := { program := "yteojjbhadgkfgaagreat", sum := "1efbdf3943f20e16df9f886c04cb6809fdf6876857ca680304b5e6dfd589c353", func := "leeboard/leeboardlaw.StationTells", spec := "stationTells", inPlace := ["slices.overlaps[leeboard/api.Ticket]", "slices.overlaps[int]"], unfollowed := true, recurses := true, apart := false }
def StationTellsSaid : Prop := stationTellsRow.holds Tryz.pinned (OpenSpec.ofChange stationTellsSpec)

/-- ITS FALSE NEIGHBOUR: 'it returns false'. Refute it at one input. -/
def stationTellsWrong : ChangeSpec := { name := "stationTells", fn := fun _ => fun
  | [d1, d2, d3, d4, d5] => { results := [.lit (.bool false)], args := [d1, d2, d3, d4, d5] }
  | _ => none }
def StationTellsWrongFalsely : Prop := stationTellsRow.holds Tryz.pinned (OpenSpec.ofChange stationTellsWrong)

/-- 'leeboardlaw.StationSafe': WHATEVER THE INPUT: true; the input reads as it did. -/
def stationSafeSpec : ChangeSpec := { name := "stationSafe", fn := fun _ => fun
  | [d1, d2, d3, d4] => { results := [.lit (.bool true)], args := [d1, d2, d3, d4] }
  | _ => none }
def stationSafeRow : OpenClaim := { program := "yteojjbhadgkfgaagreat", sum := "1efbdf3943f20e16df9f886c04cb6809fdf6876857ca680304b5e6dfd589c353", func := "leeboard/leeboardlaw.StationSafe", spec := "stationSafe", inPlace := ["slices.overlaps[leeboard/api.Ticket]", "slices.overlaps[int]"], unfollowed := true, recurses := true, apart := false }
def StationSafeSaid : Prop := stationSafeRow.holds Tryz.pinned (OpenSpec.ofChange stationSafeSpec)

/-- ITS FALSE NEIGHBOUR: 'it returns false'. Refute it at one input. -/
def stationSafeWrong : ChangeSpec := { name := "stationSafe", fn := fun _ => fun
  | [d1, d2, d3, d4] => { results := [.lit (.bool false)], args := [d1, d2, d3, d4] }
  | _ => none }
def StationSafeWrongFalsely : Prop := stationSafeRow.holds Tryz.pinned (OpenSpec.ofChange stationSafeWrong)

/-- 'leeboardlaw.StationFound': WHATEVER THE INPUT: true; the input reads as it did. -/
def stationFoundSpec : ChangeSpec := { name := "stationFound", fn := fun _ => fun
  | [d1, d2, d3] => { results := [.lit (.bool true)], args := [d1, d2, d3] }
  | _ => none }
def stationFoundRow : OpenClaim := { program := "yteojjbhadgkfgaagreat", sum := "1efbdf3943f20e16df9f886c04cb6809fdf6876857ca680304b5e6dfd589c353", func := "leeboard/leeboardlaw.StationFound", spec := "stationFound", inPlace := ["slices.overlaps[int]", "slices.overlaps[leeboard/api.Ticket]"], unfollowed := true, recurses := true, apart := false }
def StationFoundSaid : Prop := stationFoundRow.holds Tryz.pinned (OpenSpec.ofChange stationFoundSpec)

/-- ITS FALSE NEIGHBOUR: 'it returns false'. Refute it at one input. -/
def stationFoundWrong : ChangeSpec := { name := "stationFound", fn := fun _ => fun
  | [d1, d2, d3] => { results := [.lit (.bool false)], args := [d1, d2, d3] }
  | _ => none }
def StationFoundWrongFalsely : Prop := stationFoundRow.holds Tryz.pinned (OpenSpec.ofChange stationFoundWrong)

/-- 'leeboardlaw.StationAlone': WHATEVER THE INPUT: true; the input reads as it did. -/
def stationAloneSpec : ChangeSpec := { name := "stationAlone", fn := fun _ => fun
  | [d1, d2, d3, d4] => { results := [.lit (.bool true)], args := [d1, d2, d3, d4] }
  | _ => none }
def stationAloneRow : OpenClaim := { program := "yteojjbhadgkfgaagreat", sum := "1efbdf3943f20e16df9f886c04cb6809fdf6876857ca680304b5e6dfd589c353", func := "leeboard/leeboardlaw.StationAlone", spec := "stationAlone", inPlace := ["slices.overlaps[leeboard/api.Ticket]", "slices.overlaps[int]"], unfollowed := true, recurses := true, apart := false }
def StationAloneSaid : Prop := stationAloneRow.holds Tryz.pinned (OpenSpec.ofChange stationAloneSpec)

/-- ITS FALSE NEIGHBOUR: 'it returns false'. Refute it at one input. -/
def stationAloneWrong : ChangeSpec := { name := "stationAlone", fn := fun _ => fun
  | [d1, d2, d3, d4] => { results := [.lit (.bool false)], args := [d1, d2, d3, d4] }
  | _ => none }
def StationAloneWrongFalsely : Prop := stationAloneRow.holds Tryz.pinned (OpenSpec.ofChange stationAloneWrong)

/-- 'leeboardlaw.DeskTells': WHATEVER THE INPUT: true; the input reads as it did. -/
def deskTellsSpec : ChangeSpec := { name := "deskTells", fn := fun _ => fun
  | [d1, d2] => { results := [.lit (.bool true)], args := [d1, d2] }
  | _ => none }
def deskTellsRow : OpenClaim := { program := "yteojjbhadgkfgaagreat", sum := "1efbdf3943f20e16df9f886c04cb6809fdf6876857ca680304b5e6dfd589c353", func := "leeboard/leeboardlaw.DeskTells", spec := "deskTells", inPlace := ["slices.overlaps[leeboard/api.Ticket]", "slices.overlaps[int]"], unfollowed := true, recurses := true, apart := false }
def DeskTellsSaid : Prop := deskTellsRow.holds Tryz.pinned (OpenSpec.ofChange deskTellsSpec)

/-- ITS FALSE NEIGHBOUR: 'it returns false'. Refute it at one input. -/
def deskTellsWrong : ChangeSpec := { name := "deskTells", fn := fun _ => fun
  | [d1, d2] => { results := [.lit (.bool false)], args := [d1, d2] }
  | _ => none }
def DeskTellsWrongFalsely : Prop := deskTellsRow.holds Tryz.pinned (OpenSpec.ofChange deskTellsWrong)

/-- 'leeboardlaw.DeskRuns': WHATEVER THE INPUT: true; the input reads as it did. -/
def deskRunsSpec : ChangeSpec := { name := "deskRuns", fn := fun _ => fun
  | [d] => { results := [.lit (.bool true)], args := [d] }
  | _ => none }
def deskRunsRow : OpenClaim := { program := "yteojjbhadgkfgaagreat", sum := "1efbdf3943f20e16df9f886c04cb6809fdf6876857ca680304b5e6dfd589c353", func := "leeboard/leeboardlaw.DeskRuns", spec := "deskRuns", inPlace := ["slices.overlaps[leeboard/api.Ticket]", "slices.overlaps[int]"], unfollowed := true, recurses := true, apart := false }
def DeskRunsSaid : Prop := deskRunsRow.holds Tryz.pinned (OpenSpec.ofChange deskRunsSpec)

/-- ITS FALSE NEIGHBOUR: 'it returns false'. Refute it at one input. -/
def deskRunsWrong : ChangeSpec := { name := "deskRuns", fn := fun _ => fun
  | [d] => { results := [.lit (.bool false)], args := [d] }
  | _ => none }
def DeskRunsWrongFalsely : Prop := deskRunsRow.holds Tryz.pinned (OpenSpec.ofChange deskRunsWrong)

/-- 'leeboardlaw.DeskRight': WHATEVER THE INPUT: true; the input reads as it did. -/
def deskRightSpec : ChangeSpec := { name := "deskRight", fn := fun _ => fun
  | [d1, d2] => { results := [.lit (.bool true)], args := [d1, d2] }
  | _ => none }
def deskRightRow : OpenClaim := { program := "yteojjbhadgkfgaagreat", sum := "1efbdf3943f20e16df9f886c04cb6809fdf6876857ca680304b5e6dfd589c353", func := "leeboard/leeboardlaw.DeskRight", spec := "deskRight", inPlace := ["slices.overlaps[leeboard/api.Ticket]", "slices.overlaps[int]"], unfollowed := true, recurses := true, apart := false }
def DeskRightSaid : Prop := deskRightRow.holds Tryz.pinned (OpenSpec.ofChange deskRightSpec)

/-- ITS FALSE NEIGHBOUR: 'it returns false'. Refute it at one input. -/
def deskRightWrong : ChangeSpec := { name := "deskRight", fn := fun _ => fun
  | [d1, d2] => { results := [.lit (.bool false)], args := [d1, d2] }
  | _ => none }
def DeskRightWrongFalsely : Prop := deskRightRow.holds Tryz.pinned (OpenSpec.ofChange deskRightWrong)

/-- 'leeboardlaw.RestStations': WHATEVER THE INPUT: true; the input reads as it did. -/
def restStationsSpec : ChangeSpec := { name := "restStations", fn := fun _ => fun
  | [d1, d2] => { results := [.lit (.bool true)], args := [d1, d2] }
  | _ => none }
def restStationsRow : OpenClaim := { program := "yteojjbhadgkfgaagreat", sum := "1efbdf3943f20e16df9f886c04cb6809fdf6876857ca680304b5e6dfd589c353", func := "leeboard/leeboardlaw.RestStations", spec := "restStations", inPlace := ["slices.overlaps[leeboard/api.Ticket]", "slices.overlaps[int]"], unfollowed := true, recurses := true, apart := false }
def RestStationsSaid : Prop := restStationsRow.holds Tryz.pinned (OpenSpec.ofChange restStationsSpec)

/-- ITS FALSE NEIGHBOUR: 'it returns false'. Refute it at one input. -/
def restStationsWrong : ChangeSpec := { name := "restStations", fn := fun _ => fun
  | [d1, d2] => { results := [.lit (.bool false)], args := [d1, d2] }
  | _ => none }
def RestStationsWrongFalsely : Prop := restStationsRow.holds Tryz.pinned (OpenSpec.ofChange restStationsWrong)

/- THE SECOND FORM. 'bulk': how many values and letters a reading holds, each counted each time it is reached (what is shared counts as often as it is met; a slice's spare places count too). A statement '..UptoSaid' is the law's where the arguments, and the package variables that the reading takes, are together of bulk at most 1048576: NARROWER than '..Said'. Prove '..Said' where nothing that the law and all that it calls make is longer than what came in: it says more and counts as full. Else prove '..UptoSaid'. A law counts once. -/
mutual
def uptoBulk {H : Type} : DataW H → Nat
  | .lit (.string bytes) => bytes.length + 1
  | .lit _ => 1
  | .nil => 1
  | .ptr d => uptoBulk d + 1
  | .slice elems spare => uptoBulkAll elems + uptoBulkAll spare + 1
  | .agg parts => uptoBulkAll parts + 1
  | .iface _ d => uptoBulk d + 1
  | .map entries => uptoBulkEntries entries + 1
  | .held _ => 1
def uptoBulkAll {H : Type} : List (DataW H) → Nat
  | [] => 0
  | d :: r => uptoBulk d + uptoBulkAll r
def uptoBulkEntries {H : Type} : List (Lit × DataW H) → Nat
  | [] => 0
  | x :: r => uptoBulkEntry x + uptoBulkEntries r
def uptoBulkEntry {H : Type} : Lit × DataW H → Nat
  | (.string bytes, d) => bytes.length + uptoBulk d + 1
  | (_, d) => uptoBulk d + 1
 end
def uptoSmall : (H : Type) → List (DataW H) → Bool := fun _ ds => decide (uptoBulkAll ds ≤ 1048576)
def OpenSpec.upto (s : _root_.Go.ChangeSpec) : _root_.Go.OpenSpec := { _root_.Go.OpenSpec.ofChange s with cond := some uptoSmall }

/-- 'leeboardlaw.StationTells', WHERE WHAT IT READS IS OF BULK AT MOST 1048576: true; the input reads as it did. -/
def stationTellsUptoRow : OpenClaim := { program := "yteojjbhadgkfgaagreat", sum := "1efbdf3943f20e16df9f886c04cb6809fdf6876857ca680304b5e6dfd589c353", func := "leeboard/leeboardlaw.StationTells", spec := "stationTells", inPlace := ["slices.overlaps[leeboard/api.Ticket]", "slices.overlaps[int]"], unfollowed := true, recurses := true, apart := false, narrowed := true }
def StationTellsUptoSaid : Prop := stationTellsUptoRow.holds Tryz.pinned (OpenSpec.upto stationTellsSpec)

/-- 'leeboardlaw.StationSafe', WHERE WHAT IT READS IS OF BULK AT MOST 1048576: true; the input reads as it did. -/
def stationSafeUptoRow : OpenClaim := { program := "yteojjbhadgkfgaagreat", sum := "1efbdf3943f20e16df9f886c04cb6809fdf6876857ca680304b5e6dfd589c353", func := "leeboard/leeboardlaw.StationSafe", spec := "stationSafe", inPlace := ["slices.overlaps[leeboard/api.Ticket]", "slices.overlaps[int]"], unfollowed := true, recurses := true, apart := false, narrowed := true }
def StationSafeUptoSaid : Prop := stationSafeUptoRow.holds Tryz.pinned (OpenSpec.upto stationSafeSpec)

/-- 'leeboardlaw.StationFound', WHERE WHAT IT READS IS OF BULK AT MOST 1048576: true; the input reads as it did. -/
def stationFoundUptoRow : OpenClaim := { program := "yteojjbhadgkfgaagreat", sum := "1efbdf3943f20e16df9f886c04cb6809fdf6876857ca680304b5e6dfd589c353", func := "leeboard/leeboardlaw.StationFound", spec := "stationFound", inPlace := ["slices.overlaps[int]", "slices.overlaps[leeboard/api.Ticket]"], unfollowed := true, recurses := true, apart := false, narrowed := true }
def StationFoundUptoSaid : Prop := stationFoundUptoRow.holds Tryz.pinned (OpenSpec.upto stationFoundSpec)

/-- 'leeboardlaw.StationAlone', WHERE WHAT IT READS IS OF BULK AT MOST 1048576: true; the input reads as it did. -/
def stationAloneUptoRow : OpenClaim := { program := "yteojjbhadgkfgaagreat", sum := "1efbdf3943f20e16df9f886c04cb6809fdf6876857ca680304b5e6dfd589c353", func := "leeboard/leeboardlaw.StationAlone", spec := "stationAlone", inPlace := ["slices.overlaps[leeboard/api.Ticket]", "slices.overlaps[int]"], unfollowed := true, recurses := true, apart := false, narrowed := true }
def StationAloneUptoSaid : Prop := stationAloneUptoRow.holds Tryz.pinned (OpenSpec.upto stationAloneSpec)

/-- 'leeboardlaw.DeskTells', WHERE WHAT IT READS IS OF BULK AT MOST 1048576: true; the input reads as it did. -/
def deskTellsUptoRow : OpenClaim := { program := "yteojjbhadgkfgaagreat", sum := "1efbdf3943f20e16df9f886c04cb6809fdf6876857ca680304b5e6dfd589c353", func := "leeboard/leeboardlaw.DeskTells", spec := "deskTells", inPlace := ["slices.overlaps[leeboard/api.Ticket]", "slices.overlaps[int]"], unfollowed := true, recurses := true, apart := false, narrowed := true }
def DeskTellsUptoSaid : Prop := deskTellsUptoRow.holds Tryz.pinned (OpenSpec.upto deskTellsSpec)

/-- 'leeboardlaw.DeskRuns', WHERE WHAT IT READS IS OF BULK AT MOST 1048576: true; the input reads as it did. -/
def deskRunsUptoRow : OpenClaim := { program := "yteojjbhadgkfgaagreat", sum := "1efbdf3943f20e16df9f886c04cb6809fdf6876857ca680304b5e6dfd589c353", func := "leeboard/leeboardlaw.DeskRuns", spec := "deskRuns", inPlace := ["slices.overlaps[leeboard/api.Ticket]", "slices.overlaps[int]"], unfollowed := true, recurses := true, apart := false, narrowed := true }
def DeskRunsUptoSaid : Prop := deskRunsUptoRow.holds Tryz.pinned (OpenSpec.upto deskRunsSpec)

/-- 'leeboardlaw.DeskRight', WHERE WHAT IT READS IS OF BULK AT MOST 1048576: true; the input reads as it did. -/
def deskRightUptoRow : OpenClaim := { program := "yteojjbhadgkfgaagreat", sum := "1efbdf3943f20e16df9f886c04cb6809fdf6876857ca680304b5e6dfd589c353", func := "leeboard/leeboardlaw.DeskRight", spec := "deskRight", inPlace := ["slices.overlaps[leeboard/api.Ticket]", "slices.overlaps[int]"], unfollowed := true, recurses := true, apart := false, narrowed := true }
def DeskRightUptoSaid : Prop := deskRightUptoRow.holds Tryz.pinned (OpenSpec.upto deskRightSpec)

/-- 'leeboardlaw.RestStations', WHERE WHAT IT READS IS OF BULK AT MOST 1048576: true; the input reads as it did. -/
def restStationsUptoRow : OpenClaim := { program := "yteojjbhadgkfgaagreat", sum := "1efbdf3943f20e16df9f886c04cb6809fdf6876857ca680304b5e6dfd589c353", func := "leeboard/leeboardlaw.RestStations", spec := "restStations", inPlace := ["slices.overlaps[leeboard/api.Ticket]", "slices.overlaps[int]"], unfollowed := true, recurses := true, apart := false, narrowed := true }
def RestStationsUptoSaid : Prop := restStationsUptoRow.holds Tryz.pinned (OpenSpec.upto restStationsSpec)

end Rows
end Go.Proofs.YteojjbhadgkfgaaGreat
