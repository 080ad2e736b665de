/-
  No cell of these rows narrows 'for every input' (looked for: loops, veiled, ifaces, maps, wideKeys, modest, calm, conditions, laid).
  DERIVED. THE GIVEN ROWS OF THIS SEAT. 11 by the template 'for every input the law returns true; each argument reads behind the call as it read before'; 0 by the template 'total and deterministic' (their statements: YtbboonepfmkgnaaTotals.lean).
  GIVEN WITH THE SEED: the statements are not yours to turn. If you find one false, say at which input.
  Laid BY PROGRAM, IN A SANDBOX (cutbox-rows.mjs): the forced cells as the released guide's own fill.sh prints them over the translation 76ffbea02b6b4ac6… (all of the seat's roots in one cut). By AI agents, Wed Nov 11 2026. No macro, syntax, notation, axiom, sorry.
-/
import Derived.Test.YtbboonepfmkgnaaChecked
import GoSem.Claim
import GoSem.ClaimJoined
import GoSem.ClaimMapViews
import Derived.JoinedTies
import Derived.KernelRfl
namespace Go.Proofs.Ytbboonepfmkgnaa
/- THE CELL 'sum', in the pinned program and in every row, IS THE sha256 OF THE DUMP (.gsa) THAT YtbboonepfmkgnaaProg.lean LOADS. Nothing in Lean hashes anything: it is a label: what it is worth is what the hold of that sum in a sandbox is worth. -/
noncomputable def Try.pinned : Pinned := { name := "ytbboonepfmkgnaa", sum := "76ffbea02b6b4ac6e166f308f6a5d956047a0ca5ef6f3713be9e0730432dc773", checked := Try.checked }
namespace Rows
def none {H : Type} : Left H := { results := [], args := [] }

/-- 'leeboardlaw.LedgerTells': WHATEVER THE INPUT: true; the input reads as it did. -/
def ledgerTellsSpec : ChangeSpec := { name := "ledgerTells", fn := fun _ => fun
  | [d1, d2, d3, d4] => { results := [.lit (.bool true)], args := [d1, d2, d3, d4] }
  | _ => none }
def ledgerTellsRow : OpenClaim := { program := "ytbboonepfmkgnaa", sum := "76ffbea02b6b4ac6e166f308f6a5d956047a0ca5ef6f3713be9e0730432dc773", func := "leeboard/leeboardlaw.LedgerTells", spec := "ledgerTells", inPlace := ["slices.overlaps[leeboard/api.Ticket]"], unfollowed := true, recurses := true, apart := false }
def LedgerTellsSaid : Prop := ledgerTellsRow.holds Try.pinned (OpenSpec.ofChange ledgerTellsSpec)

/-- ITS FALSE NEIGHBOUR: 'it returns false'. Refute it at one input. -/
def ledgerTellsWrong : ChangeSpec := { name := "ledgerTells", fn := fun _ => fun
  | [d1, d2, d3, d4] => { results := [.lit (.bool false)], args := [d1, d2, d3, d4] }
  | _ => none }
def LedgerTellsWrongFalsely : Prop := ledgerTellsRow.holds Try.pinned (OpenSpec.ofChange ledgerTellsWrong)

/-- 'leeboardlaw.LedgerRides': WHATEVER THE INPUT: true; the input reads as it did. -/
def ledgerRidesSpec : ChangeSpec := { name := "ledgerRides", fn := fun _ => fun
  | [d1, d2] => { results := [.lit (.bool true)], args := [d1, d2] }
  | _ => none }
def ledgerRidesRow : OpenClaim := { program := "ytbboonepfmkgnaa", sum := "76ffbea02b6b4ac6e166f308f6a5d956047a0ca5ef6f3713be9e0730432dc773", func := "leeboard/leeboardlaw.LedgerRides", spec := "ledgerRides", inPlace := ["slices.overlaps[leeboard/api.Ticket]"], unfollowed := true, recurses := true, apart := false }
def LedgerRidesSaid : Prop := ledgerRidesRow.holds Try.pinned (OpenSpec.ofChange ledgerRidesSpec)

/-- ITS FALSE NEIGHBOUR: 'it returns false'. Refute it at one input. -/
def ledgerRidesWrong : ChangeSpec := { name := "ledgerRides", fn := fun _ => fun
  | [d1, d2] => { results := [.lit (.bool false)], args := [d1, d2] }
  | _ => none }
def LedgerRidesWrongFalsely : Prop := ledgerRidesRow.holds Try.pinned (OpenSpec.ofChange ledgerRidesWrong)

/-- 'leeboardlaw.LedgerParts': WHATEVER THE INPUT: true; the input reads as it did. -/
def ledgerPartsSpec : ChangeSpec := { name := "ledgerParts", fn := fun _ => fun
  | [d1, d2, d3] => { results := [.lit (.bool true)], args := [d1, d2, d3] }
  | _ => none }
def ledgerPartsRow : OpenClaim := { program := "ytbboonepfmkgnaa", sum := "76ffbea02b6b4ac6e166f308f6a5d956047a0ca5ef6f3713be9e0730432dc773", func := "leeboard/leeboardlaw.LedgerParts", spec := "ledgerParts", inPlace := ["slices.overlaps[leeboard/api.Ticket]"], unfollowed := true, recurses := true, apart := false }
def LedgerPartsSaid : Prop := ledgerPartsRow.holds Try.pinned (OpenSpec.ofChange ledgerPartsSpec)

/-- ITS FALSE NEIGHBOUR: 'it returns false'. Refute it at one input. -/
def ledgerPartsWrong : ChangeSpec := { name := "ledgerParts", fn := fun _ => fun
  | [d1, d2, d3] => { results := [.lit (.bool false)], args := [d1, d2, d3] }
  | _ => none }
def LedgerPartsWrongFalsely : Prop := ledgerPartsRow.holds Try.pinned (OpenSpec.ofChange ledgerPartsWrong)

/-- 'leeboardlaw.LedgerGoesOn': WHATEVER THE INPUT: true; the input reads as it did. -/
def ledgerGoesOnSpec : ChangeSpec := { name := "ledgerGoesOn", fn := fun _ => fun
  | [d1, d2, d3] => { results := [.lit (.bool true)], args := [d1, d2, d3] }
  | _ => none }
def ledgerGoesOnRow : OpenClaim := { program := "ytbboonepfmkgnaa", sum := "76ffbea02b6b4ac6e166f308f6a5d956047a0ca5ef6f3713be9e0730432dc773", func := "leeboard/leeboardlaw.LedgerGoesOn", spec := "ledgerGoesOn", inPlace := ["slices.overlaps[leeboard/api.Ticket]"], unfollowed := true, recurses := true, apart := false }
def LedgerGoesOnSaid : Prop := ledgerGoesOnRow.holds Try.pinned (OpenSpec.ofChange ledgerGoesOnSpec)

/-- ITS FALSE NEIGHBOUR: 'it returns false'. Refute it at one input. -/
def ledgerGoesOnWrong : ChangeSpec := { name := "ledgerGoesOn", fn := fun _ => fun
  | [d1, d2, d3] => { results := [.lit (.bool false)], args := [d1, d2, d3] }
  | _ => none }
def LedgerGoesOnWrongFalsely : Prop := ledgerGoesOnRow.holds Try.pinned (OpenSpec.ofChange ledgerGoesOnWrong)

/-- 'leeboardlaw.AuditTells': WHATEVER THE INPUT: true; the input reads as it did. -/
def auditTellsSpec : ChangeSpec := { name := "auditTells", fn := fun _ => fun
  | [d1, d2, d3, d4, d5] => { results := [.lit (.bool true)], args := [d1, d2, d3, d4, d5] }
  | _ => none }
def auditTellsRow : OpenClaim := { program := "ytbboonepfmkgnaa", sum := "76ffbea02b6b4ac6e166f308f6a5d956047a0ca5ef6f3713be9e0730432dc773", func := "leeboard/leeboardlaw.AuditTells", spec := "auditTells", unfollowed := true, recurses := true, apart := false }
def AuditTellsSaid : Prop := auditTellsRow.holds Try.pinned (OpenSpec.ofChange auditTellsSpec)

/-- ITS FALSE NEIGHBOUR: 'it returns false'. Refute it at one input. -/
def auditTellsWrong : ChangeSpec := { name := "auditTells", fn := fun _ => fun
  | [d1, d2, d3, d4, d5] => { results := [.lit (.bool false)], args := [d1, d2, d3, d4, d5] }
  | _ => none }
def AuditTellsWrongFalsely : Prop := auditTellsRow.holds Try.pinned (OpenSpec.ofChange auditTellsWrong)

/-- 'leeboardlaw.AuditMore': WHATEVER THE INPUT: true; the input reads as it did. -/
def auditMoreSpec : ChangeSpec := { name := "auditMore", fn := fun _ => fun
  | [d1, d2] => { results := [.lit (.bool true)], args := [d1, d2] }
  | _ => none }
def auditMoreRow : OpenClaim := { program := "ytbboonepfmkgnaa", sum := "76ffbea02b6b4ac6e166f308f6a5d956047a0ca5ef6f3713be9e0730432dc773", func := "leeboard/leeboardlaw.AuditMore", spec := "auditMore", inPlace := ["slices.overlaps[leeboard/api.Ticket]"], unfollowed := true, recurses := true, apart := false }
def AuditMoreSaid : Prop := auditMoreRow.holds Try.pinned (OpenSpec.ofChange auditMoreSpec)

/-- ITS FALSE NEIGHBOUR: 'it returns false'. Refute it at one input. -/
def auditMoreWrong : ChangeSpec := { name := "auditMore", fn := fun _ => fun
  | [d1, d2] => { results := [.lit (.bool false)], args := [d1, d2] }
  | _ => none }
def AuditMoreWrongFalsely : Prop := auditMoreRow.holds Try.pinned (OpenSpec.ofChange auditMoreWrong)

/-- 'leeboardlaw.AuditSums': WHATEVER THE INPUT: true; the input reads as it did. -/
def auditSumsSpec : ChangeSpec := { name := "auditSums", fn := fun _ => fun
  | [d1, d2] => { results := [.lit (.bool true)], args := [d1, d2] }
  | _ => none }
def auditSumsRow : OpenClaim := { program := "ytbboonepfmkgnaa", sum := "76ffbea02b6b4ac6e166f308f6a5d956047a0ca5ef6f3713be9e0730432dc773", func := "leeboard/leeboardlaw.AuditSums", spec := "auditSums", inPlace := ["slices.overlaps[leeboard/api.Ticket]"], unfollowed := true, recurses := true, apart := false }
def AuditSumsSaid : Prop := auditSumsRow.holds Try.pinned (OpenSpec.ofChange auditSumsSpec)

/-- ITS FALSE NEIGHBOUR: 'it returns false'. Refute it at one input. -/
def auditSumsWrong : ChangeSpec := { name := "auditSums", fn := fun _ => fun
  | [d1, d2] => { results := [.lit (.bool false)], args := [d1, d2] }
  | _ => none }
def AuditSumsWrongFalsely : Prop := auditSumsRow.holds Try.pinned (OpenSpec.ofChange auditSumsWrong)

/-- 'leeboardlaw.MergeTells': WHATEVER THE INPUT: true; the input reads as it did. -/
def mergeTellsSpec : ChangeSpec := { name := "mergeTells", fn := fun _ => fun
  | [d1, d2, d3] => { results := [.lit (.bool true)], args := [d1, d2, d3] }
  | _ => none }
def mergeTellsRow : OpenClaim := { program := "ytbboonepfmkgnaa", sum := "76ffbea02b6b4ac6e166f308f6a5d956047a0ca5ef6f3713be9e0730432dc773", func := "leeboard/leeboardlaw.MergeTells", spec := "mergeTells", unfollowed := true, recurses := true, apart := false }
def MergeTellsSaid : Prop := mergeTellsRow.holds Try.pinned (OpenSpec.ofChange mergeTellsSpec)

/-- ITS FALSE NEIGHBOUR: 'it returns false'. Refute it at one input. -/
def mergeTellsWrong : ChangeSpec := { name := "mergeTells", fn := fun _ => fun
  | [d1, d2, d3] => { results := [.lit (.bool false)], args := [d1, d2, d3] }
  | _ => none }
def MergeTellsWrongFalsely : Prop := mergeTellsRow.holds Try.pinned (OpenSpec.ofChange mergeTellsWrong)

/-- 'leeboardlaw.MergeNone': WHATEVER THE INPUT: true; the input reads as it did. -/
def mergeNoneSpec : ChangeSpec := { name := "mergeNone", fn := fun _ => fun
  | [d1, d2] => { results := [.lit (.bool true)], args := [d1, d2] }
  | _ => none }
def mergeNoneRow : OpenClaim := { program := "ytbboonepfmkgnaa", sum := "76ffbea02b6b4ac6e166f308f6a5d956047a0ca5ef6f3713be9e0730432dc773", func := "leeboard/leeboardlaw.MergeNone", spec := "mergeNone", unfollowed := true, recurses := true, apart := false }
def MergeNoneSaid : Prop := mergeNoneRow.holds Try.pinned (OpenSpec.ofChange mergeNoneSpec)

/-- ITS FALSE NEIGHBOUR: 'it returns false'. Refute it at one input. -/
def mergeNoneWrong : ChangeSpec := { name := "mergeNone", fn := fun _ => fun
  | [d1, d2] => { results := [.lit (.bool false)], args := [d1, d2] }
  | _ => none }
def MergeNoneWrongFalsely : Prop := mergeNoneRow.holds Try.pinned (OpenSpec.ofChange mergeNoneWrong)

/-- 'leeboardlaw.MergeOnce': WHATEVER THE INPUT: true; the input reads as it did. -/
def mergeOnceSpec : ChangeSpec := { name := "mergeOnce", fn := fun _ => fun
  | [d1, d2, d3] => { results := [.lit (.bool true)], args := [d1, d2, d3] }
  | _ => none }
def mergeOnceRow : OpenClaim := { program := "ytbboonepfmkgnaa", sum := "76ffbea02b6b4ac6e166f308f6a5d956047a0ca5ef6f3713be9e0730432dc773", func := "leeboard/leeboardlaw.MergeOnce", spec := "mergeOnce", inPlace := ["slices.overlaps[leeboard/api.Ticket]"], unfollowed := true, recurses := true, apart := false }
def MergeOnceSaid : Prop := mergeOnceRow.holds Try.pinned (OpenSpec.ofChange mergeOnceSpec)

/-- ITS FALSE NEIGHBOUR: 'it returns false'. Refute it at one input. -/
def mergeOnceWrong : ChangeSpec := { name := "mergeOnce", fn := fun _ => fun
  | [d1, d2, d3] => { results := [.lit (.bool false)], args := [d1, d2, d3] }
  | _ => none }
def MergeOnceWrongFalsely : Prop := mergeOnceRow.holds Try.pinned (OpenSpec.ofChange mergeOnceWrong)

/-- 'leeboardlaw.MergeWhole': WHATEVER THE INPUT: true; the input reads as it did. -/
def mergeWholeSpec : ChangeSpec := { name := "mergeWhole", fn := fun _ => fun
  | [d1, d2] => { results := [.lit (.bool true)], args := [d1, d2] }
  | _ => none }
def mergeWholeRow : OpenClaim := { program := "ytbboonepfmkgnaa", sum := "76ffbea02b6b4ac6e166f308f6a5d956047a0ca5ef6f3713be9e0730432dc773", func := "leeboard/leeboardlaw.MergeWhole", spec := "mergeWhole", inPlace := ["slices.overlaps[leeboard/api.Ticket]"], unfollowed := true, recurses := true, apart := false }
def MergeWholeSaid : Prop := mergeWholeRow.holds Try.pinned (OpenSpec.ofChange mergeWholeSpec)

/-- ITS FALSE NEIGHBOUR: 'it returns false'. Refute it at one input. -/
def mergeWholeWrong : ChangeSpec := { name := "mergeWhole", fn := fun _ => fun
  | [d1, d2] => { results := [.lit (.bool false)], args := [d1, d2] }
  | _ => none }
def MergeWholeWrongFalsely : Prop := mergeWholeRow.holds Try.pinned (OpenSpec.ofChange mergeWholeWrong)

/- THE SECOND FORM. 'bulk': how many values and letters a reading holds, each counted each time it is reached (what is shared counts as often as it is met; a slice's spare places count too). A statement '..UptoSaid' is the law's where the arguments, and the package variables that the reading takes, are together of bulk at most 1048576: NARROWER than '..Said'. Prove '..Said' where nothing that the law and all that it calls make is longer than what came in: it says more and counts as full. Else prove '..UptoSaid'. A law counts once. -/
mutual
def uptoBulk {H : Type} : DataW H → Nat
  | .lit (.string bytes) => bytes.length + 1
  | .lit _ => 1
  | .nil => 1
  | .ptr d => uptoBulk d + 1
  | .slice elems spare => uptoBulkAll elems + uptoBulkAll spare + 1
  | .agg parts => uptoBulkAll parts + 1
  | .iface _ d => uptoBulk d + 1
  | .map entries => uptoBulkEntries entries + 1
  | .held _ => 1
def uptoBulkAll {H : Type} : List (DataW H) → Nat
  | [] => 0
  | d :: r => uptoBulk d + uptoBulkAll r
def uptoBulkEntries {H : Type} : List (Lit × DataW H) → Nat
  | [] => 0
  | x :: r => uptoBulkEntry x + uptoBulkEntries r
def uptoBulkEntry {H : Type} : Lit × DataW H → Nat
  | (.string bytes, d) => bytes.length + uptoBulk d + 1
  | (_, d) => uptoBulk d + 1
 end
def uptoSmall : (H : Type) → List (DataW H) → Bool := fun _ ds => decide (uptoBulkAll ds ≤ 1048576)
def OpenSpec.upto (s : _root_.Go.ChangeSpec) : _root_.Go.OpenSpec := { _root_.Go.OpenSpec.ofChange s with cond := some uptoSmall }

/-- 'leeboardlaw.LedgerTells', WHERE WHAT IT READS IS OF BULK AT MOST 1048576: true; the input reads as it did. -/
def ledgerTellsUptoRow : OpenClaim := { program := "ytbboonepfmkgnaa", sum := "76ffbea02b6b4ac6e166f308f6a5d956047a0ca5ef6f3713be9e0730432dc773", func := "leeboard/leeboardlaw.LedgerTells", spec := "ledgerTells", inPlace := ["slices.overlaps[leeboard/api.Ticket]"], unfollowed := true, recurses := true, apart := false, narrowed := true }
def LedgerTellsUptoSaid : Prop := ledgerTellsUptoRow.holds Try.pinned (OpenSpec.upto ledgerTellsSpec)

/-- 'leeboardlaw.LedgerRides', WHERE WHAT IT READS IS OF BULK AT MOST 1048576: true; the input reads as it did. -/
def ledgerRidesUptoRow : OpenClaim := { program := "ytbboonepfmkgnaa", sum := "76ffbea02b6b4ac6e166f308f6a5d956047a0ca5ef6f3713be9e0730432dc773", func := "leeboard/leeboardlaw.LedgerRides", spec := "ledgerRides", inPlace := ["slices.overlaps[leeboard/api.Ticket]"], unfollowed := true, recurses := true, apart := false, narrowed := true }
def LedgerRidesUptoSaid : Prop := ledgerRidesUptoRow.holds Try.pinned (OpenSpec.upto ledgerRidesSpec)

/-- 'leeboardlaw.LedgerParts', WHERE WHAT IT READS IS OF BULK AT MOST 1048576: true; the input reads as it did. -/
def ledgerPartsUptoRow : OpenClaim := { program := "ytbboonepfmkgnaa", sum := "76ffbea02b6b4ac6e166f308f6a5d956047a0ca5ef6f3713be9e0730432dc773", func := "leeboard/leeboardlaw.LedgerParts", spec := "ledgerParts", inPlace := ["slices.overlaps[leeboard/api.Ticket]"], unfollowed := true, recurses := true, apart := false, narrowed := true }
def LedgerPartsUptoSaid : Prop := ledgerPartsUptoRow.holds Try.pinned (OpenSpec.upto ledgerPartsSpec)

/-- 'leeboardlaw.LedgerGoesOn', WHERE WHAT IT READS IS OF BULK AT MOST 1048576: true; the input reads as it did. -/
def ledgerGoesOnUptoRow : OpenClaim := { program := "ytbboonepfmkgnaa", sum := "76ffbea02b6b4ac6e166f308f6a5d956047a0ca5ef6f3713be9e0730432dc773", func := "leeboard/leeboardlaw.LedgerGoesOn", spec := "ledgerGoesOn", inPlace := ["slices.overlaps[leeboard/api.Ticket]"], unfollowed := true, recurses := true, apart := false, narrowed := true }
def LedgerGoesOnUptoSaid : Prop := ledgerGoesOnUptoRow.holds Try.pinned (OpenSpec.upto ledgerGoesOnSpec)

/-- 'leeboardlaw.AuditTells', WHERE WHAT IT READS IS OF BULK AT MOST 1048576: true; the input reads as it did. -/
def auditTellsUptoRow : OpenClaim := { program := "ytbboonepfmkgnaa", sum := "76ffbea02b6b4ac6e166f308f6a5d956047a0ca5ef6f3713be9e0730432dc773", func := "leeboard/leeboardlaw.AuditTells", spec := "auditTells", unfollowed := true, recurses := true, apart := false, narrowed := true }
def AuditTellsUptoSaid : Prop := auditTellsUptoRow.holds Try.pinned (OpenSpec.upto auditTellsSpec)

/-- 'leeboardlaw.AuditMore', WHERE WHAT IT READS IS OF BULK AT MOST 1048576: true; the input reads as it did. -/
def auditMoreUptoRow : OpenClaim := { program := "ytbboonepfmkgnaa", sum := "76ffbea02b6b4ac6e166f308f6a5d956047a0ca5ef6f3713be9e0730432dc773", func := "leeboard/leeboardlaw.AuditMore", spec := "auditMore", inPlace := ["slices.overlaps[leeboard/api.Ticket]"], unfollowed := true, recurses := true, apart := false, narrowed := true }
def AuditMoreUptoSaid : Prop := auditMoreUptoRow.holds Try.pinned (OpenSpec.upto auditMoreSpec)

/-- 'leeboardlaw.AuditSums', WHERE WHAT IT READS IS OF BULK AT MOST 1048576: true; the input reads as it did. -/
def auditSumsUptoRow : OpenClaim := { program := "ytbboonepfmkgnaa", sum := "76ffbea02b6b4ac6e166f308f6a5d956047a0ca5ef6f3713be9e0730432dc773", func := "leeboard/leeboardlaw.AuditSums", spec := "auditSums", inPlace := ["slices.overlaps[leeboard/api.Ticket]"], unfollowed := true, recurses := true, apart := false, narrowed := true }
def AuditSumsUptoSaid : Prop := auditSumsUptoRow.holds Try.pinned (OpenSpec.upto auditSumsSpec)

/-- 'leeboardlaw.MergeTells', WHERE WHAT IT READS IS OF BULK AT MOST 1048576: true; the input reads as it did. -/
def mergeTellsUptoRow : OpenClaim := { program := "ytbboonepfmkgnaa", sum := "76ffbea02b6b4ac6e166f308f6a5d956047a0ca5ef6f3713be9e0730432dc773", func := "leeboard/leeboardlaw.MergeTells", spec := "mergeTells", unfollowed := true, recurses := true, apart := false, narrowed := true }
def MergeTellsUptoSaid : Prop := mergeTellsUptoRow.holds Try.pinned (OpenSpec.upto mergeTellsSpec)

/-- 'leeboardlaw.MergeNone', WHERE WHAT IT READS IS OF BULK AT MOST 1048576: true; the input reads as it did. -/
def mergeNoneUptoRow : OpenClaim := { program := "ytbboonepfmkgnaa", sum := "76ffbea02b6b4ac6e166f308f6a5d956047a0ca5ef6f3713be9e0730432dc773", func := "leeboard/leeboardlaw.MergeNone", spec := "mergeNone", unfollowed := true, recurses := true, apart := false, narrowed := true }
def MergeNoneUptoSaid : Prop := mergeNoneUptoRow.holds Try.pinned (OpenSpec.upto mergeNoneSpec)

/-- 'leeboardlaw.MergeOnce', WHERE WHAT IT READS IS OF BULK AT MOST 1048576: true; the input reads as it did. -/
def mergeOnceUptoRow : OpenClaim := { program := "ytbboonepfmkgnaa", sum := "76ffbea02b6b4ac6e166f308f6a5d956047a0ca5ef6f3713be9e0730432dc773", func := "leeboard/leeboardlaw.MergeOnce", spec := "mergeOnce", inPlace := ["slices.overlaps[leeboard/api.Ticket]"], unfollowed := true, recurses := true, apart := false, narrowed := true }
def MergeOnceUptoSaid : Prop := mergeOnceUptoRow.holds Try.pinned (OpenSpec.upto mergeOnceSpec)

/-- 'leeboardlaw.MergeWhole', WHERE WHAT IT READS IS OF BULK AT MOST 1048576: true; the input reads as it did. -/
def mergeWholeUptoRow : OpenClaim := { program := "ytbboonepfmkgnaa", sum := "76ffbea02b6b4ac6e166f308f6a5d956047a0ca5ef6f3713be9e0730432dc773", func := "leeboard/leeboardlaw.MergeWhole", spec := "mergeWhole", inPlace := ["slices.overlaps[leeboard/api.Ticket]"], unfollowed := true, recurses := true, apart := false, narrowed := true }
def MergeWholeUptoSaid : Prop := mergeWholeUptoRow.holds Try.pinned (OpenSpec.upto mergeWholeSpec)

end Rows
end Go.Proofs.Ytbboonepfmkgnaa
