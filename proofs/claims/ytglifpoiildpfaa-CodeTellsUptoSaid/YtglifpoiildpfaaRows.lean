/-
  No cell of these rows narrows 'for every input' (looked for: loops, veiled, ifaces, maps, wideKeys, modest, calm, conditions, laid).
  DERIVED. THE GIVEN ROWS OF THIS SEAT. 10 by the template 'for every input the law returns true; each argument reads behind the call as it read before'; 0 by the template 'total and deterministic' (their statements: YtglifpoiildpfaaTotals.lean).
  GIVEN WITH THE SEED: the statements are not yours to turn. If you find one false, say at which input.
  Laid BY PROGRAM, IN A SANDBOX (cutbox-rows.mjs): the forced cells as the released guide's own fill.sh prints them over the translation 90a834d1084da2a3… (all of the seat's roots in one cut). By AI agents, Wed Nov 11 2026. No macro, syntax, notation, axiom, sorry.
-/
import Derived.Test.YtglifpoiildpfaaChecked
import GoSem.Claim
import GoSem.ClaimJoined
import GoSem.ClaimMapViews
import Derived.JoinedTies
import Derived.KernelRfl
namespace Go.Proofs.Ytglifpoiildpfaa
/- THE CELL 'sum', in the pinned program and in every row, IS THE sha256 OF THE DUMP (.gsa) THAT YtglifpoiildpfaaProg.lean LOADS. Nothing in Lean hashes anything: it is a label: what it is worth is what the hold of that sum in a sandbox is worth. -/
noncomputable def Try.pinned : Pinned := { name := "ytglifpoiildpfaa", sum := "90a834d1084da2a330fbaecbf0cdda6dc7a0e16935a07971aeecb8231e282702", checked := Try.checked }
namespace Rows
def none {H : Type} : Left H := { results := [], args := [] }

/-- 'leeboardlaw.TicketTells': WHATEVER THE INPUT: true; the input reads as it did. -/
def ticketTellsSpec : ChangeSpec := { name := "ticketTells", fn := fun _ => fun
  | [d1, d2] => { results := [.lit (.bool true)], args := [d1, d2] }
  | _ => none }
def ticketTellsRow : OpenClaim := { program := "ytglifpoiildpfaa", sum := "90a834d1084da2a330fbaecbf0cdda6dc7a0e16935a07971aeecb8231e282702", func := "leeboard/leeboardlaw.TicketTells", spec := "ticketTells", unfollowed := true, recurses := true, apart := false }
def TicketTellsSaid : Prop := ticketTellsRow.holds Try.pinned (OpenSpec.ofChange ticketTellsSpec)

/-- ITS FALSE NEIGHBOUR: 'it returns false'. Refute it at one input. -/
def ticketTellsWrong : ChangeSpec := { name := "ticketTells", fn := fun _ => fun
  | [d1, d2] => { results := [.lit (.bool false)], args := [d1, d2] }
  | _ => none }
def TicketTellsWrongFalsely : Prop := ticketTellsRow.holds Try.pinned (OpenSpec.ofChange ticketTellsWrong)

/-- 'leeboardlaw.TicketBack': WHATEVER THE INPUT: true; the input reads as it did. -/
def ticketBackSpec : ChangeSpec := { name := "ticketBack", fn := fun _ => fun
  | [d1, d2] => { results := [.lit (.bool true)], args := [d1, d2] }
  | _ => none }
def ticketBackRow : OpenClaim := { program := "ytglifpoiildpfaa", sum := "90a834d1084da2a330fbaecbf0cdda6dc7a0e16935a07971aeecb8231e282702", func := "leeboard/leeboardlaw.TicketBack", spec := "ticketBack", unfollowed := true, recurses := true, apart := false }
def TicketBackSaid : Prop := ticketBackRow.holds Try.pinned (OpenSpec.ofChange ticketBackSpec)

/-- ITS FALSE NEIGHBOUR: 'it returns false'. Refute it at one input. -/
def ticketBackWrong : ChangeSpec := { name := "ticketBack", fn := fun _ => fun
  | [d1, d2] => { results := [.lit (.bool false)], args := [d1, d2] }
  | _ => none }
def TicketBackWrongFalsely : Prop := ticketBackRow.holds Try.pinned (OpenSpec.ofChange ticketBackWrong)

/-- 'leeboardlaw.TicketApart': WHATEVER THE INPUT: true; the input reads as it did. -/
def ticketApartSpec : ChangeSpec := { name := "ticketApart", fn := fun _ => fun
  | [d1, d2] => { results := [.lit (.bool true)], args := [d1, d2] }
  | _ => none }
def ticketApartRow : OpenClaim := { program := "ytglifpoiildpfaa", sum := "90a834d1084da2a330fbaecbf0cdda6dc7a0e16935a07971aeecb8231e282702", func := "leeboard/leeboardlaw.TicketApart", spec := "ticketApart", unfollowed := true, recurses := true, apart := false }
def TicketApartSaid : Prop := ticketApartRow.holds Try.pinned (OpenSpec.ofChange ticketApartSpec)

/-- ITS FALSE NEIGHBOUR: 'it returns false'. Refute it at one input. -/
def ticketApartWrong : ChangeSpec := { name := "ticketApart", fn := fun _ => fun
  | [d1, d2] => { results := [.lit (.bool false)], args := [d1, d2] }
  | _ => none }
def TicketApartWrongFalsely : Prop := ticketApartRow.holds Try.pinned (OpenSpec.ofChange ticketApartWrong)

/-- 'leeboardlaw.RuleTells': WHATEVER THE INPUT: true; the input reads as it did. -/
def ruleTellsSpec : ChangeSpec := { name := "ruleTells", fn := fun _ => fun
  | [d1, d2, d3, d4] => { results := [.lit (.bool true)], args := [d1, d2, d3, d4] }
  | _ => none }
def ruleTellsRow : OpenClaim := { program := "ytglifpoiildpfaa", sum := "90a834d1084da2a330fbaecbf0cdda6dc7a0e16935a07971aeecb8231e282702", func := "leeboard/leeboardlaw.RuleTells", spec := "ruleTells", unfollowed := true, recurses := true, apart := false }
def RuleTellsSaid : Prop := ruleTellsRow.holds Try.pinned (OpenSpec.ofChange ruleTellsSpec)

/-- ITS FALSE NEIGHBOUR: 'it returns false'. Refute it at one input. -/
def ruleTellsWrong : ChangeSpec := { name := "ruleTells", fn := fun _ => fun
  | [d1, d2, d3, d4] => { results := [.lit (.bool false)], args := [d1, d2, d3, d4] }
  | _ => none }
def RuleTellsWrongFalsely : Prop := ruleTellsRow.holds Try.pinned (OpenSpec.ofChange ruleTellsWrong)

/-- 'leeboardlaw.RuleSpends': WHATEVER THE INPUT: true; the input reads as it did. -/
def ruleSpendsSpec : ChangeSpec := { name := "ruleSpends", fn := fun _ => fun
  | [d1, d2, d3, d4] => { results := [.lit (.bool true)], args := [d1, d2, d3, d4] }
  | _ => none }
def ruleSpendsRow : OpenClaim := { program := "ytglifpoiildpfaa", sum := "90a834d1084da2a330fbaecbf0cdda6dc7a0e16935a07971aeecb8231e282702", func := "leeboard/leeboardlaw.RuleSpends", spec := "ruleSpends", unfollowed := true, recurses := true, apart := false }
def RuleSpendsSaid : Prop := ruleSpendsRow.holds Try.pinned (OpenSpec.ofChange ruleSpendsSpec)

/-- ITS FALSE NEIGHBOUR: 'it returns false'. Refute it at one input. -/
def ruleSpendsWrong : ChangeSpec := { name := "ruleSpends", fn := fun _ => fun
  | [d1, d2, d3, d4] => { results := [.lit (.bool false)], args := [d1, d2, d3, d4] }
  | _ => none }
def RuleSpendsWrongFalsely : Prop := ruleSpendsRow.holds Try.pinned (OpenSpec.ofChange ruleSpendsWrong)

/-- 'leeboardlaw.RuleGoesOn': WHATEVER THE INPUT: true; the input reads as it did. -/
def ruleGoesOnSpec : ChangeSpec := { name := "ruleGoesOn", fn := fun _ => fun
  | [d1, d2, d3] => { results := [.lit (.bool true)], args := [d1, d2, d3] }
  | _ => none }
def ruleGoesOnRow : OpenClaim := { program := "ytglifpoiildpfaa", sum := "90a834d1084da2a330fbaecbf0cdda6dc7a0e16935a07971aeecb8231e282702", func := "leeboard/leeboardlaw.RuleGoesOn", spec := "ruleGoesOn", unfollowed := true, recurses := true, apart := false }
def RuleGoesOnSaid : Prop := ruleGoesOnRow.holds Try.pinned (OpenSpec.ofChange ruleGoesOnSpec)

/-- ITS FALSE NEIGHBOUR: 'it returns false'. Refute it at one input. -/
def ruleGoesOnWrong : ChangeSpec := { name := "ruleGoesOn", fn := fun _ => fun
  | [d1, d2, d3] => { results := [.lit (.bool false)], args := [d1, d2, d3] }
  | _ => none }
def RuleGoesOnWrongFalsely : Prop := ruleGoesOnRow.holds Try.pinned (OpenSpec.ofChange ruleGoesOnWrong)

/-- 'leeboardlaw.CodeTells': WHATEVER THE INPUT: true; the input reads as it did. -/
def codeTellsSpec : ChangeSpec := { name := "codeTells", fn := fun _ => fun
  | [d1, d2, d3] => { results := [.lit (.bool true)], args := [d1, d2, d3] }
  | _ => none }
def codeTellsRow : OpenClaim := { program := "ytglifpoiildpfaa", sum := "90a834d1084da2a330fbaecbf0cdda6dc7a0e16935a07971aeecb8231e282702", func := "leeboard/leeboardlaw.CodeTells", spec := "codeTells", inPlace := ["internal/bytealg.IndexByteString"], unfollowed := true, recurses := true, apart := false }
def CodeTellsSaid : Prop := codeTellsRow.holds Try.pinned (OpenSpec.ofChange codeTellsSpec)

/-- ITS FALSE NEIGHBOUR: 'it returns false'. Refute it at one input. -/
def codeTellsWrong : ChangeSpec := { name := "codeTells", fn := fun _ => fun
  | [d1, d2, d3] => { results := [.lit (.bool false)], args := [d1, d2, d3] }
  | _ => none }
def CodeTellsWrongFalsely : Prop := codeTellsRow.holds Try.pinned (OpenSpec.ofChange codeTellsWrong)

/-- 'leeboardlaw.CodeWrong': WHATEVER THE INPUT: true; the input reads as it did. -/
def codeWrongSpec : ChangeSpec := { name := "codeWrong", fn := fun _ => fun
  | [d1, d2, d3] => { results := [.lit (.bool true)], args := [d1, d2, d3] }
  | _ => none }
def codeWrongRow : OpenClaim := { program := "ytglifpoiildpfaa", sum := "90a834d1084da2a330fbaecbf0cdda6dc7a0e16935a07971aeecb8231e282702", func := "leeboard/leeboardlaw.CodeWrong", spec := "codeWrong", inPlace := ["internal/bytealg.IndexByteString"], unfollowed := true, recurses := true, apart := false }
def CodeWrongSaid : Prop := codeWrongRow.holds Try.pinned (OpenSpec.ofChange codeWrongSpec)

/-- ITS FALSE NEIGHBOUR: 'it returns false'. Refute it at one input. -/
def codeWrongWrong : ChangeSpec := { name := "codeWrong", fn := fun _ => fun
  | [d1, d2, d3] => { results := [.lit (.bool false)], args := [d1, d2, d3] }
  | _ => none }
def CodeWrongWrongFalsely : Prop := codeWrongRow.holds Try.pinned (OpenSpec.ofChange codeWrongWrong)

/-- 'leeboardlaw.CodeMark': WHATEVER THE INPUT: true; the input reads as it did. -/
def codeMarkSpec : ChangeSpec := { name := "codeMark", fn := fun _ => fun
  | [d1, d2, d3] => { results := [.lit (.bool true)], args := [d1, d2, d3] }
  | _ => none }
def codeMarkRow : OpenClaim := { program := "ytglifpoiildpfaa", sum := "90a834d1084da2a330fbaecbf0cdda6dc7a0e16935a07971aeecb8231e282702", func := "leeboard/leeboardlaw.CodeMark", spec := "codeMark", inPlace := ["internal/bytealg.IndexByteString"], unfollowed := true, recurses := true, apart := false }
def CodeMarkSaid : Prop := codeMarkRow.holds Try.pinned (OpenSpec.ofChange codeMarkSpec)

/-- ITS FALSE NEIGHBOUR: 'it returns false'. Refute it at one input. -/
def codeMarkWrong : ChangeSpec := { name := "codeMark", fn := fun _ => fun
  | [d1, d2, d3] => { results := [.lit (.bool false)], args := [d1, d2, d3] }
  | _ => none }
def CodeMarkWrongFalsely : Prop := codeMarkRow.holds Try.pinned (OpenSpec.ofChange codeMarkWrong)

/-- 'leeboardlaw.CodeApart': WHATEVER THE INPUT: true; the input reads as it did. -/
def codeApartSpec : ChangeSpec := { name := "codeApart", fn := fun _ => fun
  | [d1, d2] => { results := [.lit (.bool true)], args := [d1, d2] }
  | _ => none }
def codeApartRow : OpenClaim := { program := "ytglifpoiildpfaa", sum := "90a834d1084da2a330fbaecbf0cdda6dc7a0e16935a07971aeecb8231e282702", func := "leeboard/leeboardlaw.CodeApart", spec := "codeApart", inPlace := ["internal/bytealg.IndexByteString"], unfollowed := true, recurses := true, apart := false }
def CodeApartSaid : Prop := codeApartRow.holds Try.pinned (OpenSpec.ofChange codeApartSpec)

/-- ITS FALSE NEIGHBOUR: 'it returns false'. Refute it at one input. -/
def codeApartWrong : ChangeSpec := { name := "codeApart", fn := fun _ => fun
  | [d1, d2] => { results := [.lit (.bool false)], args := [d1, d2] }
  | _ => none }
def CodeApartWrongFalsely : Prop := codeApartRow.holds Try.pinned (OpenSpec.ofChange codeApartWrong)

/- THE SECOND FORM. 'bulk': how many values and letters a reading holds, each counted each time it is reached (what is shared counts as often as it is met; a slice's spare places count too). A statement '..UptoSaid' is the law's where the arguments, and the package variables that the reading takes, are together of bulk at most 1048576: NARROWER than '..Said'. Prove '..Said' where nothing that the law and all that it calls make is longer than what came in: it says more and counts as full. Else prove '..UptoSaid'. A law counts once. -/
mutual
def uptoBulk {H : Type} : DataW H → Nat
  | .lit (.string bytes) => bytes.length + 1
  | .lit _ => 1
  | .nil => 1
  | .ptr d => uptoBulk d + 1
  | .slice elems spare => uptoBulkAll elems + uptoBulkAll spare + 1
  | .agg parts => uptoBulkAll parts + 1
  | .iface _ d => uptoBulk d + 1
  | .map entries => uptoBulkEntries entries + 1
  | .held _ => 1
def uptoBulkAll {H : Type} : List (DataW H) → Nat
  | [] => 0
  | d :: r => uptoBulk d + uptoBulkAll r
def uptoBulkEntries {H : Type} : List (Lit × DataW H) → Nat
  | [] => 0
  | x :: r => uptoBulkEntry x + uptoBulkEntries r
def uptoBulkEntry {H : Type} : Lit × DataW H → Nat
  | (.string bytes, d) => bytes.length + uptoBulk d + 1
  | (_, d) => uptoBulk d + 1
 end
def uptoSmall : (H : Type) → List (DataW H) → Bool := fun _ ds => decide (uptoBulkAll ds ≤ 1048576)
def OpenSpec.upto (s : _root_.Go.ChangeSpec) : _root_.Go.OpenSpec := { _root_.Go.OpenSpec.ofChange s with cond := some uptoSmall }

/-- 'leeboardlaw.TicketTells', WHERE WHAT IT READS IS OF BULK AT MOST 1048576: true; the input reads as it did. -/
def ticketTellsUptoRow : OpenClaim := { program := "ytglifpoiildpfaa", sum := "90a834d1084da2a330fbaecbf0cdda6dc7a0e16935a07971aeecb8231e282702", func := "leeboard/leeboardlaw.TicketTells", spec := "ticketTells", unfollowed := true, recurses := true, apart := false, narrowed := true }
def TicketTellsUptoSaid : Prop := ticketTellsUptoRow.holds Try.pinned (OpenSpec.upto ticketTellsSpec)

/-- 'leeboardlaw.TicketBack', WHERE WHAT IT READS IS OF BULK AT MOST 1048576: true; the input reads as it did. -/
def ticketBackUptoRow : OpenClaim := { program := "ytglifpoiildpfaa", sum := "90a834d1084da2a330fbaecbf0cdda6dc7a0e16935a07971aeecb8231e282702", func := "leeboard/leeboardlaw.TicketBack", spec := "ticketBack", unfollowed := true, recurses := true, apart := false, narrowed := true }
def TicketBackUptoSaid : Prop := ticketBackUptoRow.holds Try.pinned (OpenSpec.upto ticketBackSpec)

/-- 'leeboardlaw.TicketApart', WHERE WHAT IT READS IS OF BULK AT MOST 1048576: true; the input reads as it did. -/
def ticketApartUptoRow : OpenClaim := { program := "ytglifpoiildpfaa", sum := "90a834d1084da2a330fbaecbf0cdda6dc7a0e16935a07971aeecb8231e282702", func := "leeboard/leeboardlaw.TicketApart", spec := "ticketApart", unfollowed := true, recurses := true, apart := false, narrowed := true }
def TicketApartUptoSaid : Prop := ticketApartUptoRow.holds Try.pinned (OpenSpec.upto ticketApartSpec)

/-- 'leeboardlaw.RuleTells', WHERE WHAT IT READS IS OF BULK AT MOST 1048576: true; the input reads as it did. -/
def ruleTellsUptoRow : OpenClaim := { program := "ytglifpoiildpfaa", sum := "90a834d1084da2a330fbaecbf0cdda6dc7a0e16935a07971aeecb8231e282702", func := "leeboard/leeboardlaw.RuleTells", spec := "ruleTells", unfollowed := true, recurses := true, apart := false, narrowed := true }
def RuleTellsUptoSaid : Prop := ruleTellsUptoRow.holds Try.pinned (OpenSpec.upto ruleTellsSpec)

/-- 'leeboardlaw.RuleSpends', WHERE WHAT IT READS IS OF BULK AT MOST 1048576: true; the input reads as it did. -/
def ruleSpendsUptoRow : OpenClaim := { program := "ytglifpoiildpfaa", sum := "90a834d1084da2a330fbaecbf0cdda6dc7a0e16935a07971aeecb8231e282702", func := "leeboard/leeboardlaw.RuleSpends", spec := "ruleSpends", unfollowed := true, recurses := true, apart := false, narrowed := true }
def RuleSpendsUptoSaid : Prop := ruleSpendsUptoRow.holds Try.pinned (OpenSpec.upto ruleSpendsSpec)

/-- 'leeboardlaw.RuleGoesOn', WHERE WHAT IT READS IS OF BULK AT MOST 1048576: true; the input reads as it did. -/
def ruleGoesOnUptoRow : OpenClaim := { program := "ytglifpoiildpfaa", sum := "90a834d1084da2a330fbaecbf0cdda6dc7a0e16935a07971aeecb8231e282702", func := "leeboard/leeboardlaw.RuleGoesOn", spec := "ruleGoesOn", unfollowed := true, recurses := true, apart := false, narrowed := true }
def RuleGoesOnUptoSaid : Prop := ruleGoesOnUptoRow.holds Try.pinned (OpenSpec.upto ruleGoesOnSpec)

/-- 'leeboardlaw.CodeTells', WHERE WHAT IT READS IS OF BULK AT MOST 1048576: true; the input reads as it did. -/
def codeTellsUptoRow : OpenClaim := { program := "ytglifpoiildpfaa", sum := "90a834d1084da2a330fbaecbf0cdda6dc7a0e16935a07971aeecb8231e282702", func := "leeboard/leeboardlaw.CodeTells", spec := "codeTells", inPlace := ["internal/bytealg.IndexByteString"], unfollowed := true, recurses := true, apart := false, narrowed := true }
def CodeTellsUptoSaid : Prop := codeTellsUptoRow.holds Try.pinned (OpenSpec.upto codeTellsSpec)

/-- 'leeboardlaw.CodeWrong', WHERE WHAT IT READS IS OF BULK AT MOST 1048576: true; the input reads as it did. -/
def codeWrongUptoRow : OpenClaim := { program := "ytglifpoiildpfaa", sum := "90a834d1084da2a330fbaecbf0cdda6dc7a0e16935a07971aeecb8231e282702", func := "leeboard/leeboardlaw.CodeWrong", spec := "codeWrong", inPlace := ["internal/bytealg.IndexByteString"], unfollowed := true, recurses := true, apart := false, narrowed := true }
def CodeWrongUptoSaid : Prop := codeWrongUptoRow.holds Try.pinned (OpenSpec.upto codeWrongSpec)

/-- 'leeboardlaw.CodeMark', WHERE WHAT IT READS IS OF BULK AT MOST 1048576: true; the input reads as it did. -/
def codeMarkUptoRow : OpenClaim := { program := "ytglifpoiildpfaa", sum := "90a834d1084da2a330fbaecbf0cdda6dc7a0e16935a07971aeecb8231e282702", func := "leeboard/leeboardlaw.CodeMark", spec := "codeMark", inPlace := ["internal/bytealg.IndexByteString"], unfollowed := true, recurses := true, apart := false, narrowed := true }
def CodeMarkUptoSaid : Prop := codeMarkUptoRow.holds Try.pinned (OpenSpec.upto codeMarkSpec)

/-- 'leeboardlaw.CodeApart', WHERE WHAT IT READS IS OF BULK AT MOST 1048576: true; the input reads as it did. -/
def codeApartUptoRow : OpenClaim := { program := "ytglifpoiildpfaa", sum := "90a834d1084da2a330fbaecbf0cdda6dc7a0e16935a07971aeecb8231e282702", func := "leeboard/leeboardlaw.CodeApart", spec := "codeApart", inPlace := ["internal/bytealg.IndexByteString"], unfollowed := true, recurses := true, apart := false, narrowed := true }
def CodeApartUptoSaid : Prop := codeApartUptoRow.holds Try.pinned (OpenSpec.upto codeApartSpec)

end Rows
end Go.Proofs.Ytglifpoiildpfaa
