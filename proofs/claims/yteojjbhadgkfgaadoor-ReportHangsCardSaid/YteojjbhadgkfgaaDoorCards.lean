/-
  DERIVED. GIVEN WITH THE SEED: THE CARDS: each row of YteojjbhadgkfgaaDoorRows.lean that lists a variable, with what it lists TIED to the program's text (the seventh form; the later family's looks); each row that meets fmt, with fmt's text TOLD by the authors' own Lean function (tested against real Go, not proved from fmt's source: count such statements apart). THE CARD IS WHAT COUNTS. Prove the row's statement (the work); the ties are given (YteojjbhadgkfgaaDoorTie.lean); close each card by the builder's one call (the guide's Derived/Test/ToyasCard.lean, 'card_holds'). Laid BY PROGRAM, IN A SANDBOX (cutbox-door.mjs). By AI agents, Wed Nov 11 2026. No macro, syntax, notation, axiom, sorry.
-/
import Derived.Test.YteojjbhadgkfgaaDoorRows
import GoSem.ClaimSeven
namespace Go.Proofs.YteojjbhadgkfgaaDoor
namespace Rows

/-- THE TIED CARD OF 'leeboardlaw.ReportTells'. -/
def reportTellsCard : Claim7 := { stood := { row := reportTellsRow, standIns := [], harness := (true, "2fc1da4f8f136a8c6d6e3378642d58c80125f77f73cd29fae226fea1b4486bc3"), looks := false }, kinds := [], alts := [], laidByText := true, laidKinds := [.data, .data, .data], laidTests := true, laidLooks := .later }
def ReportTellsCardSaid : Prop := Claim7.holds Tryd.pinned (.plain (OpenSpec.ofChange reportTellsSpec)) reportTellsCard

/-- THE TIED CARD OF 'leeboardlaw.ReportHangs'. -/
def reportHangsCard : Claim7 := { stood := { row := reportHangsRow, standIns := [], harness := (true, "2fc1da4f8f136a8c6d6e3378642d58c80125f77f73cd29fae226fea1b4486bc3"), looks := false }, kinds := [], alts := [], laidByText := true, laidKinds := [.data, .data, .data], laidTests := true, laidLooks := .later }
def ReportHangsCardSaid : Prop := Claim7.holds Tryd.pinned (.plain (OpenSpec.ofChange reportHangsSpec)) reportHangsCard

/-- THE SECOND FORM's CARD OF 'leeboardlaw.ReportTells'. -/
def reportTellsUptoCard : Claim7 := { stood := { row := reportTellsUptoRow, standIns := [], harness := (true, "2fc1da4f8f136a8c6d6e3378642d58c80125f77f73cd29fae226fea1b4486bc3"), looks := false }, kinds := [], alts := [], laidByText := true, laidKinds := [.data, .data, .data], laidTests := true, laidLooks := .later }
def ReportTellsUptoCardSaid : Prop := Claim7.holds Tryd.pinned (.plain (OpenSpec.upto reportTellsSpec)) reportTellsUptoCard

/-- THE SECOND FORM's CARD OF 'leeboardlaw.ReportHangs'. -/
def reportHangsUptoCard : Claim7 := { stood := { row := reportHangsUptoRow, standIns := [], harness := (true, "2fc1da4f8f136a8c6d6e3378642d58c80125f77f73cd29fae226fea1b4486bc3"), looks := false }, kinds := [], alts := [], laidByText := true, laidKinds := [.data, .data, .data], laidTests := true, laidLooks := .later }
def ReportHangsUptoCardSaid : Prop := Claim7.holds Tryd.pinned (.plain (OpenSpec.upto reportHangsSpec)) reportHangsUptoCard
end Rows
end Go.Proofs.YteojjbhadgkfgaaDoor
