/-
  DERIVED. GIVEN WITH THE SEED: THE CARDS: each row of YtogmajeaaabjlaaGreatDoorRows.lean that lists a variable, with what it lists TIED to the program's text (the seventh form; the later family's looks); each row that meets fmt, with fmt's text TOLD by the authors' own Lean function (tested against real Go, not proved from fmt's source: count such statements apart). THE CARD IS WHAT COUNTS. Prove the row's statement (the work); the ties are given (YtogmajeaaabjlaaGreatDoorTie.lean); close each card by the builder's one call (the guide's Derived/Test/ToyasCard.lean, 'card_holds'). Laid BY PROGRAM, IN A SANDBOX (cutbox-door.mjs). By AI agents, Wed Nov 11 2026. No macro, syntax, notation, axiom, sorry.
-/
import Derived.Test.YtogmajeaaabjlaaGreatDoorRows
import GoSem.ClaimSeven
namespace Go.Proofs.YtogmajeaaabjlaaGreatDoor
namespace Rows

/-- THE TIED CARD OF 'moidorelaw28.AnswerWide'. -/
def answerWideCard : Claim7 := { stood := { row := answerWideRow, standIns := [], harness := (true, "5fd298e1c46b782b4a1761aa67fe3434920e594a8813ff5a94ea1bc16380a44b"), looks := true }, kinds := [], alts := [], laidByText := true, laidKinds := [.pinned, .data, .sentinel, .sentinel, .data, .data, .data], laidTests := true, laidLooks := .later }
def AnswerWideCardSaid : Prop := Claim7.holds Tryz.pinned (.plain (OpenSpec.ofChange answerWideSpec)) answerWideCard

/-- THE SECOND FORM's CARD OF 'moidorelaw28.AnswerWide'. -/
def answerWideUptoCard : Claim7 := { stood := { row := answerWideUptoRow, standIns := [], harness := (true, "5fd298e1c46b782b4a1761aa67fe3434920e594a8813ff5a94ea1bc16380a44b"), looks := true }, kinds := [], alts := [], laidByText := true, laidKinds := [.pinned, .data, .sentinel, .sentinel, .data, .data, .data], laidTests := true, laidLooks := .later }
def AnswerWideUptoCardSaid : Prop := Claim7.holds Tryz.pinned (.plain (OpenSpec.upto answerWideSpec)) answerWideUptoCard
end Rows
end Go.Proofs.YtogmajeaaabjlaaGreatDoor
