/-
  DERIVED. GIVEN WITH THE SEED: THE CARDS: each row of YtfjmoojdchmakaaGreatDoorRows.lean that lists a variable, with what it lists TIED to the program's text (the seventh form; the later family's looks); each row that meets fmt, with fmt's text TOLD by the authors' own Lean function (tested against real Go, not proved from fmt's source: count such statements apart). THE CARD IS WHAT COUNTS. Prove the row's statement (the work); the ties are given (YtfjmoojdchmakaaGreatDoorTie.lean); close each card by the builder's one call (the guide's Derived/Test/ToyasCard.lean, 'card_holds'). Laid BY PROGRAM, IN A SANDBOX (cutbox-door.mjs). By AI agents, Wed Nov 11 2026. No macro, syntax, notation, axiom, sorry.
-/
import Derived.Test.YtfjmoojdchmakaaGreatDoorRows
import GoSem.ClaimSeven
namespace Go.Proofs.YtfjmoojdchmakaaGreatDoor
namespace Rows

/-- THE TIED CARD OF 'tidewracklaw22.EvalShape'. -/
def evalShapeCard : Claim7 := { stood := { row := evalShapeRow, standIns := [], harness := (true, "ed780986160c672889c847c1fe9e098003c2e31b863bf39f06e4c6eb08079233"), looks := true }, kinds := [], alts := [], laidByText := true, laidKinds := [.data, .data, .widerDeep, .widerDeep, .data, .data, .data, .data, .data, .data, .sentinel, .sentinel, .pinned, .pinned, .pinned], laidTests := true, laidLooks := .later }
def EvalShapeCardSaid : Prop := Claim7.holds Tryz.pinned (.plain (OpenSpec.ofChange evalShapeSpec)) evalShapeCard

/-- THE SECOND FORM's CARD OF 'tidewracklaw22.EvalShape'. -/
def evalShapeUptoCard : Claim7 := { stood := { row := evalShapeUptoRow, standIns := [], harness := (true, "ed780986160c672889c847c1fe9e098003c2e31b863bf39f06e4c6eb08079233"), looks := true }, kinds := [], alts := [], laidByText := true, laidKinds := [.data, .data, .widerDeep, .widerDeep, .data, .data, .data, .data, .data, .data, .sentinel, .sentinel, .pinned, .pinned, .pinned], laidTests := true, laidLooks := .later }
def EvalShapeUptoCardSaid : Prop := Claim7.holds Tryz.pinned (.plain (OpenSpec.upto evalShapeSpec)) evalShapeUptoCard
end Rows
end Go.Proofs.YtfjmoojdchmakaaGreatDoor
