/-
  DERIVED. GIVEN WITH THE SEED: THE CARDS: each row of YthdjajblkfphiaaGreatDoorRows.lean that lists a variable, with what it lists TIED to the program's text (the seventh form; the later family's looks); each row that meets fmt, with fmt's text TOLD by the authors' own Lean function (tested against real Go, not proved from fmt's source: count such statements apart). THE CARD IS WHAT COUNTS. Prove the row's statement (the work); the ties are given (YthdjajblkfphiaaGreatDoorTie.lean); close each card by the builder's one call (the guide's Derived/Test/ToyasCard.lean, 'card_holds'). Laid BY PROGRAM, IN A SANDBOX (cutbox-door.mjs). By AI agents, Wed Nov 11 2026. No macro, syntax, notation, axiom, sorry.
-/
import Derived.Test.YthdjajblkfphiaaGreatDoorRows
import GoSem.ClaimSeven
namespace Go.Proofs.YthdjajblkfphiaaGreatDoor
namespace Rows

/-- THE TIED CARD OF 'tidewracklaw22.EvalMoments'. -/
def evalMomentsCard : Claim7 := { stood := { row := evalMomentsRow, standIns := [], harness := (true, "56a65f53d014002bc89f1d8b863d0225e4519d9e7335dbcdbf6cbaa07fd011b0"), looks := true }, kinds := [], alts := [], laidByText := true, laidKinds := [.data, .data, .widerDeep, .widerDeep, .data, .data, .data, .data, .data, .data, .sentinel, .sentinel, .pinned, .pinned, .pinned], laidTests := true, laidLooks := .later }
def EvalMomentsCardSaid : Prop := Claim7.holds Tryz.pinned (.plain (OpenSpec.ofChange evalMomentsSpec)) evalMomentsCard

/-- THE SECOND FORM's CARD OF 'tidewracklaw22.EvalMoments'. -/
def evalMomentsUptoCard : Claim7 := { stood := { row := evalMomentsUptoRow, standIns := [], harness := (true, "56a65f53d014002bc89f1d8b863d0225e4519d9e7335dbcdbf6cbaa07fd011b0"), looks := true }, kinds := [], alts := [], laidByText := true, laidKinds := [.data, .data, .widerDeep, .widerDeep, .data, .data, .data, .data, .data, .data, .sentinel, .sentinel, .pinned, .pinned, .pinned], laidTests := true, laidLooks := .later }
def EvalMomentsUptoCardSaid : Prop := Claim7.holds Tryz.pinned (.plain (OpenSpec.upto evalMomentsSpec)) evalMomentsUptoCard
end Rows
end Go.Proofs.YthdjajblkfphiaaGreatDoor
