/-
  DERIVED. GIVEN WITH THE SEED: THE CARDS: each row of YtamakbhlhpaiiaaGreatDoorRows.lean that lists a variable, with what it lists TIED to the program's text (the seventh form; the later family's looks); each row that meets fmt, with fmt's text TOLD by the authors' own Lean function (tested against real Go, not proved from fmt's source: count such statements apart). THE CARD IS WHAT COUNTS. Prove the row's statement (the work); the ties are given (YtamakbhlhpaiiaaGreatDoorTie.lean); close each card by the builder's one call (the guide's Derived/Test/ToyasCard.lean, 'card_holds'). Laid BY PROGRAM, IN A SANDBOX (cutbox-door.mjs). By AI agents, Wed Nov 11 2026. No macro, syntax, notation, axiom, sorry.
-/
import Derived.Test.YtamakbhlhpaiiaaGreatDoorRows
import GoSem.ClaimSeven
namespace Go.Proofs.YtamakbhlhpaiiaaGreatDoor
namespace Rows

/-- THE TIED CARD OF 'tidewracklaw22.EvalInstants'. -/
def evalInstantsCard : Claim7 := { stood := { row := evalInstantsRow, standIns := [], harness := (true, "6995faf58c339c086b9fe2898bb26a9d3a4e711715e858b2998488672882d063"), looks := true }, kinds := [], alts := [], laidByText := true, laidKinds := [.data, .data, .widerDeep, .widerDeep, .data, .data, .data, .data, .data, .data, .sentinel, .sentinel, .pinned, .pinned, .pinned], laidTests := true, laidLooks := .later }
def EvalInstantsCardSaid : Prop := Claim7.holds Tryz.pinned (.plain (OpenSpec.ofChange evalInstantsSpec)) evalInstantsCard

/-- THE TIED CARD OF 'tidewracklaw22.EvalRanges'. -/
def evalRangesCard : Claim7 := { stood := { row := evalRangesRow, standIns := [], harness := (true, "6995faf58c339c086b9fe2898bb26a9d3a4e711715e858b2998488672882d063"), looks := true }, kinds := [], alts := [], laidByText := true, laidKinds := [.data, .data, .widerDeep, .widerDeep, .data, .data, .data, .data, .data, .data, .sentinel, .sentinel, .pinned, .pinned, .pinned], laidTests := true, laidLooks := .later }
def EvalRangesCardSaid : Prop := Claim7.holds Tryz.pinned (.plain (OpenSpec.ofChange evalRangesSpec)) evalRangesCard

/-- THE SECOND FORM's CARD OF 'tidewracklaw22.EvalInstants'. -/
def evalInstantsUptoCard : Claim7 := { stood := { row := evalInstantsUptoRow, standIns := [], harness := (true, "6995faf58c339c086b9fe2898bb26a9d3a4e711715e858b2998488672882d063"), looks := true }, kinds := [], alts := [], laidByText := true, laidKinds := [.data, .data, .widerDeep, .widerDeep, .data, .data, .data, .data, .data, .data, .sentinel, .sentinel, .pinned, .pinned, .pinned], laidTests := true, laidLooks := .later }
def EvalInstantsUptoCardSaid : Prop := Claim7.holds Tryz.pinned (.plain (OpenSpec.upto evalInstantsSpec)) evalInstantsUptoCard

/-- THE SECOND FORM's CARD OF 'tidewracklaw22.EvalRanges'. -/
def evalRangesUptoCard : Claim7 := { stood := { row := evalRangesUptoRow, standIns := [], harness := (true, "6995faf58c339c086b9fe2898bb26a9d3a4e711715e858b2998488672882d063"), looks := true }, kinds := [], alts := [], laidByText := true, laidKinds := [.data, .data, .widerDeep, .widerDeep, .data, .data, .data, .data, .data, .data, .sentinel, .sentinel, .pinned, .pinned, .pinned], laidTests := true, laidLooks := .later }
def EvalRangesUptoCardSaid : Prop := Claim7.holds Tryz.pinned (.plain (OpenSpec.upto evalRangesSpec)) evalRangesUptoCard
end Rows
end Go.Proofs.YtamakbhlhpaiiaaGreatDoor
