/-
  DERIVED. GIVEN WITH THE SEED: THE CARDS: each row of YtjfbehbfkjmblaaGreatDoorRows.lean that lists a variable, with what it lists TIED to the program's text (the seventh form; the later family's looks); each row that meets fmt, with fmt's text TOLD by the authors' own Lean function (tested against real Go, not proved from fmt's source: count such statements apart). THE CARD IS WHAT COUNTS. Prove the row's statement (the work); the ties are given (YtjfbehbfkjmblaaGreatDoorTie.lean); close each card by the builder's one call (the guide's Derived/Test/ToyasCard.lean, 'card_holds'). Laid BY PROGRAM, IN A SANDBOX (cutbox-door.mjs). By AI agents, Wed Nov 11 2026. No macro, syntax, notation, axiom, sorry.
-/
import Derived.Test.YtjfbehbfkjmblaaGreatDoorRows
import GoSem.ClaimSeven
namespace Go.Proofs.YtjfbehbfkjmblaaGreatDoor
namespace Rows

/-- THE TIED CARD OF 'tidewracklaw22.EvalShift'. -/
def evalShiftCard : Claim7 := { stood := { row := evalShiftRow, standIns := [], harness := (true, "a6397fbb396abd772aaeb6f63e83a50fc312e52ab7fd133d2be40e86608639f6"), looks := true }, kinds := [], alts := [], laidByText := true, laidKinds := [.data, .data, .widerDeep, .widerDeep, .data, .data, .data, .data, .data, .data, .sentinel, .sentinel, .pinned, .pinned, .pinned], laidTests := true, laidLooks := .later }
def EvalShiftCardSaid : Prop := Claim7.holds Tryz.pinned (.plain (OpenSpec.ofChange evalShiftSpec)) evalShiftCard

/-- THE TIED CARD OF 'tidewracklaw22.EvalBack'. -/
def evalBackCard : Claim7 := { stood := { row := evalBackRow, standIns := [], harness := (true, "a6397fbb396abd772aaeb6f63e83a50fc312e52ab7fd133d2be40e86608639f6"), looks := true }, kinds := [], alts := [], laidByText := true, laidKinds := [.data, .data, .widerDeep, .widerDeep, .data, .data, .data, .data, .data, .data, .sentinel, .sentinel, .pinned, .pinned, .pinned], laidTests := true, laidLooks := .later }
def EvalBackCardSaid : Prop := Claim7.holds Tryz.pinned (.plain (OpenSpec.ofChange evalBackSpec)) evalBackCard

/-- THE SECOND FORM's CARD OF 'tidewracklaw22.EvalShift'. -/
def evalShiftUptoCard : Claim7 := { stood := { row := evalShiftUptoRow, standIns := [], harness := (true, "a6397fbb396abd772aaeb6f63e83a50fc312e52ab7fd133d2be40e86608639f6"), looks := true }, kinds := [], alts := [], laidByText := true, laidKinds := [.data, .data, .widerDeep, .widerDeep, .data, .data, .data, .data, .data, .data, .sentinel, .sentinel, .pinned, .pinned, .pinned], laidTests := true, laidLooks := .later }
def EvalShiftUptoCardSaid : Prop := Claim7.holds Tryz.pinned (.plain (OpenSpec.upto evalShiftSpec)) evalShiftUptoCard

/-- THE SECOND FORM's CARD OF 'tidewracklaw22.EvalBack'. -/
def evalBackUptoCard : Claim7 := { stood := { row := evalBackUptoRow, standIns := [], harness := (true, "a6397fbb396abd772aaeb6f63e83a50fc312e52ab7fd133d2be40e86608639f6"), looks := true }, kinds := [], alts := [], laidByText := true, laidKinds := [.data, .data, .widerDeep, .widerDeep, .data, .data, .data, .data, .data, .data, .sentinel, .sentinel, .pinned, .pinned, .pinned], laidTests := true, laidLooks := .later }
def EvalBackUptoCardSaid : Prop := Claim7.holds Tryz.pinned (.plain (OpenSpec.upto evalBackSpec)) evalBackUptoCard
end Rows
end Go.Proofs.YtjfbehbfkjmblaaGreatDoor
