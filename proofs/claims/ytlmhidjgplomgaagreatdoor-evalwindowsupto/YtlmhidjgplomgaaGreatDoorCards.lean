/-
  DERIVED. GIVEN WITH THE SEED: THE CARDS: each row of YtlmhidjgplomgaaGreatDoorRows.lean that lists a variable, with what it lists TIED to the program's text (the seventh form; the later family's looks); each row that meets fmt, with fmt's text TOLD by the authors' own Lean function (tested against real Go, not proved from fmt's source: count such statements apart). THE CARD IS WHAT COUNTS. Prove the row's statement (the work); the ties are given (YtlmhidjgplomgaaGreatDoorTie.lean); close each card by the builder's one call (the guide's Derived/Test/ToyasCard.lean, 'card_holds'). Laid BY PROGRAM, IN A SANDBOX (cutbox-door.mjs). By AI agents, Wed Nov 11 2026. No macro, syntax, notation, axiom, sorry.
-/
import Derived.Test.YtlmhidjgplomgaaGreatDoorRows
import GoSem.ClaimSeven
namespace Go.Proofs.YtlmhidjgplomgaaGreatDoor
namespace Rows

/-- THE TIED CARD OF 'tidewracklaw22.EvalWindows'. -/
def evalWindowsCard : Claim7 := { stood := { row := evalWindowsRow, standIns := [], harness := (true, "5cfef4a8fa0d2c9a816e523d348d2fcbdef1565547eca427391205923e22708d"), looks := true }, kinds := [], alts := [], laidByText := true, laidKinds := [.data, .data, .widerDeep, .widerDeep, .data, .data, .data, .data, .data, .data, .sentinel, .sentinel, .pinned, .pinned, .pinned], laidTests := true, laidLooks := .later }
def EvalWindowsCardSaid : Prop := Claim7.holds Tryz.pinned (.plain (OpenSpec.ofChange evalWindowsSpec)) evalWindowsCard

/-- THE TIED CARD OF 'tidewracklaw22.EvalSets'. -/
def evalSetsCard : Claim7 := { stood := { row := evalSetsRow, standIns := [], harness := (true, "5cfef4a8fa0d2c9a816e523d348d2fcbdef1565547eca427391205923e22708d"), looks := true }, kinds := [], alts := [], laidByText := true, laidKinds := [.data, .data, .widerDeep, .widerDeep, .data, .data, .data, .data, .data, .data, .sentinel, .sentinel, .pinned, .pinned, .pinned], laidTests := true, laidLooks := .later }
def EvalSetsCardSaid : Prop := Claim7.holds Tryz.pinned (.plain (OpenSpec.ofChange evalSetsSpec)) evalSetsCard

/-- THE TIED CARD OF 'tidewracklaw22.EvalScalars'. -/
def evalScalarsCard : Claim7 := { stood := { row := evalScalarsRow, standIns := [], harness := (true, "5cfef4a8fa0d2c9a816e523d348d2fcbdef1565547eca427391205923e22708d"), looks := true }, kinds := [], alts := [], laidByText := true, laidKinds := [.data, .data, .widerDeep, .widerDeep, .data, .data, .data, .data, .data, .data, .sentinel, .sentinel, .pinned, .pinned, .pinned], laidTests := true, laidLooks := .later }
def EvalScalarsCardSaid : Prop := Claim7.holds Tryz.pinned (.plain (OpenSpec.ofChange evalScalarsSpec)) evalScalarsCard

/-- THE TIED CARD OF 'tidewracklaw22.EvalGroups'. -/
def evalGroupsCard : Claim7 := { stood := { row := evalGroupsRow, standIns := [], harness := (true, "5cfef4a8fa0d2c9a816e523d348d2fcbdef1565547eca427391205923e22708d"), looks := true }, kinds := [], alts := [], laidByText := true, laidKinds := [.data, .data, .widerDeep, .widerDeep, .data, .data, .data, .data, .data, .data, .sentinel, .sentinel, .pinned, .pinned, .pinned], laidTests := true, laidLooks := .later }
def EvalGroupsCardSaid : Prop := Claim7.holds Tryz.pinned (.plain (OpenSpec.ofChange evalGroupsSpec)) evalGroupsCard

/-- THE TIED CARD OF 'tidewracklaw22.EvalCounters'. -/
def evalCountersCard : Claim7 := { stood := { row := evalCountersRow, standIns := [], harness := (true, "5cfef4a8fa0d2c9a816e523d348d2fcbdef1565547eca427391205923e22708d"), looks := true }, kinds := [], alts := [], laidByText := true, laidKinds := [.data, .data, .widerDeep, .widerDeep, .data, .data, .data, .data, .data, .data, .sentinel, .sentinel, .pinned, .pinned, .pinned], laidTests := true, laidLooks := .later }
def EvalCountersCardSaid : Prop := Claim7.holds Tryz.pinned (.plain (OpenSpec.ofChange evalCountersSpec)) evalCountersCard

/-- THE TIED CARD OF 'tidewracklaw22.EvalFilters'. -/
def evalFiltersCard : Claim7 := { stood := { row := evalFiltersRow, standIns := [], harness := (true, "5cfef4a8fa0d2c9a816e523d348d2fcbdef1565547eca427391205923e22708d"), looks := true }, kinds := [], alts := [], laidByText := true, laidKinds := [.data, .data, .widerDeep, .widerDeep, .data, .data, .data, .data, .data, .data, .sentinel, .sentinel, .pinned, .pinned, .pinned], laidTests := true, laidLooks := .later }
def EvalFiltersCardSaid : Prop := Claim7.holds Tryz.pinned (.plain (OpenSpec.ofChange evalFiltersSpec)) evalFiltersCard

/-- THE TIED CARD OF 'tidewracklaw22.EvalSums'. -/
def evalSumsCard : Claim7 := { stood := { row := evalSumsRow, standIns := [], harness := (true, "5cfef4a8fa0d2c9a816e523d348d2fcbdef1565547eca427391205923e22708d"), looks := true }, kinds := [], alts := [], laidByText := true, laidKinds := [.data, .data, .widerDeep, .widerDeep, .data, .data, .data, .data, .data, .data, .sentinel, .sentinel, .pinned, .pinned, .pinned], laidTests := true, laidLooks := .later }
def EvalSumsCardSaid : Prop := Claim7.holds Tryz.pinned (.plain (OpenSpec.ofChange evalSumsSpec)) evalSumsCard

/-- THE TIED CARD OF 'tidewracklaw22.EvalOver'. -/
def evalOverCard : Claim7 := { stood := { row := evalOverRow, standIns := [], harness := (true, "5cfef4a8fa0d2c9a816e523d348d2fcbdef1565547eca427391205923e22708d"), looks := true }, kinds := [], alts := [], laidByText := true, laidKinds := [.data, .data, .widerDeep, .widerDeep, .data, .data, .data, .data, .data, .data, .sentinel, .sentinel, .pinned, .pinned, .pinned], laidTests := true, laidLooks := .later }
def EvalOverCardSaid : Prop := Claim7.holds Tryz.pinned (.plain (OpenSpec.ofChange evalOverSpec)) evalOverCard

/-- THE SECOND FORM's CARD OF 'tidewracklaw22.EvalWindows'. -/
def evalWindowsUptoCard : Claim7 := { stood := { row := evalWindowsUptoRow, standIns := [], harness := (true, "5cfef4a8fa0d2c9a816e523d348d2fcbdef1565547eca427391205923e22708d"), looks := true }, kinds := [], alts := [], laidByText := true, laidKinds := [.data, .data, .widerDeep, .widerDeep, .data, .data, .data, .data, .data, .data, .sentinel, .sentinel, .pinned, .pinned, .pinned], laidTests := true, laidLooks := .later }
def EvalWindowsUptoCardSaid : Prop := Claim7.holds Tryz.pinned (.plain (OpenSpec.upto evalWindowsSpec)) evalWindowsUptoCard

/-- THE SECOND FORM's CARD OF 'tidewracklaw22.EvalSets'. -/
def evalSetsUptoCard : Claim7 := { stood := { row := evalSetsUptoRow, standIns := [], harness := (true, "5cfef4a8fa0d2c9a816e523d348d2fcbdef1565547eca427391205923e22708d"), looks := true }, kinds := [], alts := [], laidByText := true, laidKinds := [.data, .data, .widerDeep, .widerDeep, .data, .data, .data, .data, .data, .data, .sentinel, .sentinel, .pinned, .pinned, .pinned], laidTests := true, laidLooks := .later }
def EvalSetsUptoCardSaid : Prop := Claim7.holds Tryz.pinned (.plain (OpenSpec.upto evalSetsSpec)) evalSetsUptoCard

/-- THE SECOND FORM's CARD OF 'tidewracklaw22.EvalScalars'. -/
def evalScalarsUptoCard : Claim7 := { stood := { row := evalScalarsUptoRow, standIns := [], harness := (true, "5cfef4a8fa0d2c9a816e523d348d2fcbdef1565547eca427391205923e22708d"), looks := true }, kinds := [], alts := [], laidByText := true, laidKinds := [.data, .data, .widerDeep, .widerDeep, .data, .data, .data, .data, .data, .data, .sentinel, .sentinel, .pinned, .pinned, .pinned], laidTests := true, laidLooks := .later }
def EvalScalarsUptoCardSaid : Prop := Claim7.holds Tryz.pinned (.plain (OpenSpec.upto evalScalarsSpec)) evalScalarsUptoCard

/-- THE SECOND FORM's CARD OF 'tidewracklaw22.EvalGroups'. -/
def evalGroupsUptoCard : Claim7 := { stood := { row := evalGroupsUptoRow, standIns := [], harness := (true, "5cfef4a8fa0d2c9a816e523d348d2fcbdef1565547eca427391205923e22708d"), looks := true }, kinds := [], alts := [], laidByText := true, laidKinds := [.data, .data, .widerDeep, .widerDeep, .data, .data, .data, .data, .data, .data, .sentinel, .sentinel, .pinned, .pinned, .pinned], laidTests := true, laidLooks := .later }
def EvalGroupsUptoCardSaid : Prop := Claim7.holds Tryz.pinned (.plain (OpenSpec.upto evalGroupsSpec)) evalGroupsUptoCard

/-- THE SECOND FORM's CARD OF 'tidewracklaw22.EvalCounters'. -/
def evalCountersUptoCard : Claim7 := { stood := { row := evalCountersUptoRow, standIns := [], harness := (true, "5cfef4a8fa0d2c9a816e523d348d2fcbdef1565547eca427391205923e22708d"), looks := true }, kinds := [], alts := [], laidByText := true, laidKinds := [.data, .data, .widerDeep, .widerDeep, .data, .data, .data, .data, .data, .data, .sentinel, .sentinel, .pinned, .pinned, .pinned], laidTests := true, laidLooks := .later }
def EvalCountersUptoCardSaid : Prop := Claim7.holds Tryz.pinned (.plain (OpenSpec.upto evalCountersSpec)) evalCountersUptoCard

/-- THE SECOND FORM's CARD OF 'tidewracklaw22.EvalFilters'. -/
def evalFiltersUptoCard : Claim7 := { stood := { row := evalFiltersUptoRow, standIns := [], harness := (true, "5cfef4a8fa0d2c9a816e523d348d2fcbdef1565547eca427391205923e22708d"), looks := true }, kinds := [], alts := [], laidByText := true, laidKinds := [.data, .data, .widerDeep, .widerDeep, .data, .data, .data, .data, .data, .data, .sentinel, .sentinel, .pinned, .pinned, .pinned], laidTests := true, laidLooks := .later }
def EvalFiltersUptoCardSaid : Prop := Claim7.holds Tryz.pinned (.plain (OpenSpec.upto evalFiltersSpec)) evalFiltersUptoCard

/-- THE SECOND FORM's CARD OF 'tidewracklaw22.EvalSums'. -/
def evalSumsUptoCard : Claim7 := { stood := { row := evalSumsUptoRow, standIns := [], harness := (true, "5cfef4a8fa0d2c9a816e523d348d2fcbdef1565547eca427391205923e22708d"), looks := true }, kinds := [], alts := [], laidByText := true, laidKinds := [.data, .data, .widerDeep, .widerDeep, .data, .data, .data, .data, .data, .data, .sentinel, .sentinel, .pinned, .pinned, .pinned], laidTests := true, laidLooks := .later }
def EvalSumsUptoCardSaid : Prop := Claim7.holds Tryz.pinned (.plain (OpenSpec.upto evalSumsSpec)) evalSumsUptoCard

/-- THE SECOND FORM's CARD OF 'tidewracklaw22.EvalOver'. -/
def evalOverUptoCard : Claim7 := { stood := { row := evalOverUptoRow, standIns := [], harness := (true, "5cfef4a8fa0d2c9a816e523d348d2fcbdef1565547eca427391205923e22708d"), looks := true }, kinds := [], alts := [], laidByText := true, laidKinds := [.data, .data, .widerDeep, .widerDeep, .data, .data, .data, .data, .data, .data, .sentinel, .sentinel, .pinned, .pinned, .pinned], laidTests := true, laidLooks := .later }
def EvalOverUptoCardSaid : Prop := Claim7.holds Tryz.pinned (.plain (OpenSpec.upto evalOverSpec)) evalOverUptoCard
end Rows
end Go.Proofs.YtlmhidjgplomgaaGreatDoor
