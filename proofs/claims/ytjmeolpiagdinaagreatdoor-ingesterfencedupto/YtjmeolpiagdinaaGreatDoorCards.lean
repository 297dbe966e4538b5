/-
  DERIVED. GIVEN WITH THE SEED: THE CARDS: each row of YtjmeolpiagdinaaGreatDoorRows.lean that lists a variable, with what it lists TIED to the program's text (the seventh form; the later family's looks); each row that meets fmt, with fmt's text TOLD by the authors' own Lean function (tested against real Go, not proved from fmt's source: count such statements apart). THE CARD IS WHAT COUNTS. Prove the row's statement (the work); the ties are given (YtjmeolpiagdinaaGreatDoorTie.lean); close each card by the builder's one call (the guide's Derived/Test/ToyasCard.lean, 'card_holds'). Laid BY PROGRAM, IN A SANDBOX (cutbox-door.mjs). By AI agents, Wed Nov 11 2026. No macro, syntax, notation, axiom, sorry.
-/
import Derived.Test.YtjmeolpiagdinaaGreatDoorRows
import GoSem.ClaimSeven
namespace Go.Proofs.YtjmeolpiagdinaaGreatDoor
namespace Rows

/-- THE TIED CARD OF 'tidewracklaw23.IngesterFenced'. -/
def ingesterFencedCard : Claim7 := { stood := { row := ingesterFencedRow, standIns := [], harness := (true, "f0fa0658a995d4fa99d46f743f9fd61b70334c227d0634d8b5e394f6bd214386"), looks := true }, kinds := [], alts := [], laidByText := true, laidKinds := [.data, .data, .data, .data, .sentinel, .sentinel, .pinned], laidTests := true, laidLooks := .later }
def IngesterFencedCardSaid : Prop := Claim7.holds Tryz.pinned (.plain (OpenSpec.ofChange ingesterFencedSpec)) ingesterFencedCard

/-- THE TIED CARD OF 'tidewracklaw23.IngesterKeeps'. -/
def ingesterKeepsCard : Claim7 := { stood := { row := ingesterKeepsRow, standIns := [], harness := (true, "f0fa0658a995d4fa99d46f743f9fd61b70334c227d0634d8b5e394f6bd214386"), looks := true }, kinds := [], alts := [], laidByText := true, laidKinds := [.data, .data, .data, .data, .sentinel, .sentinel, .pinned], laidTests := true, laidLooks := .later }
def IngesterKeepsCardSaid : Prop := Claim7.holds Tryz.pinned (.plain (OpenSpec.ofChange ingesterKeepsSpec)) ingesterKeepsCard

/-- THE TIED CARD OF 'tidewracklaw23.IngesterCuts'. -/
def ingesterCutsCard : Claim7 := { stood := { row := ingesterCutsRow, standIns := [], harness := (true, "f0fa0658a995d4fa99d46f743f9fd61b70334c227d0634d8b5e394f6bd214386"), looks := true }, kinds := [], alts := [], laidByText := true, laidKinds := [.data, .data, .data, .data, .sentinel, .sentinel, .pinned], laidTests := true, laidLooks := .later }
def IngesterCutsCardSaid : Prop := Claim7.holds Tryz.pinned (.plain (OpenSpec.ofChange ingesterCutsSpec)) ingesterCutsCard

/-- THE SECOND FORM's CARD OF 'tidewracklaw23.IngesterFenced'. -/
def ingesterFencedUptoCard : Claim7 := { stood := { row := ingesterFencedUptoRow, standIns := [], harness := (true, "f0fa0658a995d4fa99d46f743f9fd61b70334c227d0634d8b5e394f6bd214386"), looks := true }, kinds := [], alts := [], laidByText := true, laidKinds := [.data, .data, .data, .data, .sentinel, .sentinel, .pinned], laidTests := true, laidLooks := .later }
def IngesterFencedUptoCardSaid : Prop := Claim7.holds Tryz.pinned (.plain (OpenSpec.upto ingesterFencedSpec)) ingesterFencedUptoCard

/-- THE SECOND FORM's CARD OF 'tidewracklaw23.IngesterKeeps'. -/
def ingesterKeepsUptoCard : Claim7 := { stood := { row := ingesterKeepsUptoRow, standIns := [], harness := (true, "f0fa0658a995d4fa99d46f743f9fd61b70334c227d0634d8b5e394f6bd214386"), looks := true }, kinds := [], alts := [], laidByText := true, laidKinds := [.data, .data, .data, .data, .sentinel, .sentinel, .pinned], laidTests := true, laidLooks := .later }
def IngesterKeepsUptoCardSaid : Prop := Claim7.holds Tryz.pinned (.plain (OpenSpec.upto ingesterKeepsSpec)) ingesterKeepsUptoCard

/-- THE SECOND FORM's CARD OF 'tidewracklaw23.IngesterCuts'. -/
def ingesterCutsUptoCard : Claim7 := { stood := { row := ingesterCutsUptoRow, standIns := [], harness := (true, "f0fa0658a995d4fa99d46f743f9fd61b70334c227d0634d8b5e394f6bd214386"), looks := true }, kinds := [], alts := [], laidByText := true, laidKinds := [.data, .data, .data, .data, .sentinel, .sentinel, .pinned], laidTests := true, laidLooks := .later }
def IngesterCutsUptoCardSaid : Prop := Claim7.holds Tryz.pinned (.plain (OpenSpec.upto ingesterCutsSpec)) ingesterCutsUptoCard
end Rows
end Go.Proofs.YtjmeolpiagdinaaGreatDoor
