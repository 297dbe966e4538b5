/-
  DERIVED. GIVEN WITH THE SEED: THE CARDS: each row of YtaaincfenibojaaGreatDoorRows.lean that lists a variable, with what it lists TIED to the program's text (the seventh form; the later family's looks); each row that meets fmt, with fmt's text TOLD by the authors' own Lean function (tested against real Go, not proved from fmt's source: count such statements apart). THE CARD IS WHAT COUNTS. Prove the row's statement (the work); the ties are given (YtaaincfenibojaaGreatDoorTie.lean); close each card by the builder's one call (the guide's Derived/Test/ToyasCard.lean, 'card_holds'). Laid BY PROGRAM, IN A SANDBOX (cutbox-door.mjs). By AI agents, Wed Nov 11 2026. No macro, syntax, notation, axiom, sorry.
-/
import Derived.Test.YtaaincfenibojaaGreatDoorRows
import GoSem.ClaimSeven
namespace Go.Proofs.YtaaincfenibojaaGreatDoor
namespace Rows

/-- THE TIED CARD OF 'tidewracklaw24.DistributorQuorum'. -/
def distributorQuorumCard : Claim7 := { stood := { row := distributorQuorumRow, standIns := [], harness := (true, "4896abbf71019b618cb730ae66d665721792e46776bc81d648a32b2ae090062f"), looks := true }, kinds := [], alts := [], laidByText := true, laidKinds := [.data, .data, .data, .sentinel, .sentinel], laidTests := true, laidLooks := .later }
def DistributorQuorumCardSaid : Prop := Claim7.holds Tryz.pinned (.plain (OpenSpec.ofChange distributorQuorumSpec)) distributorQuorumCard

/-- THE TIED CARD OF 'tidewracklaw24.DistributorHears'. -/
def distributorHearsCard : Claim7 := { stood := { row := distributorHearsRow, standIns := [], harness := (true, "4896abbf71019b618cb730ae66d665721792e46776bc81d648a32b2ae090062f"), looks := true }, kinds := [], alts := [], laidByText := true, laidKinds := [.data, .data, .data, .sentinel, .sentinel], laidTests := true, laidLooks := .later }
def DistributorHearsCardSaid : Prop := Claim7.holds Tryz.pinned (.plain (OpenSpec.ofChange distributorHearsSpec)) distributorHearsCard

/-- THE TIED CARD OF 'tidewracklaw24.DistributorRoutes'. -/
def distributorRoutesCard : Claim7 := { stood := { row := distributorRoutesRow, standIns := [], harness := (true, "4896abbf71019b618cb730ae66d665721792e46776bc81d648a32b2ae090062f"), looks := true }, kinds := [], alts := [], laidByText := true, laidKinds := [.data, .data, .data, .sentinel, .sentinel], laidTests := true, laidLooks := .later }
def DistributorRoutesCardSaid : Prop := Claim7.holds Tryz.pinned (.plain (OpenSpec.ofChange distributorRoutesSpec)) distributorRoutesCard

/-- THE TIED CARD OF 'tidewracklaw24.DistributorPlays'. -/
def distributorPlaysCard : Claim7 := { stood := { row := distributorPlaysRow, standIns := [], harness := (true, "4896abbf71019b618cb730ae66d665721792e46776bc81d648a32b2ae090062f"), looks := true }, kinds := [], alts := [], laidByText := true, laidKinds := [.data, .data, .data, .sentinel, .sentinel], laidTests := true, laidLooks := .later }
def DistributorPlaysCardSaid : Prop := Claim7.holds Tryz.pinned (.plain (OpenSpec.ofChange distributorPlaysSpec)) distributorPlaysCard

/-- THE SECOND FORM's CARD OF 'tidewracklaw24.DistributorQuorum'. -/
def distributorQuorumUptoCard : Claim7 := { stood := { row := distributorQuorumUptoRow, standIns := [], harness := (true, "4896abbf71019b618cb730ae66d665721792e46776bc81d648a32b2ae090062f"), looks := true }, kinds := [], alts := [], laidByText := true, laidKinds := [.data, .data, .data, .sentinel, .sentinel], laidTests := true, laidLooks := .later }
def DistributorQuorumUptoCardSaid : Prop := Claim7.holds Tryz.pinned (.plain (OpenSpec.upto distributorQuorumSpec)) distributorQuorumUptoCard

/-- THE SECOND FORM's CARD OF 'tidewracklaw24.DistributorHears'. -/
def distributorHearsUptoCard : Claim7 := { stood := { row := distributorHearsUptoRow, standIns := [], harness := (true, "4896abbf71019b618cb730ae66d665721792e46776bc81d648a32b2ae090062f"), looks := true }, kinds := [], alts := [], laidByText := true, laidKinds := [.data, .data, .data, .sentinel, .sentinel], laidTests := true, laidLooks := .later }
def DistributorHearsUptoCardSaid : Prop := Claim7.holds Tryz.pinned (.plain (OpenSpec.upto distributorHearsSpec)) distributorHearsUptoCard

/-- THE SECOND FORM's CARD OF 'tidewracklaw24.DistributorRoutes'. -/
def distributorRoutesUptoCard : Claim7 := { stood := { row := distributorRoutesUptoRow, standIns := [], harness := (true, "4896abbf71019b618cb730ae66d665721792e46776bc81d648a32b2ae090062f"), looks := true }, kinds := [], alts := [], laidByText := true, laidKinds := [.data, .data, .data, .sentinel, .sentinel], laidTests := true, laidLooks := .later }
def DistributorRoutesUptoCardSaid : Prop := Claim7.holds Tryz.pinned (.plain (OpenSpec.upto distributorRoutesSpec)) distributorRoutesUptoCard

/-- THE SECOND FORM's CARD OF 'tidewracklaw24.DistributorPlays'. -/
def distributorPlaysUptoCard : Claim7 := { stood := { row := distributorPlaysUptoRow, standIns := [], harness := (true, "4896abbf71019b618cb730ae66d665721792e46776bc81d648a32b2ae090062f"), looks := true }, kinds := [], alts := [], laidByText := true, laidKinds := [.data, .data, .data, .sentinel, .sentinel], laidTests := true, laidLooks := .later }
def DistributorPlaysUptoCardSaid : Prop := Claim7.holds Tryz.pinned (.plain (OpenSpec.upto distributorPlaysSpec)) distributorPlaysUptoCard
end Rows
end Go.Proofs.YtaaincfenibojaaGreatDoor
