/-
  DERIVED. GIVEN WITH THE SEED: THE CARDS: each row of YtchjlpgaanjafaaGreatDoorRows.lean that lists a variable, with what it lists TIED to the program's text (the seventh form; the later family's looks); each row that meets fmt, with fmt's text TOLD by the authors' own Lean function (tested against real Go, not proved from fmt's source: count such statements apart). THE CARD IS WHAT COUNTS. Prove the row's statement (the work); the ties are given (YtchjlpgaanjafaaGreatDoorTie.lean); close each card by the builder's one call (the guide's Derived/Test/ToyasCard.lean, 'card_holds'). Laid BY PROGRAM, IN A SANDBOX (cutbox-door.mjs). By AI agents, Wed Nov 11 2026. No macro, syntax, notation, axiom, sorry.
-/
import Derived.Test.YtchjlpgaanjafaaGreatDoorRows
import GoSem.ClaimSeven
namespace Go.Proofs.YtchjlpgaanjafaaGreatDoor
namespace Rows

/-- THE TIED CARD OF 'tidewracklaw7.WalTorn'. -/
def walTornCard : Claim7 := { stood := { row := walTornRow, standIns := [], harness := (true, "af5b0593f42a397064569672294cbf2451ab2c6dd02ed595df90360c3b4a2a44"), looks := true }, kinds := [], alts := [], laidByText := true, laidKinds := [.data, .data, .data, .sentinel, .sentinel], laidTests := true, laidLooks := .later }
def WalTornCardSaid : Prop := Claim7.holds Tryz.pinned (.plain (OpenSpec.ofChange walTornSpec)) walTornCard

/-- THE TIED CARD OF 'tidewracklaw7.WalFolders'. -/
def walFoldersCard : Claim7 := { stood := { row := walFoldersRow, standIns := [], harness := (true, "af5b0593f42a397064569672294cbf2451ab2c6dd02ed595df90360c3b4a2a44"), looks := true }, kinds := [], alts := [], laidByText := true, laidKinds := [.data, .data, .data, .sentinel, .sentinel], laidTests := true, laidLooks := .later }
def WalFoldersCardSaid : Prop := Claim7.holds Tryz.pinned (.plain (OpenSpec.ofChange walFoldersSpec)) walFoldersCard

/-- THE TIED CARD OF 'tidewracklaw7.WalTwice'. -/
def walTwiceCard : Claim7 := { stood := { row := walTwiceRow, standIns := [], harness := (true, "af5b0593f42a397064569672294cbf2451ab2c6dd02ed595df90360c3b4a2a44"), looks := true }, kinds := [], alts := [], laidByText := true, laidKinds := [.data, .data, .data, .sentinel, .sentinel], laidTests := true, laidLooks := .later }
def WalTwiceCardSaid : Prop := Claim7.holds Tryz.pinned (.plain (OpenSpec.ofChange walTwiceSpec)) walTwiceCard

/-- THE TIED CARD OF 'tidewracklaw7.WalKeeps'. -/
def walKeepsCard : Claim7 := { stood := { row := walKeepsRow, standIns := [], harness := (true, "af5b0593f42a397064569672294cbf2451ab2c6dd02ed595df90360c3b4a2a44"), looks := true }, kinds := [], alts := [], laidByText := true, laidKinds := [.data, .data, .data, .sentinel, .sentinel], laidTests := true, laidLooks := .later }
def WalKeepsCardSaid : Prop := Claim7.holds Tryz.pinned (.plain (OpenSpec.ofChange walKeepsSpec)) walKeepsCard

/-- THE TIED CARD OF 'tidewracklaw7.WalCuts'. -/
def walCutsCard : Claim7 := { stood := { row := walCutsRow, standIns := [], harness := (true, "af5b0593f42a397064569672294cbf2451ab2c6dd02ed595df90360c3b4a2a44"), looks := true }, kinds := [], alts := [], laidByText := true, laidKinds := [.data, .data, .data, .sentinel, .sentinel], laidTests := true, laidLooks := .later }
def WalCutsCardSaid : Prop := Claim7.holds Tryz.pinned (.plain (OpenSpec.ofChange walCutsSpec)) walCutsCard

/-- THE TIED CARD OF 'tidewracklaw12.KvTwo'. -/
def kvTwoCard : Claim7 := { stood := { row := kvTwoRow, standIns := [], harness := (true, "af5b0593f42a397064569672294cbf2451ab2c6dd02ed595df90360c3b4a2a44"), looks := true }, kinds := [], alts := [], laidByText := true, laidKinds := [.data, .data, .data, .sentinel, .sentinel], laidTests := true, laidLooks := .later }
def KvTwoCardSaid : Prop := Claim7.holds Tryz.pinned (.plain (OpenSpec.ofChange kvTwoSpec)) kvTwoCard

/-- THE TIED CARD OF 'tidewracklaw12.KvMany'. -/
def kvManyCard : Claim7 := { stood := { row := kvManyRow, standIns := [], harness := (true, "af5b0593f42a397064569672294cbf2451ab2c6dd02ed595df90360c3b4a2a44"), looks := true }, kinds := [], alts := [], laidByText := true, laidKinds := [.data, .data, .data, .sentinel, .sentinel], laidTests := true, laidLooks := .later }
def KvManyCardSaid : Prop := Claim7.holds Tryz.pinned (.plain (OpenSpec.ofChange kvManySpec)) kvManyCard

/-- THE TIED CARD OF 'tidewracklaw12.KvKeeps'. -/
def kvKeepsCard : Claim7 := { stood := { row := kvKeepsRow, standIns := [], harness := (true, "af5b0593f42a397064569672294cbf2451ab2c6dd02ed595df90360c3b4a2a44"), looks := true }, kinds := [], alts := [], laidByText := true, laidKinds := [.data, .data, .data, .sentinel, .sentinel], laidTests := true, laidLooks := .later }
def KvKeepsCardSaid : Prop := Claim7.holds Tryz.pinned (.plain (OpenSpec.ofChange kvKeepsSpec)) kvKeepsCard

/-- THE SECOND FORM's CARD OF 'tidewracklaw7.WalTorn'. -/
def walTornUptoCard : Claim7 := { stood := { row := walTornUptoRow, standIns := [], harness := (true, "af5b0593f42a397064569672294cbf2451ab2c6dd02ed595df90360c3b4a2a44"), looks := true }, kinds := [], alts := [], laidByText := true, laidKinds := [.data, .data, .data, .sentinel, .sentinel], laidTests := true, laidLooks := .later }
def WalTornUptoCardSaid : Prop := Claim7.holds Tryz.pinned (.plain (OpenSpec.upto walTornSpec)) walTornUptoCard

/-- THE SECOND FORM's CARD OF 'tidewracklaw7.WalFolders'. -/
def walFoldersUptoCard : Claim7 := { stood := { row := walFoldersUptoRow, standIns := [], harness := (true, "af5b0593f42a397064569672294cbf2451ab2c6dd02ed595df90360c3b4a2a44"), looks := true }, kinds := [], alts := [], laidByText := true, laidKinds := [.data, .data, .data, .sentinel, .sentinel], laidTests := true, laidLooks := .later }
def WalFoldersUptoCardSaid : Prop := Claim7.holds Tryz.pinned (.plain (OpenSpec.upto walFoldersSpec)) walFoldersUptoCard

/-- THE SECOND FORM's CARD OF 'tidewracklaw7.WalTwice'. -/
def walTwiceUptoCard : Claim7 := { stood := { row := walTwiceUptoRow, standIns := [], harness := (true, "af5b0593f42a397064569672294cbf2451ab2c6dd02ed595df90360c3b4a2a44"), looks := true }, kinds := [], alts := [], laidByText := true, laidKinds := [.data, .data, .data, .sentinel, .sentinel], laidTests := true, laidLooks := .later }
def WalTwiceUptoCardSaid : Prop := Claim7.holds Tryz.pinned (.plain (OpenSpec.upto walTwiceSpec)) walTwiceUptoCard

/-- THE SECOND FORM's CARD OF 'tidewracklaw7.WalKeeps'. -/
def walKeepsUptoCard : Claim7 := { stood := { row := walKeepsUptoRow, standIns := [], harness := (true, "af5b0593f42a397064569672294cbf2451ab2c6dd02ed595df90360c3b4a2a44"), looks := true }, kinds := [], alts := [], laidByText := true, laidKinds := [.data, .data, .data, .sentinel, .sentinel], laidTests := true, laidLooks := .later }
def WalKeepsUptoCardSaid : Prop := Claim7.holds Tryz.pinned (.plain (OpenSpec.upto walKeepsSpec)) walKeepsUptoCard

/-- THE SECOND FORM's CARD OF 'tidewracklaw7.WalCuts'. -/
def walCutsUptoCard : Claim7 := { stood := { row := walCutsUptoRow, standIns := [], harness := (true, "af5b0593f42a397064569672294cbf2451ab2c6dd02ed595df90360c3b4a2a44"), looks := true }, kinds := [], alts := [], laidByText := true, laidKinds := [.data, .data, .data, .sentinel, .sentinel], laidTests := true, laidLooks := .later }
def WalCutsUptoCardSaid : Prop := Claim7.holds Tryz.pinned (.plain (OpenSpec.upto walCutsSpec)) walCutsUptoCard

/-- THE SECOND FORM's CARD OF 'tidewracklaw12.KvTwo'. -/
def kvTwoUptoCard : Claim7 := { stood := { row := kvTwoUptoRow, standIns := [], harness := (true, "af5b0593f42a397064569672294cbf2451ab2c6dd02ed595df90360c3b4a2a44"), looks := true }, kinds := [], alts := [], laidByText := true, laidKinds := [.data, .data, .data, .sentinel, .sentinel], laidTests := true, laidLooks := .later }
def KvTwoUptoCardSaid : Prop := Claim7.holds Tryz.pinned (.plain (OpenSpec.upto kvTwoSpec)) kvTwoUptoCard

/-- THE SECOND FORM's CARD OF 'tidewracklaw12.KvMany'. -/
def kvManyUptoCard : Claim7 := { stood := { row := kvManyUptoRow, standIns := [], harness := (true, "af5b0593f42a397064569672294cbf2451ab2c6dd02ed595df90360c3b4a2a44"), looks := true }, kinds := [], alts := [], laidByText := true, laidKinds := [.data, .data, .data, .sentinel, .sentinel], laidTests := true, laidLooks := .later }
def KvManyUptoCardSaid : Prop := Claim7.holds Tryz.pinned (.plain (OpenSpec.upto kvManySpec)) kvManyUptoCard

/-- THE SECOND FORM's CARD OF 'tidewracklaw12.KvKeeps'. -/
def kvKeepsUptoCard : Claim7 := { stood := { row := kvKeepsUptoRow, standIns := [], harness := (true, "af5b0593f42a397064569672294cbf2451ab2c6dd02ed595df90360c3b4a2a44"), looks := true }, kinds := [], alts := [], laidByText := true, laidKinds := [.data, .data, .data, .sentinel, .sentinel], laidTests := true, laidLooks := .later }
def KvKeepsUptoCardSaid : Prop := Claim7.holds Tryz.pinned (.plain (OpenSpec.upto kvKeepsSpec)) kvKeepsUptoCard
end Rows
end Go.Proofs.YtchjlpgaanjafaaGreatDoor
