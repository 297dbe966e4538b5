/-
  DERIVED. GIVEN WITH THE SEED: THE CARDS: each row of YtdlkodiemlmmiaaGreatDoorRows.lean that lists a variable, with what it lists TIED to the program's text (the seventh form; the later family's looks); each row that meets fmt, with fmt's text TOLD by the authors' own Lean function (tested against real Go, not proved from fmt's source: count such statements apart). THE CARD IS WHAT COUNTS. Prove the row's statement (the work); the ties are given (YtdlkodiemlmmiaaGreatDoorTie.lean); close each card by the builder's one call (the guide's Derived/Test/ToyasCard.lean, 'card_holds'). Laid BY PROGRAM, IN A SANDBOX (cutbox-door.mjs). By AI agents, Wed Nov 11 2026. No macro, syntax, notation, axiom, sorry.
-/
import Derived.Test.YtdlkodiemlmmiaaGreatDoorRows
import GoSem.ClaimSeven
namespace Go.Proofs.YtdlkodiemlmmiaaGreatDoor
namespace Rows

/-- THE TIED CARD OF 'tidewracklaw27.QuerierSem'. -/
def querierSemCard : Claim7 := { stood := { row := querierSemRow, standIns := [], harness := (true, "efa02c0df2abf6b625aff64fe42a4ca9898be9dd20a2f552c2d73919268f825e"), looks := true }, kinds := [], alts := [], laidByText := true, laidKinds := [.data, .data, .widerDeep, .widerDeep, .data, .data, .data, .data, .data, .data, .sentinel, .sentinel, .pinned, .pinned, .pinned], laidTests := true, laidLooks := .later }
def QuerierSemCardSaid : Prop := Claim7.holds Tryz.pinned (.plain (OpenSpec.ofChange querierSemSpec)) querierSemCard

/-- THE TIED CARD OF 'tidewracklaw27.QuerierFew'. -/
def querierFewCard : Claim7 := { stood := { row := querierFewRow, standIns := [], harness := (true, "efa02c0df2abf6b625aff64fe42a4ca9898be9dd20a2f552c2d73919268f825e"), looks := true }, kinds := [], alts := [], laidByText := true, laidKinds := [.data, .data, .widerDeep, .widerDeep, .data, .data, .data, .data, .data, .data, .sentinel, .sentinel, .pinned, .pinned, .pinned], laidTests := true, laidLooks := .later }
def QuerierFewCardSaid : Prop := Claim7.holds Tryz.pinned (.plain (OpenSpec.ofChange querierFewSpec)) querierFewCard

/-- THE TIED CARD OF 'tidewracklaw27.QuerierOrder'. -/
def querierOrderCard : Claim7 := { stood := { row := querierOrderRow, standIns := [], harness := (true, "efa02c0df2abf6b625aff64fe42a4ca9898be9dd20a2f552c2d73919268f825e"), looks := true }, kinds := [], alts := [], laidByText := true, laidKinds := [.data, .data, .widerDeep, .widerDeep, .data, .data, .data, .data, .data, .data, .sentinel, .sentinel, .pinned, .pinned, .pinned], laidTests := true, laidLooks := .later }
def QuerierOrderCardSaid : Prop := Claim7.holds Tryz.pinned (.plain (OpenSpec.ofChange querierOrderSpec)) querierOrderCard

/-- THE SECOND FORM's CARD OF 'tidewracklaw27.QuerierSem'. -/
def querierSemUptoCard : Claim7 := { stood := { row := querierSemUptoRow, standIns := [], harness := (true, "efa02c0df2abf6b625aff64fe42a4ca9898be9dd20a2f552c2d73919268f825e"), looks := true }, kinds := [], alts := [], laidByText := true, laidKinds := [.data, .data, .widerDeep, .widerDeep, .data, .data, .data, .data, .data, .data, .sentinel, .sentinel, .pinned, .pinned, .pinned], laidTests := true, laidLooks := .later }
def QuerierSemUptoCardSaid : Prop := Claim7.holds Tryz.pinned (.plain (OpenSpec.upto querierSemSpec)) querierSemUptoCard

/-- THE SECOND FORM's CARD OF 'tidewracklaw27.QuerierFew'. -/
def querierFewUptoCard : Claim7 := { stood := { row := querierFewUptoRow, standIns := [], harness := (true, "efa02c0df2abf6b625aff64fe42a4ca9898be9dd20a2f552c2d73919268f825e"), looks := true }, kinds := [], alts := [], laidByText := true, laidKinds := [.data, .data, .widerDeep, .widerDeep, .data, .data, .data, .data, .data, .data, .sentinel, .sentinel, .pinned, .pinned, .pinned], laidTests := true, laidLooks := .later }
def QuerierFewUptoCardSaid : Prop := Claim7.holds Tryz.pinned (.plain (OpenSpec.upto querierFewSpec)) querierFewUptoCard

/-- THE SECOND FORM's CARD OF 'tidewracklaw27.QuerierOrder'. -/
def querierOrderUptoCard : Claim7 := { stood := { row := querierOrderUptoRow, standIns := [], harness := (true, "efa02c0df2abf6b625aff64fe42a4ca9898be9dd20a2f552c2d73919268f825e"), looks := true }, kinds := [], alts := [], laidByText := true, laidKinds := [.data, .data, .widerDeep, .widerDeep, .data, .data, .data, .data, .data, .data, .sentinel, .sentinel, .pinned, .pinned, .pinned], laidTests := true, laidLooks := .later }
def QuerierOrderUptoCardSaid : Prop := Claim7.holds Tryz.pinned (.plain (OpenSpec.upto querierOrderSpec)) querierOrderUptoCard
end Rows
end Go.Proofs.YtdlkodiemlmmiaaGreatDoor
