/-
  DERIVED. GIVEN WITH THE SEED: THE CARDS: each row of YtglkadmfjaecmaaGreatDoorRows.lean that lists a variable, with what it lists TIED to the program's text (the seventh form; the later family's looks); each row that meets fmt, with fmt's text TOLD by the authors' own Lean function (tested against real Go, not proved from fmt's source: count such statements apart). THE CARD IS WHAT COUNTS. Prove the row's statement (the work); the ties are given (YtglkadmfjaecmaaGreatDoorTie.lean); close each card by the builder's one call (the guide's Derived/Test/ToyasCard.lean, 'card_holds'). Laid BY PROGRAM, IN A SANDBOX (cutbox-door.mjs). By AI agents, Wed Nov 11 2026. No macro, syntax, notation, axiom, sorry.
-/
import Derived.Test.YtglkadmfjaecmaaGreatDoorRows
import GoSem.ClaimSeven
namespace Go.Proofs.YtglkadmfjaecmaaGreatDoor
namespace Rows

/-- THE TIED CARD OF 'priorartlaw37.CopiesShelf'. -/
def copiesShelfCard : Claim7 := { stood := { row := copiesShelfRow, standIns := [], harness := (true, "b9a76018697470e7ceed329204cd5e5381222edd2e8b684441e62a945b0e1983"), looks := false }, kinds := [], alts := [], laidByText := true, laidKinds := [.data], laidTests := true, laidLooks := .later }
def CopiesShelfCardSaid : Prop := Claim7.holds Tryz.pinned (.plain (OpenSpec.ofChange copiesShelfSpec)) copiesShelfCard

/-- THE TIED CARD OF 'priorartlaw37.CopiesOrder'. -/
def copiesOrderCard : Claim7 := { stood := { row := copiesOrderRow, standIns := [], harness := (true, "b9a76018697470e7ceed329204cd5e5381222edd2e8b684441e62a945b0e1983"), looks := false }, kinds := [], alts := [], laidByText := true, laidKinds := [.data], laidTests := true, laidLooks := .later }
def CopiesOrderCardSaid : Prop := Claim7.holds Tryz.pinned (.plain (OpenSpec.ofChange copiesOrderSpec)) copiesOrderCard

/-- THE SECOND FORM's CARD OF 'priorartlaw37.CopiesShelf'. -/
def copiesShelfUptoCard : Claim7 := { stood := { row := copiesShelfUptoRow, standIns := [], harness := (true, "b9a76018697470e7ceed329204cd5e5381222edd2e8b684441e62a945b0e1983"), looks := false }, kinds := [], alts := [], laidByText := true, laidKinds := [.data], laidTests := true, laidLooks := .later }
def CopiesShelfUptoCardSaid : Prop := Claim7.holds Tryz.pinned (.plain (OpenSpec.upto copiesShelfSpec)) copiesShelfUptoCard

/-- THE SECOND FORM's CARD OF 'priorartlaw37.CopiesOrder'. -/
def copiesOrderUptoCard : Claim7 := { stood := { row := copiesOrderUptoRow, standIns := [], harness := (true, "b9a76018697470e7ceed329204cd5e5381222edd2e8b684441e62a945b0e1983"), looks := false }, kinds := [], alts := [], laidByText := true, laidKinds := [.data], laidTests := true, laidLooks := .later }
def CopiesOrderUptoCardSaid : Prop := Claim7.holds Tryz.pinned (.plain (OpenSpec.upto copiesOrderSpec)) copiesOrderUptoCard
end Rows
end Go.Proofs.YtglkadmfjaecmaaGreatDoor
