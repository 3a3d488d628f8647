/-
  DERIVED. GIVEN WITH THE SEED: THE CARDS: each row of YtbeaijjaecaidaaGreatDoorRows.lean that lists a variable, with what it lists TIED to the program's text (the seventh form; the later family's looks); each row that meets fmt, with fmt's text TOLD by the authors' own Lean function (tested against real Go, not proved from fmt's source: count such statements apart). THE CARD IS WHAT COUNTS. Prove the row's statement (the work); the ties are given (YtbeaijjaecaidaaGreatDoorTie.lean); close each card by the builder's one call (the guide's Derived/Test/ToyasCard.lean, 'card_holds'). Laid BY PROGRAM, IN A SANDBOX (cutbox-door.mjs). By AI agents, Wed Nov 11 2026. No macro, syntax, notation, axiom, sorry.
-/
import Derived.Test.YtbeaijjaecaidaaGreatDoorRows
import GoSem.ClaimSeven
namespace Go.Proofs.YtbeaijjaecaidaaGreatDoor
namespace Rows

/-- THE TIED CARD OF 'priorartlaw37.CopiesAltered'. -/
def copiesAlteredCard : Claim7 := { stood := { row := copiesAlteredRow, standIns := [], harness := (true, "b060875bddf2631fbf72c2251c236a7c1e21e46c201dff969b160f11293e7356"), looks := false }, kinds := [], alts := [], laidByText := true, laidKinds := [.data], laidTests := true, laidLooks := .later }
def CopiesAlteredCardSaid : Prop := Claim7.holds Tryz.pinned (.plain (OpenSpec.ofChange copiesAlteredSpec)) copiesAlteredCard

/-- THE TIED CARD OF 'priorartlaw37.CopiesChecks'. -/
def copiesChecksCard : Claim7 := { stood := { row := copiesChecksRow, standIns := [], harness := (true, "b060875bddf2631fbf72c2251c236a7c1e21e46c201dff969b160f11293e7356"), looks := false }, kinds := [], alts := [], laidByText := true, laidKinds := [.data], laidTests := true, laidLooks := .later }
def CopiesChecksCardSaid : Prop := Claim7.holds Tryz.pinned (.plain (OpenSpec.ofChange copiesChecksSpec)) copiesChecksCard

/-- THE TIED CARD OF 'priorartlaw37.CopiesSalts'. -/
def copiesSaltsCard : Claim7 := { stood := { row := copiesSaltsRow, standIns := [], harness := (true, "b060875bddf2631fbf72c2251c236a7c1e21e46c201dff969b160f11293e7356"), looks := false }, kinds := [], alts := [], laidByText := true, laidKinds := [.data], laidTests := true, laidLooks := .later }
def CopiesSaltsCardSaid : Prop := Claim7.holds Tryz.pinned (.plain (OpenSpec.ofChange copiesSaltsSpec)) copiesSaltsCard

/-- THE TIED CARD OF 'priorartlaw37.CopiesGenuine'. -/
def copiesGenuineCard : Claim7 := { stood := { row := copiesGenuineRow, standIns := [], harness := (true, "b060875bddf2631fbf72c2251c236a7c1e21e46c201dff969b160f11293e7356"), looks := false }, kinds := [], alts := [], laidByText := true, laidKinds := [.data], laidTests := true, laidLooks := .later }
def CopiesGenuineCardSaid : Prop := Claim7.holds Tryz.pinned (.plain (OpenSpec.ofChange copiesGenuineSpec)) copiesGenuineCard

/-- THE TIED CARD OF 'priorartlaw37.CopiesBytes'. -/
def copiesBytesCard : Claim7 := { stood := { row := copiesBytesRow, standIns := [], harness := (true, "b060875bddf2631fbf72c2251c236a7c1e21e46c201dff969b160f11293e7356"), looks := false }, kinds := [], alts := [], laidByText := true, laidKinds := [.data], laidTests := true, laidLooks := .later }
def CopiesBytesCardSaid : Prop := Claim7.holds Tryz.pinned (.plain (OpenSpec.ofChange copiesBytesSpec)) copiesBytesCard

/-- THE SECOND FORM's CARD OF 'priorartlaw37.CopiesAltered'. -/
def copiesAlteredUptoCard : Claim7 := { stood := { row := copiesAlteredUptoRow, standIns := [], harness := (true, "b060875bddf2631fbf72c2251c236a7c1e21e46c201dff969b160f11293e7356"), looks := false }, kinds := [], alts := [], laidByText := true, laidKinds := [.data], laidTests := true, laidLooks := .later }
def CopiesAlteredUptoCardSaid : Prop := Claim7.holds Tryz.pinned (.plain (OpenSpec.upto copiesAlteredSpec)) copiesAlteredUptoCard

/-- THE SECOND FORM's CARD OF 'priorartlaw37.CopiesChecks'. -/
def copiesChecksUptoCard : Claim7 := { stood := { row := copiesChecksUptoRow, standIns := [], harness := (true, "b060875bddf2631fbf72c2251c236a7c1e21e46c201dff969b160f11293e7356"), looks := false }, kinds := [], alts := [], laidByText := true, laidKinds := [.data], laidTests := true, laidLooks := .later }
def CopiesChecksUptoCardSaid : Prop := Claim7.holds Tryz.pinned (.plain (OpenSpec.upto copiesChecksSpec)) copiesChecksUptoCard

/-- THE SECOND FORM's CARD OF 'priorartlaw37.CopiesSalts'. -/
def copiesSaltsUptoCard : Claim7 := { stood := { row := copiesSaltsUptoRow, standIns := [], harness := (true, "b060875bddf2631fbf72c2251c236a7c1e21e46c201dff969b160f11293e7356"), looks := false }, kinds := [], alts := [], laidByText := true, laidKinds := [.data], laidTests := true, laidLooks := .later }
def CopiesSaltsUptoCardSaid : Prop := Claim7.holds Tryz.pinned (.plain (OpenSpec.upto copiesSaltsSpec)) copiesSaltsUptoCard

/-- THE SECOND FORM's CARD OF 'priorartlaw37.CopiesGenuine'. -/
def copiesGenuineUptoCard : Claim7 := { stood := { row := copiesGenuineUptoRow, standIns := [], harness := (true, "b060875bddf2631fbf72c2251c236a7c1e21e46c201dff969b160f11293e7356"), looks := false }, kinds := [], alts := [], laidByText := true, laidKinds := [.data], laidTests := true, laidLooks := .later }
def CopiesGenuineUptoCardSaid : Prop := Claim7.holds Tryz.pinned (.plain (OpenSpec.upto copiesGenuineSpec)) copiesGenuineUptoCard

/-- THE SECOND FORM's CARD OF 'priorartlaw37.CopiesBytes'. -/
def copiesBytesUptoCard : Claim7 := { stood := { row := copiesBytesUptoRow, standIns := [], harness := (true, "b060875bddf2631fbf72c2251c236a7c1e21e46c201dff969b160f11293e7356"), looks := false }, kinds := [], alts := [], laidByText := true, laidKinds := [.data], laidTests := true, laidLooks := .later }
def CopiesBytesUptoCardSaid : Prop := Claim7.holds Tryz.pinned (.plain (OpenSpec.upto copiesBytesSpec)) copiesBytesUptoCard
end Rows
end Go.Proofs.YtbeaijjaecaidaaGreatDoor
