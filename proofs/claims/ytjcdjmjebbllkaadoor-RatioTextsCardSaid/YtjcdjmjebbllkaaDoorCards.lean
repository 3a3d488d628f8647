/-
  DERIVED. GIVEN WITH THE SEED: THE CARDS: each row of YtjcdjmjebbllkaaDoorRows.lean that lists a variable, with what it lists TIED to the program's text (the seventh form; the later family's looks); each row that meets fmt, with fmt's text TOLD by the authors' own Lean function (tested against real Go, not proved from fmt's source: count such statements apart). THE CARD IS WHAT COUNTS. Prove the row's statement (the work); the ties are given (YtjcdjmjebbllkaaDoorTie.lean); close each card by the builder's one call (the guide's Derived/Test/ToyasCard.lean, 'card_holds'). Laid BY PROGRAM, IN A SANDBOX (cutbox-door.mjs). By AI agents, Wed Nov 11 2026. No macro, syntax, notation, axiom, sorry.
-/
import Derived.Test.YtjcdjmjebbllkaaDoorRows
import GoSem.ClaimSeven
namespace Go.Proofs.YtjcdjmjebbllkaaDoor
namespace Rows

/-- THE TIED CARD OF 'priorartlaw03.RatioParts'. -/
def ratioPartsCard : Claim7 := { stood := { row := ratioPartsRow, standIns := [], harness := (true, "af5828684e95efdd08b2edb8ed407852e2e76d0533f629e49e89aff729672231"), looks := true }, kinds := [], alts := [], laidByText := true, laidKinds := [.data, .data, .data, .data, .sentinel, .sentinel, .pinned], laidTests := true, laidLooks := .later }
def RatioPartsCardSaid : Prop := Claim7.holds Tryd.pinned (.plain (OpenSpec.ofChange ratioPartsSpec)) ratioPartsCard

/-- THE TIED CARD OF 'priorartlaw03.RatioBetween'. -/
def ratioBetweenCard : Claim7 := { stood := { row := ratioBetweenRow, standIns := [], harness := (true, "af5828684e95efdd08b2edb8ed407852e2e76d0533f629e49e89aff729672231"), looks := true }, kinds := [], alts := [], laidByText := true, laidKinds := [.data, .data, .data, .data, .sentinel, .sentinel, .pinned], laidTests := true, laidLooks := .later }
def RatioBetweenCardSaid : Prop := Claim7.holds Tryd.pinned (.plain (OpenSpec.ofChange ratioBetweenSpec)) ratioBetweenCard

/-- THE TIED CARD OF 'priorartlaw03.RatioTexts'. -/
def ratioTextsCard : Claim7 := { stood := { row := ratioTextsRow, standIns := [], harness := (true, "af5828684e95efdd08b2edb8ed407852e2e76d0533f629e49e89aff729672231"), looks := true }, kinds := [], alts := [], laidByText := true, laidKinds := [.data, .data, .data, .data, .sentinel, .sentinel, .pinned], laidTests := true, laidLooks := .later }
def RatioTextsCardSaid : Prop := Claim7.holds Tryd.pinned (.plain (OpenSpec.ofChange ratioTextsSpec)) ratioTextsCard

/-- THE TIED CARD OF 'priorartlaw03.RatioNew'. -/
def ratioNewCard : Claim7 := { stood := { row := ratioNewRow, standIns := [], harness := (true, "af5828684e95efdd08b2edb8ed407852e2e76d0533f629e49e89aff729672231"), looks := true }, kinds := [], alts := [], laidByText := true, laidKinds := [.data, .data, .data, .data, .sentinel, .sentinel, .pinned], laidTests := true, laidLooks := .later }
def RatioNewCardSaid : Prop := Claim7.holds Tryd.pinned (.plain (OpenSpec.ofChange ratioNewSpec)) ratioNewCard

/-- THE TIED CARD OF 'priorartlaw03.RatioOps'. -/
def ratioOpsCard : Claim7 := { stood := { row := ratioOpsRow, standIns := [], harness := (true, "af5828684e95efdd08b2edb8ed407852e2e76d0533f629e49e89aff729672231"), looks := true }, kinds := [], alts := [], laidByText := true, laidKinds := [.data, .data, .data, .data, .sentinel, .sentinel, .pinned], laidTests := true, laidLooks := .later }
def RatioOpsCardSaid : Prop := Claim7.holds Tryd.pinned (.plain (OpenSpec.ofChange ratioOpsSpec)) ratioOpsCard

/-- THE TIED CARD OF 'priorartlaw03.RatioField'. -/
def ratioFieldCard : Claim7 := { stood := { row := ratioFieldRow, standIns := [], harness := (true, "af5828684e95efdd08b2edb8ed407852e2e76d0533f629e49e89aff729672231"), looks := true }, kinds := [], alts := [], laidByText := true, laidKinds := [.data, .data, .data, .data, .sentinel, .sentinel, .pinned], laidTests := true, laidLooks := .later }
def RatioFieldCardSaid : Prop := Claim7.holds Tryd.pinned (.plain (OpenSpec.ofChange ratioFieldSpec)) ratioFieldCard

/-- THE SECOND FORM's CARD OF 'priorartlaw03.RatioParts'. -/
def ratioPartsUptoCard : Claim7 := { stood := { row := ratioPartsUptoRow, standIns := [], harness := (true, "af5828684e95efdd08b2edb8ed407852e2e76d0533f629e49e89aff729672231"), looks := true }, kinds := [], alts := [], laidByText := true, laidKinds := [.data, .data, .data, .data, .sentinel, .sentinel, .pinned], laidTests := true, laidLooks := .later }
def RatioPartsUptoCardSaid : Prop := Claim7.holds Tryd.pinned (.plain (OpenSpec.upto ratioPartsSpec)) ratioPartsUptoCard

/-- THE SECOND FORM's CARD OF 'priorartlaw03.RatioBetween'. -/
def ratioBetweenUptoCard : Claim7 := { stood := { row := ratioBetweenUptoRow, standIns := [], harness := (true, "af5828684e95efdd08b2edb8ed407852e2e76d0533f629e49e89aff729672231"), looks := true }, kinds := [], alts := [], laidByText := true, laidKinds := [.data, .data, .data, .data, .sentinel, .sentinel, .pinned], laidTests := true, laidLooks := .later }
def RatioBetweenUptoCardSaid : Prop := Claim7.holds Tryd.pinned (.plain (OpenSpec.upto ratioBetweenSpec)) ratioBetweenUptoCard

/-- THE SECOND FORM's CARD OF 'priorartlaw03.RatioTexts'. -/
def ratioTextsUptoCard : Claim7 := { stood := { row := ratioTextsUptoRow, standIns := [], harness := (true, "af5828684e95efdd08b2edb8ed407852e2e76d0533f629e49e89aff729672231"), looks := true }, kinds := [], alts := [], laidByText := true, laidKinds := [.data, .data, .data, .data, .sentinel, .sentinel, .pinned], laidTests := true, laidLooks := .later }
def RatioTextsUptoCardSaid : Prop := Claim7.holds Tryd.pinned (.plain (OpenSpec.upto ratioTextsSpec)) ratioTextsUptoCard

/-- THE SECOND FORM's CARD OF 'priorartlaw03.RatioNew'. -/
def ratioNewUptoCard : Claim7 := { stood := { row := ratioNewUptoRow, standIns := [], harness := (true, "af5828684e95efdd08b2edb8ed407852e2e76d0533f629e49e89aff729672231"), looks := true }, kinds := [], alts := [], laidByText := true, laidKinds := [.data, .data, .data, .data, .sentinel, .sentinel, .pinned], laidTests := true, laidLooks := .later }
def RatioNewUptoCardSaid : Prop := Claim7.holds Tryd.pinned (.plain (OpenSpec.upto ratioNewSpec)) ratioNewUptoCard

/-- THE SECOND FORM's CARD OF 'priorartlaw03.RatioOps'. -/
def ratioOpsUptoCard : Claim7 := { stood := { row := ratioOpsUptoRow, standIns := [], harness := (true, "af5828684e95efdd08b2edb8ed407852e2e76d0533f629e49e89aff729672231"), looks := true }, kinds := [], alts := [], laidByText := true, laidKinds := [.data, .data, .data, .data, .sentinel, .sentinel, .pinned], laidTests := true, laidLooks := .later }
def RatioOpsUptoCardSaid : Prop := Claim7.holds Tryd.pinned (.plain (OpenSpec.upto ratioOpsSpec)) ratioOpsUptoCard

/-- THE SECOND FORM's CARD OF 'priorartlaw03.RatioField'. -/
def ratioFieldUptoCard : Claim7 := { stood := { row := ratioFieldUptoRow, standIns := [], harness := (true, "af5828684e95efdd08b2edb8ed407852e2e76d0533f629e49e89aff729672231"), looks := true }, kinds := [], alts := [], laidByText := true, laidKinds := [.data, .data, .data, .data, .sentinel, .sentinel, .pinned], laidTests := true, laidLooks := .later }
def RatioFieldUptoCardSaid : Prop := Claim7.holds Tryd.pinned (.plain (OpenSpec.upto ratioFieldSpec)) ratioFieldUptoCard
end Rows
end Go.Proofs.YtjcdjmjebbllkaaDoor
