/-
  DERIVED. GIVEN WITH THE SEED: THE CARDS: each row of YtkcljmaklingoaaGreatDoorRows.lean that lists a variable, with what it lists TIED to the program's text (the seventh form; the later family's looks); each row that meets fmt, with fmt's text TOLD by the authors' own Lean function (tested against real Go, not proved from fmt's source: count such statements apart). THE CARD IS WHAT COUNTS. Prove the row's statement (the work); the ties are given (YtkcljmaklingoaaGreatDoorTie.lean); close each card by the builder's one call (the guide's Derived/Test/ToyasCard.lean, 'card_holds'). Laid BY PROGRAM, IN A SANDBOX (cutbox-door.mjs). By AI agents, Wed Nov 11 2026. No macro, syntax, notation, axiom, sorry.
-/
import Derived.Test.YtkcljmaklingoaaGreatDoorRows
import GoSem.ClaimSeven
namespace Go.Proofs.YtkcljmaklingoaaGreatDoor
namespace Rows

/-- THE TIED CARD OF 'selionlaw13.RecordValues'. -/
def recordValuesCard : Claim7 := { stood := { row := recordValuesRow, standIns := [], harness := (true, "99ae6f6da1b4a35ead272060d6f09c8c335d6a54017f029c42f26f4c4974eb8d"), looks := true }, kinds := [], alts := [], laidByText := true, laidKinds := [.data], laidTests := true, laidLooks := .later }
def RecordValuesCardSaid : Prop := Claim7.holds Tryz.pinned (.plain (OpenSpec.ofChange recordValuesSpec)) recordValuesCard

/-- THE TIED CARD OF 'selionlaw13.RecordRaw'. -/
def recordRawCard : Claim7 := { stood := { row := recordRawRow, standIns := [], harness := (true, "99ae6f6da1b4a35ead272060d6f09c8c335d6a54017f029c42f26f4c4974eb8d"), looks := true }, kinds := [], alts := [], laidByText := true, laidKinds := [.data], laidTests := true, laidLooks := .later }
def RecordRawCardSaid : Prop := Claim7.holds Tryz.pinned (.plain (OpenSpec.ofChange recordRawSpec)) recordRawCard

/-- THE TIED CARD OF 'selionlaw13.RecordApart'. -/
def recordApartCard : Claim7 := { stood := { row := recordApartRow, standIns := [], harness := (true, "99ae6f6da1b4a35ead272060d6f09c8c335d6a54017f029c42f26f4c4974eb8d"), looks := true }, kinds := [], alts := [], laidByText := true, laidKinds := [.data], laidTests := true, laidLooks := .later }
def RecordApartCardSaid : Prop := Claim7.holds Tryz.pinned (.plain (OpenSpec.ofChange recordApartSpec)) recordApartCard

/-- THE TIED CARD OF 'selionlaw13.RecordBack'. -/
def recordBackCard : Claim7 := { stood := { row := recordBackRow, standIns := [], harness := (true, "99ae6f6da1b4a35ead272060d6f09c8c335d6a54017f029c42f26f4c4974eb8d"), looks := true }, kinds := [], alts := [], laidByText := true, laidKinds := [.data], laidTests := true, laidLooks := .later }
def RecordBackCardSaid : Prop := Claim7.holds Tryz.pinned (.plain (OpenSpec.ofChange recordBackSpec)) recordBackCard

/-- THE TIED CARD OF 'selionlaw13.RecordSpoilt'. -/
def recordSpoiltCard : Claim7 := { stood := { row := recordSpoiltRow, standIns := [], harness := (true, "99ae6f6da1b4a35ead272060d6f09c8c335d6a54017f029c42f26f4c4974eb8d"), looks := true }, kinds := [], alts := [], laidByText := true, laidKinds := [.data], laidTests := true, laidLooks := .later }
def RecordSpoiltCardSaid : Prop := Claim7.holds Tryz.pinned (.plain (OpenSpec.ofChange recordSpoiltSpec)) recordSpoiltCard

/-- THE TIED CARD OF 'selionlaw14.ImageBack'. -/
def imageBackCard : Claim7 := { stood := { row := imageBackRow, standIns := [], harness := (true, "99ae6f6da1b4a35ead272060d6f09c8c335d6a54017f029c42f26f4c4974eb8d"), looks := true }, kinds := [], alts := [], laidByText := true, laidKinds := [.data], laidTests := true, laidLooks := .later }
def ImageBackCardSaid : Prop := Claim7.holds Tryz.pinned (.plain (OpenSpec.ofChange imageBackSpec)) imageBackCard

/-- THE TIED CARD OF 'selionlaw14.ImageLate'. -/
def imageLateCard : Claim7 := { stood := { row := imageLateRow, standIns := [], harness := (true, "99ae6f6da1b4a35ead272060d6f09c8c335d6a54017f029c42f26f4c4974eb8d"), looks := true }, kinds := [], alts := [], laidByText := true, laidKinds := [.data], laidTests := true, laidLooks := .later }
def ImageLateCardSaid : Prop := Claim7.holds Tryz.pinned (.plain (OpenSpec.ofChange imageLateSpec)) imageLateCard

/-- THE TIED CARD OF 'selionlaw14.ImageRaw'. -/
def imageRawCard : Claim7 := { stood := { row := imageRawRow, standIns := [], harness := (true, "99ae6f6da1b4a35ead272060d6f09c8c335d6a54017f029c42f26f4c4974eb8d"), looks := true }, kinds := [], alts := [], laidByText := true, laidKinds := [.data], laidTests := true, laidLooks := .later }
def ImageRawCardSaid : Prop := Claim7.holds Tryz.pinned (.plain (OpenSpec.ofChange imageRawSpec)) imageRawCard

/-- THE TIED CARD OF 'selionlaw14.ImageOrder'. -/
def imageOrderCard : Claim7 := { stood := { row := imageOrderRow, standIns := [], harness := (true, "99ae6f6da1b4a35ead272060d6f09c8c335d6a54017f029c42f26f4c4974eb8d"), looks := true }, kinds := [], alts := [], laidByText := true, laidKinds := [.data], laidTests := true, laidLooks := .later }
def ImageOrderCardSaid : Prop := Claim7.holds Tryz.pinned (.plain (OpenSpec.ofChange imageOrderSpec)) imageOrderCard

/-- THE SECOND FORM's CARD OF 'selionlaw13.RecordValues'. -/
def recordValuesUptoCard : Claim7 := { stood := { row := recordValuesUptoRow, standIns := [], harness := (true, "99ae6f6da1b4a35ead272060d6f09c8c335d6a54017f029c42f26f4c4974eb8d"), looks := true }, kinds := [], alts := [], laidByText := true, laidKinds := [.data], laidTests := true, laidLooks := .later }
def RecordValuesUptoCardSaid : Prop := Claim7.holds Tryz.pinned (.plain (OpenSpec.upto recordValuesSpec)) recordValuesUptoCard

/-- THE SECOND FORM's CARD OF 'selionlaw13.RecordRaw'. -/
def recordRawUptoCard : Claim7 := { stood := { row := recordRawUptoRow, standIns := [], harness := (true, "99ae6f6da1b4a35ead272060d6f09c8c335d6a54017f029c42f26f4c4974eb8d"), looks := true }, kinds := [], alts := [], laidByText := true, laidKinds := [.data], laidTests := true, laidLooks := .later }
def RecordRawUptoCardSaid : Prop := Claim7.holds Tryz.pinned (.plain (OpenSpec.upto recordRawSpec)) recordRawUptoCard

/-- THE SECOND FORM's CARD OF 'selionlaw13.RecordApart'. -/
def recordApartUptoCard : Claim7 := { stood := { row := recordApartUptoRow, standIns := [], harness := (true, "99ae6f6da1b4a35ead272060d6f09c8c335d6a54017f029c42f26f4c4974eb8d"), looks := true }, kinds := [], alts := [], laidByText := true, laidKinds := [.data], laidTests := true, laidLooks := .later }
def RecordApartUptoCardSaid : Prop := Claim7.holds Tryz.pinned (.plain (OpenSpec.upto recordApartSpec)) recordApartUptoCard

/-- THE SECOND FORM's CARD OF 'selionlaw13.RecordBack'. -/
def recordBackUptoCard : Claim7 := { stood := { row := recordBackUptoRow, standIns := [], harness := (true, "99ae6f6da1b4a35ead272060d6f09c8c335d6a54017f029c42f26f4c4974eb8d"), looks := true }, kinds := [], alts := [], laidByText := true, laidKinds := [.data], laidTests := true, laidLooks := .later }
def RecordBackUptoCardSaid : Prop := Claim7.holds Tryz.pinned (.plain (OpenSpec.upto recordBackSpec)) recordBackUptoCard

/-- THE SECOND FORM's CARD OF 'selionlaw13.RecordSpoilt'. -/
def recordSpoiltUptoCard : Claim7 := { stood := { row := recordSpoiltUptoRow, standIns := [], harness := (true, "99ae6f6da1b4a35ead272060d6f09c8c335d6a54017f029c42f26f4c4974eb8d"), looks := true }, kinds := [], alts := [], laidByText := true, laidKinds := [.data], laidTests := true, laidLooks := .later }
def RecordSpoiltUptoCardSaid : Prop := Claim7.holds Tryz.pinned (.plain (OpenSpec.upto recordSpoiltSpec)) recordSpoiltUptoCard

/-- THE SECOND FORM's CARD OF 'selionlaw14.ImageBack'. -/
def imageBackUptoCard : Claim7 := { stood := { row := imageBackUptoRow, standIns := [], harness := (true, "99ae6f6da1b4a35ead272060d6f09c8c335d6a54017f029c42f26f4c4974eb8d"), looks := true }, kinds := [], alts := [], laidByText := true, laidKinds := [.data], laidTests := true, laidLooks := .later }
def ImageBackUptoCardSaid : Prop := Claim7.holds Tryz.pinned (.plain (OpenSpec.upto imageBackSpec)) imageBackUptoCard

/-- THE SECOND FORM's CARD OF 'selionlaw14.ImageLate'. -/
def imageLateUptoCard : Claim7 := { stood := { row := imageLateUptoRow, standIns := [], harness := (true, "99ae6f6da1b4a35ead272060d6f09c8c335d6a54017f029c42f26f4c4974eb8d"), looks := true }, kinds := [], alts := [], laidByText := true, laidKinds := [.data], laidTests := true, laidLooks := .later }
def ImageLateUptoCardSaid : Prop := Claim7.holds Tryz.pinned (.plain (OpenSpec.upto imageLateSpec)) imageLateUptoCard

/-- THE SECOND FORM's CARD OF 'selionlaw14.ImageRaw'. -/
def imageRawUptoCard : Claim7 := { stood := { row := imageRawUptoRow, standIns := [], harness := (true, "99ae6f6da1b4a35ead272060d6f09c8c335d6a54017f029c42f26f4c4974eb8d"), looks := true }, kinds := [], alts := [], laidByText := true, laidKinds := [.data], laidTests := true, laidLooks := .later }
def ImageRawUptoCardSaid : Prop := Claim7.holds Tryz.pinned (.plain (OpenSpec.upto imageRawSpec)) imageRawUptoCard

/-- THE SECOND FORM's CARD OF 'selionlaw14.ImageOrder'. -/
def imageOrderUptoCard : Claim7 := { stood := { row := imageOrderUptoRow, standIns := [], harness := (true, "99ae6f6da1b4a35ead272060d6f09c8c335d6a54017f029c42f26f4c4974eb8d"), looks := true }, kinds := [], alts := [], laidByText := true, laidKinds := [.data], laidTests := true, laidLooks := .later }
def ImageOrderUptoCardSaid : Prop := Claim7.holds Tryz.pinned (.plain (OpenSpec.upto imageOrderSpec)) imageOrderUptoCard
end Rows
end Go.Proofs.YtkcljmaklingoaaGreatDoor
