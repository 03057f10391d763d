/-
  DERIVED. GIVEN WITH THE SEED: THE CARDS: each row of YtlkoipbodffcnaaGreatDoorRows.lean that lists a variable, with what it lists TIED to the program's text (the seventh form; the later family's looks); each row that meets fmt, with fmt's text TOLD by the authors' own Lean function (tested against real Go, not proved from fmt's source: count such statements apart). THE CARD IS WHAT COUNTS. Prove the row's statement (the work); the ties are given (YtlkoipbodffcnaaGreatDoorTie.lean); close each card by the builder's one call (the guide's Derived/Test/ToyasCard.lean, 'card_holds'). Laid BY PROGRAM, IN A SANDBOX (cutbox-door.mjs). By AI agents, Wed Nov 11 2026. No macro, syntax, notation, axiom, sorry.
-/
import Derived.Test.YtlkoipbodffcnaaGreatDoorRows
import GoSem.ClaimSeven
namespace Go.Proofs.YtlkoipbodffcnaaGreatDoor
namespace Rows

/-- THE TIED CARD OF 'selionlaw10.LockAgainst'. -/
def lockAgainstCard : Claim7 := { stood := { row := lockAgainstRow, standIns := [], harness := (true, "2e3324cde8081c701161c478522cc41e6a863df5a0f5d9bddc62bb8d6d379efb"), looks := true }, kinds := [], alts := [], laidByText := true, laidKinds := [.data], laidTests := true, laidLooks := .later }
def LockAgainstCardSaid : Prop := Claim7.holds Tryz.pinned (.plain (OpenSpec.ofChange lockAgainstSpec)) lockAgainstCard

/-- THE TIED CARD OF 'selionlaw10.LockOwn'. -/
def lockOwnCard : Claim7 := { stood := { row := lockOwnRow, standIns := [], harness := (true, "2e3324cde8081c701161c478522cc41e6a863df5a0f5d9bddc62bb8d6d379efb"), looks := true }, kinds := [], alts := [], laidByText := true, laidKinds := [.data], laidTests := true, laidLooks := .later }
def LockOwnCardSaid : Prop := Claim7.holds Tryz.pinned (.plain (OpenSpec.ofChange lockOwnSpec)) lockOwnCard

/-- THE TIED CARD OF 'selionlaw10.LockMore'. -/
def lockMoreCard : Claim7 := { stood := { row := lockMoreRow, standIns := [], harness := (true, "2e3324cde8081c701161c478522cc41e6a863df5a0f5d9bddc62bb8d6d379efb"), looks := true }, kinds := [], alts := [], laidByText := true, laidKinds := [.data], laidTests := true, laidLooks := .later }
def LockMoreCardSaid : Prop := Claim7.holds Tryz.pinned (.plain (OpenSpec.ofChange lockMoreSpec)) lockMoreCard

/-- THE TIED CARD OF 'selionlaw10.LockPlays'. -/
def lockPlaysCard : Claim7 := { stood := { row := lockPlaysRow, standIns := [], harness := (true, "2e3324cde8081c701161c478522cc41e6a863df5a0f5d9bddc62bb8d6d379efb"), looks := true }, kinds := [], alts := [], laidByText := true, laidKinds := [.data], laidTests := true, laidLooks := .later }
def LockPlaysCardSaid : Prop := Claim7.holds Tryz.pinned (.plain (OpenSpec.ofChange lockPlaysSpec)) lockPlaysCard

/-- THE TIED CARD OF 'selionlaw10.LockFreeze'. -/
def lockFreezeCard : Claim7 := { stood := { row := lockFreezeRow, standIns := [], harness := (true, "2e3324cde8081c701161c478522cc41e6a863df5a0f5d9bddc62bb8d6d379efb"), looks := true }, kinds := [], alts := [], laidByText := true, laidKinds := [.data], laidTests := true, laidLooks := .later }
def LockFreezeCardSaid : Prop := Claim7.holds Tryz.pinned (.plain (OpenSpec.ofChange lockFreezeSpec)) lockFreezeCard

/-- THE TIED CARD OF 'selionlaw11.PlanHas'. -/
def planHasCard : Claim7 := { stood := { row := planHasRow, standIns := [], harness := (true, "2e3324cde8081c701161c478522cc41e6a863df5a0f5d9bddc62bb8d6d379efb"), looks := true }, kinds := [], alts := [], laidByText := true, laidKinds := [.data], laidTests := true, laidLooks := .later }
def PlanHasCardSaid : Prop := Claim7.holds Tryz.pinned (.plain (OpenSpec.ofChange planHasSpec)) planHasCard

/-- THE TIED CARD OF 'selionlaw11.PlanSums'. -/
def planSumsCard : Claim7 := { stood := { row := planSumsRow, standIns := [], harness := (true, "2e3324cde8081c701161c478522cc41e6a863df5a0f5d9bddc62bb8d6d379efb"), looks := true }, kinds := [], alts := [], laidByText := true, laidKinds := [.data], laidTests := true, laidLooks := .later }
def PlanSumsCardSaid : Prop := Claim7.holds Tryz.pinned (.plain (OpenSpec.ofChange planSumsSpec)) planSumsCard

/-- THE TIED CARD OF 'selionlaw11.PlanMeets'. -/
def planMeetsCard : Claim7 := { stood := { row := planMeetsRow, standIns := [], harness := (true, "2e3324cde8081c701161c478522cc41e6a863df5a0f5d9bddc62bb8d6d379efb"), looks := true }, kinds := [], alts := [], laidByText := true, laidKinds := [.data], laidTests := true, laidLooks := .later }
def PlanMeetsCardSaid : Prop := Claim7.holds Tryz.pinned (.plain (OpenSpec.ofChange planMeetsSpec)) planMeetsCard

/-- THE TIED CARD OF 'selionlaw11.PlanCells'. -/
def planCellsCard : Claim7 := { stood := { row := planCellsRow, standIns := [], harness := (true, "2e3324cde8081c701161c478522cc41e6a863df5a0f5d9bddc62bb8d6d379efb"), looks := true }, kinds := [], alts := [], laidByText := true, laidKinds := [.data], laidTests := true, laidLooks := .later }
def PlanCellsCardSaid : Prop := Claim7.holds Tryz.pinned (.plain (OpenSpec.ofChange planCellsSpec)) planCellsCard

/-- THE TIED CARD OF 'selionlaw11.PlanBoxes'. -/
def planBoxesCard : Claim7 := { stood := { row := planBoxesRow, standIns := [], harness := (true, "2e3324cde8081c701161c478522cc41e6a863df5a0f5d9bddc62bb8d6d379efb"), looks := true }, kinds := [], alts := [], laidByText := true, laidKinds := [.data], laidTests := true, laidLooks := .later }
def PlanBoxesCardSaid : Prop := Claim7.holds Tryz.pinned (.plain (OpenSpec.ofChange planBoxesSpec)) planBoxesCard

/-- THE SECOND FORM's CARD OF 'selionlaw10.LockAgainst'. -/
def lockAgainstUptoCard : Claim7 := { stood := { row := lockAgainstUptoRow, standIns := [], harness := (true, "2e3324cde8081c701161c478522cc41e6a863df5a0f5d9bddc62bb8d6d379efb"), looks := true }, kinds := [], alts := [], laidByText := true, laidKinds := [.data], laidTests := true, laidLooks := .later }
def LockAgainstUptoCardSaid : Prop := Claim7.holds Tryz.pinned (.plain (OpenSpec.upto lockAgainstSpec)) lockAgainstUptoCard

/-- THE SECOND FORM's CARD OF 'selionlaw10.LockOwn'. -/
def lockOwnUptoCard : Claim7 := { stood := { row := lockOwnUptoRow, standIns := [], harness := (true, "2e3324cde8081c701161c478522cc41e6a863df5a0f5d9bddc62bb8d6d379efb"), looks := true }, kinds := [], alts := [], laidByText := true, laidKinds := [.data], laidTests := true, laidLooks := .later }
def LockOwnUptoCardSaid : Prop := Claim7.holds Tryz.pinned (.plain (OpenSpec.upto lockOwnSpec)) lockOwnUptoCard

/-- THE SECOND FORM's CARD OF 'selionlaw10.LockMore'. -/
def lockMoreUptoCard : Claim7 := { stood := { row := lockMoreUptoRow, standIns := [], harness := (true, "2e3324cde8081c701161c478522cc41e6a863df5a0f5d9bddc62bb8d6d379efb"), looks := true }, kinds := [], alts := [], laidByText := true, laidKinds := [.data], laidTests := true, laidLooks := .later }
def LockMoreUptoCardSaid : Prop := Claim7.holds Tryz.pinned (.plain (OpenSpec.upto lockMoreSpec)) lockMoreUptoCard

/-- THE SECOND FORM's CARD OF 'selionlaw10.LockPlays'. -/
def lockPlaysUptoCard : Claim7 := { stood := { row := lockPlaysUptoRow, standIns := [], harness := (true, "2e3324cde8081c701161c478522cc41e6a863df5a0f5d9bddc62bb8d6d379efb"), looks := true }, kinds := [], alts := [], laidByText := true, laidKinds := [.data], laidTests := true, laidLooks := .later }
def LockPlaysUptoCardSaid : Prop := Claim7.holds Tryz.pinned (.plain (OpenSpec.upto lockPlaysSpec)) lockPlaysUptoCard

/-- THE SECOND FORM's CARD OF 'selionlaw10.LockFreeze'. -/
def lockFreezeUptoCard : Claim7 := { stood := { row := lockFreezeUptoRow, standIns := [], harness := (true, "2e3324cde8081c701161c478522cc41e6a863df5a0f5d9bddc62bb8d6d379efb"), looks := true }, kinds := [], alts := [], laidByText := true, laidKinds := [.data], laidTests := true, laidLooks := .later }
def LockFreezeUptoCardSaid : Prop := Claim7.holds Tryz.pinned (.plain (OpenSpec.upto lockFreezeSpec)) lockFreezeUptoCard

/-- THE SECOND FORM's CARD OF 'selionlaw11.PlanHas'. -/
def planHasUptoCard : Claim7 := { stood := { row := planHasUptoRow, standIns := [], harness := (true, "2e3324cde8081c701161c478522cc41e6a863df5a0f5d9bddc62bb8d6d379efb"), looks := true }, kinds := [], alts := [], laidByText := true, laidKinds := [.data], laidTests := true, laidLooks := .later }
def PlanHasUptoCardSaid : Prop := Claim7.holds Tryz.pinned (.plain (OpenSpec.upto planHasSpec)) planHasUptoCard

/-- THE SECOND FORM's CARD OF 'selionlaw11.PlanSums'. -/
def planSumsUptoCard : Claim7 := { stood := { row := planSumsUptoRow, standIns := [], harness := (true, "2e3324cde8081c701161c478522cc41e6a863df5a0f5d9bddc62bb8d6d379efb"), looks := true }, kinds := [], alts := [], laidByText := true, laidKinds := [.data], laidTests := true, laidLooks := .later }
def PlanSumsUptoCardSaid : Prop := Claim7.holds Tryz.pinned (.plain (OpenSpec.upto planSumsSpec)) planSumsUptoCard

/-- THE SECOND FORM's CARD OF 'selionlaw11.PlanMeets'. -/
def planMeetsUptoCard : Claim7 := { stood := { row := planMeetsUptoRow, standIns := [], harness := (true, "2e3324cde8081c701161c478522cc41e6a863df5a0f5d9bddc62bb8d6d379efb"), looks := true }, kinds := [], alts := [], laidByText := true, laidKinds := [.data], laidTests := true, laidLooks := .later }
def PlanMeetsUptoCardSaid : Prop := Claim7.holds Tryz.pinned (.plain (OpenSpec.upto planMeetsSpec)) planMeetsUptoCard

/-- THE SECOND FORM's CARD OF 'selionlaw11.PlanCells'. -/
def planCellsUptoCard : Claim7 := { stood := { row := planCellsUptoRow, standIns := [], harness := (true, "2e3324cde8081c701161c478522cc41e6a863df5a0f5d9bddc62bb8d6d379efb"), looks := true }, kinds := [], alts := [], laidByText := true, laidKinds := [.data], laidTests := true, laidLooks := .later }
def PlanCellsUptoCardSaid : Prop := Claim7.holds Tryz.pinned (.plain (OpenSpec.upto planCellsSpec)) planCellsUptoCard

/-- THE SECOND FORM's CARD OF 'selionlaw11.PlanBoxes'. -/
def planBoxesUptoCard : Claim7 := { stood := { row := planBoxesUptoRow, standIns := [], harness := (true, "2e3324cde8081c701161c478522cc41e6a863df5a0f5d9bddc62bb8d6d379efb"), looks := true }, kinds := [], alts := [], laidByText := true, laidKinds := [.data], laidTests := true, laidLooks := .later }
def PlanBoxesUptoCardSaid : Prop := Claim7.holds Tryz.pinned (.plain (OpenSpec.upto planBoxesSpec)) planBoxesUptoCard
end Rows
end Go.Proofs.YtlkoipbodffcnaaGreatDoor
