/-
  DERIVED. GIVEN WITH THE SEED: THE CARDS: each row of YtmdielggbailgaaGreatDoorRows.lean that lists a variable, with what it lists TIED to the program's text (the seventh form; the later family's looks); each row that meets fmt, with fmt's text TOLD by the authors' own Lean function (tested against real Go, not proved from fmt's source: count such statements apart). THE CARD IS WHAT COUNTS. Prove the row's statement (the work); the ties are given (YtmdielggbailgaaGreatDoorTie.lean); close each card by the builder's one call (the guide's Derived/Test/ToyasCard.lean, 'card_holds'). Laid BY PROGRAM, IN A SANDBOX (cutbox-door.mjs). By AI agents, Wed Nov 11 2026. No macro, syntax, notation, axiom, sorry.
-/
import Derived.Test.YtmdielggbailgaaGreatDoorRows
import GoSem.ClaimSeven
namespace Go.Proofs.YtmdielggbailgaaGreatDoor
namespace Rows

/-- THE TIED CARD OF 'selionlaw15.EngineFull'. -/
def engineFullCard : Claim7 := { stood := { row := engineFullRow, standIns := [], harness := (true, "3475fc5c4d2cab280479d09544973c10bf6e32eb5dc75f47dad4737303183d15"), looks := true }, kinds := [], alts := [], laidByText := true, laidKinds := [.data], laidTests := true, laidLooks := .later }
def EngineFullCardSaid : Prop := Claim7.holds Tryz.pinned (.plain (OpenSpec.ofChange engineFullSpec)) engineFullCard

/-- THE TIED CARD OF 'selionlaw12.TxnPoint'. -/
def txnPointCard : Claim7 := { stood := { row := txnPointRow, standIns := [], harness := (true, "3475fc5c4d2cab280479d09544973c10bf6e32eb5dc75f47dad4737303183d15"), looks := true }, kinds := [], alts := [], laidByText := true, laidKinds := [.data, .data, .data, .data], laidTests := true, laidLooks := .later }
def TxnPointCardSaid : Prop := Claim7.holds Tryz.pinned (.plain (OpenSpec.ofChange txnPointSpec)) txnPointCard

/-- THE TIED CARD OF 'selionlaw12.TxnSafe'. -/
def txnSafeCard : Claim7 := { stood := { row := txnSafeRow, standIns := [], harness := (true, "3475fc5c4d2cab280479d09544973c10bf6e32eb5dc75f47dad4737303183d15"), looks := true }, kinds := [], alts := [], laidByText := true, laidKinds := [.data, .data, .data, .data], laidTests := true, laidLooks := .later }
def TxnSafeCardSaid : Prop := Claim7.holds Tryz.pinned (.plain (OpenSpec.ofChange txnSafeSpec)) txnSafeCard

/-- THE TIED CARD OF 'selionlaw12.TxnSnap'. -/
def txnSnapCard : Claim7 := { stood := { row := txnSnapRow, standIns := [], harness := (true, "3475fc5c4d2cab280479d09544973c10bf6e32eb5dc75f47dad4737303183d15"), looks := true }, kinds := [], alts := [], laidByText := true, laidKinds := [.data, .data, .data, .data], laidTests := true, laidLooks := .later }
def TxnSnapCardSaid : Prop := Claim7.holds Tryz.pinned (.plain (OpenSpec.ofChange txnSnapSpec)) txnSnapCard

/-- THE TIED CARD OF 'selionlaw12.TxnPurged'. -/
def txnPurgedCard : Claim7 := { stood := { row := txnPurgedRow, standIns := [], harness := (true, "3475fc5c4d2cab280479d09544973c10bf6e32eb5dc75f47dad4737303183d15"), looks := true }, kinds := [], alts := [], laidByText := true, laidKinds := [.data, .data, .data, .data], laidTests := true, laidLooks := .later }
def TxnPurgedCardSaid : Prop := Claim7.holds Tryz.pinned (.plain (OpenSpec.ofChange txnPurgedSpec)) txnPurgedCard

/-- THE TIED CARD OF 'selionlaw12.TxnOwn'. -/
def txnOwnCard : Claim7 := { stood := { row := txnOwnRow, standIns := [], harness := (true, "3475fc5c4d2cab280479d09544973c10bf6e32eb5dc75f47dad4737303183d15"), looks := true }, kinds := [], alts := [], laidByText := true, laidKinds := [.data, .data, .data, .data], laidTests := true, laidLooks := .later }
def TxnOwnCardSaid : Prop := Claim7.holds Tryz.pinned (.plain (OpenSpec.ofChange txnOwnSpec)) txnOwnCard

/-- THE TIED CARD OF 'selionlaw12.TxnPlays'. -/
def txnPlaysCard : Claim7 := { stood := { row := txnPlaysRow, standIns := [], harness := (true, "3475fc5c4d2cab280479d09544973c10bf6e32eb5dc75f47dad4737303183d15"), looks := true }, kinds := [], alts := [], laidByText := true, laidKinds := [.data, .data, .data, .data], laidTests := true, laidLooks := .later }
def TxnPlaysCardSaid : Prop := Claim7.holds Tryz.pinned (.plain (OpenSpec.ofChange txnPlaysSpec)) txnPlaysCard

/-- THE TIED CARD OF 'selionlaw12.TxnLate'. -/
def txnLateCard : Claim7 := { stood := { row := txnLateRow, standIns := [], harness := (true, "3475fc5c4d2cab280479d09544973c10bf6e32eb5dc75f47dad4737303183d15"), looks := true }, kinds := [], alts := [], laidByText := true, laidKinds := [.data, .data, .data, .data], laidTests := true, laidLooks := .later }
def TxnLateCardSaid : Prop := Claim7.holds Tryz.pinned (.plain (OpenSpec.ofChange txnLateSpec)) txnLateCard

/-- THE TIED CARD OF 'selionlaw12.TxnErrors'. -/
def txnErrorsCard : Claim7 := { stood := { row := txnErrorsRow, standIns := [], harness := (true, "3475fc5c4d2cab280479d09544973c10bf6e32eb5dc75f47dad4737303183d15"), looks := true }, kinds := [], alts := [], laidByText := true, laidKinds := [.data, .data, .data, .data], laidTests := true, laidLooks := .later }
def TxnErrorsCardSaid : Prop := Claim7.holds Tryz.pinned (.plain (OpenSpec.ofChange txnErrorsSpec)) txnErrorsCard

/-- THE TIED CARD OF 'selionlaw12.TxnAborts'. -/
def txnAbortsCard : Claim7 := { stood := { row := txnAbortsRow, standIns := [], harness := (true, "3475fc5c4d2cab280479d09544973c10bf6e32eb5dc75f47dad4737303183d15"), looks := true }, kinds := [], alts := [], laidByText := true, laidKinds := [.data, .data, .data, .data], laidTests := true, laidLooks := .later }
def TxnAbortsCardSaid : Prop := Claim7.holds Tryz.pinned (.plain (OpenSpec.ofChange txnAbortsSpec)) txnAbortsCard

/-- THE TIED CARD OF 'selionlaw15.EnginePlays'. -/
def enginePlaysCard : Claim7 := { stood := { row := enginePlaysRow, standIns := [], harness := (true, "3475fc5c4d2cab280479d09544973c10bf6e32eb5dc75f47dad4737303183d15"), looks := true }, kinds := [], alts := [], laidByText := true, laidKinds := [.data, .data, .data, .data], laidTests := true, laidLooks := .later }
def EnginePlaysCardSaid : Prop := Claim7.holds Tryz.pinned (.plain (OpenSpec.ofChange enginePlaysSpec)) enginePlaysCard

/-- THE TIED CARD OF 'selionlaw15.EngineAgain'. -/
def engineAgainCard : Claim7 := { stood := { row := engineAgainRow, standIns := [], harness := (true, "3475fc5c4d2cab280479d09544973c10bf6e32eb5dc75f47dad4737303183d15"), looks := true }, kinds := [], alts := [], laidByText := true, laidKinds := [.data, .data, .data, .data], laidTests := true, laidLooks := .later }
def EngineAgainCardSaid : Prop := Claim7.holds Tryz.pinned (.plain (OpenSpec.ofChange engineAgainSpec)) engineAgainCard

/-- THE TIED CARD OF 'selionlaw15.EngineChecks'. -/
def engineChecksCard : Claim7 := { stood := { row := engineChecksRow, standIns := [], harness := (true, "3475fc5c4d2cab280479d09544973c10bf6e32eb5dc75f47dad4737303183d15"), looks := true }, kinds := [], alts := [], laidByText := true, laidKinds := [.data, .data, .data, .data], laidTests := true, laidLooks := .later }
def EngineChecksCardSaid : Prop := Claim7.holds Tryz.pinned (.plain (OpenSpec.ofChange engineChecksSpec)) engineChecksCard

/-- THE SECOND FORM's CARD OF 'selionlaw15.EngineFull'. -/
def engineFullUptoCard : Claim7 := { stood := { row := engineFullUptoRow, standIns := [], harness := (true, "3475fc5c4d2cab280479d09544973c10bf6e32eb5dc75f47dad4737303183d15"), looks := true }, kinds := [], alts := [], laidByText := true, laidKinds := [.data], laidTests := true, laidLooks := .later }
def EngineFullUptoCardSaid : Prop := Claim7.holds Tryz.pinned (.plain (OpenSpec.upto engineFullSpec)) engineFullUptoCard

/-- THE SECOND FORM's CARD OF 'selionlaw12.TxnPoint'. -/
def txnPointUptoCard : Claim7 := { stood := { row := txnPointUptoRow, standIns := [], harness := (true, "3475fc5c4d2cab280479d09544973c10bf6e32eb5dc75f47dad4737303183d15"), looks := true }, kinds := [], alts := [], laidByText := true, laidKinds := [.data, .data, .data, .data], laidTests := true, laidLooks := .later }
def TxnPointUptoCardSaid : Prop := Claim7.holds Tryz.pinned (.plain (OpenSpec.upto txnPointSpec)) txnPointUptoCard

/-- THE SECOND FORM's CARD OF 'selionlaw12.TxnSafe'. -/
def txnSafeUptoCard : Claim7 := { stood := { row := txnSafeUptoRow, standIns := [], harness := (true, "3475fc5c4d2cab280479d09544973c10bf6e32eb5dc75f47dad4737303183d15"), looks := true }, kinds := [], alts := [], laidByText := true, laidKinds := [.data, .data, .data, .data], laidTests := true, laidLooks := .later }
def TxnSafeUptoCardSaid : Prop := Claim7.holds Tryz.pinned (.plain (OpenSpec.upto txnSafeSpec)) txnSafeUptoCard

/-- THE SECOND FORM's CARD OF 'selionlaw12.TxnSnap'. -/
def txnSnapUptoCard : Claim7 := { stood := { row := txnSnapUptoRow, standIns := [], harness := (true, "3475fc5c4d2cab280479d09544973c10bf6e32eb5dc75f47dad4737303183d15"), looks := true }, kinds := [], alts := [], laidByText := true, laidKinds := [.data, .data, .data, .data], laidTests := true, laidLooks := .later }
def TxnSnapUptoCardSaid : Prop := Claim7.holds Tryz.pinned (.plain (OpenSpec.upto txnSnapSpec)) txnSnapUptoCard

/-- THE SECOND FORM's CARD OF 'selionlaw12.TxnPurged'. -/
def txnPurgedUptoCard : Claim7 := { stood := { row := txnPurgedUptoRow, standIns := [], harness := (true, "3475fc5c4d2cab280479d09544973c10bf6e32eb5dc75f47dad4737303183d15"), looks := true }, kinds := [], alts := [], laidByText := true, laidKinds := [.data, .data, .data, .data], laidTests := true, laidLooks := .later }
def TxnPurgedUptoCardSaid : Prop := Claim7.holds Tryz.pinned (.plain (OpenSpec.upto txnPurgedSpec)) txnPurgedUptoCard

/-- THE SECOND FORM's CARD OF 'selionlaw12.TxnOwn'. -/
def txnOwnUptoCard : Claim7 := { stood := { row := txnOwnUptoRow, standIns := [], harness := (true, "3475fc5c4d2cab280479d09544973c10bf6e32eb5dc75f47dad4737303183d15"), looks := true }, kinds := [], alts := [], laidByText := true, laidKinds := [.data, .data, .data, .data], laidTests := true, laidLooks := .later }
def TxnOwnUptoCardSaid : Prop := Claim7.holds Tryz.pinned (.plain (OpenSpec.upto txnOwnSpec)) txnOwnUptoCard

/-- THE SECOND FORM's CARD OF 'selionlaw12.TxnPlays'. -/
def txnPlaysUptoCard : Claim7 := { stood := { row := txnPlaysUptoRow, standIns := [], harness := (true, "3475fc5c4d2cab280479d09544973c10bf6e32eb5dc75f47dad4737303183d15"), looks := true }, kinds := [], alts := [], laidByText := true, laidKinds := [.data, .data, .data, .data], laidTests := true, laidLooks := .later }
def TxnPlaysUptoCardSaid : Prop := Claim7.holds Tryz.pinned (.plain (OpenSpec.upto txnPlaysSpec)) txnPlaysUptoCard

/-- THE SECOND FORM's CARD OF 'selionlaw12.TxnLate'. -/
def txnLateUptoCard : Claim7 := { stood := { row := txnLateUptoRow, standIns := [], harness := (true, "3475fc5c4d2cab280479d09544973c10bf6e32eb5dc75f47dad4737303183d15"), looks := true }, kinds := [], alts := [], laidByText := true, laidKinds := [.data, .data, .data, .data], laidTests := true, laidLooks := .later }
def TxnLateUptoCardSaid : Prop := Claim7.holds Tryz.pinned (.plain (OpenSpec.upto txnLateSpec)) txnLateUptoCard

/-- THE SECOND FORM's CARD OF 'selionlaw12.TxnErrors'. -/
def txnErrorsUptoCard : Claim7 := { stood := { row := txnErrorsUptoRow, standIns := [], harness := (true, "3475fc5c4d2cab280479d09544973c10bf6e32eb5dc75f47dad4737303183d15"), looks := true }, kinds := [], alts := [], laidByText := true, laidKinds := [.data, .data, .data, .data], laidTests := true, laidLooks := .later }
def TxnErrorsUptoCardSaid : Prop := Claim7.holds Tryz.pinned (.plain (OpenSpec.upto txnErrorsSpec)) txnErrorsUptoCard

/-- THE SECOND FORM's CARD OF 'selionlaw12.TxnAborts'. -/
def txnAbortsUptoCard : Claim7 := { stood := { row := txnAbortsUptoRow, standIns := [], harness := (true, "3475fc5c4d2cab280479d09544973c10bf6e32eb5dc75f47dad4737303183d15"), looks := true }, kinds := [], alts := [], laidByText := true, laidKinds := [.data, .data, .data, .data], laidTests := true, laidLooks := .later }
def TxnAbortsUptoCardSaid : Prop := Claim7.holds Tryz.pinned (.plain (OpenSpec.upto txnAbortsSpec)) txnAbortsUptoCard

/-- THE SECOND FORM's CARD OF 'selionlaw15.EnginePlays'. -/
def enginePlaysUptoCard : Claim7 := { stood := { row := enginePlaysUptoRow, standIns := [], harness := (true, "3475fc5c4d2cab280479d09544973c10bf6e32eb5dc75f47dad4737303183d15"), looks := true }, kinds := [], alts := [], laidByText := true, laidKinds := [.data, .data, .data, .data], laidTests := true, laidLooks := .later }
def EnginePlaysUptoCardSaid : Prop := Claim7.holds Tryz.pinned (.plain (OpenSpec.upto enginePlaysSpec)) enginePlaysUptoCard

/-- THE SECOND FORM's CARD OF 'selionlaw15.EngineAgain'. -/
def engineAgainUptoCard : Claim7 := { stood := { row := engineAgainUptoRow, standIns := [], harness := (true, "3475fc5c4d2cab280479d09544973c10bf6e32eb5dc75f47dad4737303183d15"), looks := true }, kinds := [], alts := [], laidByText := true, laidKinds := [.data, .data, .data, .data], laidTests := true, laidLooks := .later }
def EngineAgainUptoCardSaid : Prop := Claim7.holds Tryz.pinned (.plain (OpenSpec.upto engineAgainSpec)) engineAgainUptoCard

/-- THE SECOND FORM's CARD OF 'selionlaw15.EngineChecks'. -/
def engineChecksUptoCard : Claim7 := { stood := { row := engineChecksUptoRow, standIns := [], harness := (true, "3475fc5c4d2cab280479d09544973c10bf6e32eb5dc75f47dad4737303183d15"), looks := true }, kinds := [], alts := [], laidByText := true, laidKinds := [.data, .data, .data, .data], laidTests := true, laidLooks := .later }
def EngineChecksUptoCardSaid : Prop := Claim7.holds Tryz.pinned (.plain (OpenSpec.upto engineChecksSpec)) engineChecksUptoCard
end Rows
end Go.Proofs.YtmdielggbailgaaGreatDoor
