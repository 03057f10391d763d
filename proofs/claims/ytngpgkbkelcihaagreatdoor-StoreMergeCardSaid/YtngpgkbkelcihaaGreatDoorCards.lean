/-
  DERIVED. GIVEN WITH THE SEED: THE CARDS: each row of YtngpgkbkelcihaaGreatDoorRows.lean that lists a variable, with what it lists TIED to the program's text (the seventh form; the later family's looks); each row that meets fmt, with fmt's text TOLD by the authors' own Lean function (tested against real Go, not proved from fmt's source: count such statements apart). THE CARD IS WHAT COUNTS. Prove the row's statement (the work); the ties are given (YtngpgkbkelcihaaGreatDoorTie.lean); close each card by the builder's one call (the guide's Derived/Test/ToyasCard.lean, 'card_holds'). Laid BY PROGRAM, IN A SANDBOX (cutbox-door.mjs). By AI agents, Wed Nov 11 2026. No macro, syntax, notation, axiom, sorry.
-/
import Derived.Test.YtngpgkbkelcihaaGreatDoorRows
import GoSem.ClaimSeven
namespace Go.Proofs.YtngpgkbkelcihaaGreatDoor
namespace Rows

/-- THE TIED CARD OF 'selionlaw08.ChainPuts'. -/
def chainPutsCard : Claim7 := { stood := { row := chainPutsRow, standIns := [], harness := (true, "bc487e81ad8ba078eadb0205c4de9c1049403425a3598a5538c52466f7cc5aed"), looks := true }, kinds := [], alts := [], laidByText := true, laidKinds := [.data], laidTests := true, laidLooks := .later }
def ChainPutsCardSaid : Prop := Claim7.holds Tryz.pinned (.plain (OpenSpec.ofChange chainPutsSpec)) chainPutsCard

/-- THE TIED CARD OF 'selionlaw08.ChainApart'. -/
def chainApartCard : Claim7 := { stood := { row := chainApartRow, standIns := [], harness := (true, "bc487e81ad8ba078eadb0205c4de9c1049403425a3598a5538c52466f7cc5aed"), looks := true }, kinds := [], alts := [], laidByText := true, laidKinds := [.data], laidTests := true, laidLooks := .later }
def ChainApartCardSaid : Prop := Claim7.holds Tryz.pinned (.plain (OpenSpec.ofChange chainApartSpec)) chainApartCard

/-- THE TIED CARD OF 'selionlaw08.ChainAt'. -/
def chainAtCard : Claim7 := { stood := { row := chainAtRow, standIns := [], harness := (true, "bc487e81ad8ba078eadb0205c4de9c1049403425a3598a5538c52466f7cc5aed"), looks := true }, kinds := [], alts := [], laidByText := true, laidKinds := [.data], laidTests := true, laidLooks := .later }
def ChainAtCardSaid : Prop := Claim7.holds Tryz.pinned (.plain (OpenSpec.ofChange chainAtSpec)) chainAtCard

/-- THE TIED CARD OF 'selionlaw08.ChainPurges'. -/
def chainPurgesCard : Claim7 := { stood := { row := chainPurgesRow, standIns := [], harness := (true, "bc487e81ad8ba078eadb0205c4de9c1049403425a3598a5538c52466f7cc5aed"), looks := true }, kinds := [], alts := [], laidByText := true, laidKinds := [.data], laidTests := true, laidLooks := .later }
def ChainPurgesCardSaid : Prop := Claim7.holds Tryz.pinned (.plain (OpenSpec.ofChange chainPurgesSpec)) chainPurgesCard

/-- THE TIED CARD OF 'selionlaw08.ChainBetween'. -/
def chainBetweenCard : Claim7 := { stood := { row := chainBetweenRow, standIns := [], harness := (true, "bc487e81ad8ba078eadb0205c4de9c1049403425a3598a5538c52466f7cc5aed"), looks := true }, kinds := [], alts := [], laidByText := true, laidKinds := [.data], laidTests := true, laidLooks := .later }
def ChainBetweenCardSaid : Prop := Claim7.holds Tryz.pinned (.plain (OpenSpec.ofChange chainBetweenSpec)) chainBetweenCard

/-- THE TIED CARD OF 'selionlaw08.ChainOrder'. -/
def chainOrderCard : Claim7 := { stood := { row := chainOrderRow, standIns := [], harness := (true, "bc487e81ad8ba078eadb0205c4de9c1049403425a3598a5538c52466f7cc5aed"), looks := true }, kinds := [], alts := [], laidByText := true, laidKinds := [.data], laidTests := true, laidLooks := .later }
def ChainOrderCardSaid : Prop := Claim7.holds Tryz.pinned (.plain (OpenSpec.ofChange chainOrderSpec)) chainOrderCard

/-- THE TIED CARD OF 'selionlaw09.StorePuts'. -/
def storePutsCard : Claim7 := { stood := { row := storePutsRow, standIns := [], harness := (true, "bc487e81ad8ba078eadb0205c4de9c1049403425a3598a5538c52466f7cc5aed"), looks := true }, kinds := [], alts := [], laidByText := true, laidKinds := [.data], laidTests := true, laidLooks := .later }
def StorePutsCardSaid : Prop := Claim7.holds Tryz.pinned (.plain (OpenSpec.ofChange storePutsSpec)) storePutsCard

/-- THE TIED CARD OF 'selionlaw09.StoreRows'. -/
def storeRowsCard : Claim7 := { stood := { row := storeRowsRow, standIns := [], harness := (true, "bc487e81ad8ba078eadb0205c4de9c1049403425a3598a5538c52466f7cc5aed"), looks := true }, kinds := [], alts := [], laidByText := true, laidKinds := [.data], laidTests := true, laidLooks := .later }
def StoreRowsCardSaid : Prop := Claim7.holds Tryz.pinned (.plain (OpenSpec.ofChange storeRowsSpec)) storeRowsCard

/-- THE TIED CARD OF 'selionlaw09.StoreApart'. -/
def storeApartCard : Claim7 := { stood := { row := storeApartRow, standIns := [], harness := (true, "bc487e81ad8ba078eadb0205c4de9c1049403425a3598a5538c52466f7cc5aed"), looks := true }, kinds := [], alts := [], laidByText := true, laidKinds := [.data], laidTests := true, laidLooks := .later }
def StoreApartCardSaid : Prop := Claim7.holds Tryz.pinned (.plain (OpenSpec.ofChange storeApartSpec)) storeApartCard

/-- THE TIED CARD OF 'selionlaw09.StorePurges'. -/
def storePurgesCard : Claim7 := { stood := { row := storePurgesRow, standIns := [], harness := (true, "bc487e81ad8ba078eadb0205c4de9c1049403425a3598a5538c52466f7cc5aed"), looks := true }, kinds := [], alts := [], laidByText := true, laidKinds := [.data], laidTests := true, laidLooks := .later }
def StorePurgesCardSaid : Prop := Claim7.holds Tryz.pinned (.plain (OpenSpec.ofChange storePurgesSpec)) storePurgesCard

/-- THE TIED CARD OF 'selionlaw09.StoreMerge'. -/
def storeMergeCard : Claim7 := { stood := { row := storeMergeRow, standIns := [], harness := (true, "bc487e81ad8ba078eadb0205c4de9c1049403425a3598a5538c52466f7cc5aed"), looks := true }, kinds := [], alts := [], laidByText := true, laidKinds := [.data], laidTests := true, laidLooks := .later }
def StoreMergeCardSaid : Prop := Claim7.holds Tryz.pinned (.plain (OpenSpec.ofChange storeMergeSpec)) storeMergeCard

/-- THE SECOND FORM's CARD OF 'selionlaw08.ChainPuts'. -/
def chainPutsUptoCard : Claim7 := { stood := { row := chainPutsUptoRow, standIns := [], harness := (true, "bc487e81ad8ba078eadb0205c4de9c1049403425a3598a5538c52466f7cc5aed"), looks := true }, kinds := [], alts := [], laidByText := true, laidKinds := [.data], laidTests := true, laidLooks := .later }
def ChainPutsUptoCardSaid : Prop := Claim7.holds Tryz.pinned (.plain (OpenSpec.upto chainPutsSpec)) chainPutsUptoCard

/-- THE SECOND FORM's CARD OF 'selionlaw08.ChainApart'. -/
def chainApartUptoCard : Claim7 := { stood := { row := chainApartUptoRow, standIns := [], harness := (true, "bc487e81ad8ba078eadb0205c4de9c1049403425a3598a5538c52466f7cc5aed"), looks := true }, kinds := [], alts := [], laidByText := true, laidKinds := [.data], laidTests := true, laidLooks := .later }
def ChainApartUptoCardSaid : Prop := Claim7.holds Tryz.pinned (.plain (OpenSpec.upto chainApartSpec)) chainApartUptoCard

/-- THE SECOND FORM's CARD OF 'selionlaw08.ChainAt'. -/
def chainAtUptoCard : Claim7 := { stood := { row := chainAtUptoRow, standIns := [], harness := (true, "bc487e81ad8ba078eadb0205c4de9c1049403425a3598a5538c52466f7cc5aed"), looks := true }, kinds := [], alts := [], laidByText := true, laidKinds := [.data], laidTests := true, laidLooks := .later }
def ChainAtUptoCardSaid : Prop := Claim7.holds Tryz.pinned (.plain (OpenSpec.upto chainAtSpec)) chainAtUptoCard

/-- THE SECOND FORM's CARD OF 'selionlaw08.ChainPurges'. -/
def chainPurgesUptoCard : Claim7 := { stood := { row := chainPurgesUptoRow, standIns := [], harness := (true, "bc487e81ad8ba078eadb0205c4de9c1049403425a3598a5538c52466f7cc5aed"), looks := true }, kinds := [], alts := [], laidByText := true, laidKinds := [.data], laidTests := true, laidLooks := .later }
def ChainPurgesUptoCardSaid : Prop := Claim7.holds Tryz.pinned (.plain (OpenSpec.upto chainPurgesSpec)) chainPurgesUptoCard

/-- THE SECOND FORM's CARD OF 'selionlaw08.ChainBetween'. -/
def chainBetweenUptoCard : Claim7 := { stood := { row := chainBetweenUptoRow, standIns := [], harness := (true, "bc487e81ad8ba078eadb0205c4de9c1049403425a3598a5538c52466f7cc5aed"), looks := true }, kinds := [], alts := [], laidByText := true, laidKinds := [.data], laidTests := true, laidLooks := .later }
def ChainBetweenUptoCardSaid : Prop := Claim7.holds Tryz.pinned (.plain (OpenSpec.upto chainBetweenSpec)) chainBetweenUptoCard

/-- THE SECOND FORM's CARD OF 'selionlaw08.ChainOrder'. -/
def chainOrderUptoCard : Claim7 := { stood := { row := chainOrderUptoRow, standIns := [], harness := (true, "bc487e81ad8ba078eadb0205c4de9c1049403425a3598a5538c52466f7cc5aed"), looks := true }, kinds := [], alts := [], laidByText := true, laidKinds := [.data], laidTests := true, laidLooks := .later }
def ChainOrderUptoCardSaid : Prop := Claim7.holds Tryz.pinned (.plain (OpenSpec.upto chainOrderSpec)) chainOrderUptoCard

/-- THE SECOND FORM's CARD OF 'selionlaw09.StorePuts'. -/
def storePutsUptoCard : Claim7 := { stood := { row := storePutsUptoRow, standIns := [], harness := (true, "bc487e81ad8ba078eadb0205c4de9c1049403425a3598a5538c52466f7cc5aed"), looks := true }, kinds := [], alts := [], laidByText := true, laidKinds := [.data], laidTests := true, laidLooks := .later }
def StorePutsUptoCardSaid : Prop := Claim7.holds Tryz.pinned (.plain (OpenSpec.upto storePutsSpec)) storePutsUptoCard

/-- THE SECOND FORM's CARD OF 'selionlaw09.StoreRows'. -/
def storeRowsUptoCard : Claim7 := { stood := { row := storeRowsUptoRow, standIns := [], harness := (true, "bc487e81ad8ba078eadb0205c4de9c1049403425a3598a5538c52466f7cc5aed"), looks := true }, kinds := [], alts := [], laidByText := true, laidKinds := [.data], laidTests := true, laidLooks := .later }
def StoreRowsUptoCardSaid : Prop := Claim7.holds Tryz.pinned (.plain (OpenSpec.upto storeRowsSpec)) storeRowsUptoCard

/-- THE SECOND FORM's CARD OF 'selionlaw09.StoreApart'. -/
def storeApartUptoCard : Claim7 := { stood := { row := storeApartUptoRow, standIns := [], harness := (true, "bc487e81ad8ba078eadb0205c4de9c1049403425a3598a5538c52466f7cc5aed"), looks := true }, kinds := [], alts := [], laidByText := true, laidKinds := [.data], laidTests := true, laidLooks := .later }
def StoreApartUptoCardSaid : Prop := Claim7.holds Tryz.pinned (.plain (OpenSpec.upto storeApartSpec)) storeApartUptoCard

/-- THE SECOND FORM's CARD OF 'selionlaw09.StorePurges'. -/
def storePurgesUptoCard : Claim7 := { stood := { row := storePurgesUptoRow, standIns := [], harness := (true, "bc487e81ad8ba078eadb0205c4de9c1049403425a3598a5538c52466f7cc5aed"), looks := true }, kinds := [], alts := [], laidByText := true, laidKinds := [.data], laidTests := true, laidLooks := .later }
def StorePurgesUptoCardSaid : Prop := Claim7.holds Tryz.pinned (.plain (OpenSpec.upto storePurgesSpec)) storePurgesUptoCard

/-- THE SECOND FORM's CARD OF 'selionlaw09.StoreMerge'. -/
def storeMergeUptoCard : Claim7 := { stood := { row := storeMergeUptoRow, standIns := [], harness := (true, "bc487e81ad8ba078eadb0205c4de9c1049403425a3598a5538c52466f7cc5aed"), looks := true }, kinds := [], alts := [], laidByText := true, laidKinds := [.data], laidTests := true, laidLooks := .later }
def StoreMergeUptoCardSaid : Prop := Claim7.holds Tryz.pinned (.plain (OpenSpec.upto storeMergeSpec)) storeMergeUptoCard
end Rows
end Go.Proofs.YtngpgkbkelcihaaGreatDoor
