/-
  NARROWER THAN 'FOR EVERY INPUT', by the rows' own cells (each row's printed sentence says how): ChainPuts: laid · ChainApart: laid · ChainAt: laid · ChainPurges: laid · ChainBetween: laid · ChainOrder: laid · StorePuts: laid · StoreRows: laid · StoreApart: laid · StorePurges: laid · StoreMerge: laid.
  DERIVED. THE GIVEN ROWS OF THIS SEAT. 11 by the template 'for every input the law returns true; each argument reads behind the call as it read before'; 0 by the template 'total and deterministic' (their statements: YtngpgkbkelcihaaGreatDoorTotals.lean).
  GIVEN WITH THE SEED: the statements are not yours to turn. If you find one false, say at which input.
  Laid BY PROGRAM, IN A SANDBOX (cutbox-rows.mjs): the forced cells as the released guide's own fill.sh prints them over the translation 245e72b7437102e1… (all of the seat's roots in one cut). By AI agents, Wed Nov 11 2026. No macro, syntax, notation, axiom, sorry.
-/
import Derived.Test.YtngpgkbkelcihaaGreatDoorChecked
import GoSem.Claim
import GoSem.ClaimJoined
import GoSem.ClaimMapViews
import Derived.JoinedTies
import Derived.KernelRfl
namespace Go.Proofs.YtngpgkbkelcihaaGreatDoor
/- THE CELL 'sum', in the pinned program and in every row, IS THE sha256 OF THE DUMP (.gsa) THAT YtngpgkbkelcihaaGreatDoorProg.lean LOADS. Nothing in Lean hashes anything: it is a label: what it is worth is what the hold of that sum in a sandbox is worth. -/
noncomputable def Tryz.pinned : Pinned := { name := "ytngpgkbkelcihaagreatdoor", sum := "245e72b7437102e1470e6de35e2a90896ffae0eaed9e2dc20c550ce3afba23dc", checked := Tryz.checked }
namespace Rows
def none {H : Type} : Left H := { results := [], args := [] }

/- WHAT THE LISTED PACKAGE-LEVEL VARIABLES READ AS WHEN THE CALL BEGINS. Each datum BY PROGRAM (the guide's laid-datum.mjs) off the statement by which the dump's own 'gosem.cut.vars' lays the variable. In a bare row this is a premise. The card (YtngpgkbkelcihaaGreatDoorCards.lean) ties it to the program's text. -/
def laid_selion_span_none {H : Type} : DataW H := .agg [.lit (.int .u64 1), .lit (.int .u64 0)]

/-- 'selionlaw08.ChainPuts': WHATEVER THE INPUT: true; the input reads as it did. -/
def chainPutsSpec : ChangeSpec := { name := "chainPuts", fn := fun _ => fun
  | [d] => { results := [.lit (.bool true)], args := [d] }
  | _ => none }
def chainPutsRow : OpenClaim := { program := "ytngpgkbkelcihaagreatdoor", sum := "245e72b7437102e1470e6de35e2a90896ffae0eaed9e2dc20c550ce3afba23dc", func := "selion/selionlaw08.ChainPuts", spec := "chainPuts", inPlace := ["slices.overlaps[selion/chain.Version]"], unfollowed := true, recurses := true, named := ["selion/span.none"], apart := false, laid := [("selion/span.none", laid_selion_span_none)] }
def ChainPutsSaid : Prop := chainPutsRow.holds Tryz.pinned (OpenSpec.ofChange chainPutsSpec)

/-- ITS FALSE NEIGHBOUR: 'it returns false'. Refute it at one input. -/
def chainPutsWrong : ChangeSpec := { name := "chainPuts", fn := fun _ => fun
  | [d] => { results := [.lit (.bool false)], args := [d] }
  | _ => none }
def ChainPutsWrongFalsely : Prop := chainPutsRow.holds Tryz.pinned (OpenSpec.ofChange chainPutsWrong)

/-- 'selionlaw08.ChainApart': WHATEVER THE INPUT: true; the input reads as it did. -/
def chainApartSpec : ChangeSpec := { name := "chainApart", fn := fun _ => fun
  | [d1, d2, d3] => { results := [.lit (.bool true)], args := [d1, d2, d3] }
  | _ => none }
def chainApartRow : OpenClaim := { program := "ytngpgkbkelcihaagreatdoor", sum := "245e72b7437102e1470e6de35e2a90896ffae0eaed9e2dc20c550ce3afba23dc", func := "selion/selionlaw08.ChainApart", spec := "chainApart", inPlace := ["slices.overlaps[selion/chain.Version]"], unfollowed := true, recurses := true, named := ["selion/span.none"], apart := false, laid := [("selion/span.none", laid_selion_span_none)] }
def ChainApartSaid : Prop := chainApartRow.holds Tryz.pinned (OpenSpec.ofChange chainApartSpec)

/-- ITS FALSE NEIGHBOUR: 'it returns false'. Refute it at one input. -/
def chainApartWrong : ChangeSpec := { name := "chainApart", fn := fun _ => fun
  | [d1, d2, d3] => { results := [.lit (.bool false)], args := [d1, d2, d3] }
  | _ => none }
def ChainApartWrongFalsely : Prop := chainApartRow.holds Tryz.pinned (OpenSpec.ofChange chainApartWrong)

/-- 'selionlaw08.ChainAt': WHATEVER THE INPUT: true; the input reads as it did. -/
def chainAtSpec : ChangeSpec := { name := "chainAt", fn := fun _ => fun
  | [d1, d2] => { results := [.lit (.bool true)], args := [d1, d2] }
  | _ => none }
def chainAtRow : OpenClaim := { program := "ytngpgkbkelcihaagreatdoor", sum := "245e72b7437102e1470e6de35e2a90896ffae0eaed9e2dc20c550ce3afba23dc", func := "selion/selionlaw08.ChainAt", spec := "chainAt", inPlace := ["slices.overlaps[selion/chain.Version]"], unfollowed := true, recurses := true, named := ["selion/span.none"], apart := false, laid := [("selion/span.none", laid_selion_span_none)] }
def ChainAtSaid : Prop := chainAtRow.holds Tryz.pinned (OpenSpec.ofChange chainAtSpec)

/-- ITS FALSE NEIGHBOUR: 'it returns false'. Refute it at one input. -/
def chainAtWrong : ChangeSpec := { name := "chainAt", fn := fun _ => fun
  | [d1, d2] => { results := [.lit (.bool false)], args := [d1, d2] }
  | _ => none }
def ChainAtWrongFalsely : Prop := chainAtRow.holds Tryz.pinned (OpenSpec.ofChange chainAtWrong)

/-- 'selionlaw08.ChainPurges': WHATEVER THE INPUT: true; the input reads as it did. -/
def chainPurgesSpec : ChangeSpec := { name := "chainPurges", fn := fun _ => fun
  | [d1, d2, d3] => { results := [.lit (.bool true)], args := [d1, d2, d3] }
  | _ => none }
def chainPurgesRow : OpenClaim := { program := "ytngpgkbkelcihaagreatdoor", sum := "245e72b7437102e1470e6de35e2a90896ffae0eaed9e2dc20c550ce3afba23dc", func := "selion/selionlaw08.ChainPurges", spec := "chainPurges", inPlace := ["slices.overlaps[selion/chain.Version]"], unfollowed := true, recurses := true, named := ["selion/span.none"], apart := false, laid := [("selion/span.none", laid_selion_span_none)] }
def ChainPurgesSaid : Prop := chainPurgesRow.holds Tryz.pinned (OpenSpec.ofChange chainPurgesSpec)

/-- ITS FALSE NEIGHBOUR: 'it returns false'. Refute it at one input. -/
def chainPurgesWrong : ChangeSpec := { name := "chainPurges", fn := fun _ => fun
  | [d1, d2, d3] => { results := [.lit (.bool false)], args := [d1, d2, d3] }
  | _ => none }
def ChainPurgesWrongFalsely : Prop := chainPurgesRow.holds Tryz.pinned (OpenSpec.ofChange chainPurgesWrong)

/-- 'selionlaw08.ChainBetween': WHATEVER THE INPUT: true; the input reads as it did. -/
def chainBetweenSpec : ChangeSpec := { name := "chainBetween", fn := fun _ => fun
  | [d1, d2, d3] => { results := [.lit (.bool true)], args := [d1, d2, d3] }
  | _ => none }
def chainBetweenRow : OpenClaim := { program := "ytngpgkbkelcihaagreatdoor", sum := "245e72b7437102e1470e6de35e2a90896ffae0eaed9e2dc20c550ce3afba23dc", func := "selion/selionlaw08.ChainBetween", spec := "chainBetween", inPlace := ["slices.overlaps[selion/chain.Version]"], unfollowed := true, recurses := true, named := ["selion/span.none"], apart := false, laid := [("selion/span.none", laid_selion_span_none)] }
def ChainBetweenSaid : Prop := chainBetweenRow.holds Tryz.pinned (OpenSpec.ofChange chainBetweenSpec)

/-- ITS FALSE NEIGHBOUR: 'it returns false'. Refute it at one input. -/
def chainBetweenWrong : ChangeSpec := { name := "chainBetween", fn := fun _ => fun
  | [d1, d2, d3] => { results := [.lit (.bool false)], args := [d1, d2, d3] }
  | _ => none }
def ChainBetweenWrongFalsely : Prop := chainBetweenRow.holds Tryz.pinned (OpenSpec.ofChange chainBetweenWrong)

/-- 'selionlaw08.ChainOrder': WHATEVER THE INPUT: true; the input reads as it did. -/
def chainOrderSpec : ChangeSpec := { name := "chainOrder", fn := fun _ => fun
  | [d1, d2] => { results := [.lit (.bool true)], args := [d1, d2] }
  | _ => none }
def chainOrderRow : OpenClaim := { program := "ytngpgkbkelcihaagreatdoor", sum := "245e72b7437102e1470e6de35e2a90896ffae0eaed9e2dc20c550ce3afba23dc", func := "selion/selionlaw08.ChainOrder", spec := "chainOrder", inPlace := ["slices.overlaps[selion/chain.Version]"], unfollowed := true, recurses := true, named := ["selion/span.none"], apart := false, laid := [("selion/span.none", laid_selion_span_none)] }
def ChainOrderSaid : Prop := chainOrderRow.holds Tryz.pinned (OpenSpec.ofChange chainOrderSpec)

/-- ITS FALSE NEIGHBOUR: 'it returns false'. Refute it at one input. -/
def chainOrderWrong : ChangeSpec := { name := "chainOrder", fn := fun _ => fun
  | [d1, d2] => { results := [.lit (.bool false)], args := [d1, d2] }
  | _ => none }
def ChainOrderWrongFalsely : Prop := chainOrderRow.holds Tryz.pinned (OpenSpec.ofChange chainOrderWrong)

/-- 'selionlaw09.StorePuts': WHATEVER THE INPUT: true; the input reads as it did. -/
def storePutsSpec : ChangeSpec := { name := "storePuts", fn := fun _ => fun
  | [d1, d2, d3] => { results := [.lit (.bool true)], args := [d1, d2, d3] }
  | _ => none }
def storePutsRow : OpenClaim := { program := "ytngpgkbkelcihaagreatdoor", sum := "245e72b7437102e1470e6de35e2a90896ffae0eaed9e2dc20c550ce3afba23dc", func := "selion/selionlaw09.StorePuts", spec := "storePuts", inPlace := ["slices.overlaps[selion/chain.Version]", "slices.overlaps[selion/store.row]"], unfollowed := true, recurses := true, named := ["selion/span.none"], apart := false, laid := [("selion/span.none", laid_selion_span_none)] }
def StorePutsSaid : Prop := storePutsRow.holds Tryz.pinned (OpenSpec.ofChange storePutsSpec)

/-- ITS FALSE NEIGHBOUR: 'it returns false'. Refute it at one input. -/
def storePutsWrong : ChangeSpec := { name := "storePuts", fn := fun _ => fun
  | [d1, d2, d3] => { results := [.lit (.bool false)], args := [d1, d2, d3] }
  | _ => none }
def StorePutsWrongFalsely : Prop := storePutsRow.holds Tryz.pinned (OpenSpec.ofChange storePutsWrong)

/-- 'selionlaw09.StoreRows': WHATEVER THE INPUT: true; the input reads as it did. -/
def storeRowsSpec : ChangeSpec := { name := "storeRows", fn := fun _ => fun
  | [d1, d2, d3, d4] => { results := [.lit (.bool true)], args := [d1, d2, d3, d4] }
  | _ => none }
def storeRowsRow : OpenClaim := { program := "ytngpgkbkelcihaagreatdoor", sum := "245e72b7437102e1470e6de35e2a90896ffae0eaed9e2dc20c550ce3afba23dc", func := "selion/selionlaw09.StoreRows", spec := "storeRows", inPlace := ["slices.overlaps[selion/chain.Version]", "slices.overlaps[selion/store.row]"], unfollowed := true, recurses := true, named := ["selion/span.none"], apart := false, laid := [("selion/span.none", laid_selion_span_none)] }
def StoreRowsSaid : Prop := storeRowsRow.holds Tryz.pinned (OpenSpec.ofChange storeRowsSpec)

/-- ITS FALSE NEIGHBOUR: 'it returns false'. Refute it at one input. -/
def storeRowsWrong : ChangeSpec := { name := "storeRows", fn := fun _ => fun
  | [d1, d2, d3, d4] => { results := [.lit (.bool false)], args := [d1, d2, d3, d4] }
  | _ => none }
def StoreRowsWrongFalsely : Prop := storeRowsRow.holds Tryz.pinned (OpenSpec.ofChange storeRowsWrong)

/-- 'selionlaw09.StoreApart': WHATEVER THE INPUT: true; the input reads as it did. -/
def storeApartSpec : ChangeSpec := { name := "storeApart", fn := fun _ => fun
  | [d1, d2] => { results := [.lit (.bool true)], args := [d1, d2] }
  | _ => none }
def storeApartRow : OpenClaim := { program := "ytngpgkbkelcihaagreatdoor", sum := "245e72b7437102e1470e6de35e2a90896ffae0eaed9e2dc20c550ce3afba23dc", func := "selion/selionlaw09.StoreApart", spec := "storeApart", inPlace := ["slices.overlaps[selion/chain.Version]", "slices.overlaps[selion/store.row]"], unfollowed := true, recurses := true, named := ["selion/span.none"], apart := false, laid := [("selion/span.none", laid_selion_span_none)] }
def StoreApartSaid : Prop := storeApartRow.holds Tryz.pinned (OpenSpec.ofChange storeApartSpec)

/-- ITS FALSE NEIGHBOUR: 'it returns false'. Refute it at one input. -/
def storeApartWrong : ChangeSpec := { name := "storeApart", fn := fun _ => fun
  | [d1, d2] => { results := [.lit (.bool false)], args := [d1, d2] }
  | _ => none }
def StoreApartWrongFalsely : Prop := storeApartRow.holds Tryz.pinned (OpenSpec.ofChange storeApartWrong)

/-- 'selionlaw09.StorePurges': WHATEVER THE INPUT: true; the input reads as it did. -/
def storePurgesSpec : ChangeSpec := { name := "storePurges", fn := fun _ => fun
  | [d1, d2] => { results := [.lit (.bool true)], args := [d1, d2] }
  | _ => none }
def storePurgesRow : OpenClaim := { program := "ytngpgkbkelcihaagreatdoor", sum := "245e72b7437102e1470e6de35e2a90896ffae0eaed9e2dc20c550ce3afba23dc", func := "selion/selionlaw09.StorePurges", spec := "storePurges", inPlace := ["slices.overlaps[selion/chain.Version]", "slices.overlaps[selion/store.row]"], unfollowed := true, recurses := true, named := ["selion/span.none"], apart := false, laid := [("selion/span.none", laid_selion_span_none)] }
def StorePurgesSaid : Prop := storePurgesRow.holds Tryz.pinned (OpenSpec.ofChange storePurgesSpec)

/-- ITS FALSE NEIGHBOUR: 'it returns false'. Refute it at one input. -/
def storePurgesWrong : ChangeSpec := { name := "storePurges", fn := fun _ => fun
  | [d1, d2] => { results := [.lit (.bool false)], args := [d1, d2] }
  | _ => none }
def StorePurgesWrongFalsely : Prop := storePurgesRow.holds Tryz.pinned (OpenSpec.ofChange storePurgesWrong)

/-- 'selionlaw09.StoreMerge': WHATEVER THE INPUT: true; the input reads as it did. -/
def storeMergeSpec : ChangeSpec := { name := "storeMerge", fn := fun _ => fun
  | [d1, d2] => { results := [.lit (.bool true)], args := [d1, d2] }
  | _ => none }
def storeMergeRow : OpenClaim := { program := "ytngpgkbkelcihaagreatdoor", sum := "245e72b7437102e1470e6de35e2a90896ffae0eaed9e2dc20c550ce3afba23dc", func := "selion/selionlaw09.StoreMerge", spec := "storeMerge", inPlace := ["slices.overlaps[selion/chain.Version]", "slices.overlaps[selion/store.row]"], unfollowed := true, recurses := true, named := ["selion/span.none"], apart := false, laid := [("selion/span.none", laid_selion_span_none)] }
def StoreMergeSaid : Prop := storeMergeRow.holds Tryz.pinned (OpenSpec.ofChange storeMergeSpec)

/-- ITS FALSE NEIGHBOUR: 'it returns false'. Refute it at one input. -/
def storeMergeWrong : ChangeSpec := { name := "storeMerge", fn := fun _ => fun
  | [d1, d2] => { results := [.lit (.bool false)], args := [d1, d2] }
  | _ => none }
def StoreMergeWrongFalsely : Prop := storeMergeRow.holds Tryz.pinned (OpenSpec.ofChange storeMergeWrong)

/- THE SECOND FORM. 'bulk': how many values and letters a reading holds, each counted each time it is reached (what is shared counts as often as it is met; a slice's spare places count too). A statement '..UptoSaid' is the law's where the arguments, and the package variables that the reading takes, are together of bulk at most 1048576: NARROWER than '..Said'. Prove '..Said' where nothing that the law and all that it calls make is longer than what came in: it says more and counts as full. Else prove '..UptoSaid'. A law counts once. -/
mutual
def uptoBulk {H : Type} : DataW H → Nat
  | .lit (.string bytes) => bytes.length + 1
  | .lit _ => 1
  | .nil => 1
  | .ptr d => uptoBulk d + 1
  | .slice elems spare => uptoBulkAll elems + uptoBulkAll spare + 1
  | .agg parts => uptoBulkAll parts + 1
  | .iface _ d => uptoBulk d + 1
  | .map entries => uptoBulkEntries entries + 1
  | .held _ => 1
def uptoBulkAll {H : Type} : List (DataW H) → Nat
  | [] => 0
  | d :: r => uptoBulk d + uptoBulkAll r
def uptoBulkEntries {H : Type} : List (Lit × DataW H) → Nat
  | [] => 0
  | x :: r => uptoBulkEntry x + uptoBulkEntries r
def uptoBulkEntry {H : Type} : Lit × DataW H → Nat
  | (.string bytes, d) => bytes.length + uptoBulk d + 1
  | (_, d) => uptoBulk d + 1
 end
def uptoSmall : (H : Type) → List (DataW H) → Bool := fun _ ds => decide (uptoBulkAll ds ≤ 1048576)
def OpenSpec.upto (s : _root_.Go.ChangeSpec) : _root_.Go.OpenSpec := { _root_.Go.OpenSpec.ofChange s with cond := some uptoSmall }

/-- 'selionlaw08.ChainPuts', WHERE WHAT IT READS IS OF BULK AT MOST 1048576: true; the input reads as it did. -/
def chainPutsUptoRow : OpenClaim := { program := "ytngpgkbkelcihaagreatdoor", sum := "245e72b7437102e1470e6de35e2a90896ffae0eaed9e2dc20c550ce3afba23dc", func := "selion/selionlaw08.ChainPuts", spec := "chainPuts", inPlace := ["slices.overlaps[selion/chain.Version]"], unfollowed := true, recurses := true, named := ["selion/span.none"], apart := false, laid := [("selion/span.none", laid_selion_span_none)], narrowed := true }
def ChainPutsUptoSaid : Prop := chainPutsUptoRow.holds Tryz.pinned (OpenSpec.upto chainPutsSpec)

/-- 'selionlaw08.ChainApart', WHERE WHAT IT READS IS OF BULK AT MOST 1048576: true; the input reads as it did. -/
def chainApartUptoRow : OpenClaim := { program := "ytngpgkbkelcihaagreatdoor", sum := "245e72b7437102e1470e6de35e2a90896ffae0eaed9e2dc20c550ce3afba23dc", func := "selion/selionlaw08.ChainApart", spec := "chainApart", inPlace := ["slices.overlaps[selion/chain.Version]"], unfollowed := true, recurses := true, named := ["selion/span.none"], apart := false, laid := [("selion/span.none", laid_selion_span_none)], narrowed := true }
def ChainApartUptoSaid : Prop := chainApartUptoRow.holds Tryz.pinned (OpenSpec.upto chainApartSpec)

/-- 'selionlaw08.ChainAt', WHERE WHAT IT READS IS OF BULK AT MOST 1048576: true; the input reads as it did. -/
def chainAtUptoRow : OpenClaim := { program := "ytngpgkbkelcihaagreatdoor", sum := "245e72b7437102e1470e6de35e2a90896ffae0eaed9e2dc20c550ce3afba23dc", func := "selion/selionlaw08.ChainAt", spec := "chainAt", inPlace := ["slices.overlaps[selion/chain.Version]"], unfollowed := true, recurses := true, named := ["selion/span.none"], apart := false, laid := [("selion/span.none", laid_selion_span_none)], narrowed := true }
def ChainAtUptoSaid : Prop := chainAtUptoRow.holds Tryz.pinned (OpenSpec.upto chainAtSpec)

/-- 'selionlaw08.ChainPurges', WHERE WHAT IT READS IS OF BULK AT MOST 1048576: true; the input reads as it did. -/
def chainPurgesUptoRow : OpenClaim := { program := "ytngpgkbkelcihaagreatdoor", sum := "245e72b7437102e1470e6de35e2a90896ffae0eaed9e2dc20c550ce3afba23dc", func := "selion/selionlaw08.ChainPurges", spec := "chainPurges", inPlace := ["slices.overlaps[selion/chain.Version]"], unfollowed := true, recurses := true, named := ["selion/span.none"], apart := false, laid := [("selion/span.none", laid_selion_span_none)], narrowed := true }
def ChainPurgesUptoSaid : Prop := chainPurgesUptoRow.holds Tryz.pinned (OpenSpec.upto chainPurgesSpec)

/-- 'selionlaw08.ChainBetween', WHERE WHAT IT READS IS OF BULK AT MOST 1048576: true; the input reads as it did. -/
def chainBetweenUptoRow : OpenClaim := { program := "ytngpgkbkelcihaagreatdoor", sum := "245e72b7437102e1470e6de35e2a90896ffae0eaed9e2dc20c550ce3afba23dc", func := "selion/selionlaw08.ChainBetween", spec := "chainBetween", inPlace := ["slices.overlaps[selion/chain.Version]"], unfollowed := true, recurses := true, named := ["selion/span.none"], apart := false, laid := [("selion/span.none", laid_selion_span_none)], narrowed := true }
def ChainBetweenUptoSaid : Prop := chainBetweenUptoRow.holds Tryz.pinned (OpenSpec.upto chainBetweenSpec)

/-- 'selionlaw08.ChainOrder', WHERE WHAT IT READS IS OF BULK AT MOST 1048576: true; the input reads as it did. -/
def chainOrderUptoRow : OpenClaim := { program := "ytngpgkbkelcihaagreatdoor", sum := "245e72b7437102e1470e6de35e2a90896ffae0eaed9e2dc20c550ce3afba23dc", func := "selion/selionlaw08.ChainOrder", spec := "chainOrder", inPlace := ["slices.overlaps[selion/chain.Version]"], unfollowed := true, recurses := true, named := ["selion/span.none"], apart := false, laid := [("selion/span.none", laid_selion_span_none)], narrowed := true }
def ChainOrderUptoSaid : Prop := chainOrderUptoRow.holds Tryz.pinned (OpenSpec.upto chainOrderSpec)

/-- 'selionlaw09.StorePuts', WHERE WHAT IT READS IS OF BULK AT MOST 1048576: true; the input reads as it did. -/
def storePutsUptoRow : OpenClaim := { program := "ytngpgkbkelcihaagreatdoor", sum := "245e72b7437102e1470e6de35e2a90896ffae0eaed9e2dc20c550ce3afba23dc", func := "selion/selionlaw09.StorePuts", spec := "storePuts", inPlace := ["slices.overlaps[selion/chain.Version]", "slices.overlaps[selion/store.row]"], unfollowed := true, recurses := true, named := ["selion/span.none"], apart := false, laid := [("selion/span.none", laid_selion_span_none)], narrowed := true }
def StorePutsUptoSaid : Prop := storePutsUptoRow.holds Tryz.pinned (OpenSpec.upto storePutsSpec)

/-- 'selionlaw09.StoreRows', WHERE WHAT IT READS IS OF BULK AT MOST 1048576: true; the input reads as it did. -/
def storeRowsUptoRow : OpenClaim := { program := "ytngpgkbkelcihaagreatdoor", sum := "245e72b7437102e1470e6de35e2a90896ffae0eaed9e2dc20c550ce3afba23dc", func := "selion/selionlaw09.StoreRows", spec := "storeRows", inPlace := ["slices.overlaps[selion/chain.Version]", "slices.overlaps[selion/store.row]"], unfollowed := true, recurses := true, named := ["selion/span.none"], apart := false, laid := [("selion/span.none", laid_selion_span_none)], narrowed := true }
def StoreRowsUptoSaid : Prop := storeRowsUptoRow.holds Tryz.pinned (OpenSpec.upto storeRowsSpec)

/-- 'selionlaw09.StoreApart', WHERE WHAT IT READS IS OF BULK AT MOST 1048576: true; the input reads as it did. -/
def storeApartUptoRow : OpenClaim := { program := "ytngpgkbkelcihaagreatdoor", sum := "245e72b7437102e1470e6de35e2a90896ffae0eaed9e2dc20c550ce3afba23dc", func := "selion/selionlaw09.StoreApart", spec := "storeApart", inPlace := ["slices.overlaps[selion/chain.Version]", "slices.overlaps[selion/store.row]"], unfollowed := true, recurses := true, named := ["selion/span.none"], apart := false, laid := [("selion/span.none", laid_selion_span_none)], narrowed := true }
def StoreApartUptoSaid : Prop := storeApartUptoRow.holds Tryz.pinned (OpenSpec.upto storeApartSpec)

/-- 'selionlaw09.StorePurges', WHERE WHAT IT READS IS OF BULK AT MOST 1048576: true; the input reads as it did. -/
def storePurgesUptoRow : OpenClaim := { program := "ytngpgkbkelcihaagreatdoor", sum := "245e72b7437102e1470e6de35e2a90896ffae0eaed9e2dc20c550ce3afba23dc", func := "selion/selionlaw09.StorePurges", spec := "storePurges", inPlace := ["slices.overlaps[selion/chain.Version]", "slices.overlaps[selion/store.row]"], unfollowed := true, recurses := true, named := ["selion/span.none"], apart := false, laid := [("selion/span.none", laid_selion_span_none)], narrowed := true }
def StorePurgesUptoSaid : Prop := storePurgesUptoRow.holds Tryz.pinned (OpenSpec.upto storePurgesSpec)

/-- 'selionlaw09.StoreMerge', WHERE WHAT IT READS IS OF BULK AT MOST 1048576: true; the input reads as it did. -/
def storeMergeUptoRow : OpenClaim := { program := "ytngpgkbkelcihaagreatdoor", sum := "245e72b7437102e1470e6de35e2a90896ffae0eaed9e2dc20c550ce3afba23dc", func := "selion/selionlaw09.StoreMerge", spec := "storeMerge", inPlace := ["slices.overlaps[selion/chain.Version]", "slices.overlaps[selion/store.row]"], unfollowed := true, recurses := true, named := ["selion/span.none"], apart := false, laid := [("selion/span.none", laid_selion_span_none)], narrowed := true }
def StoreMergeUptoSaid : Prop := storeMergeUptoRow.holds Tryz.pinned (OpenSpec.upto storeMergeSpec)

end Rows
end Go.Proofs.YtngpgkbkelcihaaGreatDoor
