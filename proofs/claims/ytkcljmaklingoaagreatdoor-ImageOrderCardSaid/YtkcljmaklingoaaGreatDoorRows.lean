/-
  NARROWER THAN 'FOR EVERY INPUT', by the rows' own cells (each row's printed sentence says how): RecordValues: laid · RecordRaw: laid · RecordApart: laid · RecordBack: laid · RecordSpoilt: laid · ImageBack: laid · ImageLate: laid · ImageRaw: laid · ImageOrder: laid.
  DERIVED. THE GIVEN ROWS OF THIS SEAT. 9 by the template 'for every input the law returns true; each argument reads behind the call as it read before'; 0 by the template 'total and deterministic' (their statements: YtkcljmaklingoaaGreatDoorTotals.lean).
  GIVEN WITH THE SEED: the statements are not yours to turn. If you find one false, say at which input.
  Laid BY PROGRAM, IN A SANDBOX (cutbox-rows.mjs): the forced cells as the released guide's own fill.sh prints them over the translation 3781bc507dae6fc3… (all of the seat's roots in one cut). By AI agents, Wed Nov 11 2026. No macro, syntax, notation, axiom, sorry.
-/
import Derived.Test.YtkcljmaklingoaaGreatDoorChecked
import GoSem.Claim
import GoSem.ClaimJoined
import GoSem.ClaimMapViews
import Derived.JoinedTies
import Derived.KernelRfl
namespace Go.Proofs.YtkcljmaklingoaaGreatDoor
/- THE CELL 'sum', in the pinned program and in every row, IS THE sha256 OF THE DUMP (.gsa) THAT YtkcljmaklingoaaGreatDoorProg.lean LOADS. Nothing in Lean hashes anything: it is a label: what it is worth is what the hold of that sum in a sandbox is worth. -/
noncomputable def Tryz.pinned : Pinned := { name := "ytkcljmaklingoaagreatdoor", sum := "3781bc507dae6fc354d4ea3bd08d1071c2faac5b9a38673138286c94a75aef05", checked := Tryz.checked }
namespace Rows
def none {H : Type} : Left H := { results := [], args := [] }

/- WHAT THE LISTED PACKAGE-LEVEL VARIABLES READ AS WHEN THE CALL BEGINS. Each datum BY PROGRAM (the guide's laid-datum.mjs) off the statement by which the dump's own 'gosem.cut.vars' lays the variable. In a bare row this is a premise. The card (YtkcljmaklingoaaGreatDoorCards.lean) ties it to the program's text. -/
def laid_selion_span_none {H : Type} : DataW H := .agg [.lit (.int .u64 1), .lit (.int .u64 0)]

/-- 'selionlaw13.RecordValues': WHATEVER THE INPUT: true; the input reads as it did. -/
def recordValuesSpec : ChangeSpec := { name := "recordValues", fn := fun _ => fun
  | [d1, d2] => { results := [.lit (.bool true)], args := [d1, d2] }
  | _ => none }
def recordValuesRow : OpenClaim := { program := "ytkcljmaklingoaagreatdoor", sum := "3781bc507dae6fc354d4ea3bd08d1071c2faac5b9a38673138286c94a75aef05", func := "selion/selionlaw13.RecordValues", spec := "recordValues", inPlace := ["slices.overlaps[selion/chain.Version]", "slices.overlaps[selion/store.row]"], unfollowed := true, recurses := true, named := ["selion/span.none"], apart := false, laid := [("selion/span.none", laid_selion_span_none)] }
def RecordValuesSaid : Prop := recordValuesRow.holds Tryz.pinned (OpenSpec.ofChange recordValuesSpec)

/-- ITS FALSE NEIGHBOUR: 'it returns false'. Refute it at one input. -/
def recordValuesWrong : ChangeSpec := { name := "recordValues", fn := fun _ => fun
  | [d1, d2] => { results := [.lit (.bool false)], args := [d1, d2] }
  | _ => none }
def RecordValuesWrongFalsely : Prop := recordValuesRow.holds Tryz.pinned (OpenSpec.ofChange recordValuesWrong)

/-- 'selionlaw13.RecordRaw': WHATEVER THE INPUT: true; the input reads as it did. -/
def recordRawSpec : ChangeSpec := { name := "recordRaw", fn := fun _ => fun
  | [d] => { results := [.lit (.bool true)], args := [d] }
  | _ => none }
def recordRawRow : OpenClaim := { program := "ytkcljmaklingoaagreatdoor", sum := "3781bc507dae6fc354d4ea3bd08d1071c2faac5b9a38673138286c94a75aef05", func := "selion/selionlaw13.RecordRaw", spec := "recordRaw", inPlace := ["slices.overlaps[selion/chain.Version]", "slices.overlaps[selion/store.row]"], unfollowed := true, recurses := true, named := ["selion/span.none"], apart := false, laid := [("selion/span.none", laid_selion_span_none)] }
def RecordRawSaid : Prop := recordRawRow.holds Tryz.pinned (OpenSpec.ofChange recordRawSpec)

/-- ITS FALSE NEIGHBOUR: 'it returns false'. Refute it at one input. -/
def recordRawWrong : ChangeSpec := { name := "recordRaw", fn := fun _ => fun
  | [d] => { results := [.lit (.bool false)], args := [d] }
  | _ => none }
def RecordRawWrongFalsely : Prop := recordRawRow.holds Tryz.pinned (OpenSpec.ofChange recordRawWrong)

/-- 'selionlaw13.RecordApart': WHATEVER THE INPUT: true; the input reads as it did. -/
def recordApartSpec : ChangeSpec := { name := "recordApart", fn := fun _ => fun
  | [d1, d2, d3, d4, d5] => { results := [.lit (.bool true)], args := [d1, d2, d3, d4, d5] }
  | _ => none }
def recordApartRow : OpenClaim := { program := "ytkcljmaklingoaagreatdoor", sum := "3781bc507dae6fc354d4ea3bd08d1071c2faac5b9a38673138286c94a75aef05", func := "selion/selionlaw13.RecordApart", spec := "recordApart", inPlace := ["slices.overlaps[selion/chain.Version]", "slices.overlaps[selion/store.row]", "internal/abi.NoEscape", "internal/bytealg.MakeNoZero"], unfollowed := true, recurses := true, named := ["selion/span.none"], apart := false, laid := [("selion/span.none", laid_selion_span_none)] }
def RecordApartSaid : Prop := recordApartRow.holds Tryz.pinned (OpenSpec.ofChange recordApartSpec)

/-- ITS FALSE NEIGHBOUR: 'it returns false'. Refute it at one input. -/
def recordApartWrong : ChangeSpec := { name := "recordApart", fn := fun _ => fun
  | [d1, d2, d3, d4, d5] => { results := [.lit (.bool false)], args := [d1, d2, d3, d4, d5] }
  | _ => none }
def RecordApartWrongFalsely : Prop := recordApartRow.holds Tryz.pinned (OpenSpec.ofChange recordApartWrong)

/-- 'selionlaw13.RecordBack': WHATEVER THE INPUT: true; the input reads as it did. -/
def recordBackSpec : ChangeSpec := { name := "recordBack", fn := fun _ => fun
  | [d1, d2] => { results := [.lit (.bool true)], args := [d1, d2] }
  | _ => none }
def recordBackRow : OpenClaim := { program := "ytkcljmaklingoaagreatdoor", sum := "3781bc507dae6fc354d4ea3bd08d1071c2faac5b9a38673138286c94a75aef05", func := "selion/selionlaw13.RecordBack", spec := "recordBack", inPlace := ["slices.overlaps[selion/chain.Version]", "slices.overlaps[selion/store.row]", "internal/abi.NoEscape", "internal/bytealg.MakeNoZero"], unfollowed := true, recurses := true, named := ["selion/span.none"], apart := false, laid := [("selion/span.none", laid_selion_span_none)] }
def RecordBackSaid : Prop := recordBackRow.holds Tryz.pinned (OpenSpec.ofChange recordBackSpec)

/-- ITS FALSE NEIGHBOUR: 'it returns false'. Refute it at one input. -/
def recordBackWrong : ChangeSpec := { name := "recordBack", fn := fun _ => fun
  | [d1, d2] => { results := [.lit (.bool false)], args := [d1, d2] }
  | _ => none }
def RecordBackWrongFalsely : Prop := recordBackRow.holds Tryz.pinned (OpenSpec.ofChange recordBackWrong)

/-- 'selionlaw13.RecordSpoilt': WHATEVER THE INPUT: true; the input reads as it did. -/
def recordSpoiltSpec : ChangeSpec := { name := "recordSpoilt", fn := fun _ => fun
  | [d1, d2, d3, d4, d5] => { results := [.lit (.bool true)], args := [d1, d2, d3, d4, d5] }
  | _ => none }
def recordSpoiltRow : OpenClaim := { program := "ytkcljmaklingoaagreatdoor", sum := "3781bc507dae6fc354d4ea3bd08d1071c2faac5b9a38673138286c94a75aef05", func := "selion/selionlaw13.RecordSpoilt", spec := "recordSpoilt", inPlace := ["slices.overlaps[selion/chain.Version]", "slices.overlaps[selion/store.row]", "internal/abi.NoEscape", "internal/bytealg.MakeNoZero"], unfollowed := true, recurses := true, named := ["selion/span.none"], apart := false, laid := [("selion/span.none", laid_selion_span_none)] }
def RecordSpoiltSaid : Prop := recordSpoiltRow.holds Tryz.pinned (OpenSpec.ofChange recordSpoiltSpec)

/-- ITS FALSE NEIGHBOUR: 'it returns false'. Refute it at one input. -/
def recordSpoiltWrong : ChangeSpec := { name := "recordSpoilt", fn := fun _ => fun
  | [d1, d2, d3, d4, d5] => { results := [.lit (.bool false)], args := [d1, d2, d3, d4, d5] }
  | _ => none }
def RecordSpoiltWrongFalsely : Prop := recordSpoiltRow.holds Tryz.pinned (OpenSpec.ofChange recordSpoiltWrong)

/-- 'selionlaw14.ImageBack': WHATEVER THE INPUT: true; the input reads as it did. -/
def imageBackSpec : ChangeSpec := { name := "imageBack", fn := fun _ => fun
  | [d1, d2] => { results := [.lit (.bool true)], args := [d1, d2] }
  | _ => none }
def imageBackRow : OpenClaim := { program := "ytkcljmaklingoaagreatdoor", sum := "3781bc507dae6fc354d4ea3bd08d1071c2faac5b9a38673138286c94a75aef05", func := "selion/selionlaw14.ImageBack", spec := "imageBack", inPlace := ["slices.overlaps[selion/chain.Version]", "slices.overlaps[selion/store.row]", "internal/abi.NoEscape", "internal/bytealg.MakeNoZero"], unfollowed := true, recurses := true, named := ["selion/span.none"], apart := false, laid := [("selion/span.none", laid_selion_span_none)] }
def ImageBackSaid : Prop := imageBackRow.holds Tryz.pinned (OpenSpec.ofChange imageBackSpec)

/-- ITS FALSE NEIGHBOUR: 'it returns false'. Refute it at one input. -/
def imageBackWrong : ChangeSpec := { name := "imageBack", fn := fun _ => fun
  | [d1, d2] => { results := [.lit (.bool false)], args := [d1, d2] }
  | _ => none }
def ImageBackWrongFalsely : Prop := imageBackRow.holds Tryz.pinned (OpenSpec.ofChange imageBackWrong)

/-- 'selionlaw14.ImageLate': WHATEVER THE INPUT: true; the input reads as it did. -/
def imageLateSpec : ChangeSpec := { name := "imageLate", fn := fun _ => fun
  | [d1, d2, d3] => { results := [.lit (.bool true)], args := [d1, d2, d3] }
  | _ => none }
def imageLateRow : OpenClaim := { program := "ytkcljmaklingoaagreatdoor", sum := "3781bc507dae6fc354d4ea3bd08d1071c2faac5b9a38673138286c94a75aef05", func := "selion/selionlaw14.ImageLate", spec := "imageLate", inPlace := ["slices.overlaps[selion/chain.Version]", "slices.overlaps[selion/store.row]", "internal/abi.NoEscape", "internal/bytealg.MakeNoZero"], unfollowed := true, recurses := true, named := ["selion/span.none"], apart := false, laid := [("selion/span.none", laid_selion_span_none)] }
def ImageLateSaid : Prop := imageLateRow.holds Tryz.pinned (OpenSpec.ofChange imageLateSpec)

/-- ITS FALSE NEIGHBOUR: 'it returns false'. Refute it at one input. -/
def imageLateWrong : ChangeSpec := { name := "imageLate", fn := fun _ => fun
  | [d1, d2, d3] => { results := [.lit (.bool false)], args := [d1, d2, d3] }
  | _ => none }
def ImageLateWrongFalsely : Prop := imageLateRow.holds Tryz.pinned (OpenSpec.ofChange imageLateWrong)

/-- 'selionlaw14.ImageRaw': WHATEVER THE INPUT: true; the input reads as it did. -/
def imageRawSpec : ChangeSpec := { name := "imageRaw", fn := fun _ => fun
  | [d1, d2, d3, d4, d5] => { results := [.lit (.bool true)], args := [d1, d2, d3, d4, d5] }
  | _ => none }
def imageRawRow : OpenClaim := { program := "ytkcljmaklingoaagreatdoor", sum := "3781bc507dae6fc354d4ea3bd08d1071c2faac5b9a38673138286c94a75aef05", func := "selion/selionlaw14.ImageRaw", spec := "imageRaw", inPlace := ["slices.overlaps[selion/chain.Version]", "slices.overlaps[selion/store.row]", "internal/abi.NoEscape", "internal/bytealg.MakeNoZero"], unfollowed := true, recurses := true, named := ["selion/span.none"], apart := false, laid := [("selion/span.none", laid_selion_span_none)] }
def ImageRawSaid : Prop := imageRawRow.holds Tryz.pinned (OpenSpec.ofChange imageRawSpec)

/-- ITS FALSE NEIGHBOUR: 'it returns false'. Refute it at one input. -/
def imageRawWrong : ChangeSpec := { name := "imageRaw", fn := fun _ => fun
  | [d1, d2, d3, d4, d5] => { results := [.lit (.bool false)], args := [d1, d2, d3, d4, d5] }
  | _ => none }
def ImageRawWrongFalsely : Prop := imageRawRow.holds Tryz.pinned (OpenSpec.ofChange imageRawWrong)

/-- 'selionlaw14.ImageOrder': WHATEVER THE INPUT: true; the input reads as it did. -/
def imageOrderSpec : ChangeSpec := { name := "imageOrder", fn := fun _ => fun
  | [d1, d2, d3] => { results := [.lit (.bool true)], args := [d1, d2, d3] }
  | _ => none }
def imageOrderRow : OpenClaim := { program := "ytkcljmaklingoaagreatdoor", sum := "3781bc507dae6fc354d4ea3bd08d1071c2faac5b9a38673138286c94a75aef05", func := "selion/selionlaw14.ImageOrder", spec := "imageOrder", inPlace := ["slices.overlaps[selion/chain.Version]", "slices.overlaps[selion/store.row]", "internal/abi.NoEscape", "internal/bytealg.MakeNoZero"], unfollowed := true, recurses := true, named := ["selion/span.none"], apart := false, laid := [("selion/span.none", laid_selion_span_none)] }
def ImageOrderSaid : Prop := imageOrderRow.holds Tryz.pinned (OpenSpec.ofChange imageOrderSpec)

/-- ITS FALSE NEIGHBOUR: 'it returns false'. Refute it at one input. -/
def imageOrderWrong : ChangeSpec := { name := "imageOrder", fn := fun _ => fun
  | [d1, d2, d3] => { results := [.lit (.bool false)], args := [d1, d2, d3] }
  | _ => none }
def ImageOrderWrongFalsely : Prop := imageOrderRow.holds Tryz.pinned (OpenSpec.ofChange imageOrderWrong)

/- THE SECOND FORM. 'bulk': how many values and letters a reading holds, each counted each time it is reached (what is shared counts as often as it is met; a slice's spare places count too). A statement '..UptoSaid' is the law's where the arguments, and the package variables that the reading takes, are together of bulk at most 1048576: NARROWER than '..Said'. Prove '..Said' where nothing that the law and all that it calls make is longer than what came in: it says more and counts as full. Else prove '..UptoSaid'. A law counts once. -/
mutual
def uptoBulk {H : Type} : DataW H → Nat
  | .lit (.string bytes) => bytes.length + 1
  | .lit _ => 1
  | .nil => 1
  | .ptr d => uptoBulk d + 1
  | .slice elems spare => uptoBulkAll elems + uptoBulkAll spare + 1
  | .agg parts => uptoBulkAll parts + 1
  | .iface _ d => uptoBulk d + 1
  | .map entries => uptoBulkEntries entries + 1
  | .held _ => 1
def uptoBulkAll {H : Type} : List (DataW H) → Nat
  | [] => 0
  | d :: r => uptoBulk d + uptoBulkAll r
def uptoBulkEntries {H : Type} : List (Lit × DataW H) → Nat
  | [] => 0
  | x :: r => uptoBulkEntry x + uptoBulkEntries r
def uptoBulkEntry {H : Type} : Lit × DataW H → Nat
  | (.string bytes, d) => bytes.length + uptoBulk d + 1
  | (_, d) => uptoBulk d + 1
 end
def uptoSmall : (H : Type) → List (DataW H) → Bool := fun _ ds => decide (uptoBulkAll ds ≤ 1048576)
def OpenSpec.upto (s : _root_.Go.ChangeSpec) : _root_.Go.OpenSpec := { _root_.Go.OpenSpec.ofChange s with cond := some uptoSmall }

/-- 'selionlaw13.RecordValues', WHERE WHAT IT READS IS OF BULK AT MOST 1048576: true; the input reads as it did. -/
def recordValuesUptoRow : OpenClaim := { program := "ytkcljmaklingoaagreatdoor", sum := "3781bc507dae6fc354d4ea3bd08d1071c2faac5b9a38673138286c94a75aef05", func := "selion/selionlaw13.RecordValues", spec := "recordValues", inPlace := ["slices.overlaps[selion/chain.Version]", "slices.overlaps[selion/store.row]"], unfollowed := true, recurses := true, named := ["selion/span.none"], apart := false, laid := [("selion/span.none", laid_selion_span_none)], narrowed := true }
def RecordValuesUptoSaid : Prop := recordValuesUptoRow.holds Tryz.pinned (OpenSpec.upto recordValuesSpec)

/-- 'selionlaw13.RecordRaw', WHERE WHAT IT READS IS OF BULK AT MOST 1048576: true; the input reads as it did. -/
def recordRawUptoRow : OpenClaim := { program := "ytkcljmaklingoaagreatdoor", sum := "3781bc507dae6fc354d4ea3bd08d1071c2faac5b9a38673138286c94a75aef05", func := "selion/selionlaw13.RecordRaw", spec := "recordRaw", inPlace := ["slices.overlaps[selion/chain.Version]", "slices.overlaps[selion/store.row]"], unfollowed := true, recurses := true, named := ["selion/span.none"], apart := false, laid := [("selion/span.none", laid_selion_span_none)], narrowed := true }
def RecordRawUptoSaid : Prop := recordRawUptoRow.holds Tryz.pinned (OpenSpec.upto recordRawSpec)

/-- 'selionlaw13.RecordApart', WHERE WHAT IT READS IS OF BULK AT MOST 1048576: true; the input reads as it did. -/
def recordApartUptoRow : OpenClaim := { program := "ytkcljmaklingoaagreatdoor", sum := "3781bc507dae6fc354d4ea3bd08d1071c2faac5b9a38673138286c94a75aef05", func := "selion/selionlaw13.RecordApart", spec := "recordApart", inPlace := ["slices.overlaps[selion/chain.Version]", "slices.overlaps[selion/store.row]", "internal/abi.NoEscape", "internal/bytealg.MakeNoZero"], unfollowed := true, recurses := true, named := ["selion/span.none"], apart := false, laid := [("selion/span.none", laid_selion_span_none)], narrowed := true }
def RecordApartUptoSaid : Prop := recordApartUptoRow.holds Tryz.pinned (OpenSpec.upto recordApartSpec)

/-- 'selionlaw13.RecordBack', WHERE WHAT IT READS IS OF BULK AT MOST 1048576: true; the input reads as it did. -/
def recordBackUptoRow : OpenClaim := { program := "ytkcljmaklingoaagreatdoor", sum := "3781bc507dae6fc354d4ea3bd08d1071c2faac5b9a38673138286c94a75aef05", func := "selion/selionlaw13.RecordBack", spec := "recordBack", inPlace := ["slices.overlaps[selion/chain.Version]", "slices.overlaps[selion/store.row]", "internal/abi.NoEscape", "internal/bytealg.MakeNoZero"], unfollowed := true, recurses := true, named := ["selion/span.none"], apart := false, laid := [("selion/span.none", laid_selion_span_none)], narrowed := true }
def RecordBackUptoSaid : Prop := recordBackUptoRow.holds Tryz.pinned (OpenSpec.upto recordBackSpec)

/-- 'selionlaw13.RecordSpoilt', WHERE WHAT IT READS IS OF BULK AT MOST 1048576: true; the input reads as it did. -/
def recordSpoiltUptoRow : OpenClaim := { program := "ytkcljmaklingoaagreatdoor", sum := "3781bc507dae6fc354d4ea3bd08d1071c2faac5b9a38673138286c94a75aef05", func := "selion/selionlaw13.RecordSpoilt", spec := "recordSpoilt", inPlace := ["slices.overlaps[selion/chain.Version]", "slices.overlaps[selion/store.row]", "internal/abi.NoEscape", "internal/bytealg.MakeNoZero"], unfollowed := true, recurses := true, named := ["selion/span.none"], apart := false, laid := [("selion/span.none", laid_selion_span_none)], narrowed := true }
def RecordSpoiltUptoSaid : Prop := recordSpoiltUptoRow.holds Tryz.pinned (OpenSpec.upto recordSpoiltSpec)

/-- 'selionlaw14.ImageBack', WHERE WHAT IT READS IS OF BULK AT MOST 1048576: true; the input reads as it did. -/
def imageBackUptoRow : OpenClaim := { program := "ytkcljmaklingoaagreatdoor", sum := "3781bc507dae6fc354d4ea3bd08d1071c2faac5b9a38673138286c94a75aef05", func := "selion/selionlaw14.ImageBack", spec := "imageBack", inPlace := ["slices.overlaps[selion/chain.Version]", "slices.overlaps[selion/store.row]", "internal/abi.NoEscape", "internal/bytealg.MakeNoZero"], unfollowed := true, recurses := true, named := ["selion/span.none"], apart := false, laid := [("selion/span.none", laid_selion_span_none)], narrowed := true }
def ImageBackUptoSaid : Prop := imageBackUptoRow.holds Tryz.pinned (OpenSpec.upto imageBackSpec)

/-- 'selionlaw14.ImageLate', WHERE WHAT IT READS IS OF BULK AT MOST 1048576: true; the input reads as it did. -/
def imageLateUptoRow : OpenClaim := { program := "ytkcljmaklingoaagreatdoor", sum := "3781bc507dae6fc354d4ea3bd08d1071c2faac5b9a38673138286c94a75aef05", func := "selion/selionlaw14.ImageLate", spec := "imageLate", inPlace := ["slices.overlaps[selion/chain.Version]", "slices.overlaps[selion/store.row]", "internal/abi.NoEscape", "internal/bytealg.MakeNoZero"], unfollowed := true, recurses := true, named := ["selion/span.none"], apart := false, laid := [("selion/span.none", laid_selion_span_none)], narrowed := true }
def ImageLateUptoSaid : Prop := imageLateUptoRow.holds Tryz.pinned (OpenSpec.upto imageLateSpec)

/-- 'selionlaw14.ImageRaw', WHERE WHAT IT READS IS OF BULK AT MOST 1048576: true; the input reads as it did. -/
def imageRawUptoRow : OpenClaim := { program := "ytkcljmaklingoaagreatdoor", sum := "3781bc507dae6fc354d4ea3bd08d1071c2faac5b9a38673138286c94a75aef05", func := "selion/selionlaw14.ImageRaw", spec := "imageRaw", inPlace := ["slices.overlaps[selion/chain.Version]", "slices.overlaps[selion/store.row]", "internal/abi.NoEscape", "internal/bytealg.MakeNoZero"], unfollowed := true, recurses := true, named := ["selion/span.none"], apart := false, laid := [("selion/span.none", laid_selion_span_none)], narrowed := true }
def ImageRawUptoSaid : Prop := imageRawUptoRow.holds Tryz.pinned (OpenSpec.upto imageRawSpec)

/-- 'selionlaw14.ImageOrder', WHERE WHAT IT READS IS OF BULK AT MOST 1048576: true; the input reads as it did. -/
def imageOrderUptoRow : OpenClaim := { program := "ytkcljmaklingoaagreatdoor", sum := "3781bc507dae6fc354d4ea3bd08d1071c2faac5b9a38673138286c94a75aef05", func := "selion/selionlaw14.ImageOrder", spec := "imageOrder", inPlace := ["slices.overlaps[selion/chain.Version]", "slices.overlaps[selion/store.row]", "internal/abi.NoEscape", "internal/bytealg.MakeNoZero"], unfollowed := true, recurses := true, named := ["selion/span.none"], apart := false, laid := [("selion/span.none", laid_selion_span_none)], narrowed := true }
def ImageOrderUptoSaid : Prop := imageOrderUptoRow.holds Tryz.pinned (OpenSpec.upto imageOrderSpec)

end Rows
end Go.Proofs.YtkcljmaklingoaaGreatDoor
