/-
  NARROWER THAN 'FOR EVERY INPUT', by the rows' own cells (each row's printed sentence says how): EngineFull: laid · TxnPoint: laid · TxnSafe: laid · TxnSnap: laid · TxnPurged: laid · TxnOwn: laid · TxnPlays: laid · TxnLate: laid · TxnErrors: laid · TxnAborts: laid · EnginePlays: laid · EngineAgain: laid · EngineChecks: laid.
  DERIVED. THE GIVEN ROWS OF THIS SEAT. 13 by the template 'for every input the law returns true; each argument reads behind the call as it read before'; 0 by the template 'total and deterministic' (their statements: YtmdielggbailgaaGreatDoorTotals.lean).
  GIVEN WITH THE SEED: the statements are not yours to turn. If you find one false, say at which input.
  Laid BY PROGRAM, IN A SANDBOX (cutbox-rows.mjs): the forced cells as the released guide's own fill.sh prints them over the translation 523f09bf67902013… (all of the seat's roots in one cut). By AI agents, Wed Nov 11 2026. No macro, syntax, notation, axiom, sorry.
-/
import Derived.Test.YtmdielggbailgaaGreatDoorChecked
import GoSem.Claim
import GoSem.ClaimJoined
import GoSem.ClaimMapViews
import Derived.JoinedTies
import Derived.KernelRfl
namespace Go.Proofs.YtmdielggbailgaaGreatDoor
/- THE CELL 'sum', in the pinned program and in every row, IS THE sha256 OF THE DUMP (.gsa) THAT YtmdielggbailgaaGreatDoorProg.lean LOADS. Nothing in Lean hashes anything: it is a label: what it is worth is what the hold of that sum in a sandbox is worth. -/
noncomputable def Tryz.pinned : Pinned := { name := "ytmdielggbailgaagreatdoor", sum := "523f09bf67902013a262b3cee993d941de0dfe128bbdd9221842c1b4ef66b864", checked := Tryz.checked }
namespace Rows
def none {H : Type} : Left H := { results := [], args := [] }

/- WHAT THE LISTED PACKAGE-LEVEL VARIABLES READ AS WHEN THE CALL BEGINS. Each datum BY PROGRAM (the guide's laid-datum.mjs) off the statement by which the dump's own 'gosem.cut.vars' lays the variable. In a bare row this is a premise. The card (YtmdielggbailgaaGreatDoorCards.lean) ties it to the program's text. -/
def laid_selion_span_none {H : Type} : DataW H := .agg [.lit (.int .u64 1), .lit (.int .u64 0)]
def laid_math_bits_deBruijn32tab {H : Type} : DataW H := .agg [.lit (.int .u8 0), .lit (.int .u8 1), .lit (.int .u8 28), .lit (.int .u8 2), .lit (.int .u8 29), .lit (.int .u8 14), .lit (.int .u8 24), .lit (.int .u8 3), .lit (.int .u8 30), .lit (.int .u8 22), .lit (.int .u8 20), .lit (.int .u8 15), .lit (.int .u8 25), .lit (.int .u8 17), .lit (.int .u8 4), .lit (.int .u8 8), .lit (.int .u8 31), .lit (.int .u8 27), .lit (.int .u8 13), .lit (.int .u8 23), .lit (.int .u8 21), .lit (.int .u8 19), .lit (.int .u8 16), .lit (.int .u8 7), .lit (.int .u8 26), .lit (.int .u8 12), .lit (.int .u8 18), .lit (.int .u8 6), .lit (.int .u8 11), .lit (.int .u8 5), .lit (.int .u8 10), .lit (.int .u8 9)]
def laid_math_bits_deBruijn64tab {H : Type} : DataW H := .agg [.lit (.int .u8 0), .lit (.int .u8 1), .lit (.int .u8 56), .lit (.int .u8 2), .lit (.int .u8 57), .lit (.int .u8 49), .lit (.int .u8 28), .lit (.int .u8 3), .lit (.int .u8 61), .lit (.int .u8 58), .lit (.int .u8 42), .lit (.int .u8 50), .lit (.int .u8 38), .lit (.int .u8 29), .lit (.int .u8 17), .lit (.int .u8 4), .lit (.int .u8 62), .lit (.int .u8 47), .lit (.int .u8 59), .lit (.int .u8 36), .lit (.int .u8 45), .lit (.int .u8 43), .lit (.int .u8 51), .lit (.int .u8 22), .lit (.int .u8 53), .lit (.int .u8 39), .lit (.int .u8 33), .lit (.int .u8 30), .lit (.int .u8 24), .lit (.int .u8 18), .lit (.int .u8 12), .lit (.int .u8 5), .lit (.int .u8 63), .lit (.int .u8 55), .lit (.int .u8 48), .lit (.int .u8 27), .lit (.int .u8 60), .lit (.int .u8 41), .lit (.int .u8 37), .lit (.int .u8 16), .lit (.int .u8 46), .lit (.int .u8 35), .lit (.int .u8 44), .lit (.int .u8 21), .lit (.int .u8 52), .lit (.int .u8 32), .lit (.int .u8 23), .lit (.int .u8 11), .lit (.int .u8 54), .lit (.int .u8 26), .lit (.int .u8 40), .lit (.int .u8 15), .lit (.int .u8 34), .lit (.int .u8 20), .lit (.int .u8 31), .lit (.int .u8 10), .lit (.int .u8 25), .lit (.int .u8 14), .lit (.int .u8 19), .lit (.int .u8 9), .lit (.int .u8 13), .lit (.int .u8 8), .lit (.int .u8 7), .lit (.int .u8 6)]
def laid_internal_strconv_uint64pow10 {H : Type} : DataW H := .agg [.lit (.int .u64 1), .lit (.int .u64 10), .lit (.int .u64 100), .lit (.int .u64 1000), .lit (.int .u64 10000), .lit (.int .u64 100000), .lit (.int .u64 1000000), .lit (.int .u64 10000000), .lit (.int .u64 100000000), .lit (.int .u64 1000000000), .lit (.int .u64 10000000000), .lit (.int .u64 100000000000), .lit (.int .u64 1000000000000), .lit (.int .u64 10000000000000), .lit (.int .u64 100000000000000), .lit (.int .u64 1000000000000000), .lit (.int .u64 10000000000000000), .lit (.int .u64 100000000000000000), .lit (.int .u64 1000000000000000000), .lit (.int .u64 10000000000000000000)]

/-- 'selionlaw15.EngineFull': WHATEVER THE INPUT: true; the input reads as it did. -/
def engineFullSpec : ChangeSpec := { name := "engineFull", fn := fun _ => fun
  | [d1, d2, d3] => { results := [.lit (.bool true)], args := [d1, d2, d3] }
  | _ => none }
def engineFullRow : OpenClaim := { program := "ytmdielggbailgaagreatdoor", sum := "523f09bf67902013a262b3cee993d941de0dfe128bbdd9221842c1b4ef66b864", func := "selion/selionlaw15.EngineFull", spec := "engineFull", inPlace := ["slices.overlaps[selion/chain.Version]", "slices.overlaps[selion/store.row]", "internal/abi.NoEscape", "internal/bytealg.MakeNoZero"], unfollowed := true, recurses := true, named := ["selion/span.none"], apart := false, laid := [("selion/span.none", laid_selion_span_none)] }
def EngineFullSaid : Prop := engineFullRow.holds Tryz.pinned (OpenSpec.ofChange engineFullSpec)

/-- ITS FALSE NEIGHBOUR: 'it returns false'. Refute it at one input. -/
def engineFullWrong : ChangeSpec := { name := "engineFull", fn := fun _ => fun
  | [d1, d2, d3] => { results := [.lit (.bool false)], args := [d1, d2, d3] }
  | _ => none }
def EngineFullWrongFalsely : Prop := engineFullRow.holds Tryz.pinned (OpenSpec.ofChange engineFullWrong)

/-- 'selionlaw12.TxnPoint': WHATEVER THE INPUT: true; the input reads as it did. -/
def txnPointSpec : ChangeSpec := { name := "txnPoint", fn := fun _ => fun
  | [d1, d2] => { results := [.lit (.bool true)], args := [d1, d2] }
  | _ => none }
def txnPointRow : OpenClaim := { program := "ytmdielggbailgaagreatdoor", sum := "523f09bf67902013a262b3cee993d941de0dfe128bbdd9221842c1b4ef66b864", func := "selion/selionlaw12.TxnPoint", spec := "txnPoint", inPlace := ["slices.overlaps[selion/chain.Version]", "slices.overlaps[selion/store.row]", "internal/abi.NoEscape", "internal/bytealg.MakeNoZero"], unfollowed := true, recurses := true, named := ["selion/span.none", "internal/strconv.uint64pow10", "math/bits.deBruijn32tab", "math/bits.deBruijn64tab"], apart := false, laid := [("math/bits.deBruijn32tab", laid_math_bits_deBruijn32tab), ("math/bits.deBruijn64tab", laid_math_bits_deBruijn64tab), ("internal/strconv.uint64pow10", laid_internal_strconv_uint64pow10), ("selion/span.none", laid_selion_span_none)] }
def TxnPointSaid : Prop := txnPointRow.holds Tryz.pinned (OpenSpec.ofChange txnPointSpec)

/-- ITS FALSE NEIGHBOUR: 'it returns false'. Refute it at one input. -/
def txnPointWrong : ChangeSpec := { name := "txnPoint", fn := fun _ => fun
  | [d1, d2] => { results := [.lit (.bool false)], args := [d1, d2] }
  | _ => none }
def TxnPointWrongFalsely : Prop := txnPointRow.holds Tryz.pinned (OpenSpec.ofChange txnPointWrong)

/-- 'selionlaw12.TxnSafe': WHATEVER THE INPUT: true; the input reads as it did. -/
def txnSafeSpec : ChangeSpec := { name := "txnSafe", fn := fun _ => fun
  | [d] => { results := [.lit (.bool true)], args := [d] }
  | _ => none }
def txnSafeRow : OpenClaim := { program := "ytmdielggbailgaagreatdoor", sum := "523f09bf67902013a262b3cee993d941de0dfe128bbdd9221842c1b4ef66b864", func := "selion/selionlaw12.TxnSafe", spec := "txnSafe", inPlace := ["slices.overlaps[selion/chain.Version]", "slices.overlaps[selion/store.row]", "internal/abi.NoEscape", "internal/bytealg.MakeNoZero"], unfollowed := true, recurses := true, named := ["selion/span.none", "internal/strconv.uint64pow10", "math/bits.deBruijn32tab", "math/bits.deBruijn64tab"], apart := false, laid := [("math/bits.deBruijn32tab", laid_math_bits_deBruijn32tab), ("math/bits.deBruijn64tab", laid_math_bits_deBruijn64tab), ("internal/strconv.uint64pow10", laid_internal_strconv_uint64pow10), ("selion/span.none", laid_selion_span_none)] }
def TxnSafeSaid : Prop := txnSafeRow.holds Tryz.pinned (OpenSpec.ofChange txnSafeSpec)

/-- ITS FALSE NEIGHBOUR: 'it returns false'. Refute it at one input. -/
def txnSafeWrong : ChangeSpec := { name := "txnSafe", fn := fun _ => fun
  | [d] => { results := [.lit (.bool false)], args := [d] }
  | _ => none }
def TxnSafeWrongFalsely : Prop := txnSafeRow.holds Tryz.pinned (OpenSpec.ofChange txnSafeWrong)

/-- 'selionlaw12.TxnSnap': WHATEVER THE INPUT: true; the input reads as it did. -/
def txnSnapSpec : ChangeSpec := { name := "txnSnap", fn := fun _ => fun
  | [d1, d2, d3] => { results := [.lit (.bool true)], args := [d1, d2, d3] }
  | _ => none }
def txnSnapRow : OpenClaim := { program := "ytmdielggbailgaagreatdoor", sum := "523f09bf67902013a262b3cee993d941de0dfe128bbdd9221842c1b4ef66b864", func := "selion/selionlaw12.TxnSnap", spec := "txnSnap", inPlace := ["slices.overlaps[selion/chain.Version]", "slices.overlaps[selion/store.row]", "internal/abi.NoEscape", "internal/bytealg.MakeNoZero"], unfollowed := true, recurses := true, named := ["selion/span.none", "internal/strconv.uint64pow10", "math/bits.deBruijn32tab", "math/bits.deBruijn64tab"], apart := false, laid := [("math/bits.deBruijn32tab", laid_math_bits_deBruijn32tab), ("math/bits.deBruijn64tab", laid_math_bits_deBruijn64tab), ("internal/strconv.uint64pow10", laid_internal_strconv_uint64pow10), ("selion/span.none", laid_selion_span_none)] }
def TxnSnapSaid : Prop := txnSnapRow.holds Tryz.pinned (OpenSpec.ofChange txnSnapSpec)

/-- ITS FALSE NEIGHBOUR: 'it returns false'. Refute it at one input. -/
def txnSnapWrong : ChangeSpec := { name := "txnSnap", fn := fun _ => fun
  | [d1, d2, d3] => { results := [.lit (.bool false)], args := [d1, d2, d3] }
  | _ => none }
def TxnSnapWrongFalsely : Prop := txnSnapRow.holds Tryz.pinned (OpenSpec.ofChange txnSnapWrong)

/-- 'selionlaw12.TxnPurged': WHATEVER THE INPUT: true; the input reads as it did. -/
def txnPurgedSpec : ChangeSpec := { name := "txnPurged", fn := fun _ => fun
  | [d1, d2] => { results := [.lit (.bool true)], args := [d1, d2] }
  | _ => none }
def txnPurgedRow : OpenClaim := { program := "ytmdielggbailgaagreatdoor", sum := "523f09bf67902013a262b3cee993d941de0dfe128bbdd9221842c1b4ef66b864", func := "selion/selionlaw12.TxnPurged", spec := "txnPurged", inPlace := ["slices.overlaps[selion/chain.Version]", "slices.overlaps[selion/store.row]", "maps.clone", "internal/abi.NoEscape", "internal/bytealg.MakeNoZero"], unfollowed := true, recurses := true, named := ["selion/span.none", "internal/strconv.uint64pow10", "math/bits.deBruijn32tab", "math/bits.deBruijn64tab"], apart := false, laid := [("math/bits.deBruijn32tab", laid_math_bits_deBruijn32tab), ("math/bits.deBruijn64tab", laid_math_bits_deBruijn64tab), ("internal/strconv.uint64pow10", laid_internal_strconv_uint64pow10), ("selion/span.none", laid_selion_span_none)] }
def TxnPurgedSaid : Prop := txnPurgedRow.holds Tryz.pinned (OpenSpec.ofChange txnPurgedSpec)

/-- ITS FALSE NEIGHBOUR: 'it returns false'. Refute it at one input. -/
def txnPurgedWrong : ChangeSpec := { name := "txnPurged", fn := fun _ => fun
  | [d1, d2] => { results := [.lit (.bool false)], args := [d1, d2] }
  | _ => none }
def TxnPurgedWrongFalsely : Prop := txnPurgedRow.holds Tryz.pinned (OpenSpec.ofChange txnPurgedWrong)

/-- 'selionlaw12.TxnOwn': WHATEVER THE INPUT: true; the input reads as it did. -/
def txnOwnSpec : ChangeSpec := { name := "txnOwn", fn := fun _ => fun
  | [d1, d2] => { results := [.lit (.bool true)], args := [d1, d2] }
  | _ => none }
def txnOwnRow : OpenClaim := { program := "ytmdielggbailgaagreatdoor", sum := "523f09bf67902013a262b3cee993d941de0dfe128bbdd9221842c1b4ef66b864", func := "selion/selionlaw12.TxnOwn", spec := "txnOwn", inPlace := ["slices.overlaps[selion/chain.Version]", "slices.overlaps[selion/store.row]", "internal/abi.NoEscape", "internal/bytealg.MakeNoZero"], unfollowed := true, recurses := true, named := ["selion/span.none", "internal/strconv.uint64pow10", "math/bits.deBruijn32tab", "math/bits.deBruijn64tab"], apart := false, laid := [("math/bits.deBruijn32tab", laid_math_bits_deBruijn32tab), ("math/bits.deBruijn64tab", laid_math_bits_deBruijn64tab), ("internal/strconv.uint64pow10", laid_internal_strconv_uint64pow10), ("selion/span.none", laid_selion_span_none)] }
def TxnOwnSaid : Prop := txnOwnRow.holds Tryz.pinned (OpenSpec.ofChange txnOwnSpec)

/-- ITS FALSE NEIGHBOUR: 'it returns false'. Refute it at one input. -/
def txnOwnWrong : ChangeSpec := { name := "txnOwn", fn := fun _ => fun
  | [d1, d2] => { results := [.lit (.bool false)], args := [d1, d2] }
  | _ => none }
def TxnOwnWrongFalsely : Prop := txnOwnRow.holds Tryz.pinned (OpenSpec.ofChange txnOwnWrong)

/-- 'selionlaw12.TxnPlays': WHATEVER THE INPUT: true; the input reads as it did. -/
def txnPlaysSpec : ChangeSpec := { name := "txnPlays", fn := fun _ => fun
  | [d] => { results := [.lit (.bool true)], args := [d] }
  | _ => none }
def txnPlaysRow : OpenClaim := { program := "ytmdielggbailgaagreatdoor", sum := "523f09bf67902013a262b3cee993d941de0dfe128bbdd9221842c1b4ef66b864", func := "selion/selionlaw12.TxnPlays", spec := "txnPlays", inPlace := ["slices.overlaps[selion/chain.Version]", "slices.overlaps[selion/store.row]", "internal/abi.NoEscape", "internal/bytealg.MakeNoZero"], unfollowed := true, recurses := true, named := ["selion/span.none", "internal/strconv.uint64pow10", "math/bits.deBruijn32tab", "math/bits.deBruijn64tab"], apart := false, laid := [("math/bits.deBruijn32tab", laid_math_bits_deBruijn32tab), ("math/bits.deBruijn64tab", laid_math_bits_deBruijn64tab), ("internal/strconv.uint64pow10", laid_internal_strconv_uint64pow10), ("selion/span.none", laid_selion_span_none)] }
def TxnPlaysSaid : Prop := txnPlaysRow.holds Tryz.pinned (OpenSpec.ofChange txnPlaysSpec)

/-- ITS FALSE NEIGHBOUR: 'it returns false'. Refute it at one input. -/
def txnPlaysWrong : ChangeSpec := { name := "txnPlays", fn := fun _ => fun
  | [d] => { results := [.lit (.bool false)], args := [d] }
  | _ => none }
def TxnPlaysWrongFalsely : Prop := txnPlaysRow.holds Tryz.pinned (OpenSpec.ofChange txnPlaysWrong)

/-- 'selionlaw12.TxnLate': WHATEVER THE INPUT: true; the input reads as it did. -/
def txnLateSpec : ChangeSpec := { name := "txnLate", fn := fun _ => fun
  | [d1, d2, d3] => { results := [.lit (.bool true)], args := [d1, d2, d3] }
  | _ => none }
def txnLateRow : OpenClaim := { program := "ytmdielggbailgaagreatdoor", sum := "523f09bf67902013a262b3cee993d941de0dfe128bbdd9221842c1b4ef66b864", func := "selion/selionlaw12.TxnLate", spec := "txnLate", inPlace := ["slices.overlaps[selion/chain.Version]", "slices.overlaps[selion/store.row]", "internal/abi.NoEscape", "internal/bytealg.MakeNoZero"], unfollowed := true, recurses := true, named := ["selion/span.none", "internal/strconv.uint64pow10", "math/bits.deBruijn32tab", "math/bits.deBruijn64tab"], apart := false, laid := [("math/bits.deBruijn32tab", laid_math_bits_deBruijn32tab), ("math/bits.deBruijn64tab", laid_math_bits_deBruijn64tab), ("internal/strconv.uint64pow10", laid_internal_strconv_uint64pow10), ("selion/span.none", laid_selion_span_none)] }
def TxnLateSaid : Prop := txnLateRow.holds Tryz.pinned (OpenSpec.ofChange txnLateSpec)

/-- ITS FALSE NEIGHBOUR: 'it returns false'. Refute it at one input. -/
def txnLateWrong : ChangeSpec := { name := "txnLate", fn := fun _ => fun
  | [d1, d2, d3] => { results := [.lit (.bool false)], args := [d1, d2, d3] }
  | _ => none }
def TxnLateWrongFalsely : Prop := txnLateRow.holds Tryz.pinned (OpenSpec.ofChange txnLateWrong)

/-- 'selionlaw12.TxnErrors': WHATEVER THE INPUT: true; the input reads as it did. -/
def txnErrorsSpec : ChangeSpec := { name := "txnErrors", fn := fun _ => fun
  | [d1, d2, d3, d4, d5, d6] => { results := [.lit (.bool true)], args := [d1, d2, d3, d4, d5, d6] }
  | _ => none }
def txnErrorsRow : OpenClaim := { program := "ytmdielggbailgaagreatdoor", sum := "523f09bf67902013a262b3cee993d941de0dfe128bbdd9221842c1b4ef66b864", func := "selion/selionlaw12.TxnErrors", spec := "txnErrors", inPlace := ["slices.overlaps[selion/chain.Version]", "slices.overlaps[selion/store.row]", "internal/abi.NoEscape", "internal/bytealg.MakeNoZero"], unfollowed := true, recurses := true, named := ["selion/span.none", "internal/strconv.uint64pow10", "math/bits.deBruijn32tab", "math/bits.deBruijn64tab"], apart := false, laid := [("math/bits.deBruijn32tab", laid_math_bits_deBruijn32tab), ("math/bits.deBruijn64tab", laid_math_bits_deBruijn64tab), ("internal/strconv.uint64pow10", laid_internal_strconv_uint64pow10), ("selion/span.none", laid_selion_span_none)] }
def TxnErrorsSaid : Prop := txnErrorsRow.holds Tryz.pinned (OpenSpec.ofChange txnErrorsSpec)

/-- ITS FALSE NEIGHBOUR: 'it returns false'. Refute it at one input. -/
def txnErrorsWrong : ChangeSpec := { name := "txnErrors", fn := fun _ => fun
  | [d1, d2, d3, d4, d5, d6] => { results := [.lit (.bool false)], args := [d1, d2, d3, d4, d5, d6] }
  | _ => none }
def TxnErrorsWrongFalsely : Prop := txnErrorsRow.holds Tryz.pinned (OpenSpec.ofChange txnErrorsWrong)

/-- 'selionlaw12.TxnAborts': WHATEVER THE INPUT: true; the input reads as it did. -/
def txnAbortsSpec : ChangeSpec := { name := "txnAborts", fn := fun _ => fun
  | [d1, d2] => { results := [.lit (.bool true)], args := [d1, d2] }
  | _ => none }
def txnAbortsRow : OpenClaim := { program := "ytmdielggbailgaagreatdoor", sum := "523f09bf67902013a262b3cee993d941de0dfe128bbdd9221842c1b4ef66b864", func := "selion/selionlaw12.TxnAborts", spec := "txnAborts", inPlace := ["slices.overlaps[selion/chain.Version]", "slices.overlaps[selion/store.row]", "internal/abi.NoEscape", "internal/bytealg.MakeNoZero"], unfollowed := true, recurses := true, named := ["selion/span.none", "internal/strconv.uint64pow10", "math/bits.deBruijn32tab", "math/bits.deBruijn64tab"], apart := false, laid := [("math/bits.deBruijn32tab", laid_math_bits_deBruijn32tab), ("math/bits.deBruijn64tab", laid_math_bits_deBruijn64tab), ("internal/strconv.uint64pow10", laid_internal_strconv_uint64pow10), ("selion/span.none", laid_selion_span_none)] }
def TxnAbortsSaid : Prop := txnAbortsRow.holds Tryz.pinned (OpenSpec.ofChange txnAbortsSpec)

/-- ITS FALSE NEIGHBOUR: 'it returns false'. Refute it at one input. -/
def txnAbortsWrong : ChangeSpec := { name := "txnAborts", fn := fun _ => fun
  | [d1, d2] => { results := [.lit (.bool false)], args := [d1, d2] }
  | _ => none }
def TxnAbortsWrongFalsely : Prop := txnAbortsRow.holds Tryz.pinned (OpenSpec.ofChange txnAbortsWrong)

/-- 'selionlaw15.EnginePlays': WHATEVER THE INPUT: true; the input reads as it did. -/
def enginePlaysSpec : ChangeSpec := { name := "enginePlays", fn := fun _ => fun
  | [d1, d2] => { results := [.lit (.bool true)], args := [d1, d2] }
  | _ => none }
def enginePlaysRow : OpenClaim := { program := "ytmdielggbailgaagreatdoor", sum := "523f09bf67902013a262b3cee993d941de0dfe128bbdd9221842c1b4ef66b864", func := "selion/selionlaw15.EnginePlays", spec := "enginePlays", inPlace := ["slices.overlaps[selion/chain.Version]", "slices.overlaps[selion/store.row]", "internal/abi.NoEscape", "internal/bytealg.MakeNoZero"], unfollowed := true, recurses := true, named := ["selion/span.none", "internal/strconv.uint64pow10", "math/bits.deBruijn32tab", "math/bits.deBruijn64tab"], apart := false, laid := [("math/bits.deBruijn32tab", laid_math_bits_deBruijn32tab), ("math/bits.deBruijn64tab", laid_math_bits_deBruijn64tab), ("internal/strconv.uint64pow10", laid_internal_strconv_uint64pow10), ("selion/span.none", laid_selion_span_none)] }
def EnginePlaysSaid : Prop := enginePlaysRow.holds Tryz.pinned (OpenSpec.ofChange enginePlaysSpec)

/-- ITS FALSE NEIGHBOUR: 'it returns false'. Refute it at one input. -/
def enginePlaysWrong : ChangeSpec := { name := "enginePlays", fn := fun _ => fun
  | [d1, d2] => { results := [.lit (.bool false)], args := [d1, d2] }
  | _ => none }
def EnginePlaysWrongFalsely : Prop := enginePlaysRow.holds Tryz.pinned (OpenSpec.ofChange enginePlaysWrong)

/-- 'selionlaw15.EngineAgain': WHATEVER THE INPUT: true; the input reads as it did. -/
def engineAgainSpec : ChangeSpec := { name := "engineAgain", fn := fun _ => fun
  | [d1, d2, d3] => { results := [.lit (.bool true)], args := [d1, d2, d3] }
  | _ => none }
def engineAgainRow : OpenClaim := { program := "ytmdielggbailgaagreatdoor", sum := "523f09bf67902013a262b3cee993d941de0dfe128bbdd9221842c1b4ef66b864", func := "selion/selionlaw15.EngineAgain", spec := "engineAgain", inPlace := ["slices.overlaps[selion/chain.Version]", "slices.overlaps[selion/store.row]", "internal/abi.NoEscape", "internal/bytealg.MakeNoZero"], unfollowed := true, recurses := true, named := ["selion/span.none", "internal/strconv.uint64pow10", "math/bits.deBruijn32tab", "math/bits.deBruijn64tab"], apart := false, laid := [("math/bits.deBruijn32tab", laid_math_bits_deBruijn32tab), ("math/bits.deBruijn64tab", laid_math_bits_deBruijn64tab), ("internal/strconv.uint64pow10", laid_internal_strconv_uint64pow10), ("selion/span.none", laid_selion_span_none)] }
def EngineAgainSaid : Prop := engineAgainRow.holds Tryz.pinned (OpenSpec.ofChange engineAgainSpec)

/-- ITS FALSE NEIGHBOUR: 'it returns false'. Refute it at one input. -/
def engineAgainWrong : ChangeSpec := { name := "engineAgain", fn := fun _ => fun
  | [d1, d2, d3] => { results := [.lit (.bool false)], args := [d1, d2, d3] }
  | _ => none }
def EngineAgainWrongFalsely : Prop := engineAgainRow.holds Tryz.pinned (OpenSpec.ofChange engineAgainWrong)

/-- 'selionlaw15.EngineChecks': WHATEVER THE INPUT: true; the input reads as it did. -/
def engineChecksSpec : ChangeSpec := { name := "engineChecks", fn := fun _ => fun
  | [d1, d2] => { results := [.lit (.bool true)], args := [d1, d2] }
  | _ => none }
def engineChecksRow : OpenClaim := { program := "ytmdielggbailgaagreatdoor", sum := "523f09bf67902013a262b3cee993d941de0dfe128bbdd9221842c1b4ef66b864", func := "selion/selionlaw15.EngineChecks", spec := "engineChecks", inPlace := ["slices.overlaps[selion/chain.Version]", "slices.overlaps[selion/store.row]", "internal/abi.NoEscape", "internal/bytealg.MakeNoZero"], unfollowed := true, recurses := true, named := ["selion/span.none", "internal/strconv.uint64pow10", "math/bits.deBruijn32tab", "math/bits.deBruijn64tab"], apart := false, laid := [("math/bits.deBruijn32tab", laid_math_bits_deBruijn32tab), ("math/bits.deBruijn64tab", laid_math_bits_deBruijn64tab), ("internal/strconv.uint64pow10", laid_internal_strconv_uint64pow10), ("selion/span.none", laid_selion_span_none)] }
def EngineChecksSaid : Prop := engineChecksRow.holds Tryz.pinned (OpenSpec.ofChange engineChecksSpec)

/-- ITS FALSE NEIGHBOUR: 'it returns false'. Refute it at one input. -/
def engineChecksWrong : ChangeSpec := { name := "engineChecks", fn := fun _ => fun
  | [d1, d2] => { results := [.lit (.bool false)], args := [d1, d2] }
  | _ => none }
def EngineChecksWrongFalsely : Prop := engineChecksRow.holds Tryz.pinned (OpenSpec.ofChange engineChecksWrong)

/- THE SECOND FORM. 'bulk': how many values and letters a reading holds, each counted each time it is reached (what is shared counts as often as it is met; a slice's spare places count too). A statement '..UptoSaid' is the law's where the arguments, and the package variables that the reading takes, are together of bulk at most 1048576: NARROWER than '..Said'. Prove '..Said' where nothing that the law and all that it calls make is longer than what came in: it says more and counts as full. Else prove '..UptoSaid'. A law counts once. -/
mutual
def uptoBulk {H : Type} : DataW H → Nat
  | .lit (.string bytes) => bytes.length + 1
  | .lit _ => 1
  | .nil => 1
  | .ptr d => uptoBulk d + 1
  | .slice elems spare => uptoBulkAll elems + uptoBulkAll spare + 1
  | .agg parts => uptoBulkAll parts + 1
  | .iface _ d => uptoBulk d + 1
  | .map entries => uptoBulkEntries entries + 1
  | .held _ => 1
def uptoBulkAll {H : Type} : List (DataW H) → Nat
  | [] => 0
  | d :: r => uptoBulk d + uptoBulkAll r
def uptoBulkEntries {H : Type} : List (Lit × DataW H) → Nat
  | [] => 0
  | x :: r => uptoBulkEntry x + uptoBulkEntries r
def uptoBulkEntry {H : Type} : Lit × DataW H → Nat
  | (.string bytes, d) => bytes.length + uptoBulk d + 1
  | (_, d) => uptoBulk d + 1
 end
def uptoSmall : (H : Type) → List (DataW H) → Bool := fun _ ds => decide (uptoBulkAll ds ≤ 1048576)
def OpenSpec.upto (s : _root_.Go.ChangeSpec) : _root_.Go.OpenSpec := { _root_.Go.OpenSpec.ofChange s with cond := some uptoSmall }

/-- 'selionlaw15.EngineFull', WHERE WHAT IT READS IS OF BULK AT MOST 1048576: true; the input reads as it did. -/
def engineFullUptoRow : OpenClaim := { program := "ytmdielggbailgaagreatdoor", sum := "523f09bf67902013a262b3cee993d941de0dfe128bbdd9221842c1b4ef66b864", func := "selion/selionlaw15.EngineFull", spec := "engineFull", inPlace := ["slices.overlaps[selion/chain.Version]", "slices.overlaps[selion/store.row]", "internal/abi.NoEscape", "internal/bytealg.MakeNoZero"], unfollowed := true, recurses := true, named := ["selion/span.none"], apart := false, laid := [("selion/span.none", laid_selion_span_none)], narrowed := true }
def EngineFullUptoSaid : Prop := engineFullUptoRow.holds Tryz.pinned (OpenSpec.upto engineFullSpec)

/-- 'selionlaw12.TxnPoint', WHERE WHAT IT READS IS OF BULK AT MOST 1048576: true; the input reads as it did. -/
def txnPointUptoRow : OpenClaim := { program := "ytmdielggbailgaagreatdoor", sum := "523f09bf67902013a262b3cee993d941de0dfe128bbdd9221842c1b4ef66b864", func := "selion/selionlaw12.TxnPoint", spec := "txnPoint", inPlace := ["slices.overlaps[selion/chain.Version]", "slices.overlaps[selion/store.row]", "internal/abi.NoEscape", "internal/bytealg.MakeNoZero"], unfollowed := true, recurses := true, named := ["selion/span.none", "internal/strconv.uint64pow10", "math/bits.deBruijn32tab", "math/bits.deBruijn64tab"], apart := false, laid := [("math/bits.deBruijn32tab", laid_math_bits_deBruijn32tab), ("math/bits.deBruijn64tab", laid_math_bits_deBruijn64tab), ("internal/strconv.uint64pow10", laid_internal_strconv_uint64pow10), ("selion/span.none", laid_selion_span_none)], narrowed := true }
def TxnPointUptoSaid : Prop := txnPointUptoRow.holds Tryz.pinned (OpenSpec.upto txnPointSpec)

/-- 'selionlaw12.TxnSafe', WHERE WHAT IT READS IS OF BULK AT MOST 1048576: true; the input reads as it did. -/
def txnSafeUptoRow : OpenClaim := { program := "ytmdielggbailgaagreatdoor", sum := "523f09bf67902013a262b3cee993d941de0dfe128bbdd9221842c1b4ef66b864", func := "selion/selionlaw12.TxnSafe", spec := "txnSafe", inPlace := ["slices.overlaps[selion/chain.Version]", "slices.overlaps[selion/store.row]", "internal/abi.NoEscape", "internal/bytealg.MakeNoZero"], unfollowed := true, recurses := true, named := ["selion/span.none", "internal/strconv.uint64pow10", "math/bits.deBruijn32tab", "math/bits.deBruijn64tab"], apart := false, laid := [("math/bits.deBruijn32tab", laid_math_bits_deBruijn32tab), ("math/bits.deBruijn64tab", laid_math_bits_deBruijn64tab), ("internal/strconv.uint64pow10", laid_internal_strconv_uint64pow10), ("selion/span.none", laid_selion_span_none)], narrowed := true }
def TxnSafeUptoSaid : Prop := txnSafeUptoRow.holds Tryz.pinned (OpenSpec.upto txnSafeSpec)

/-- 'selionlaw12.TxnSnap', WHERE WHAT IT READS IS OF BULK AT MOST 1048576: true; the input reads as it did. -/
def txnSnapUptoRow : OpenClaim := { program := "ytmdielggbailgaagreatdoor", sum := "523f09bf67902013a262b3cee993d941de0dfe128bbdd9221842c1b4ef66b864", func := "selion/selionlaw12.TxnSnap", spec := "txnSnap", inPlace := ["slices.overlaps[selion/chain.Version]", "slices.overlaps[selion/store.row]", "internal/abi.NoEscape", "internal/bytealg.MakeNoZero"], unfollowed := true, recurses := true, named := ["selion/span.none", "internal/strconv.uint64pow10", "math/bits.deBruijn32tab", "math/bits.deBruijn64tab"], apart := false, laid := [("math/bits.deBruijn32tab", laid_math_bits_deBruijn32tab), ("math/bits.deBruijn64tab", laid_math_bits_deBruijn64tab), ("internal/strconv.uint64pow10", laid_internal_strconv_uint64pow10), ("selion/span.none", laid_selion_span_none)], narrowed := true }
def TxnSnapUptoSaid : Prop := txnSnapUptoRow.holds Tryz.pinned (OpenSpec.upto txnSnapSpec)

/-- 'selionlaw12.TxnPurged', WHERE WHAT IT READS IS OF BULK AT MOST 1048576: true; the input reads as it did. -/
def txnPurgedUptoRow : OpenClaim := { program := "ytmdielggbailgaagreatdoor", sum := "523f09bf67902013a262b3cee993d941de0dfe128bbdd9221842c1b4ef66b864", func := "selion/selionlaw12.TxnPurged", spec := "txnPurged", inPlace := ["slices.overlaps[selion/chain.Version]", "slices.overlaps[selion/store.row]", "maps.clone", "internal/abi.NoEscape", "internal/bytealg.MakeNoZero"], unfollowed := true, recurses := true, named := ["selion/span.none", "internal/strconv.uint64pow10", "math/bits.deBruijn32tab", "math/bits.deBruijn64tab"], apart := false, laid := [("math/bits.deBruijn32tab", laid_math_bits_deBruijn32tab), ("math/bits.deBruijn64tab", laid_math_bits_deBruijn64tab), ("internal/strconv.uint64pow10", laid_internal_strconv_uint64pow10), ("selion/span.none", laid_selion_span_none)], narrowed := true }
def TxnPurgedUptoSaid : Prop := txnPurgedUptoRow.holds Tryz.pinned (OpenSpec.upto txnPurgedSpec)

/-- 'selionlaw12.TxnOwn', WHERE WHAT IT READS IS OF BULK AT MOST 1048576: true; the input reads as it did. -/
def txnOwnUptoRow : OpenClaim := { program := "ytmdielggbailgaagreatdoor", sum := "523f09bf67902013a262b3cee993d941de0dfe128bbdd9221842c1b4ef66b864", func := "selion/selionlaw12.TxnOwn", spec := "txnOwn", inPlace := ["slices.overlaps[selion/chain.Version]", "slices.overlaps[selion/store.row]", "internal/abi.NoEscape", "internal/bytealg.MakeNoZero"], unfollowed := true, recurses := true, named := ["selion/span.none", "internal/strconv.uint64pow10", "math/bits.deBruijn32tab", "math/bits.deBruijn64tab"], apart := false, laid := [("math/bits.deBruijn32tab", laid_math_bits_deBruijn32tab), ("math/bits.deBruijn64tab", laid_math_bits_deBruijn64tab), ("internal/strconv.uint64pow10", laid_internal_strconv_uint64pow10), ("selion/span.none", laid_selion_span_none)], narrowed := true }
def TxnOwnUptoSaid : Prop := txnOwnUptoRow.holds Tryz.pinned (OpenSpec.upto txnOwnSpec)

/-- 'selionlaw12.TxnPlays', WHERE WHAT IT READS IS OF BULK AT MOST 1048576: true; the input reads as it did. -/
def txnPlaysUptoRow : OpenClaim := { program := "ytmdielggbailgaagreatdoor", sum := "523f09bf67902013a262b3cee993d941de0dfe128bbdd9221842c1b4ef66b864", func := "selion/selionlaw12.TxnPlays", spec := "txnPlays", inPlace := ["slices.overlaps[selion/chain.Version]", "slices.overlaps[selion/store.row]", "internal/abi.NoEscape", "internal/bytealg.MakeNoZero"], unfollowed := true, recurses := true, named := ["selion/span.none", "internal/strconv.uint64pow10", "math/bits.deBruijn32tab", "math/bits.deBruijn64tab"], apart := false, laid := [("math/bits.deBruijn32tab", laid_math_bits_deBruijn32tab), ("math/bits.deBruijn64tab", laid_math_bits_deBruijn64tab), ("internal/strconv.uint64pow10", laid_internal_strconv_uint64pow10), ("selion/span.none", laid_selion_span_none)], narrowed := true }
def TxnPlaysUptoSaid : Prop := txnPlaysUptoRow.holds Tryz.pinned (OpenSpec.upto txnPlaysSpec)

/-- 'selionlaw12.TxnLate', WHERE WHAT IT READS IS OF BULK AT MOST 1048576: true; the input reads as it did. -/
def txnLateUptoRow : OpenClaim := { program := "ytmdielggbailgaagreatdoor", sum := "523f09bf67902013a262b3cee993d941de0dfe128bbdd9221842c1b4ef66b864", func := "selion/selionlaw12.TxnLate", spec := "txnLate", inPlace := ["slices.overlaps[selion/chain.Version]", "slices.overlaps[selion/store.row]", "internal/abi.NoEscape", "internal/bytealg.MakeNoZero"], unfollowed := true, recurses := true, named := ["selion/span.none", "internal/strconv.uint64pow10", "math/bits.deBruijn32tab", "math/bits.deBruijn64tab"], apart := false, laid := [("math/bits.deBruijn32tab", laid_math_bits_deBruijn32tab), ("math/bits.deBruijn64tab", laid_math_bits_deBruijn64tab), ("internal/strconv.uint64pow10", laid_internal_strconv_uint64pow10), ("selion/span.none", laid_selion_span_none)], narrowed := true }
def TxnLateUptoSaid : Prop := txnLateUptoRow.holds Tryz.pinned (OpenSpec.upto txnLateSpec)

/-- 'selionlaw12.TxnErrors', WHERE WHAT IT READS IS OF BULK AT MOST 1048576: true; the input reads as it did. -/
def txnErrorsUptoRow : OpenClaim := { program := "ytmdielggbailgaagreatdoor", sum := "523f09bf67902013a262b3cee993d941de0dfe128bbdd9221842c1b4ef66b864", func := "selion/selionlaw12.TxnErrors", spec := "txnErrors", inPlace := ["slices.overlaps[selion/chain.Version]", "slices.overlaps[selion/store.row]", "internal/abi.NoEscape", "internal/bytealg.MakeNoZero"], unfollowed := true, recurses := true, named := ["selion/span.none", "internal/strconv.uint64pow10", "math/bits.deBruijn32tab", "math/bits.deBruijn64tab"], apart := false, laid := [("math/bits.deBruijn32tab", laid_math_bits_deBruijn32tab), ("math/bits.deBruijn64tab", laid_math_bits_deBruijn64tab), ("internal/strconv.uint64pow10", laid_internal_strconv_uint64pow10), ("selion/span.none", laid_selion_span_none)], narrowed := true }
def TxnErrorsUptoSaid : Prop := txnErrorsUptoRow.holds Tryz.pinned (OpenSpec.upto txnErrorsSpec)

/-- 'selionlaw12.TxnAborts', WHERE WHAT IT READS IS OF BULK AT MOST 1048576: true; the input reads as it did. -/
def txnAbortsUptoRow : OpenClaim := { program := "ytmdielggbailgaagreatdoor", sum := "523f09bf67902013a262b3cee993d941de0dfe128bbdd9221842c1b4ef66b864", func := "selion/selionlaw12.TxnAborts", spec := "txnAborts", inPlace := ["slices.overlaps[selion/chain.Version]", "slices.overlaps[selion/store.row]", "internal/abi.NoEscape", "internal/bytealg.MakeNoZero"], unfollowed := true, recurses := true, named := ["selion/span.none", "internal/strconv.uint64pow10", "math/bits.deBruijn32tab", "math/bits.deBruijn64tab"], apart := false, laid := [("math/bits.deBruijn32tab", laid_math_bits_deBruijn32tab), ("math/bits.deBruijn64tab", laid_math_bits_deBruijn64tab), ("internal/strconv.uint64pow10", laid_internal_strconv_uint64pow10), ("selion/span.none", laid_selion_span_none)], narrowed := true }
def TxnAbortsUptoSaid : Prop := txnAbortsUptoRow.holds Tryz.pinned (OpenSpec.upto txnAbortsSpec)

/-- 'selionlaw15.EnginePlays', WHERE WHAT IT READS IS OF BULK AT MOST 1048576: true; the input reads as it did. -/
def enginePlaysUptoRow : OpenClaim := { program := "ytmdielggbailgaagreatdoor", sum := "523f09bf67902013a262b3cee993d941de0dfe128bbdd9221842c1b4ef66b864", func := "selion/selionlaw15.EnginePlays", spec := "enginePlays", inPlace := ["slices.overlaps[selion/chain.Version]", "slices.overlaps[selion/store.row]", "internal/abi.NoEscape", "internal/bytealg.MakeNoZero"], unfollowed := true, recurses := true, named := ["selion/span.none", "internal/strconv.uint64pow10", "math/bits.deBruijn32tab", "math/bits.deBruijn64tab"], apart := false, laid := [("math/bits.deBruijn32tab", laid_math_bits_deBruijn32tab), ("math/bits.deBruijn64tab", laid_math_bits_deBruijn64tab), ("internal/strconv.uint64pow10", laid_internal_strconv_uint64pow10), ("selion/span.none", laid_selion_span_none)], narrowed := true }
def EnginePlaysUptoSaid : Prop := enginePlaysUptoRow.holds Tryz.pinned (OpenSpec.upto enginePlaysSpec)

/-- 'selionlaw15.EngineAgain', WHERE WHAT IT READS IS OF BULK AT MOST 1048576: true; the input reads as it did. -/
def engineAgainUptoRow : OpenClaim := { program := "ytmdielggbailgaagreatdoor", sum := "523f09bf67902013a262b3cee993d941de0dfe128bbdd9221842c1b4ef66b864", func := "selion/selionlaw15.EngineAgain", spec := "engineAgain", inPlace := ["slices.overlaps[selion/chain.Version]", "slices.overlaps[selion/store.row]", "internal/abi.NoEscape", "internal/bytealg.MakeNoZero"], unfollowed := true, recurses := true, named := ["selion/span.none", "internal/strconv.uint64pow10", "math/bits.deBruijn32tab", "math/bits.deBruijn64tab"], apart := false, laid := [("math/bits.deBruijn32tab", laid_math_bits_deBruijn32tab), ("math/bits.deBruijn64tab", laid_math_bits_deBruijn64tab), ("internal/strconv.uint64pow10", laid_internal_strconv_uint64pow10), ("selion/span.none", laid_selion_span_none)], narrowed := true }
def EngineAgainUptoSaid : Prop := engineAgainUptoRow.holds Tryz.pinned (OpenSpec.upto engineAgainSpec)

/-- 'selionlaw15.EngineChecks', WHERE WHAT IT READS IS OF BULK AT MOST 1048576: true; the input reads as it did. -/
def engineChecksUptoRow : OpenClaim := { program := "ytmdielggbailgaagreatdoor", sum := "523f09bf67902013a262b3cee993d941de0dfe128bbdd9221842c1b4ef66b864", func := "selion/selionlaw15.EngineChecks", spec := "engineChecks", inPlace := ["slices.overlaps[selion/chain.Version]", "slices.overlaps[selion/store.row]", "internal/abi.NoEscape", "internal/bytealg.MakeNoZero"], unfollowed := true, recurses := true, named := ["selion/span.none", "internal/strconv.uint64pow10", "math/bits.deBruijn32tab", "math/bits.deBruijn64tab"], apart := false, laid := [("math/bits.deBruijn32tab", laid_math_bits_deBruijn32tab), ("math/bits.deBruijn64tab", laid_math_bits_deBruijn64tab), ("internal/strconv.uint64pow10", laid_internal_strconv_uint64pow10), ("selion/span.none", laid_selion_span_none)], narrowed := true }
def EngineChecksUptoSaid : Prop := engineChecksUptoRow.holds Tryz.pinned (OpenSpec.upto engineChecksSpec)

end Rows
end Go.Proofs.YtmdielggbailgaaGreatDoor
