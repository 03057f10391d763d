/-
  NARROWER THAN 'FOR EVERY INPUT', by the rows' own cells (each row's printed sentence says how): LockAgainst: laid · LockOwn: laid · LockMore: laid · LockPlays: laid · LockFreeze: laid · PlanHas: laid · PlanSums: laid · PlanMeets: laid · PlanCells: laid · PlanBoxes: laid.
  DERIVED. THE GIVEN ROWS OF THIS SEAT. 10 by the template 'for every input the law returns true; each argument reads behind the call as it read before'; 0 by the template 'total and deterministic' (their statements: YtlkoipbodffcnaaGreatDoorTotals.lean).
  GIVEN WITH THE SEED: the statements are not yours to turn. If you find one false, say at which input.
  Laid BY PROGRAM, IN A SANDBOX (cutbox-rows.mjs): the forced cells as the released guide's own fill.sh prints them over the translation c3031e6aedcc6831… (all of the seat's roots in one cut). By AI agents, Wed Nov 11 2026. No macro, syntax, notation, axiom, sorry.
-/
import Derived.Test.YtlkoipbodffcnaaGreatDoorChecked
import GoSem.Claim
import GoSem.ClaimJoined
import GoSem.ClaimMapViews
import Derived.JoinedTies
import Derived.KernelRfl
namespace Go.Proofs.YtlkoipbodffcnaaGreatDoor
/- THE CELL 'sum', in the pinned program and in every row, IS THE sha256 OF THE DUMP (.gsa) THAT YtlkoipbodffcnaaGreatDoorProg.lean LOADS. Nothing in Lean hashes anything: it is a label: what it is worth is what the hold of that sum in a sandbox is worth. -/
noncomputable def Tryz.pinned : Pinned := { name := "ytlkoipbodffcnaagreatdoor", sum := "c3031e6aedcc6831fdcb7df4f51587104d2c8720778d2f347085b1e22abddef7", checked := Tryz.checked }
namespace Rows
def none {H : Type} : Left H := { results := [], args := [] }

/- WHAT THE LISTED PACKAGE-LEVEL VARIABLES READ AS WHEN THE CALL BEGINS. Each datum BY PROGRAM (the guide's laid-datum.mjs) off the statement by which the dump's own 'gosem.cut.vars' lays the variable. In a bare row this is a premise. The card (YtlkoipbodffcnaaGreatDoorCards.lean) ties it to the program's text. -/
def laid_selion_span_none {H : Type} : DataW H := .agg [.lit (.int .u64 1), .lit (.int .u64 0)]

/-- 'selionlaw10.LockAgainst': WHATEVER THE INPUT: true; the input reads as it did. -/
def lockAgainstSpec : ChangeSpec := { name := "lockAgainst", fn := fun _ => fun
  | [d1, d2, d3] => { results := [.lit (.bool true)], args := [d1, d2, d3] }
  | _ => none }
def lockAgainstRow : OpenClaim := { program := "ytlkoipbodffcnaagreatdoor", sum := "c3031e6aedcc6831fdcb7df4f51587104d2c8720778d2f347085b1e22abddef7", func := "selion/selionlaw10.LockAgainst", spec := "lockAgainst", inPlace := ["slices.overlaps[selion/chain.Version]", "slices.overlaps[selion/store.row]"], unfollowed := true, recurses := true, named := ["selion/span.none"], apart := false, laid := [("selion/span.none", laid_selion_span_none)] }
def LockAgainstSaid : Prop := lockAgainstRow.holds Tryz.pinned (OpenSpec.ofChange lockAgainstSpec)

/-- ITS FALSE NEIGHBOUR: 'it returns false'. Refute it at one input. -/
def lockAgainstWrong : ChangeSpec := { name := "lockAgainst", fn := fun _ => fun
  | [d1, d2, d3] => { results := [.lit (.bool false)], args := [d1, d2, d3] }
  | _ => none }
def LockAgainstWrongFalsely : Prop := lockAgainstRow.holds Tryz.pinned (OpenSpec.ofChange lockAgainstWrong)

/-- 'selionlaw10.LockOwn': WHATEVER THE INPUT: true; the input reads as it did. -/
def lockOwnSpec : ChangeSpec := { name := "lockOwn", fn := fun _ => fun
  | [d1, d2, d3] => { results := [.lit (.bool true)], args := [d1, d2, d3] }
  | _ => none }
def lockOwnRow : OpenClaim := { program := "ytlkoipbodffcnaagreatdoor", sum := "c3031e6aedcc6831fdcb7df4f51587104d2c8720778d2f347085b1e22abddef7", func := "selion/selionlaw10.LockOwn", spec := "lockOwn", inPlace := ["slices.overlaps[selion/chain.Version]", "slices.overlaps[selion/store.row]"], unfollowed := true, recurses := true, named := ["selion/span.none"], apart := false, laid := [("selion/span.none", laid_selion_span_none)] }
def LockOwnSaid : Prop := lockOwnRow.holds Tryz.pinned (OpenSpec.ofChange lockOwnSpec)

/-- ITS FALSE NEIGHBOUR: 'it returns false'. Refute it at one input. -/
def lockOwnWrong : ChangeSpec := { name := "lockOwn", fn := fun _ => fun
  | [d1, d2, d3] => { results := [.lit (.bool false)], args := [d1, d2, d3] }
  | _ => none }
def LockOwnWrongFalsely : Prop := lockOwnRow.holds Tryz.pinned (OpenSpec.ofChange lockOwnWrong)

/-- 'selionlaw10.LockMore': WHATEVER THE INPUT: true; the input reads as it did. -/
def lockMoreSpec : ChangeSpec := { name := "lockMore", fn := fun _ => fun
  | [d1, d2, d3, d4] => { results := [.lit (.bool true)], args := [d1, d2, d3, d4] }
  | _ => none }
def lockMoreRow : OpenClaim := { program := "ytlkoipbodffcnaagreatdoor", sum := "c3031e6aedcc6831fdcb7df4f51587104d2c8720778d2f347085b1e22abddef7", func := "selion/selionlaw10.LockMore", spec := "lockMore", inPlace := ["slices.overlaps[selion/chain.Version]", "slices.overlaps[selion/store.row]"], unfollowed := true, recurses := true, named := ["selion/span.none"], apart := false, laid := [("selion/span.none", laid_selion_span_none)] }
def LockMoreSaid : Prop := lockMoreRow.holds Tryz.pinned (OpenSpec.ofChange lockMoreSpec)

/-- ITS FALSE NEIGHBOUR: 'it returns false'. Refute it at one input. -/
def lockMoreWrong : ChangeSpec := { name := "lockMore", fn := fun _ => fun
  | [d1, d2, d3, d4] => { results := [.lit (.bool false)], args := [d1, d2, d3, d4] }
  | _ => none }
def LockMoreWrongFalsely : Prop := lockMoreRow.holds Tryz.pinned (OpenSpec.ofChange lockMoreWrong)

/-- 'selionlaw10.LockPlays': WHATEVER THE INPUT: true; the input reads as it did. -/
def lockPlaysSpec : ChangeSpec := { name := "lockPlays", fn := fun _ => fun
  | [d1, d2] => { results := [.lit (.bool true)], args := [d1, d2] }
  | _ => none }
def lockPlaysRow : OpenClaim := { program := "ytlkoipbodffcnaagreatdoor", sum := "c3031e6aedcc6831fdcb7df4f51587104d2c8720778d2f347085b1e22abddef7", func := "selion/selionlaw10.LockPlays", spec := "lockPlays", inPlace := ["slices.overlaps[selion/chain.Version]", "slices.overlaps[selion/store.row]"], unfollowed := true, recurses := true, named := ["selion/span.none"], apart := false, laid := [("selion/span.none", laid_selion_span_none)] }
def LockPlaysSaid : Prop := lockPlaysRow.holds Tryz.pinned (OpenSpec.ofChange lockPlaysSpec)

/-- ITS FALSE NEIGHBOUR: 'it returns false'. Refute it at one input. -/
def lockPlaysWrong : ChangeSpec := { name := "lockPlays", fn := fun _ => fun
  | [d1, d2] => { results := [.lit (.bool false)], args := [d1, d2] }
  | _ => none }
def LockPlaysWrongFalsely : Prop := lockPlaysRow.holds Tryz.pinned (OpenSpec.ofChange lockPlaysWrong)

/-- 'selionlaw10.LockFreeze': WHATEVER THE INPUT: true; the input reads as it did. -/
def lockFreezeSpec : ChangeSpec := { name := "lockFreeze", fn := fun _ => fun
  | [d1, d2, d3, d4] => { results := [.lit (.bool true)], args := [d1, d2, d3, d4] }
  | _ => none }
def lockFreezeRow : OpenClaim := { program := "ytlkoipbodffcnaagreatdoor", sum := "c3031e6aedcc6831fdcb7df4f51587104d2c8720778d2f347085b1e22abddef7", func := "selion/selionlaw10.LockFreeze", spec := "lockFreeze", inPlace := ["slices.overlaps[selion/chain.Version]", "slices.overlaps[selion/store.row]"], unfollowed := true, recurses := true, named := ["selion/span.none"], apart := false, laid := [("selion/span.none", laid_selion_span_none)] }
def LockFreezeSaid : Prop := lockFreezeRow.holds Tryz.pinned (OpenSpec.ofChange lockFreezeSpec)

/-- ITS FALSE NEIGHBOUR: 'it returns false'. Refute it at one input. -/
def lockFreezeWrong : ChangeSpec := { name := "lockFreeze", fn := fun _ => fun
  | [d1, d2, d3, d4] => { results := [.lit (.bool false)], args := [d1, d2, d3, d4] }
  | _ => none }
def LockFreezeWrongFalsely : Prop := lockFreezeRow.holds Tryz.pinned (OpenSpec.ofChange lockFreezeWrong)

/-- 'selionlaw11.PlanHas': WHATEVER THE INPUT: true; the input reads as it did. -/
def planHasSpec : ChangeSpec := { name := "planHas", fn := fun _ => fun
  | [d1, d2, d3] => { results := [.lit (.bool true)], args := [d1, d2, d3] }
  | _ => none }
def planHasRow : OpenClaim := { program := "ytlkoipbodffcnaagreatdoor", sum := "c3031e6aedcc6831fdcb7df4f51587104d2c8720778d2f347085b1e22abddef7", func := "selion/selionlaw11.PlanHas", spec := "planHas", inPlace := ["slices.overlaps[selion/chain.Version]", "slices.overlaps[selion/store.row]"], unfollowed := true, recurses := true, named := ["selion/span.none"], apart := false, laid := [("selion/span.none", laid_selion_span_none)] }
def PlanHasSaid : Prop := planHasRow.holds Tryz.pinned (OpenSpec.ofChange planHasSpec)

/-- ITS FALSE NEIGHBOUR: 'it returns false'. Refute it at one input. -/
def planHasWrong : ChangeSpec := { name := "planHas", fn := fun _ => fun
  | [d1, d2, d3] => { results := [.lit (.bool false)], args := [d1, d2, d3] }
  | _ => none }
def PlanHasWrongFalsely : Prop := planHasRow.holds Tryz.pinned (OpenSpec.ofChange planHasWrong)

/-- 'selionlaw11.PlanSums': WHATEVER THE INPUT: true; the input reads as it did. -/
def planSumsSpec : ChangeSpec := { name := "planSums", fn := fun _ => fun
  | [d] => { results := [.lit (.bool true)], args := [d] }
  | _ => none }
def planSumsRow : OpenClaim := { program := "ytlkoipbodffcnaagreatdoor", sum := "c3031e6aedcc6831fdcb7df4f51587104d2c8720778d2f347085b1e22abddef7", func := "selion/selionlaw11.PlanSums", spec := "planSums", inPlace := ["slices.overlaps[selion/chain.Version]", "slices.overlaps[selion/store.row]"], unfollowed := true, recurses := true, named := ["selion/span.none"], apart := false, laid := [("selion/span.none", laid_selion_span_none)] }
def PlanSumsSaid : Prop := planSumsRow.holds Tryz.pinned (OpenSpec.ofChange planSumsSpec)

/-- ITS FALSE NEIGHBOUR: 'it returns false'. Refute it at one input. -/
def planSumsWrong : ChangeSpec := { name := "planSums", fn := fun _ => fun
  | [d] => { results := [.lit (.bool false)], args := [d] }
  | _ => none }
def PlanSumsWrongFalsely : Prop := planSumsRow.holds Tryz.pinned (OpenSpec.ofChange planSumsWrong)

/-- 'selionlaw11.PlanMeets': WHATEVER THE INPUT: true; the input reads as it did. -/
def planMeetsSpec : ChangeSpec := { name := "planMeets", fn := fun _ => fun
  | [d1, d2] => { results := [.lit (.bool true)], args := [d1, d2] }
  | _ => none }
def planMeetsRow : OpenClaim := { program := "ytlkoipbodffcnaagreatdoor", sum := "c3031e6aedcc6831fdcb7df4f51587104d2c8720778d2f347085b1e22abddef7", func := "selion/selionlaw11.PlanMeets", spec := "planMeets", inPlace := ["slices.overlaps[selion/chain.Version]", "slices.overlaps[selion/store.row]"], unfollowed := true, recurses := true, named := ["selion/span.none"], apart := false, laid := [("selion/span.none", laid_selion_span_none)] }
def PlanMeetsSaid : Prop := planMeetsRow.holds Tryz.pinned (OpenSpec.ofChange planMeetsSpec)

/-- ITS FALSE NEIGHBOUR: 'it returns false'. Refute it at one input. -/
def planMeetsWrong : ChangeSpec := { name := "planMeets", fn := fun _ => fun
  | [d1, d2] => { results := [.lit (.bool false)], args := [d1, d2] }
  | _ => none }
def PlanMeetsWrongFalsely : Prop := planMeetsRow.holds Tryz.pinned (OpenSpec.ofChange planMeetsWrong)

/-- 'selionlaw11.PlanCells': WHATEVER THE INPUT: true; the input reads as it did. -/
def planCellsSpec : ChangeSpec := { name := "planCells", fn := fun _ => fun
  | [d1, d2] => { results := [.lit (.bool true)], args := [d1, d2] }
  | _ => none }
def planCellsRow : OpenClaim := { program := "ytlkoipbodffcnaagreatdoor", sum := "c3031e6aedcc6831fdcb7df4f51587104d2c8720778d2f347085b1e22abddef7", func := "selion/selionlaw11.PlanCells", spec := "planCells", inPlace := ["slices.overlaps[selion/chain.Version]", "slices.overlaps[selion/store.row]"], unfollowed := true, recurses := true, named := ["selion/span.none"], apart := false, laid := [("selion/span.none", laid_selion_span_none)] }
def PlanCellsSaid : Prop := planCellsRow.holds Tryz.pinned (OpenSpec.ofChange planCellsSpec)

/-- ITS FALSE NEIGHBOUR: 'it returns false'. Refute it at one input. -/
def planCellsWrong : ChangeSpec := { name := "planCells", fn := fun _ => fun
  | [d1, d2] => { results := [.lit (.bool false)], args := [d1, d2] }
  | _ => none }
def PlanCellsWrongFalsely : Prop := planCellsRow.holds Tryz.pinned (OpenSpec.ofChange planCellsWrong)

/-- 'selionlaw11.PlanBoxes': WHATEVER THE INPUT: true; the input reads as it did. -/
def planBoxesSpec : ChangeSpec := { name := "planBoxes", fn := fun _ => fun
  | [d1, d2] => { results := [.lit (.bool true)], args := [d1, d2] }
  | _ => none }
def planBoxesRow : OpenClaim := { program := "ytlkoipbodffcnaagreatdoor", sum := "c3031e6aedcc6831fdcb7df4f51587104d2c8720778d2f347085b1e22abddef7", func := "selion/selionlaw11.PlanBoxes", spec := "planBoxes", inPlace := ["slices.overlaps[selion/chain.Version]", "slices.overlaps[selion/store.row]"], unfollowed := true, recurses := true, named := ["selion/span.none"], apart := false, laid := [("selion/span.none", laid_selion_span_none)] }
def PlanBoxesSaid : Prop := planBoxesRow.holds Tryz.pinned (OpenSpec.ofChange planBoxesSpec)

/-- ITS FALSE NEIGHBOUR: 'it returns false'. Refute it at one input. -/
def planBoxesWrong : ChangeSpec := { name := "planBoxes", fn := fun _ => fun
  | [d1, d2] => { results := [.lit (.bool false)], args := [d1, d2] }
  | _ => none }
def PlanBoxesWrongFalsely : Prop := planBoxesRow.holds Tryz.pinned (OpenSpec.ofChange planBoxesWrong)

/- THE SECOND FORM. 'bulk': how many values and letters a reading holds, each counted each time it is reached (what is shared counts as often as it is met; a slice's spare places count too). A statement '..UptoSaid' is the law's where the arguments, and the package variables that the reading takes, are together of bulk at most 1048576: NARROWER than '..Said'. Prove '..Said' where nothing that the law and all that it calls make is longer than what came in: it says more and counts as full. Else prove '..UptoSaid'. A law counts once. -/
mutual
def uptoBulk {H : Type} : DataW H → Nat
  | .lit (.string bytes) => bytes.length + 1
  | .lit _ => 1
  | .nil => 1
  | .ptr d => uptoBulk d + 1
  | .slice elems spare => uptoBulkAll elems + uptoBulkAll spare + 1
  | .agg parts => uptoBulkAll parts + 1
  | .iface _ d => uptoBulk d + 1
  | .map entries => uptoBulkEntries entries + 1
  | .held _ => 1
def uptoBulkAll {H : Type} : List (DataW H) → Nat
  | [] => 0
  | d :: r => uptoBulk d + uptoBulkAll r
def uptoBulkEntries {H : Type} : List (Lit × DataW H) → Nat
  | [] => 0
  | x :: r => uptoBulkEntry x + uptoBulkEntries r
def uptoBulkEntry {H : Type} : Lit × DataW H → Nat
  | (.string bytes, d) => bytes.length + uptoBulk d + 1
  | (_, d) => uptoBulk d + 1
 end
def uptoSmall : (H : Type) → List (DataW H) → Bool := fun _ ds => decide (uptoBulkAll ds ≤ 1048576)
def OpenSpec.upto (s : _root_.Go.ChangeSpec) : _root_.Go.OpenSpec := { _root_.Go.OpenSpec.ofChange s with cond := some uptoSmall }

/-- 'selionlaw10.LockAgainst', WHERE WHAT IT READS IS OF BULK AT MOST 1048576: true; the input reads as it did. -/
def lockAgainstUptoRow : OpenClaim := { program := "ytlkoipbodffcnaagreatdoor", sum := "c3031e6aedcc6831fdcb7df4f51587104d2c8720778d2f347085b1e22abddef7", func := "selion/selionlaw10.LockAgainst", spec := "lockAgainst", inPlace := ["slices.overlaps[selion/chain.Version]", "slices.overlaps[selion/store.row]"], unfollowed := true, recurses := true, named := ["selion/span.none"], apart := false, laid := [("selion/span.none", laid_selion_span_none)], narrowed := true }
def LockAgainstUptoSaid : Prop := lockAgainstUptoRow.holds Tryz.pinned (OpenSpec.upto lockAgainstSpec)

/-- 'selionlaw10.LockOwn', WHERE WHAT IT READS IS OF BULK AT MOST 1048576: true; the input reads as it did. -/
def lockOwnUptoRow : OpenClaim := { program := "ytlkoipbodffcnaagreatdoor", sum := "c3031e6aedcc6831fdcb7df4f51587104d2c8720778d2f347085b1e22abddef7", func := "selion/selionlaw10.LockOwn", spec := "lockOwn", inPlace := ["slices.overlaps[selion/chain.Version]", "slices.overlaps[selion/store.row]"], unfollowed := true, recurses := true, named := ["selion/span.none"], apart := false, laid := [("selion/span.none", laid_selion_span_none)], narrowed := true }
def LockOwnUptoSaid : Prop := lockOwnUptoRow.holds Tryz.pinned (OpenSpec.upto lockOwnSpec)

/-- 'selionlaw10.LockMore', WHERE WHAT IT READS IS OF BULK AT MOST 1048576: true; the input reads as it did. -/
def lockMoreUptoRow : OpenClaim := { program := "ytlkoipbodffcnaagreatdoor", sum := "c3031e6aedcc6831fdcb7df4f51587104d2c8720778d2f347085b1e22abddef7", func := "selion/selionlaw10.LockMore", spec := "lockMore", inPlace := ["slices.overlaps[selion/chain.Version]", "slices.overlaps[selion/store.row]"], unfollowed := true, recurses := true, named := ["selion/span.none"], apart := false, laid := [("selion/span.none", laid_selion_span_none)], narrowed := true }
def LockMoreUptoSaid : Prop := lockMoreUptoRow.holds Tryz.pinned (OpenSpec.upto lockMoreSpec)

/-- 'selionlaw10.LockPlays', WHERE WHAT IT READS IS OF BULK AT MOST 1048576: true; the input reads as it did. -/
def lockPlaysUptoRow : OpenClaim := { program := "ytlkoipbodffcnaagreatdoor", sum := "c3031e6aedcc6831fdcb7df4f51587104d2c8720778d2f347085b1e22abddef7", func := "selion/selionlaw10.LockPlays", spec := "lockPlays", inPlace := ["slices.overlaps[selion/chain.Version]", "slices.overlaps[selion/store.row]"], unfollowed := true, recurses := true, named := ["selion/span.none"], apart := false, laid := [("selion/span.none", laid_selion_span_none)], narrowed := true }
def LockPlaysUptoSaid : Prop := lockPlaysUptoRow.holds Tryz.pinned (OpenSpec.upto lockPlaysSpec)

/-- 'selionlaw10.LockFreeze', WHERE WHAT IT READS IS OF BULK AT MOST 1048576: true; the input reads as it did. -/
def lockFreezeUptoRow : OpenClaim := { program := "ytlkoipbodffcnaagreatdoor", sum := "c3031e6aedcc6831fdcb7df4f51587104d2c8720778d2f347085b1e22abddef7", func := "selion/selionlaw10.LockFreeze", spec := "lockFreeze", inPlace := ["slices.overlaps[selion/chain.Version]", "slices.overlaps[selion/store.row]"], unfollowed := true, recurses := true, named := ["selion/span.none"], apart := false, laid := [("selion/span.none", laid_selion_span_none)], narrowed := true }
def LockFreezeUptoSaid : Prop := lockFreezeUptoRow.holds Tryz.pinned (OpenSpec.upto lockFreezeSpec)

/-- 'selionlaw11.PlanHas', WHERE WHAT IT READS IS OF BULK AT MOST 1048576: true; the input reads as it did. -/
def planHasUptoRow : OpenClaim := { program := "ytlkoipbodffcnaagreatdoor", sum := "c3031e6aedcc6831fdcb7df4f51587104d2c8720778d2f347085b1e22abddef7", func := "selion/selionlaw11.PlanHas", spec := "planHas", inPlace := ["slices.overlaps[selion/chain.Version]", "slices.overlaps[selion/store.row]"], unfollowed := true, recurses := true, named := ["selion/span.none"], apart := false, laid := [("selion/span.none", laid_selion_span_none)], narrowed := true }
def PlanHasUptoSaid : Prop := planHasUptoRow.holds Tryz.pinned (OpenSpec.upto planHasSpec)

/-- 'selionlaw11.PlanSums', WHERE WHAT IT READS IS OF BULK AT MOST 1048576: true; the input reads as it did. -/
def planSumsUptoRow : OpenClaim := { program := "ytlkoipbodffcnaagreatdoor", sum := "c3031e6aedcc6831fdcb7df4f51587104d2c8720778d2f347085b1e22abddef7", func := "selion/selionlaw11.PlanSums", spec := "planSums", inPlace := ["slices.overlaps[selion/chain.Version]", "slices.overlaps[selion/store.row]"], unfollowed := true, recurses := true, named := ["selion/span.none"], apart := false, laid := [("selion/span.none", laid_selion_span_none)], narrowed := true }
def PlanSumsUptoSaid : Prop := planSumsUptoRow.holds Tryz.pinned (OpenSpec.upto planSumsSpec)

/-- 'selionlaw11.PlanMeets', WHERE WHAT IT READS IS OF BULK AT MOST 1048576: true; the input reads as it did. -/
def planMeetsUptoRow : OpenClaim := { program := "ytlkoipbodffcnaagreatdoor", sum := "c3031e6aedcc6831fdcb7df4f51587104d2c8720778d2f347085b1e22abddef7", func := "selion/selionlaw11.PlanMeets", spec := "planMeets", inPlace := ["slices.overlaps[selion/chain.Version]", "slices.overlaps[selion/store.row]"], unfollowed := true, recurses := true, named := ["selion/span.none"], apart := false, laid := [("selion/span.none", laid_selion_span_none)], narrowed := true }
def PlanMeetsUptoSaid : Prop := planMeetsUptoRow.holds Tryz.pinned (OpenSpec.upto planMeetsSpec)

/-- 'selionlaw11.PlanCells', WHERE WHAT IT READS IS OF BULK AT MOST 1048576: true; the input reads as it did. -/
def planCellsUptoRow : OpenClaim := { program := "ytlkoipbodffcnaagreatdoor", sum := "c3031e6aedcc6831fdcb7df4f51587104d2c8720778d2f347085b1e22abddef7", func := "selion/selionlaw11.PlanCells", spec := "planCells", inPlace := ["slices.overlaps[selion/chain.Version]", "slices.overlaps[selion/store.row]"], unfollowed := true, recurses := true, named := ["selion/span.none"], apart := false, laid := [("selion/span.none", laid_selion_span_none)], narrowed := true }
def PlanCellsUptoSaid : Prop := planCellsUptoRow.holds Tryz.pinned (OpenSpec.upto planCellsSpec)

/-- 'selionlaw11.PlanBoxes', WHERE WHAT IT READS IS OF BULK AT MOST 1048576: true; the input reads as it did. -/
def planBoxesUptoRow : OpenClaim := { program := "ytlkoipbodffcnaagreatdoor", sum := "c3031e6aedcc6831fdcb7df4f51587104d2c8720778d2f347085b1e22abddef7", func := "selion/selionlaw11.PlanBoxes", spec := "planBoxes", inPlace := ["slices.overlaps[selion/chain.Version]", "slices.overlaps[selion/store.row]"], unfollowed := true, recurses := true, named := ["selion/span.none"], apart := false, laid := [("selion/span.none", laid_selion_span_none)], narrowed := true }
def PlanBoxesUptoSaid : Prop := planBoxesUptoRow.holds Tryz.pinned (OpenSpec.upto planBoxesSpec)

end Rows
end Go.Proofs.YtlkoipbodffcnaaGreatDoor
