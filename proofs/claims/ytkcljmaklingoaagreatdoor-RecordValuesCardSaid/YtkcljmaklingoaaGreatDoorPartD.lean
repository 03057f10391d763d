/- Part D of the proof. -/
import Derived.Test.YtkcljmaklingoaaGreatDoorProg
import Derived.KernelRfl
import Derived.IntWalk
import Derived.Shelf.Strings.Repeat
import Derived.ChangeSlices
import Derived.ProofKit
import Derived.Carry
import Derived.Test.YtkcljmaklingoaaGreatDoorPartB
import Derived.Test.YtkcljmaklingoaaGreatDoorPartC
/- Printed by wip/facts.py: what is asked of the program's types; the environments. -/
namespace Go.Sm
open Go Go.Proofs
set_option linter.unusedVariables false
def extE : FuncId → Array Value → CSt → Option Value
  | 75 => apartX 116
  | 95 => apartX 33
  | _ => fun _ _ => none
def gamI : FuncId → Option (Array Value → CSt → Option (Value × CSt))
  | 65 => some (insG 116 2 40)
  | 79 => some (insG 33 3 32)
  | _ => none
def gnone : CSt → Prop := fun σ => σ.get 1 = some (.cells [.int .u64 1, .int .u64 0] 0 true)
open Classical in
noncomputable def awakeG (args : Array Value) (σ : CSt) : Option (Value × CSt) := if args = #[] ∧ gnone σ then some (.bool true, σ) else none
/-- So many copies of a string. -/
def repS (s : ByteArray) (n : Nat) : ByteArray := ⟨((List.replicate n s.data.toList).flatten).toArray⟩
/-- strings.Repeat. -/
def repG (args : Array Value) (σ : CSt) : Option (Value × CSt) :=
  match args with
  | ⟨[.string s, .int .i64 c]⟩ => if 0 ≤ c ∧ c < 2 ^ 62 ∧ s.size * c.toNat ≤ 2 ^ 47 then some (.string (repS s c.toNat), σ) else none
  | _ => none
noncomputable def gamL : FuncId → Option (Array Value → CSt → Option (Value × CSt))
  | 65 => some (insG 116 2 40)
  | 79 => some (insG 33 3 32)
  | 12 => some awakeG
  | 27 => some awakeG
  | 67 => some repG
  | _ => none
/-- The code itself. -/
noncomputable def E0 : Env := ⟨Tryz.prog, fun _ => none, extE, fun _ => none⟩
/-- With slices.Insert as one step. -/
noncomputable def EV : Env := ⟨Tryz.prog, gamI, extE, fun _ => none⟩
/-- With the closed tests, too. -/
noncomputable def E1 : Env := ⟨Tryz.prog, gamL, extE, fun _ => none⟩
@[simp] theorem E0P : E0.P = Tryz.prog := rfl
@[simp] theorem E1P : E1.P = Tryz.prog := rfl
@[simp] theorem E0X : E0.ext = extE := rfl
@[simp] theorem E1X : E1.ext = extE := rfl
attribute [simp] extE
theorem extOf_none {E : Env} {g : FuncId} {fs cs args : Array Value} {σ : CSt} (h : E.ext g args σ = none) : extOf E (.func (.func g) fs cs) args σ = none := by
  unfold extOf
  split
  · rename_i g' he
    cases he
    exact h
  · rfl
@[simp] theorem extOf_fn {E : Env} {g : FuncId} {args : Array Value} {σ : CSt} : extOf E (.func (.func g) #[] #[]) args σ = E.ext g args σ := rfl
@[simp] theorem extOf_cl {E : Env} {g : FuncId} {fs : Array Value} {c : Value} {l : List Value} {args : Array Value} {σ : CSt} : extOf E (.func (.func g) fs ⟨c :: l⟩) args σ = none := by
  unfold extOf
  split
  · rename_i g' he
    cases he
  · rfl
@[simp] theorem extOf_mv {E : Env} {g : FuncId} {cs : Array Value} {c : Value} {l : List Value} {args : Array Value} {σ : CSt} : extOf E (.func (.func g) ⟨c :: l⟩ cs) args σ = none := by
  unfold extOf
  split
  · rename_i g' he
    cases he
  · rfl

@[simp] theorem un0 : (Tryz.prog.underlying 0).isSome = true := by kernel_rfl
@[simp] theorem tf1 : tf Tryz.prog 1 = some ⟨1, 8, (some [.nilFunc]), false, true⟩ := by kernel_rfl
@[simp] theorem un1 : (Tryz.prog.underlying 1).isSome = true := by kernel_rfl
@[simp] theorem tf2 : tf Tryz.prog 2 = some ⟨1, 8, (some [.int .i64 0]), false, true⟩ := by kernel_rfl
@[simp] theorem it2 : intT Tryz.prog 2 = some .i64 := by kernel_rfl
@[simp] theorem un2 : (Tryz.prog.underlying 2).isSome = true := by kernel_rfl
@[simp] theorem tf3 : tf Tryz.prog 3 = some ⟨1, 8, (some [.int .i64 0]), false, true⟩ := by kernel_rfl
@[simp] theorem it3 : intT Tryz.prog 3 = some .i64 := by kernel_rfl
@[simp] theorem un3 : (Tryz.prog.underlying 3).isSome = true := by kernel_rfl
@[simp] theorem tf4 : tf Tryz.prog 4 = some ⟨1, 1, (some [.bool false]), false, true⟩ := by kernel_rfl
@[simp] theorem un4 : (Tryz.prog.underlying 4).isSome = true := by kernel_rfl
@[simp] theorem tf5 : tf Tryz.prog 5 = some ⟨1, 1, (some [.int .u8 0]), false, true⟩ := by kernel_rfl
@[simp] theorem it5 : intT Tryz.prog 5 = some .u8 := by kernel_rfl
@[simp] theorem un5 : (Tryz.prog.underlying 5).isSome = true := by kernel_rfl
@[simp] theorem tf6 : tf Tryz.prog 6 = some ⟨1, 1, (some [.int .u8 0]), false, true⟩ := by kernel_rfl
@[simp] theorem it6 : intT Tryz.prog 6 = some .u8 := by kernel_rfl
@[simp] theorem un6 : (Tryz.prog.underlying 6).isSome = true := by kernel_rfl
@[simp] theorem tf7 : tf Tryz.prog 7 = some ⟨4, 24, (some [.int .i64 0, .int .i64 0, .bool false, .int .u8 0]), true, true⟩ := by kernel_rfl
@[simp] theorem un7 : (Tryz.prog.underlying 7).isSome = true := by kernel_rfl
@[simp] theorem fo7_0 : fieldT Tryz.prog 7 0 = some 0 := by kernel_rfl
@[simp] theorem fo7_1 : fieldT Tryz.prog 7 1 = some 1 := by kernel_rfl
@[simp] theorem fo7_2 : fieldT Tryz.prog 7 2 = some 2 := by kernel_rfl
@[simp] theorem fo7_3 : fieldT Tryz.prog 7 3 = some 3 := by kernel_rfl
@[simp] theorem pa7 : partsT Tryz.prog 7 = some [(0, 1), (1, 1), (2, 1), (3, 1)] := by kernel_rfl
@[simp] theorem tf8 : tf Tryz.prog 8 = some ⟨4, 24, (some [.int .i64 0, .int .i64 0, .bool false, .int .u8 0]), true, true⟩ := by kernel_rfl
@[simp] theorem un8 : (Tryz.prog.underlying 8).isSome = true := by kernel_rfl
@[simp] theorem fo8_0 : fieldT Tryz.prog 8 0 = some 0 := by kernel_rfl
@[simp] theorem fo8_1 : fieldT Tryz.prog 8 1 = some 1 := by kernel_rfl
@[simp] theorem fo8_2 : fieldT Tryz.prog 8 2 = some 2 := by kernel_rfl
@[simp] theorem fo8_3 : fieldT Tryz.prog 8 3 = some 3 := by kernel_rfl
@[simp] theorem pa8 : partsT Tryz.prog 8 = some [(0, 1), (1, 1), (2, 1), (3, 1)] := by kernel_rfl
@[simp] theorem tf9 : tf Tryz.prog 9 = some ⟨1, 16, (some [.string ⟨#[]⟩]), false, true⟩ := by kernel_rfl
@[simp] theorem st9 : strT Tryz.prog 9 = true := by kernel_rfl
@[simp] theorem un9 : (Tryz.prog.underlying 9).isSome = true := by kernel_rfl
@[simp] theorem tf10 : tf Tryz.prog 10 = some ⟨1, 16, (some [.string ⟨#[]⟩]), false, true⟩ := by kernel_rfl
@[simp] theorem st10 : strT Tryz.prog 10 = true := by kernel_rfl
@[simp] theorem un10 : (Tryz.prog.underlying 10).isSome = true := by kernel_rfl
@[simp] theorem tf11 : tf Tryz.prog 11 = some ⟨1, 16, (some [.string ⟨#[]⟩]), false, true⟩ := by kernel_rfl
@[simp] theorem st11 : strT Tryz.prog 11 = true := by kernel_rfl
@[simp] theorem un11 : (Tryz.prog.underlying 11).isSome = true := by kernel_rfl
@[simp] theorem tf12 : tf Tryz.prog 12 = some ⟨1, 8, (some [.int .u64 0]), false, true⟩ := by kernel_rfl
@[simp] theorem it12 : intT Tryz.prog 12 = some .u64 := by kernel_rfl
@[simp] theorem un12 : (Tryz.prog.underlying 12).isSome = true := by kernel_rfl
@[simp] theorem tf13 : tf Tryz.prog 13 = some ⟨2, 24, (some [.string ⟨#[]⟩, .int .u64 0]), true, true⟩ := by kernel_rfl
@[simp] theorem un13 : (Tryz.prog.underlying 13).isSome = true := by kernel_rfl
@[simp] theorem fo13_0 : fieldT Tryz.prog 13 0 = some 0 := by kernel_rfl
@[simp] theorem fo13_1 : fieldT Tryz.prog 13 1 = some 1 := by kernel_rfl
@[simp] theorem pa13 : partsT Tryz.prog 13 = some [(0, 1), (1, 1)] := by kernel_rfl
@[simp] theorem tf14 : tf Tryz.prog 14 = some ⟨2, 24, (some [.string ⟨#[]⟩, .int .u64 0]), true, true⟩ := by kernel_rfl
@[simp] theorem un14 : (Tryz.prog.underlying 14).isSome = true := by kernel_rfl
@[simp] theorem fo14_0 : fieldT Tryz.prog 14 0 = some 0 := by kernel_rfl
@[simp] theorem fo14_1 : fieldT Tryz.prog 14 1 = some 1 := by kernel_rfl
@[simp] theorem pa14 : partsT Tryz.prog 14 = some [(0, 1), (1, 1)] := by kernel_rfl
@[simp] theorem tf15 : tf Tryz.prog 15 = some ⟨1, 8, (some [.pointer none]), false, true⟩ := by kernel_rfl
@[simp] theorem un15 : (Tryz.prog.underlying 15).isSome = true := by kernel_rfl
@[simp] theorem tf16 : tf Tryz.prog 16 = some ⟨1, 8, (some [.pointer none]), false, true⟩ := by kernel_rfl
@[simp] theorem un16 : (Tryz.prog.underlying 16).isSome = true := by kernel_rfl
@[simp] theorem tf17 : tf Tryz.prog 17 = some ⟨1, 8, (some [.pointer none]), false, true⟩ := by kernel_rfl
@[simp] theorem un17 : (Tryz.prog.underlying 17).isSome = true := by kernel_rfl
@[simp] theorem tf18 : tf Tryz.prog 18 = some ⟨1, 8, (some [.pointer none]), true, true⟩ := by kernel_rfl
@[simp] theorem un18 : (Tryz.prog.underlying 18).isSome = true := by kernel_rfl
@[simp] theorem fo18_0 : fieldT Tryz.prog 18 0 = some 0 := by kernel_rfl
@[simp] theorem pa18 : partsT Tryz.prog 18 = some [(0, 1)] := by kernel_rfl
@[simp] theorem tf19 : tf Tryz.prog 19 = some ⟨1, 8, (some [.pointer none]), true, true⟩ := by kernel_rfl
@[simp] theorem un19 : (Tryz.prog.underlying 19).isSome = true := by kernel_rfl
@[simp] theorem fo19_0 : fieldT Tryz.prog 19 0 = some 0 := by kernel_rfl
@[simp] theorem pa19 : partsT Tryz.prog 19 = some [(0, 1)] := by kernel_rfl
@[simp] theorem tf20 : tf Tryz.prog 20 = some ⟨1, 16, (some [.nilIface]), false, true⟩ := by kernel_rfl
@[simp] theorem un20 : (Tryz.prog.underlying 20).isSome = true := by kernel_rfl
@[simp] theorem tf21 : tf Tryz.prog 21 = some ⟨1, 4, (some [.int .i32 0]), false, true⟩ := by kernel_rfl
@[simp] theorem it21 : intT Tryz.prog 21 = some .i32 := by kernel_rfl
@[simp] theorem un21 : (Tryz.prog.underlying 21).isSome = true := by kernel_rfl
@[simp] theorem tf22 : tf Tryz.prog 22 = some ⟨1, 24, (some [.slice none 0 0]), false, true⟩ := by kernel_rfl
@[simp] theorem un22 : (Tryz.prog.underlying 22).isSome = true := by kernel_rfl
@[simp] theorem el22 : elemT Tryz.prog 22 = some 31 := by kernel_rfl
@[simp] theorem ef22 : elemF Tryz.prog 22 = some (31, ⟨1, 8, (some [.int .u64 0]), false, true⟩) := by kernel_rfl
@[simp] theorem tf23 : tf Tryz.prog 23 = some ⟨1, 24, (some [.slice none 0 0]), false, true⟩ := by kernel_rfl
@[simp] theorem un23 : (Tryz.prog.underlying 23).isSome = true := by kernel_rfl
@[simp] theorem el23 : elemT Tryz.prog 23 = some 30 := by kernel_rfl
@[simp] theorem ef23 : elemF Tryz.prog 23 = some (30, ⟨3, 32, (some [.int .u8 0, .string ⟨#[]⟩, .bool false]), true, true⟩) := by kernel_rfl
@[simp] theorem tf24 : tf Tryz.prog 24 = some ⟨1, 8, (some [.nilFunc]), false, true⟩ := by kernel_rfl
@[simp] theorem un24 : (Tryz.prog.underlying 24).isSome = true := by kernel_rfl
@[simp] theorem tf25 : tf Tryz.prog 25 = some ⟨1, 24, (some [.slice none 0 0]), false, true⟩ := by kernel_rfl
@[simp] theorem un25 : (Tryz.prog.underlying 25).isSome = true := by kernel_rfl
@[simp] theorem el25 : elemT Tryz.prog 25 = some 5 := by kernel_rfl
@[simp] theorem ef25 : elemF Tryz.prog 25 = some (5, ⟨1, 1, (some [.int .u8 0]), false, true⟩) := by kernel_rfl
@[simp] theorem tf26 : tf Tryz.prog 26 = some ⟨1, 24, (some [.slice none 0 0]), true, true⟩ := by kernel_rfl
@[simp] theorem un26 : (Tryz.prog.underlying 26).isSome = true := by kernel_rfl
@[simp] theorem fo26_0 : fieldT Tryz.prog 26 0 = some 0 := by kernel_rfl
@[simp] theorem pa26 : partsT Tryz.prog 26 = some [(0, 1)] := by kernel_rfl
@[simp] theorem tf27 : tf Tryz.prog 27 = some ⟨1, 24, (some [.slice none 0 0]), true, true⟩ := by kernel_rfl
@[simp] theorem un27 : (Tryz.prog.underlying 27).isSome = true := by kernel_rfl
@[simp] theorem fo27_0 : fieldT Tryz.prog 27 0 = some 0 := by kernel_rfl
@[simp] theorem pa27 : partsT Tryz.prog 27 = some [(0, 1)] := by kernel_rfl
@[simp] theorem tf28 : tf Tryz.prog 28 = some ⟨1, 24, (some [.slice none 0 0]), false, true⟩ := by kernel_rfl
@[simp] theorem un28 : (Tryz.prog.underlying 28).isSome = true := by kernel_rfl
@[simp] theorem el28 : elemT Tryz.prog 28 = some 33 := by kernel_rfl
@[simp] theorem ef28 : elemF Tryz.prog 28 = some (33, ⟨3, 32, (some [.int .u64 0, .string ⟨#[]⟩, .bool false]), true, true⟩) := by kernel_rfl
@[simp] theorem tf29 : tf Tryz.prog 29 = some ⟨3, 32, (some [.int .u8 0, .string ⟨#[]⟩, .bool false]), true, true⟩ := by kernel_rfl
@[simp] theorem un29 : (Tryz.prog.underlying 29).isSome = true := by kernel_rfl
@[simp] theorem fo29_0 : fieldT Tryz.prog 29 0 = some 0 := by kernel_rfl
@[simp] theorem fo29_1 : fieldT Tryz.prog 29 1 = some 1 := by kernel_rfl
@[simp] theorem fo29_2 : fieldT Tryz.prog 29 2 = some 2 := by kernel_rfl
@[simp] theorem pa29 : partsT Tryz.prog 29 = some [(0, 1), (1, 1), (2, 1)] := by kernel_rfl
@[simp] theorem tf30 : tf Tryz.prog 30 = some ⟨3, 32, (some [.int .u8 0, .string ⟨#[]⟩, .bool false]), true, true⟩ := by kernel_rfl
@[simp] theorem un30 : (Tryz.prog.underlying 30).isSome = true := by kernel_rfl
@[simp] theorem fo30_0 : fieldT Tryz.prog 30 0 = some 0 := by kernel_rfl
@[simp] theorem fo30_1 : fieldT Tryz.prog 30 1 = some 1 := by kernel_rfl
@[simp] theorem fo30_2 : fieldT Tryz.prog 30 2 = some 2 := by kernel_rfl
@[simp] theorem pa30 : partsT Tryz.prog 30 = some [(0, 1), (1, 1), (2, 1)] := by kernel_rfl
@[simp] theorem tf31 : tf Tryz.prog 31 = some ⟨1, 8, (some [.int .u64 0]), false, true⟩ := by kernel_rfl
@[simp] theorem it31 : intT Tryz.prog 31 = some .u64 := by kernel_rfl
@[simp] theorem un31 : (Tryz.prog.underlying 31).isSome = true := by kernel_rfl
@[simp] theorem tf32 : tf Tryz.prog 32 = some ⟨3, 32, (some [.int .u64 0, .string ⟨#[]⟩, .bool false]), true, true⟩ := by kernel_rfl
@[simp] theorem un32 : (Tryz.prog.underlying 32).isSome = true := by kernel_rfl
@[simp] theorem fo32_0 : fieldT Tryz.prog 32 0 = some 0 := by kernel_rfl
@[simp] theorem fo32_1 : fieldT Tryz.prog 32 1 = some 1 := by kernel_rfl
@[simp] theorem fo32_2 : fieldT Tryz.prog 32 2 = some 2 := by kernel_rfl
@[simp] theorem pa32 : partsT Tryz.prog 32 = some [(0, 1), (1, 1), (2, 1)] := by kernel_rfl
@[simp] theorem tf33 : tf Tryz.prog 33 = some ⟨3, 32, (some [.int .u64 0, .string ⟨#[]⟩, .bool false]), true, true⟩ := by kernel_rfl
@[simp] theorem un33 : (Tryz.prog.underlying 33).isSome = true := by kernel_rfl
@[simp] theorem fo33_0 : fieldT Tryz.prog 33 0 = some 0 := by kernel_rfl
@[simp] theorem fo33_1 : fieldT Tryz.prog 33 1 = some 1 := by kernel_rfl
@[simp] theorem fo33_2 : fieldT Tryz.prog 33 2 = some 2 := by kernel_rfl
@[simp] theorem pa33 : partsT Tryz.prog 33 = some [(0, 1), (1, 1), (2, 1)] := by kernel_rfl
@[simp] theorem tf34 : tf Tryz.prog 34 = some ⟨1, 8, (some [.nilFunc]), false, true⟩ := by kernel_rfl
@[simp] theorem un34 : (Tryz.prog.underlying 34).isSome = true := by kernel_rfl
@[simp] theorem tf35 : tf Tryz.prog 35 = some ⟨1, 8, (some [.pointer none]), false, true⟩ := by kernel_rfl
@[simp] theorem un35 : (Tryz.prog.underlying 35).isSome = true := by kernel_rfl
@[simp] theorem tf36 : tf Tryz.prog 36 = some ⟨1, 8, (some [.nilFunc]), false, true⟩ := by kernel_rfl
@[simp] theorem un36 : (Tryz.prog.underlying 36).isSome = true := by kernel_rfl
@[simp] theorem tf37 : tf Tryz.prog 37 = some ⟨1, 8, (some [.nilFunc]), false, true⟩ := by kernel_rfl
@[simp] theorem un37 : (Tryz.prog.underlying 37).isSome = true := by kernel_rfl
@[simp] theorem tf38 : tf Tryz.prog 38 = some ⟨1, 8, (some [.pointer none]), false, true⟩ := by kernel_rfl
@[simp] theorem un38 : (Tryz.prog.underlying 38).isSome = true := by kernel_rfl
@[simp] theorem tf39 : tf Tryz.prog 39 = some ⟨1, 8, (some [.nilFunc]), false, true⟩ := by kernel_rfl
@[simp] theorem un39 : (Tryz.prog.underlying 39).isSome = true := by kernel_rfl
@[simp] theorem tf40 : tf Tryz.prog 40 = some ⟨2, 32, (some [.slice none 0 0, .bool false]), true, true⟩ := by kernel_rfl
@[simp] theorem un40 : (Tryz.prog.underlying 40).isSome = true := by kernel_rfl
@[simp] theorem fo40_0 : fieldT Tryz.prog 40 0 = some 0 := by kernel_rfl
@[simp] theorem fo40_1 : fieldT Tryz.prog 40 1 = some 1 := by kernel_rfl
@[simp] theorem pa40 : partsT Tryz.prog 40 = some [(0, 1), (1, 1)] := by kernel_rfl
@[simp] theorem tf41 : tf Tryz.prog 41 = some ⟨2, 32, (some [.slice none 0 0, .bool false]), true, true⟩ := by kernel_rfl
@[simp] theorem un41 : (Tryz.prog.underlying 41).isSome = true := by kernel_rfl
@[simp] theorem fo41_0 : fieldT Tryz.prog 41 0 = some 0 := by kernel_rfl
@[simp] theorem fo41_1 : fieldT Tryz.prog 41 1 = some 1 := by kernel_rfl
@[simp] theorem pa41 : partsT Tryz.prog 41 = some [(0, 1), (1, 1)] := by kernel_rfl
@[simp] theorem tf42 : tf Tryz.prog 42 = some ⟨1, 8, (some [.nilFunc]), false, true⟩ := by kernel_rfl
@[simp] theorem un42 : (Tryz.prog.underlying 42).isSome = true := by kernel_rfl
@[simp] theorem tf43 : tf Tryz.prog 43 = some ⟨1, 8, (some [.nilFunc]), false, true⟩ := by kernel_rfl
@[simp] theorem un43 : (Tryz.prog.underlying 43).isSome = true := by kernel_rfl
@[simp] theorem tf44 : tf Tryz.prog 44 = some ⟨1, 8, (some [.nilFunc]), false, true⟩ := by kernel_rfl
@[simp] theorem un44 : (Tryz.prog.underlying 44).isSome = true := by kernel_rfl
@[simp] theorem tf45 : tf Tryz.prog 45 = some ⟨1, 24, (some [.slice none 0 0]), false, true⟩ := by kernel_rfl
@[simp] theorem un45 : (Tryz.prog.underlying 45).isSome = true := by kernel_rfl
@[simp] theorem el45 : elemT Tryz.prog 45 = some 90 := by kernel_rfl
@[simp] theorem ef45 : elemF Tryz.prog 45 = some (90, ⟨4, 48, (some [.string ⟨#[]⟩, .int .u64 0, .string ⟨#[]⟩, .bool false]), true, true⟩) := by kernel_rfl
@[simp] theorem tf46 : tf Tryz.prog 46 = some ⟨2, 32, (some [.int .u64 0, .slice none 0 0]), true, true⟩ := by kernel_rfl
@[simp] theorem un46 : (Tryz.prog.underlying 46).isSome = true := by kernel_rfl
@[simp] theorem fo46_0 : fieldT Tryz.prog 46 0 = some 0 := by kernel_rfl
@[simp] theorem fo46_1 : fieldT Tryz.prog 46 1 = some 1 := by kernel_rfl
@[simp] theorem pa46 : partsT Tryz.prog 46 = some [(0, 1), (1, 1)] := by kernel_rfl
@[simp] theorem tf47 : tf Tryz.prog 47 = some ⟨2, 32, (some [.int .u64 0, .slice none 0 0]), true, true⟩ := by kernel_rfl
@[simp] theorem un47 : (Tryz.prog.underlying 47).isSome = true := by kernel_rfl
@[simp] theorem fo47_0 : fieldT Tryz.prog 47 0 = some 0 := by kernel_rfl
@[simp] theorem fo47_1 : fieldT Tryz.prog 47 1 = some 1 := by kernel_rfl
@[simp] theorem pa47 : partsT Tryz.prog 47 = some [(0, 1), (1, 1)] := by kernel_rfl
@[simp] theorem tf48 : tf Tryz.prog 48 = some ⟨1, 8, (some [.int .i64 0]), false, true⟩ := by kernel_rfl
@[simp] theorem it48 : intT Tryz.prog 48 = some .i64 := by kernel_rfl
@[simp] theorem un48 : (Tryz.prog.underlying 48).isSome = true := by kernel_rfl
@[simp] theorem un49 : (Tryz.prog.underlying 49).isSome = true := by kernel_rfl
@[simp] theorem tf50 : tf Tryz.prog 50 = some ⟨1, 8, (some [.nilFunc]), false, true⟩ := by kernel_rfl
@[simp] theorem un50 : (Tryz.prog.underlying 50).isSome = true := by kernel_rfl
@[simp] theorem tf51 : tf Tryz.prog 51 = some ⟨1, 8, (some [.nilFunc]), false, true⟩ := by kernel_rfl
@[simp] theorem un51 : (Tryz.prog.underlying 51).isSome = true := by kernel_rfl
@[simp] theorem tf52 : tf Tryz.prog 52 = some ⟨1, 8, (some [.nilFunc]), false, true⟩ := by kernel_rfl
@[simp] theorem un52 : (Tryz.prog.underlying 52).isSome = true := by kernel_rfl
@[simp] theorem tf53 : tf Tryz.prog 53 = some ⟨1, 8, (some [.nilFunc]), false, true⟩ := by kernel_rfl
@[simp] theorem un53 : (Tryz.prog.underlying 53).isSome = true := by kernel_rfl
@[simp] theorem tf54 : tf Tryz.prog 54 = some ⟨1, 8, (some [.nilFunc]), false, true⟩ := by kernel_rfl
@[simp] theorem un54 : (Tryz.prog.underlying 54).isSome = true := by kernel_rfl
@[simp] theorem tf55 : tf Tryz.prog 55 = some ⟨1, 8, (some [.nilFunc]), false, true⟩ := by kernel_rfl
@[simp] theorem un55 : (Tryz.prog.underlying 55).isSome = true := by kernel_rfl
@[simp] theorem tf56 : tf Tryz.prog 56 = some ⟨1, 8, (some [.nilFunc]), false, true⟩ := by kernel_rfl
@[simp] theorem un56 : (Tryz.prog.underlying 56).isSome = true := by kernel_rfl
@[simp] theorem tf57 : tf Tryz.prog 57 = some ⟨1, 2, (some [.int .u16 0]), false, true⟩ := by kernel_rfl
@[simp] theorem it57 : intT Tryz.prog 57 = some .u16 := by kernel_rfl
@[simp] theorem un57 : (Tryz.prog.underlying 57).isSome = true := by kernel_rfl
@[simp] theorem tf58 : tf Tryz.prog 58 = some ⟨1, 8, (some [.nilFunc]), false, true⟩ := by kernel_rfl
@[simp] theorem un58 : (Tryz.prog.underlying 58).isSome = true := by kernel_rfl
@[simp] theorem tf59 : tf Tryz.prog 59 = some ⟨1, 8, (some [.nilFunc]), false, true⟩ := by kernel_rfl
@[simp] theorem un59 : (Tryz.prog.underlying 59).isSome = true := by kernel_rfl
@[simp] theorem tf60 : tf Tryz.prog 60 = some ⟨1, 24, (some [.slice none 0 0]), false, true⟩ := by kernel_rfl
@[simp] theorem un60 : (Tryz.prog.underlying 60).isSome = true := by kernel_rfl
@[simp] theorem el60 : elemT Tryz.prog 60 = some 82 := by kernel_rfl
@[simp] theorem ef60 : elemF Tryz.prog 60 = some (82, ⟨4, 4, (some [.int .u8 0, .int .u8 0, .int .u8 0, .bool false]), true, true⟩) := by kernel_rfl
@[simp] theorem tf61 : tf Tryz.prog 61 = some ⟨1, 8, (some [.pointer none]), false, true⟩ := by kernel_rfl
@[simp] theorem un61 : (Tryz.prog.underlying 61).isSome = true := by kernel_rfl
@[simp] theorem tf62 : tf Tryz.prog 62 = some ⟨1, 8, (some [.map none]), false, true⟩ := by kernel_rfl
@[simp] theorem un62 : (Tryz.prog.underlying 62).isSome = true := by kernel_rfl
@[simp] theorem un63 : (Tryz.prog.underlying 63).isSome = true := by kernel_rfl
@[simp] theorem tf64 : tf Tryz.prog 64 = some ⟨1, 8, (some [.nilFunc]), false, true⟩ := by kernel_rfl
@[simp] theorem un64 : (Tryz.prog.underlying 64).isSome = true := by kernel_rfl
@[simp] theorem tf65 : tf Tryz.prog 65 = some ⟨1, 8, (some [.nilFunc]), false, true⟩ := by kernel_rfl
@[simp] theorem un65 : (Tryz.prog.underlying 65).isSome = true := by kernel_rfl
@[simp] theorem un66 : (Tryz.prog.underlying 66).isSome = true := by kernel_rfl
@[simp] theorem tf67 : tf Tryz.prog 67 = some ⟨1, 8, (some [.nilFunc]), false, true⟩ := by kernel_rfl
@[simp] theorem un67 : (Tryz.prog.underlying 67).isSome = true := by kernel_rfl
@[simp] theorem tf68 : tf Tryz.prog 68 = some ⟨1, 8, (some [.nilFunc]), false, true⟩ := by kernel_rfl
@[simp] theorem un68 : (Tryz.prog.underlying 68).isSome = true := by kernel_rfl
@[simp] theorem tf69 : tf Tryz.prog 69 = some ⟨1, 8, (some [.nilFunc]), false, true⟩ := by kernel_rfl
@[simp] theorem un69 : (Tryz.prog.underlying 69).isSome = true := by kernel_rfl
@[simp] theorem tf70 : tf Tryz.prog 70 = some ⟨1, 8, (some [.nilFunc]), false, true⟩ := by kernel_rfl
@[simp] theorem un70 : (Tryz.prog.underlying 70).isSome = true := by kernel_rfl
@[simp] theorem tf71 : tf Tryz.prog 71 = some ⟨1, 8, (some [.nilFunc]), false, true⟩ := by kernel_rfl
@[simp] theorem un71 : (Tryz.prog.underlying 71).isSome = true := by kernel_rfl
@[simp] theorem tf72 : tf Tryz.prog 72 = some ⟨1, 24, (some [.slice none 0 0]), false, true⟩ := by kernel_rfl
@[simp] theorem un72 : (Tryz.prog.underlying 72).isSome = true := by kernel_rfl
@[simp] theorem el72 : elemT Tryz.prog 72 = some 33 := by kernel_rfl
@[simp] theorem ef72 : elemF Tryz.prog 72 = some (33, ⟨3, 32, (some [.int .u64 0, .string ⟨#[]⟩, .bool false]), true, true⟩) := by kernel_rfl
@[simp] theorem tf73 : tf Tryz.prog 73 = some ⟨1, 8, (some [.nilFunc]), false, true⟩ := by kernel_rfl
@[simp] theorem un73 : (Tryz.prog.underlying 73).isSome = true := by kernel_rfl
@[simp] theorem tf74 : tf Tryz.prog 74 = some ⟨1, 8, (some [.nilFunc]), false, true⟩ := by kernel_rfl
@[simp] theorem un74 : (Tryz.prog.underlying 74).isSome = true := by kernel_rfl
@[simp] theorem tf75 : tf Tryz.prog 75 = some ⟨1, 24, (some [.slice none 0 0]), false, true⟩ := by kernel_rfl
@[simp] theorem un75 : (Tryz.prog.underlying 75).isSome = true := by kernel_rfl
@[simp] theorem el75 : elemT Tryz.prog 75 = some 78 := by kernel_rfl
@[simp] theorem ef75 : elemF Tryz.prog 75 = some (78, ⟨3, 3, (some [.int .u8 0, .int .u8 0, .bool false]), true, true⟩) := by kernel_rfl
@[simp] theorem tf76 : tf Tryz.prog 76 = some ⟨1, 8, (some [.nilFunc]), false, true⟩ := by kernel_rfl
@[simp] theorem un76 : (Tryz.prog.underlying 76).isSome = true := by kernel_rfl
@[simp] theorem tf77 : tf Tryz.prog 77 = some ⟨3, 3, (some [.int .u8 0, .int .u8 0, .bool false]), true, true⟩ := by kernel_rfl
@[simp] theorem un77 : (Tryz.prog.underlying 77).isSome = true := by kernel_rfl
@[simp] theorem fo77_0 : fieldT Tryz.prog 77 0 = some 0 := by kernel_rfl
@[simp] theorem fo77_1 : fieldT Tryz.prog 77 1 = some 1 := by kernel_rfl
@[simp] theorem fo77_2 : fieldT Tryz.prog 77 2 = some 2 := by kernel_rfl
@[simp] theorem pa77 : partsT Tryz.prog 77 = some [(0, 1), (1, 1), (2, 1)] := by kernel_rfl
@[simp] theorem tf78 : tf Tryz.prog 78 = some ⟨3, 3, (some [.int .u8 0, .int .u8 0, .bool false]), true, true⟩ := by kernel_rfl
@[simp] theorem un78 : (Tryz.prog.underlying 78).isSome = true := by kernel_rfl
@[simp] theorem fo78_0 : fieldT Tryz.prog 78 0 = some 0 := by kernel_rfl
@[simp] theorem fo78_1 : fieldT Tryz.prog 78 1 = some 1 := by kernel_rfl
@[simp] theorem fo78_2 : fieldT Tryz.prog 78 2 = some 2 := by kernel_rfl
@[simp] theorem pa78 : partsT Tryz.prog 78 = some [(0, 1), (1, 1), (2, 1)] := by kernel_rfl
@[simp] theorem tf79 : tf Tryz.prog 79 = some ⟨1, 8, (some [.nilFunc]), false, true⟩ := by kernel_rfl
@[simp] theorem un79 : (Tryz.prog.underlying 79).isSome = true := by kernel_rfl
@[simp] theorem tf80 : tf Tryz.prog 80 = some ⟨1, 8, (some [.nilFunc]), false, true⟩ := by kernel_rfl
@[simp] theorem un80 : (Tryz.prog.underlying 80).isSome = true := by kernel_rfl
@[simp] theorem tf81 : tf Tryz.prog 81 = some ⟨4, 4, (some [.int .u8 0, .int .u8 0, .int .u8 0, .bool false]), true, true⟩ := by kernel_rfl
@[simp] theorem un81 : (Tryz.prog.underlying 81).isSome = true := by kernel_rfl
@[simp] theorem fo81_0 : fieldT Tryz.prog 81 0 = some 0 := by kernel_rfl
@[simp] theorem fo81_1 : fieldT Tryz.prog 81 1 = some 1 := by kernel_rfl
@[simp] theorem pa81 : partsT Tryz.prog 81 = some [(0, 1), (1, 3)] := by kernel_rfl
@[simp] theorem tf82 : tf Tryz.prog 82 = some ⟨4, 4, (some [.int .u8 0, .int .u8 0, .int .u8 0, .bool false]), true, true⟩ := by kernel_rfl
@[simp] theorem un82 : (Tryz.prog.underlying 82).isSome = true := by kernel_rfl
@[simp] theorem fo82_0 : fieldT Tryz.prog 82 0 = some 0 := by kernel_rfl
@[simp] theorem fo82_1 : fieldT Tryz.prog 82 1 = some 1 := by kernel_rfl
@[simp] theorem pa82 : partsT Tryz.prog 82 = some [(0, 1), (1, 3)] := by kernel_rfl
@[simp] theorem tf83 : tf Tryz.prog 83 = some ⟨1, 8, (some [.nilFunc]), false, true⟩ := by kernel_rfl
@[simp] theorem un83 : (Tryz.prog.underlying 83).isSome = true := by kernel_rfl
@[simp] theorem tf84 : tf Tryz.prog 84 = some ⟨1, 8, (some [.nilFunc]), false, true⟩ := by kernel_rfl
@[simp] theorem un84 : (Tryz.prog.underlying 84).isSome = true := by kernel_rfl
@[simp] theorem tf85 : tf Tryz.prog 85 = some ⟨1, 8, (some [.nilFunc]), false, true⟩ := by kernel_rfl
@[simp] theorem un85 : (Tryz.prog.underlying 85).isSome = true := by kernel_rfl
@[simp] theorem tf86 : tf Tryz.prog 86 = some ⟨1, 8, (some [.nilFunc]), false, true⟩ := by kernel_rfl
@[simp] theorem un86 : (Tryz.prog.underlying 86).isSome = true := by kernel_rfl
@[simp] theorem tf87 : tf Tryz.prog 87 = some ⟨1, 8, (some [.nilFunc]), false, true⟩ := by kernel_rfl
@[simp] theorem un87 : (Tryz.prog.underlying 87).isSome = true := by kernel_rfl
@[simp] theorem tf88 : tf Tryz.prog 88 = some ⟨1, 8, (some [.nilFunc]), false, true⟩ := by kernel_rfl
@[simp] theorem un88 : (Tryz.prog.underlying 88).isSome = true := by kernel_rfl
@[simp] theorem tf89 : tf Tryz.prog 89 = some ⟨4, 48, (some [.string ⟨#[]⟩, .int .u64 0, .string ⟨#[]⟩, .bool false]), true, true⟩ := by kernel_rfl
@[simp] theorem un89 : (Tryz.prog.underlying 89).isSome = true := by kernel_rfl
@[simp] theorem fo89_0 : fieldT Tryz.prog 89 0 = some 0 := by kernel_rfl
@[simp] theorem fo89_1 : fieldT Tryz.prog 89 1 = some 1 := by kernel_rfl
@[simp] theorem pa89 : partsT Tryz.prog 89 = some [(0, 1), (1, 3)] := by kernel_rfl
@[simp] theorem tf90 : tf Tryz.prog 90 = some ⟨4, 48, (some [.string ⟨#[]⟩, .int .u64 0, .string ⟨#[]⟩, .bool false]), true, true⟩ := by kernel_rfl
@[simp] theorem un90 : (Tryz.prog.underlying 90).isSome = true := by kernel_rfl
@[simp] theorem fo90_0 : fieldT Tryz.prog 90 0 = some 0 := by kernel_rfl
@[simp] theorem fo90_1 : fieldT Tryz.prog 90 1 = some 1 := by kernel_rfl
@[simp] theorem pa90 : partsT Tryz.prog 90 = some [(0, 1), (1, 3)] := by kernel_rfl
@[simp] theorem tf91 : tf Tryz.prog 91 = some ⟨1, 8, (some [.nilFunc]), false, true⟩ := by kernel_rfl
@[simp] theorem un91 : (Tryz.prog.underlying 91).isSome = true := by kernel_rfl
@[simp] theorem tf92 : tf Tryz.prog 92 = some ⟨1, 8, (some [.nilFunc]), false, true⟩ := by kernel_rfl
@[simp] theorem un92 : (Tryz.prog.underlying 92).isSome = true := by kernel_rfl
@[simp] theorem tf93 : tf Tryz.prog 93 = some ⟨1, 8, (some [.nilFunc]), false, true⟩ := by kernel_rfl
@[simp] theorem un93 : (Tryz.prog.underlying 93).isSome = true := by kernel_rfl
@[simp] theorem tf94 : tf Tryz.prog 94 = some ⟨1, 8, (some [.nilFunc]), false, true⟩ := by kernel_rfl
@[simp] theorem un94 : (Tryz.prog.underlying 94).isSome = true := by kernel_rfl
@[simp] theorem un95 : (Tryz.prog.underlying 95).isSome = true := by kernel_rfl
@[simp] theorem tf96 : tf Tryz.prog 96 = some ⟨1, 8, (some [.nilFunc]), false, true⟩ := by kernel_rfl
@[simp] theorem un96 : (Tryz.prog.underlying 96).isSome = true := by kernel_rfl
@[simp] theorem tf97 : tf Tryz.prog 97 = some ⟨1, 8, (some [.nilFunc]), false, true⟩ := by kernel_rfl
@[simp] theorem un97 : (Tryz.prog.underlying 97).isSome = true := by kernel_rfl
@[simp] theorem tf98 : tf Tryz.prog 98 = some ⟨1, 8, (some [.nilFunc]), false, true⟩ := by kernel_rfl
@[simp] theorem un98 : (Tryz.prog.underlying 98).isSome = true := by kernel_rfl
@[simp] theorem tf99 : tf Tryz.prog 99 = some ⟨1, 8, (some [.nilFunc]), false, true⟩ := by kernel_rfl
@[simp] theorem un99 : (Tryz.prog.underlying 99).isSome = true := by kernel_rfl
@[simp] theorem tf100 : tf Tryz.prog 100 = some ⟨1, 24, (some [.slice none 0 0]), false, true⟩ := by kernel_rfl
@[simp] theorem un100 : (Tryz.prog.underlying 100).isSome = true := by kernel_rfl
@[simp] theorem el100 : elemT Tryz.prog 100 = some 25 := by kernel_rfl
@[simp] theorem ef100 : elemF Tryz.prog 100 = some (25, ⟨1, 24, (some [.slice none 0 0]), false, true⟩) := by kernel_rfl
@[simp] theorem tf101 : tf Tryz.prog 101 = some ⟨1, 8, (some [.nilFunc]), false, true⟩ := by kernel_rfl
@[simp] theorem un101 : (Tryz.prog.underlying 101).isSome = true := by kernel_rfl
@[simp] theorem tf102 : tf Tryz.prog 102 = some ⟨1, 8, (some [.nilFunc]), false, true⟩ := by kernel_rfl
@[simp] theorem un102 : (Tryz.prog.underlying 102).isSome = true := by kernel_rfl
@[simp] theorem tf103 : tf Tryz.prog 103 = some ⟨1, 8, (some [.nilFunc]), false, true⟩ := by kernel_rfl
@[simp] theorem un103 : (Tryz.prog.underlying 103).isSome = true := by kernel_rfl
@[simp] theorem un104 : (Tryz.prog.underlying 104).isSome = true := by kernel_rfl
@[simp] theorem tf105 : tf Tryz.prog 105 = some ⟨1, 8, (some [.nilFunc]), false, true⟩ := by kernel_rfl
@[simp] theorem un105 : (Tryz.prog.underlying 105).isSome = true := by kernel_rfl
@[simp] theorem tf106 : tf Tryz.prog 106 = some ⟨1, 24, (some [.slice none 0 0]), false, true⟩ := by kernel_rfl
@[simp] theorem un106 : (Tryz.prog.underlying 106).isSome = true := by kernel_rfl
@[simp] theorem el106 : elemT Tryz.prog 106 = some 9 := by kernel_rfl
@[simp] theorem ef106 : elemF Tryz.prog 106 = some (9, ⟨1, 16, (some [.string ⟨#[]⟩]), false, true⟩) := by kernel_rfl
@[simp] theorem tf107 : tf Tryz.prog 107 = some ⟨1, 8, (some [.nilFunc]), false, true⟩ := by kernel_rfl
@[simp] theorem un107 : (Tryz.prog.underlying 107).isSome = true := by kernel_rfl
@[simp] theorem tf108 : tf Tryz.prog 108 = some ⟨1, 8, (some [.nilFunc]), false, true⟩ := by kernel_rfl
@[simp] theorem un108 : (Tryz.prog.underlying 108).isSome = true := by kernel_rfl
@[simp] theorem tf109 : tf Tryz.prog 109 = some ⟨1, 8, (some [.nilFunc]), false, true⟩ := by kernel_rfl
@[simp] theorem un109 : (Tryz.prog.underlying 109).isSome = true := by kernel_rfl
@[simp] theorem tf110 : tf Tryz.prog 110 = some ⟨1, 8, (some [.nilFunc]), false, true⟩ := by kernel_rfl
@[simp] theorem un110 : (Tryz.prog.underlying 110).isSome = true := by kernel_rfl
@[simp] theorem tf111 : tf Tryz.prog 111 = some ⟨1, 8, (some [.nilFunc]), false, true⟩ := by kernel_rfl
@[simp] theorem un111 : (Tryz.prog.underlying 111).isSome = true := by kernel_rfl
@[simp] theorem tf112 : tf Tryz.prog 112 = some ⟨1, 24, (some [.slice none 0 0]), false, true⟩ := by kernel_rfl
@[simp] theorem un112 : (Tryz.prog.underlying 112).isSome = true := by kernel_rfl
@[simp] theorem el112 : elemT Tryz.prog 112 = some 116 := by kernel_rfl
@[simp] theorem ef112 : elemF Tryz.prog 112 = some (116, ⟨2, 40, (some [.string ⟨#[]⟩, .slice none 0 0]), true, true⟩) := by kernel_rfl
@[simp] theorem tf113 : tf Tryz.prog 113 = some ⟨1, 24, (some [.slice none 0 0]), true, true⟩ := by kernel_rfl
@[simp] theorem un113 : (Tryz.prog.underlying 113).isSome = true := by kernel_rfl
@[simp] theorem fo113_0 : fieldT Tryz.prog 113 0 = some 0 := by kernel_rfl
@[simp] theorem pa113 : partsT Tryz.prog 113 = some [(0, 1)] := by kernel_rfl
@[simp] theorem tf114 : tf Tryz.prog 114 = some ⟨1, 24, (some [.slice none 0 0]), true, true⟩ := by kernel_rfl
@[simp] theorem un114 : (Tryz.prog.underlying 114).isSome = true := by kernel_rfl
@[simp] theorem fo114_0 : fieldT Tryz.prog 114 0 = some 0 := by kernel_rfl
@[simp] theorem pa114 : partsT Tryz.prog 114 = some [(0, 1)] := by kernel_rfl
@[simp] theorem tf115 : tf Tryz.prog 115 = some ⟨2, 40, (some [.string ⟨#[]⟩, .slice none 0 0]), true, true⟩ := by kernel_rfl
@[simp] theorem un115 : (Tryz.prog.underlying 115).isSome = true := by kernel_rfl
@[simp] theorem fo115_0 : fieldT Tryz.prog 115 0 = some 0 := by kernel_rfl
@[simp] theorem fo115_1 : fieldT Tryz.prog 115 1 = some 1 := by kernel_rfl
@[simp] theorem pa115 : partsT Tryz.prog 115 = some [(0, 1), (1, 1)] := by kernel_rfl
@[simp] theorem tf116 : tf Tryz.prog 116 = some ⟨2, 40, (some [.string ⟨#[]⟩, .slice none 0 0]), true, true⟩ := by kernel_rfl
@[simp] theorem un116 : (Tryz.prog.underlying 116).isSome = true := by kernel_rfl
@[simp] theorem fo116_0 : fieldT Tryz.prog 116 0 = some 0 := by kernel_rfl
@[simp] theorem fo116_1 : fieldT Tryz.prog 116 1 = some 1 := by kernel_rfl
@[simp] theorem pa116 : partsT Tryz.prog 116 = some [(0, 1), (1, 1)] := by kernel_rfl
@[simp] theorem tf117 : tf Tryz.prog 117 = some ⟨1, 8, (some [.nilFunc]), false, true⟩ := by kernel_rfl
@[simp] theorem un117 : (Tryz.prog.underlying 117).isSome = true := by kernel_rfl
@[simp] theorem tf118 : tf Tryz.prog 118 = some ⟨1, 8, (some [.nilFunc]), false, true⟩ := by kernel_rfl
@[simp] theorem un118 : (Tryz.prog.underlying 118).isSome = true := by kernel_rfl
@[simp] theorem un119 : (Tryz.prog.underlying 119).isSome = true := by kernel_rfl
@[simp] theorem tf120 : tf Tryz.prog 120 = some ⟨1, 8, (some [.nilFunc]), false, true⟩ := by kernel_rfl
@[simp] theorem un120 : (Tryz.prog.underlying 120).isSome = true := by kernel_rfl
@[simp] theorem tf121 : tf Tryz.prog 121 = some ⟨1, 24, (some [.slice none 0 0]), false, true⟩ := by kernel_rfl
@[simp] theorem un121 : (Tryz.prog.underlying 121).isSome = true := by kernel_rfl
@[simp] theorem el121 : elemT Tryz.prog 121 = some 60 := by kernel_rfl
@[simp] theorem ef121 : elemF Tryz.prog 121 = some (60, ⟨1, 24, (some [.slice none 0 0]), false, true⟩) := by kernel_rfl
@[simp] theorem tf122 : tf Tryz.prog 122 = some ⟨1, 8, (some [.nilFunc]), false, true⟩ := by kernel_rfl
@[simp] theorem un122 : (Tryz.prog.underlying 122).isSome = true := by kernel_rfl
@[simp] theorem un123 : (Tryz.prog.underlying 123).isSome = true := by kernel_rfl
@[simp] theorem tf124 : tf Tryz.prog 124 = some ⟨1, 8, (some [.nilFunc]), false, true⟩ := by kernel_rfl
@[simp] theorem un124 : (Tryz.prog.underlying 124).isSome = true := by kernel_rfl
@[simp] theorem tf125 : tf Tryz.prog 125 = some ⟨1, 8, (some [.nilFunc]), false, true⟩ := by kernel_rfl
@[simp] theorem un125 : (Tryz.prog.underlying 125).isSome = true := by kernel_rfl
@[simp] theorem tf126 : tf Tryz.prog 126 = some ⟨1, 8, (some [.nilFunc]), false, true⟩ := by kernel_rfl
@[simp] theorem un126 : (Tryz.prog.underlying 126).isSome = true := by kernel_rfl
@[simp] theorem tf127 : tf Tryz.prog 127 = some ⟨1, 8, (some [.nilFunc]), false, true⟩ := by kernel_rfl
@[simp] theorem un127 : (Tryz.prog.underlying 127).isSome = true := by kernel_rfl
@[simp] theorem tf128 : tf Tryz.prog 128 = some ⟨1, 8, (some [.nilFunc]), false, true⟩ := by kernel_rfl
@[simp] theorem un128 : (Tryz.prog.underlying 128).isSome = true := by kernel_rfl
@[simp] theorem tf129 : tf Tryz.prog 129 = some ⟨1, 8, (some [.pointer none]), false, true⟩ := by kernel_rfl
@[simp] theorem un129 : (Tryz.prog.underlying 129).isSome = true := by kernel_rfl
@[simp] theorem tf130 : tf Tryz.prog 130 = some ⟨1, 8, (some [.nilFunc]), false, true⟩ := by kernel_rfl
@[simp] theorem un130 : (Tryz.prog.underlying 130).isSome = true := by kernel_rfl
@[simp] theorem tf131 : tf Tryz.prog 131 = some ⟨1, 24, (some [.slice none 0 0]), false, true⟩ := by kernel_rfl
@[simp] theorem un131 : (Tryz.prog.underlying 131).isSome = true := by kernel_rfl
@[simp] theorem el131 : elemT Tryz.prog 131 = some 173 := by kernel_rfl
@[simp] theorem ef131 : elemF Tryz.prog 131 = some (173, ⟨5, 56, (some [.int .i64 0, .string ⟨#[]⟩, .string ⟨#[]⟩, .int .u64 0, .int .u64 0]), true, true⟩) := by kernel_rfl
@[simp] theorem tf132 : tf Tryz.prog 132 = some ⟨1, 24, (some [.slice none 0 0]), true, true⟩ := by kernel_rfl
@[simp] theorem un132 : (Tryz.prog.underlying 132).isSome = true := by kernel_rfl
@[simp] theorem fo132_0 : fieldT Tryz.prog 132 0 = some 0 := by kernel_rfl
@[simp] theorem pa132 : partsT Tryz.prog 132 = some [(0, 1)] := by kernel_rfl
@[simp] theorem tf133 : tf Tryz.prog 133 = some ⟨1, 24, (some [.slice none 0 0]), true, true⟩ := by kernel_rfl
@[simp] theorem un133 : (Tryz.prog.underlying 133).isSome = true := by kernel_rfl
@[simp] theorem fo133_0 : fieldT Tryz.prog 133 0 = some 0 := by kernel_rfl
@[simp] theorem pa133 : partsT Tryz.prog 133 = some [(0, 1)] := by kernel_rfl
@[simp] theorem tf134 : tf Tryz.prog 134 = some ⟨1, 8, (some [.map none]), false, true⟩ := by kernel_rfl
@[simp] theorem un134 : (Tryz.prog.underlying 134).isSome = true := by kernel_rfl
@[simp] theorem tf135 : tf Tryz.prog 135 = some ⟨1, 8, (some [.map none]), false, true⟩ := by kernel_rfl
@[simp] theorem un135 : (Tryz.prog.underlying 135).isSome = true := by kernel_rfl
@[simp] theorem tf136 : tf Tryz.prog 136 = some ⟨6, 64, (some [.pointer none, .slice none 0 0, .int .u64 0, .int .i64 0, .map none, .map none]), true, true⟩ := by kernel_rfl
@[simp] theorem un136 : (Tryz.prog.underlying 136).isSome = true := by kernel_rfl
@[simp] theorem fo136_0 : fieldT Tryz.prog 136 0 = some 0 := by kernel_rfl
@[simp] theorem fo136_1 : fieldT Tryz.prog 136 1 = some 1 := by kernel_rfl
@[simp] theorem fo136_2 : fieldT Tryz.prog 136 2 = some 2 := by kernel_rfl
@[simp] theorem fo136_3 : fieldT Tryz.prog 136 3 = some 3 := by kernel_rfl
@[simp] theorem fo136_4 : fieldT Tryz.prog 136 4 = some 4 := by kernel_rfl
@[simp] theorem fo136_5 : fieldT Tryz.prog 136 5 = some 5 := by kernel_rfl
@[simp] theorem pa136 : partsT Tryz.prog 136 = some [(0, 1), (1, 1), (2, 1), (3, 1), (4, 1), (5, 1)] := by kernel_rfl
@[simp] theorem tf137 : tf Tryz.prog 137 = some ⟨6, 64, (some [.pointer none, .slice none 0 0, .int .u64 0, .int .i64 0, .map none, .map none]), true, true⟩ := by kernel_rfl
@[simp] theorem un137 : (Tryz.prog.underlying 137).isSome = true := by kernel_rfl
@[simp] theorem fo137_0 : fieldT Tryz.prog 137 0 = some 0 := by kernel_rfl
@[simp] theorem fo137_1 : fieldT Tryz.prog 137 1 = some 1 := by kernel_rfl
@[simp] theorem fo137_2 : fieldT Tryz.prog 137 2 = some 2 := by kernel_rfl
@[simp] theorem fo137_3 : fieldT Tryz.prog 137 3 = some 3 := by kernel_rfl
@[simp] theorem fo137_4 : fieldT Tryz.prog 137 4 = some 4 := by kernel_rfl
@[simp] theorem fo137_5 : fieldT Tryz.prog 137 5 = some 5 := by kernel_rfl
@[simp] theorem pa137 : partsT Tryz.prog 137 = some [(0, 1), (1, 1), (2, 1), (3, 1), (4, 1), (5, 1)] := by kernel_rfl
@[simp] theorem un138 : (Tryz.prog.underlying 138).isSome = true := by kernel_rfl
@[simp] theorem tf139 : tf Tryz.prog 139 = some ⟨1, 8, (some [.nilFunc]), false, true⟩ := by kernel_rfl
@[simp] theorem un139 : (Tryz.prog.underlying 139).isSome = true := by kernel_rfl
@[simp] theorem tf140 : tf Tryz.prog 140 = some ⟨1, 8, (some [.pointer none]), false, true⟩ := by kernel_rfl
@[simp] theorem un140 : (Tryz.prog.underlying 140).isSome = true := by kernel_rfl
@[simp] theorem un141 : (Tryz.prog.underlying 141).isSome = true := by kernel_rfl
@[simp] theorem tf142 : tf Tryz.prog 142 = some ⟨1, 8, (some [.nilFunc]), false, true⟩ := by kernel_rfl
@[simp] theorem un142 : (Tryz.prog.underlying 142).isSome = true := by kernel_rfl
@[simp] theorem tf143 : tf Tryz.prog 143 = some ⟨1, 8, (some [.int .i64 0]), false, true⟩ := by kernel_rfl
@[simp] theorem it143 : intT Tryz.prog 143 = some .i64 := by kernel_rfl
@[simp] theorem un143 : (Tryz.prog.underlying 143).isSome = true := by kernel_rfl
@[simp] theorem tf144 : tf Tryz.prog 144 = some ⟨2, 16, (some [.int .u64 0, .int .u64 0]), true, true⟩ := by kernel_rfl
@[simp] theorem un144 : (Tryz.prog.underlying 144).isSome = true := by kernel_rfl
@[simp] theorem fo144_0 : fieldT Tryz.prog 144 0 = some 0 := by kernel_rfl
@[simp] theorem fo144_1 : fieldT Tryz.prog 144 1 = some 1 := by kernel_rfl
@[simp] theorem pa144 : partsT Tryz.prog 144 = some [(0, 1), (1, 1)] := by kernel_rfl
@[simp] theorem tf145 : tf Tryz.prog 145 = some ⟨2, 16, (some [.int .u64 0, .int .u64 0]), true, true⟩ := by kernel_rfl
@[simp] theorem un145 : (Tryz.prog.underlying 145).isSome = true := by kernel_rfl
@[simp] theorem fo145_0 : fieldT Tryz.prog 145 0 = some 0 := by kernel_rfl
@[simp] theorem fo145_1 : fieldT Tryz.prog 145 1 = some 1 := by kernel_rfl
@[simp] theorem pa145 : partsT Tryz.prog 145 = some [(0, 1), (1, 1)] := by kernel_rfl
@[simp] theorem tf146 : tf Tryz.prog 146 = some ⟨1, 8, (some [.map none]), false, true⟩ := by kernel_rfl
@[simp] theorem un146 : (Tryz.prog.underlying 146).isSome = true := by kernel_rfl
@[simp] theorem tf147 : tf Tryz.prog 147 = some ⟨4, 32, (some [.int .i64 0, .int .u64 0, .int .u64 0, .map none]), true, true⟩ := by kernel_rfl
@[simp] theorem un147 : (Tryz.prog.underlying 147).isSome = true := by kernel_rfl
@[simp] theorem fo147_0 : fieldT Tryz.prog 147 0 = some 0 := by kernel_rfl
@[simp] theorem fo147_1 : fieldT Tryz.prog 147 1 = some 1 := by kernel_rfl
@[simp] theorem fo147_2 : fieldT Tryz.prog 147 2 = some 3 := by kernel_rfl
@[simp] theorem pa147 : partsT Tryz.prog 147 = some [(0, 1), (1, 2), (3, 1)] := by kernel_rfl
@[simp] theorem tf148 : tf Tryz.prog 148 = some ⟨4, 32, (some [.int .i64 0, .int .u64 0, .int .u64 0, .map none]), true, true⟩ := by kernel_rfl
@[simp] theorem un148 : (Tryz.prog.underlying 148).isSome = true := by kernel_rfl
@[simp] theorem fo148_0 : fieldT Tryz.prog 148 0 = some 0 := by kernel_rfl
@[simp] theorem fo148_1 : fieldT Tryz.prog 148 1 = some 1 := by kernel_rfl
@[simp] theorem fo148_2 : fieldT Tryz.prog 148 2 = some 3 := by kernel_rfl
@[simp] theorem pa148 : partsT Tryz.prog 148 = some [(0, 1), (1, 2), (3, 1)] := by kernel_rfl
@[simp] theorem tf149 : tf Tryz.prog 149 = some ⟨1, 8, (some [.int .u64 0]), false, true⟩ := by kernel_rfl
@[simp] theorem it149 : intT Tryz.prog 149 = some .u64 := by kernel_rfl
@[simp] theorem un149 : (Tryz.prog.underlying 149).isSome = true := by kernel_rfl
@[simp] theorem tf150 : tf Tryz.prog 150 = some ⟨1, 8, (some [.nilFunc]), false, true⟩ := by kernel_rfl
@[simp] theorem un150 : (Tryz.prog.underlying 150).isSome = true := by kernel_rfl
@[simp] theorem tf151 : tf Tryz.prog 151 = some ⟨1, 8, (some [.nilFunc]), false, true⟩ := by kernel_rfl
@[simp] theorem un151 : (Tryz.prog.underlying 151).isSome = true := by kernel_rfl
@[simp] theorem tf152 : tf Tryz.prog 152 = some ⟨1, 8, (some [.nilFunc]), false, true⟩ := by kernel_rfl
@[simp] theorem un152 : (Tryz.prog.underlying 152).isSome = true := by kernel_rfl
@[simp] theorem tf153 : tf Tryz.prog 153 = some ⟨1, 8, (some [.nilFunc]), false, true⟩ := by kernel_rfl
@[simp] theorem un153 : (Tryz.prog.underlying 153).isSome = true := by kernel_rfl
@[simp] theorem tf154 : tf Tryz.prog 154 = some ⟨1, 8, (some [.nilFunc]), false, true⟩ := by kernel_rfl
@[simp] theorem un154 : (Tryz.prog.underlying 154).isSome = true := by kernel_rfl
@[simp] theorem tf155 : tf Tryz.prog 155 = some ⟨1, 8, (some [.nilFunc]), false, true⟩ := by kernel_rfl
@[simp] theorem un155 : (Tryz.prog.underlying 155).isSome = true := by kernel_rfl
@[simp] theorem tf156 : tf Tryz.prog 156 = some ⟨1, 8, (some [.nilFunc]), false, true⟩ := by kernel_rfl
@[simp] theorem un156 : (Tryz.prog.underlying 156).isSome = true := by kernel_rfl
@[simp] theorem un157 : (Tryz.prog.underlying 157).isSome = true := by kernel_rfl
@[simp] theorem tf158 : tf Tryz.prog 158 = some ⟨1, 8, (some [.nilFunc]), false, true⟩ := by kernel_rfl
@[simp] theorem un158 : (Tryz.prog.underlying 158).isSome = true := by kernel_rfl
@[simp] theorem tf159 : tf Tryz.prog 159 = some ⟨1, 8, (some [.nilFunc]), false, true⟩ := by kernel_rfl
@[simp] theorem un159 : (Tryz.prog.underlying 159).isSome = true := by kernel_rfl
@[simp] theorem tf160 : tf Tryz.prog 160 = some ⟨1, 8, (some [.pointer none]), false, true⟩ := by kernel_rfl
@[simp] theorem un160 : (Tryz.prog.underlying 160).isSome = true := by kernel_rfl
@[simp] theorem tf161 : tf Tryz.prog 161 = some ⟨2, 32, (some [.pointer none, .slice none 0 0]), true, true⟩ := by kernel_rfl
@[simp] theorem un161 : (Tryz.prog.underlying 161).isSome = true := by kernel_rfl
@[simp] theorem fo161_0 : fieldT Tryz.prog 161 0 = some 0 := by kernel_rfl
@[simp] theorem fo161_1 : fieldT Tryz.prog 161 1 = some 1 := by kernel_rfl
@[simp] theorem pa161 : partsT Tryz.prog 161 = some [(0, 1), (1, 1)] := by kernel_rfl
@[simp] theorem tf162 : tf Tryz.prog 162 = some ⟨2, 32, (some [.pointer none, .slice none 0 0]), true, true⟩ := by kernel_rfl
@[simp] theorem un162 : (Tryz.prog.underlying 162).isSome = true := by kernel_rfl
@[simp] theorem fo162_0 : fieldT Tryz.prog 162 0 = some 0 := by kernel_rfl
@[simp] theorem fo162_1 : fieldT Tryz.prog 162 1 = some 1 := by kernel_rfl
@[simp] theorem pa162 : partsT Tryz.prog 162 = some [(0, 1), (1, 1)] := by kernel_rfl
@[simp] theorem tf163 : tf Tryz.prog 163 = some ⟨1, 8, (some [.nilFunc]), false, true⟩ := by kernel_rfl
@[simp] theorem un163 : (Tryz.prog.underlying 163).isSome = true := by kernel_rfl
@[simp] theorem tf164 : tf Tryz.prog 164 = some ⟨1, 16, (some [.nilIface]), false, true⟩ := by kernel_rfl
@[simp] theorem un164 : (Tryz.prog.underlying 164).isSome = true := by kernel_rfl
@[simp] theorem tf165 : tf Tryz.prog 165 = some ⟨1, 16, (some [.nilIface]), false, true⟩ := by kernel_rfl
@[simp] theorem un165 : (Tryz.prog.underlying 165).isSome = true := by kernel_rfl
@[simp] theorem un166 : (Tryz.prog.underlying 166).isSome = true := by kernel_rfl
@[simp] theorem tf167 : tf Tryz.prog 167 = some ⟨1, 8, (some [.nilFunc]), false, true⟩ := by kernel_rfl
@[simp] theorem un167 : (Tryz.prog.underlying 167).isSome = true := by kernel_rfl
@[simp] theorem tf168 : tf Tryz.prog 168 = some ⟨1, 8, (some [.nilFunc]), false, true⟩ := by kernel_rfl
@[simp] theorem un168 : (Tryz.prog.underlying 168).isSome = true := by kernel_rfl
@[simp] theorem tf169 : tf Tryz.prog 169 = some ⟨1, 8, (some [.nilFunc]), false, true⟩ := by kernel_rfl
@[simp] theorem un169 : (Tryz.prog.underlying 169).isSome = true := by kernel_rfl
@[simp] theorem tf170 : tf Tryz.prog 170 = some ⟨1, 24, (some [.slice none 0 0]), false, true⟩ := by kernel_rfl
@[simp] theorem un170 : (Tryz.prog.underlying 170).isSome = true := by kernel_rfl
@[simp] theorem el170 : elemT Tryz.prog 170 = some 196 := by kernel_rfl
@[simp] theorem tf171 : tf Tryz.prog 171 = some ⟨1, 8, (some [.nilFunc]), false, true⟩ := by kernel_rfl
@[simp] theorem un171 : (Tryz.prog.underlying 171).isSome = true := by kernel_rfl
@[simp] theorem tf172 : tf Tryz.prog 172 = some ⟨5, 56, (some [.int .i64 0, .string ⟨#[]⟩, .string ⟨#[]⟩, .int .u64 0, .int .u64 0]), true, true⟩ := by kernel_rfl
@[simp] theorem un172 : (Tryz.prog.underlying 172).isSome = true := by kernel_rfl
@[simp] theorem fo172_0 : fieldT Tryz.prog 172 0 = some 0 := by kernel_rfl
@[simp] theorem fo172_1 : fieldT Tryz.prog 172 1 = some 1 := by kernel_rfl
@[simp] theorem fo172_2 : fieldT Tryz.prog 172 2 = some 2 := by kernel_rfl
@[simp] theorem fo172_3 : fieldT Tryz.prog 172 3 = some 3 := by kernel_rfl
@[simp] theorem pa172 : partsT Tryz.prog 172 = some [(0, 1), (1, 1), (2, 1), (3, 2)] := by kernel_rfl
@[simp] theorem tf173 : tf Tryz.prog 173 = some ⟨5, 56, (some [.int .i64 0, .string ⟨#[]⟩, .string ⟨#[]⟩, .int .u64 0, .int .u64 0]), true, true⟩ := by kernel_rfl
@[simp] theorem un173 : (Tryz.prog.underlying 173).isSome = true := by kernel_rfl
@[simp] theorem fo173_0 : fieldT Tryz.prog 173 0 = some 0 := by kernel_rfl
@[simp] theorem fo173_1 : fieldT Tryz.prog 173 1 = some 1 := by kernel_rfl
@[simp] theorem fo173_2 : fieldT Tryz.prog 173 2 = some 2 := by kernel_rfl
@[simp] theorem fo173_3 : fieldT Tryz.prog 173 3 = some 3 := by kernel_rfl
@[simp] theorem pa173 : partsT Tryz.prog 173 = some [(0, 1), (1, 1), (2, 1), (3, 2)] := by kernel_rfl
@[simp] theorem tf174 : tf Tryz.prog 174 = some ⟨1, 8, (some [.nilFunc]), false, true⟩ := by kernel_rfl
@[simp] theorem un174 : (Tryz.prog.underlying 174).isSome = true := by kernel_rfl
@[simp] theorem tf175 : tf Tryz.prog 175 = some ⟨1, 8, (some [.nilFunc]), false, true⟩ := by kernel_rfl
@[simp] theorem un175 : (Tryz.prog.underlying 175).isSome = true := by kernel_rfl
@[simp] theorem tf176 : tf Tryz.prog 176 = some ⟨1, 8, (some [.nilFunc]), false, true⟩ := by kernel_rfl
@[simp] theorem un176 : (Tryz.prog.underlying 176).isSome = true := by kernel_rfl
@[simp] theorem un177 : (Tryz.prog.underlying 177).isSome = true := by kernel_rfl
@[simp] theorem tf178 : tf Tryz.prog 178 = some ⟨1, 8, (some [.nilFunc]), false, true⟩ := by kernel_rfl
@[simp] theorem un178 : (Tryz.prog.underlying 178).isSome = true := by kernel_rfl
@[simp] theorem tf179 : tf Tryz.prog 179 = some ⟨1, 8, (some [.nilFunc]), false, true⟩ := by kernel_rfl
@[simp] theorem un179 : (Tryz.prog.underlying 179).isSome = true := by kernel_rfl
@[simp] theorem tf180 : tf Tryz.prog 180 = some ⟨1, 8, (some [.nilFunc]), false, true⟩ := by kernel_rfl
@[simp] theorem un180 : (Tryz.prog.underlying 180).isSome = true := by kernel_rfl
@[simp] theorem tf181 : tf Tryz.prog 181 = some ⟨1, 8, (some [.nilFunc]), false, true⟩ := by kernel_rfl
@[simp] theorem un181 : (Tryz.prog.underlying 181).isSome = true := by kernel_rfl
@[simp] theorem tf182 : tf Tryz.prog 182 = some ⟨1, 8, (some [.nilFunc]), false, true⟩ := by kernel_rfl
@[simp] theorem un182 : (Tryz.prog.underlying 182).isSome = true := by kernel_rfl
@[simp] theorem tf183 : tf Tryz.prog 183 = some ⟨1, 4, (some [.int .u32 0]), false, true⟩ := by kernel_rfl
@[simp] theorem it183 : intT Tryz.prog 183 = some .u32 := by kernel_rfl
@[simp] theorem un183 : (Tryz.prog.underlying 183).isSome = true := by kernel_rfl
@[simp] theorem un184 : (Tryz.prog.underlying 184).isSome = true := by kernel_rfl
@[simp] theorem tf185 : tf Tryz.prog 185 = some ⟨1, 8, (some [.nilFunc]), false, true⟩ := by kernel_rfl
@[simp] theorem un185 : (Tryz.prog.underlying 185).isSome = true := by kernel_rfl
@[simp] theorem un186 : (Tryz.prog.underlying 186).isSome = true := by kernel_rfl
@[simp] theorem tf187 : tf Tryz.prog 187 = some ⟨1, 8, (some [.nilFunc]), false, true⟩ := by kernel_rfl
@[simp] theorem un187 : (Tryz.prog.underlying 187).isSome = true := by kernel_rfl
@[simp] theorem tf188 : tf Tryz.prog 188 = some ⟨1, 8, (some [.pointer none]), false, true⟩ := by kernel_rfl
@[simp] theorem un188 : (Tryz.prog.underlying 188).isSome = true := by kernel_rfl
@[simp] theorem tf189 : tf Tryz.prog 189 = some ⟨1, 8, (some [.nilFunc]), false, true⟩ := by kernel_rfl
@[simp] theorem un189 : (Tryz.prog.underlying 189).isSome = true := by kernel_rfl
@[simp] theorem tf190 : tf Tryz.prog 190 = some ⟨1, 24, (some [.slice none 0 0]), false, true⟩ := by kernel_rfl
@[simp] theorem un190 : (Tryz.prog.underlying 190).isSome = true := by kernel_rfl
@[simp] theorem el190 : elemT Tryz.prog 190 = some 145 := by kernel_rfl
@[simp] theorem ef190 : elemF Tryz.prog 190 = some (145, ⟨2, 16, (some [.int .u64 0, .int .u64 0]), true, true⟩) := by kernel_rfl
@[simp] theorem tf191 : tf Tryz.prog 191 = some ⟨1, 24, (some [.slice none 0 0]), false, true⟩ := by kernel_rfl
@[simp] theorem un191 : (Tryz.prog.underlying 191).isSome = true := by kernel_rfl
@[simp] theorem el191 : elemT Tryz.prog 191 = some 145 := by kernel_rfl
@[simp] theorem ef191 : elemF Tryz.prog 191 = some (145, ⟨2, 16, (some [.int .u64 0, .int .u64 0]), true, true⟩) := by kernel_rfl
@[simp] theorem tf192 : tf Tryz.prog 192 = some ⟨1, 8, (some [.nilFunc]), false, true⟩ := by kernel_rfl
@[simp] theorem un192 : (Tryz.prog.underlying 192).isSome = true := by kernel_rfl
@[simp] theorem tf193 : tf Tryz.prog 193 = some ⟨1, 8, (some [.nilFunc]), false, true⟩ := by kernel_rfl
@[simp] theorem un193 : (Tryz.prog.underlying 193).isSome = true := by kernel_rfl
@[simp] theorem un194 : (Tryz.prog.underlying 194).isSome = true := by kernel_rfl
@[simp] theorem un195 : (Tryz.prog.underlying 195).isSome = true := by kernel_rfl
@[simp] theorem fo195_0 : fieldT Tryz.prog 195 0 = some 0 := by kernel_rfl
@[simp] theorem fo195_1 : fieldT Tryz.prog 195 1 = some 1 := by kernel_rfl
@[simp] theorem pa195 : partsT Tryz.prog 195 = some [(0, 1), (1, 1)] := by kernel_rfl
@[simp] theorem un196 : (Tryz.prog.underlying 196).isSome = true := by kernel_rfl
@[simp] theorem fo196_0 : fieldT Tryz.prog 196 0 = some 0 := by kernel_rfl
@[simp] theorem fo196_1 : fieldT Tryz.prog 196 1 = some 1 := by kernel_rfl
@[simp] theorem pa196 : partsT Tryz.prog 196 = some [(0, 1), (1, 1)] := by kernel_rfl
@[simp] theorem tf197 : tf Tryz.prog 197 = some ⟨1, 8, (some [.nilFunc]), false, true⟩ := by kernel_rfl
@[simp] theorem un197 : (Tryz.prog.underlying 197).isSome = true := by kernel_rfl
@[simp] theorem tf198 : tf Tryz.prog 198 = some ⟨1, 8, (some [.float .f64 0]), false, true⟩ := by kernel_rfl
@[simp] theorem un198 : (Tryz.prog.underlying 198).isSome = true := by kernel_rfl
@[simp] theorem tf199 : tf Tryz.prog 199 = some ⟨1, 8, (some [.nilFunc]), false, true⟩ := by kernel_rfl
@[simp] theorem un199 : (Tryz.prog.underlying 199).isSome = true := by kernel_rfl
@[simp] theorem tf200 : tf Tryz.prog 200 = some ⟨1, 8, (some [.nilFunc]), false, true⟩ := by kernel_rfl
@[simp] theorem un200 : (Tryz.prog.underlying 200).isSome = true := by kernel_rfl
@[simp] theorem tf201 : tf Tryz.prog 201 = some ⟨1, 8, (some [.int .i64 0]), false, true⟩ := by kernel_rfl
@[simp] theorem it201 : intT Tryz.prog 201 = some .i64 := by kernel_rfl
@[simp] theorem un201 : (Tryz.prog.underlying 201).isSome = true := by kernel_rfl
@[simp] theorem un202 : (Tryz.prog.underlying 202).isSome = true := by kernel_rfl
@[simp] theorem tf203 : tf Tryz.prog 203 = some ⟨1, 8, (some [.nilFunc]), false, true⟩ := by kernel_rfl
@[simp] theorem un203 : (Tryz.prog.underlying 203).isSome = true := by kernel_rfl
@[simp] theorem tf204 : tf Tryz.prog 204 = some ⟨1, 8, (some [.nilFunc]), false, true⟩ := by kernel_rfl
@[simp] theorem un204 : (Tryz.prog.underlying 204).isSome = true := by kernel_rfl
@[simp] theorem tf205 : tf Tryz.prog 205 = some ⟨1, 8, (some [.nilFunc]), false, true⟩ := by kernel_rfl
@[simp] theorem un205 : (Tryz.prog.underlying 205).isSome = true := by kernel_rfl
@[simp] theorem tf206 : tf Tryz.prog 206 = some ⟨1, 8, (some [.nilFunc]), false, true⟩ := by kernel_rfl
@[simp] theorem un206 : (Tryz.prog.underlying 206).isSome = true := by kernel_rfl
@[simp] theorem tf207 : tf Tryz.prog 207 = some ⟨1, 8, (some [.nilFunc]), false, true⟩ := by kernel_rfl
@[simp] theorem un207 : (Tryz.prog.underlying 207).isSome = true := by kernel_rfl
@[simp] theorem tf208 : tf Tryz.prog 208 = some ⟨1, 8, (some [.nilFunc]), false, true⟩ := by kernel_rfl
@[simp] theorem un208 : (Tryz.prog.underlying 208).isSome = true := by kernel_rfl
@[simp] theorem tf209 : tf Tryz.prog 209 = some ⟨1, 8, (some [.nilFunc]), false, true⟩ := by kernel_rfl
@[simp] theorem un209 : (Tryz.prog.underlying 209).isSome = true := by kernel_rfl
@[simp] theorem tf210 : tf Tryz.prog 210 = some ⟨1, 8, (some [.pointer none]), false, true⟩ := by kernel_rfl
@[simp] theorem un210 : (Tryz.prog.underlying 210).isSome = true := by kernel_rfl
@[simp] theorem tf211 : tf Tryz.prog 211 = some ⟨1, 8, (some [.nilFunc]), false, true⟩ := by kernel_rfl
@[simp] theorem un211 : (Tryz.prog.underlying 211).isSome = true := by kernel_rfl
@[simp] theorem tf212 : tf Tryz.prog 212 = some ⟨1, 8, (some [.nilFunc]), false, true⟩ := by kernel_rfl
@[simp] theorem un212 : (Tryz.prog.underlying 212).isSome = true := by kernel_rfl
@[simp] theorem tf213 : tf Tryz.prog 213 = some ⟨1, 8, (some [.nilFunc]), false, true⟩ := by kernel_rfl
@[simp] theorem un213 : (Tryz.prog.underlying 213).isSome = true := by kernel_rfl
@[simp] theorem un214 : (Tryz.prog.underlying 214).isSome = true := by kernel_rfl
@[simp] theorem tf215 : tf Tryz.prog 215 = some ⟨1, 8, (some [.nilFunc]), false, true⟩ := by kernel_rfl
@[simp] theorem un215 : (Tryz.prog.underlying 215).isSome = true := by kernel_rfl
@[simp] theorem tf216 : tf Tryz.prog 216 = some ⟨1, 8, (some [.pointer none]), false, true⟩ := by kernel_rfl
@[simp] theorem un216 : (Tryz.prog.underlying 216).isSome = true := by kernel_rfl
@[simp] theorem tf217 : tf Tryz.prog 217 = some ⟨1, 8, (some [.nilFunc]), false, true⟩ := by kernel_rfl
@[simp] theorem un217 : (Tryz.prog.underlying 217).isSome = true := by kernel_rfl
@[simp] theorem tf218 : tf Tryz.prog 218 = some ⟨1, 8, (some [.int .u64 0]), false, true⟩ := by kernel_rfl
@[simp] theorem it218 : intT Tryz.prog 218 = some .u64 := by kernel_rfl
@[simp] theorem un218 : (Tryz.prog.underlying 218).isSome = true := by kernel_rfl
@[simp] theorem tf219 : tf Tryz.prog 219 = some ⟨1, 8, (some [.nilFunc]), false, true⟩ := by kernel_rfl
@[simp] theorem un219 : (Tryz.prog.underlying 219).isSome = true := by kernel_rfl
@[simp] theorem tf220 : tf Tryz.prog 220 = some ⟨1, 8, (some [.nilFunc]), false, true⟩ := by kernel_rfl
@[simp] theorem un220 : (Tryz.prog.underlying 220).isSome = true := by kernel_rfl
@[simp] theorem tf221 : tf Tryz.prog 221 = some ⟨1, 8, (some [.pointer none]), false, true⟩ := by kernel_rfl
@[simp] theorem un221 : (Tryz.prog.underlying 221).isSome = true := by kernel_rfl
@[simp] theorem tf222 : tf Tryz.prog 222 = some ⟨1, 8, (some [.nilFunc]), false, true⟩ := by kernel_rfl
@[simp] theorem un222 : (Tryz.prog.underlying 222).isSome = true := by kernel_rfl
@[simp] theorem tf223 : tf Tryz.prog 223 = some ⟨1, 8, (some [.nilFunc]), false, true⟩ := by kernel_rfl
@[simp] theorem un223 : (Tryz.prog.underlying 223).isSome = true := by kernel_rfl
@[simp] theorem tf224 : tf Tryz.prog 224 = some ⟨1, 8, (some [.nilFunc]), false, true⟩ := by kernel_rfl
@[simp] theorem un224 : (Tryz.prog.underlying 224).isSome = true := by kernel_rfl
@[simp] theorem tf225 : tf Tryz.prog 225 = some ⟨1, 8, (some [.nilFunc]), false, true⟩ := by kernel_rfl
@[simp] theorem un225 : (Tryz.prog.underlying 225).isSome = true := by kernel_rfl
@[simp] theorem tf226 : tf Tryz.prog 226 = some ⟨1, 8, (some [.nilFunc]), false, true⟩ := by kernel_rfl
@[simp] theorem un226 : (Tryz.prog.underlying 226).isSome = true := by kernel_rfl
@[simp] theorem tf227 : tf Tryz.prog 227 = some ⟨1, 8, (some [.nilFunc]), false, true⟩ := by kernel_rfl
@[simp] theorem un227 : (Tryz.prog.underlying 227).isSome = true := by kernel_rfl
@[simp] theorem tf228 : tf Tryz.prog 228 = some ⟨1, 8, (some [.nilFunc]), false, true⟩ := by kernel_rfl
@[simp] theorem un228 : (Tryz.prog.underlying 228).isSome = true := by kernel_rfl
@[simp] theorem tf229 : tf Tryz.prog 229 = some ⟨1, 8, (some [.nilFunc]), false, true⟩ := by kernel_rfl
@[simp] theorem un229 : (Tryz.prog.underlying 229).isSome = true := by kernel_rfl
@[simp] theorem tf230 : tf Tryz.prog 230 = some ⟨1, 8, (some [.nilFunc]), false, true⟩ := by kernel_rfl
@[simp] theorem un230 : (Tryz.prog.underlying 230).isSome = true := by kernel_rfl
@[simp] theorem tf231 : tf Tryz.prog 231 = some ⟨1, 8, (some [.nilFunc]), false, true⟩ := by kernel_rfl
@[simp] theorem un231 : (Tryz.prog.underlying 231).isSome = true := by kernel_rfl
@[simp] theorem tf232 : tf Tryz.prog 232 = some ⟨1, 8, (some [.pointer none]), false, true⟩ := by kernel_rfl
@[simp] theorem un232 : (Tryz.prog.underlying 232).isSome = true := by kernel_rfl
@[simp] theorem un233 : (Tryz.prog.underlying 233).isSome = true := by kernel_rfl
@[simp] theorem tf234 : tf Tryz.prog 234 = some ⟨1, 8, (some [.nilFunc]), false, true⟩ := by kernel_rfl
@[simp] theorem un234 : (Tryz.prog.underlying 234).isSome = true := by kernel_rfl
@[simp] theorem tf235 : tf Tryz.prog 235 = some ⟨1, 8, (some [.pointer none]), false, true⟩ := by kernel_rfl
@[simp] theorem un235 : (Tryz.prog.underlying 235).isSome = true := by kernel_rfl
@[simp] theorem tf236 : tf Tryz.prog 236 = some ⟨1, 8, (some [.nilFunc]), false, true⟩ := by kernel_rfl
@[simp] theorem un236 : (Tryz.prog.underlying 236).isSome = true := by kernel_rfl
@[simp] theorem tf237 : tf Tryz.prog 237 = some ⟨1, 8, (some [.pointer none]), false, true⟩ := by kernel_rfl
@[simp] theorem un237 : (Tryz.prog.underlying 237).isSome = true := by kernel_rfl
@[simp] theorem un238 : (Tryz.prog.underlying 238).isSome = true := by kernel_rfl
@[simp] theorem tf239 : tf Tryz.prog 239 = some ⟨1, 8, (some [.nilFunc]), false, true⟩ := by kernel_rfl
@[simp] theorem un239 : (Tryz.prog.underlying 239).isSome = true := by kernel_rfl
@[simp] theorem tf240 : tf Tryz.prog 240 = some ⟨1, 8, (some [.nilFunc]), false, true⟩ := by kernel_rfl
@[simp] theorem un240 : (Tryz.prog.underlying 240).isSome = true := by kernel_rfl
@[simp] theorem tf241 : tf Tryz.prog 241 = some ⟨1, 8, (some [.nilFunc]), false, true⟩ := by kernel_rfl
@[simp] theorem un241 : (Tryz.prog.underlying 241).isSome = true := by kernel_rfl
@[simp] theorem tf242 : tf Tryz.prog 242 = some ⟨1, 8, (some [.nilFunc]), false, true⟩ := by kernel_rfl
@[simp] theorem un242 : (Tryz.prog.underlying 242).isSome = true := by kernel_rfl
@[simp] theorem tf243 : tf Tryz.prog 243 = some ⟨1, 8, (some [.nilFunc]), false, true⟩ := by kernel_rfl
@[simp] theorem un243 : (Tryz.prog.underlying 243).isSome = true := by kernel_rfl
@[simp] theorem tf244 : tf Tryz.prog 244 = some ⟨1, 8, (some [.nilFunc]), false, true⟩ := by kernel_rfl
@[simp] theorem un244 : (Tryz.prog.underlying 244).isSome = true := by kernel_rfl
@[simp] theorem tf245 : tf Tryz.prog 245 = some ⟨1, 8, (some [.pointer none]), false, true⟩ := by kernel_rfl
@[simp] theorem un245 : (Tryz.prog.underlying 245).isSome = true := by kernel_rfl
@[simp] theorem tf246 : tf Tryz.prog 246 = some ⟨1, 8, (some [.nilFunc]), false, true⟩ := by kernel_rfl
@[simp] theorem un246 : (Tryz.prog.underlying 246).isSome = true := by kernel_rfl
@[simp] theorem tf247 : tf Tryz.prog 247 = some ⟨2, 24, (some [.pointer none, .string ⟨#[]⟩]), true, true⟩ := by kernel_rfl
@[simp] theorem un247 : (Tryz.prog.underlying 247).isSome = true := by kernel_rfl
@[simp] theorem fo247_0 : fieldT Tryz.prog 247 0 = some 0 := by kernel_rfl
@[simp] theorem fo247_1 : fieldT Tryz.prog 247 1 = some 1 := by kernel_rfl
@[simp] theorem pa247 : partsT Tryz.prog 247 = some [(0, 1), (1, 1)] := by kernel_rfl
@[simp] theorem tf248 : tf Tryz.prog 248 = some ⟨2, 24, (some [.pointer none, .string ⟨#[]⟩]), true, true⟩ := by kernel_rfl
@[simp] theorem un248 : (Tryz.prog.underlying 248).isSome = true := by kernel_rfl
@[simp] theorem fo248_0 : fieldT Tryz.prog 248 0 = some 0 := by kernel_rfl
@[simp] theorem fo248_1 : fieldT Tryz.prog 248 1 = some 1 := by kernel_rfl
@[simp] theorem pa248 : partsT Tryz.prog 248 = some [(0, 1), (1, 1)] := by kernel_rfl
@[simp] theorem un249 : (Tryz.prog.underlying 249).isSome = true := by kernel_rfl
@[simp] theorem tf250 : tf Tryz.prog 250 = some ⟨1, 8, (some [.nilFunc]), false, true⟩ := by kernel_rfl
@[simp] theorem un250 : (Tryz.prog.underlying 250).isSome = true := by kernel_rfl
@[simp] theorem un251 : (Tryz.prog.underlying 251).isSome = true := by kernel_rfl
@[simp] theorem tf252 : tf Tryz.prog 252 = some ⟨1, 8, (some [.nilFunc]), false, true⟩ := by kernel_rfl
@[simp] theorem un252 : (Tryz.prog.underlying 252).isSome = true := by kernel_rfl
@[simp] theorem tf253 : tf Tryz.prog 253 = some ⟨1, 8, (some [.nilFunc]), false, true⟩ := by kernel_rfl
@[simp] theorem un253 : (Tryz.prog.underlying 253).isSome = true := by kernel_rfl
@[simp] theorem tf254 : tf Tryz.prog 254 = some ⟨1, 8, (some [.nilFunc]), false, true⟩ := by kernel_rfl
@[simp] theorem un254 : (Tryz.prog.underlying 254).isSome = true := by kernel_rfl
@[simp] theorem tf255 : tf Tryz.prog 255 = some ⟨1, 8, (some [.nilFunc]), false, true⟩ := by kernel_rfl
@[simp] theorem un255 : (Tryz.prog.underlying 255).isSome = true := by kernel_rfl
@[simp] theorem tf256 : tf Tryz.prog 256 = some ⟨1, 8, (some [.nilFunc]), false, true⟩ := by kernel_rfl
@[simp] theorem un256 : (Tryz.prog.underlying 256).isSome = true := by kernel_rfl
@[simp] theorem tf257 : tf Tryz.prog 257 = some ⟨1, 8, (some [.nilFunc]), false, true⟩ := by kernel_rfl
@[simp] theorem un257 : (Tryz.prog.underlying 257).isSome = true := by kernel_rfl
@[simp] theorem tf258 : tf Tryz.prog 258 = some ⟨1, 8, (some [.nilFunc]), false, true⟩ := by kernel_rfl
@[simp] theorem un258 : (Tryz.prog.underlying 258).isSome = true := by kernel_rfl
@[simp] theorem tf259 : tf Tryz.prog 259 = some ⟨1, 8, (some [.nilFunc]), false, true⟩ := by kernel_rfl
@[simp] theorem un259 : (Tryz.prog.underlying 259).isSome = true := by kernel_rfl
@[simp] theorem tf260 : tf Tryz.prog 260 = some ⟨1, 8, (some [.nilFunc]), false, true⟩ := by kernel_rfl
@[simp] theorem un260 : (Tryz.prog.underlying 260).isSome = true := by kernel_rfl
@[simp] theorem tf261 : tf Tryz.prog 261 = some ⟨1, 8, (some [.nilFunc]), false, true⟩ := by kernel_rfl
@[simp] theorem un261 : (Tryz.prog.underlying 261).isSome = true := by kernel_rfl
@[simp] theorem tf262 : tf Tryz.prog 262 = some ⟨1, 8, (some [.nilFunc]), false, true⟩ := by kernel_rfl
@[simp] theorem un262 : (Tryz.prog.underlying 262).isSome = true := by kernel_rfl
@[simp] theorem tf263 : tf Tryz.prog 263 = some ⟨1, 8, (some [.map none]), false, true⟩ := by kernel_rfl
@[simp] theorem un263 : (Tryz.prog.underlying 263).isSome = true := by kernel_rfl
@[simp] theorem tf264 : tf Tryz.prog 264 = some ⟨3, 24, (some [.pointer none, .map none, .int .i64 0]), true, true⟩ := by kernel_rfl
@[simp] theorem un264 : (Tryz.prog.underlying 264).isSome = true := by kernel_rfl
@[simp] theorem fo264_0 : fieldT Tryz.prog 264 0 = some 0 := by kernel_rfl
@[simp] theorem fo264_1 : fieldT Tryz.prog 264 1 = some 1 := by kernel_rfl
@[simp] theorem fo264_2 : fieldT Tryz.prog 264 2 = some 2 := by kernel_rfl
@[simp] theorem pa264 : partsT Tryz.prog 264 = some [(0, 1), (1, 1), (2, 1)] := by kernel_rfl
@[simp] theorem tf265 : tf Tryz.prog 265 = some ⟨3, 24, (some [.pointer none, .map none, .int .i64 0]), true, true⟩ := by kernel_rfl
@[simp] theorem un265 : (Tryz.prog.underlying 265).isSome = true := by kernel_rfl
@[simp] theorem fo265_0 : fieldT Tryz.prog 265 0 = some 0 := by kernel_rfl
@[simp] theorem fo265_1 : fieldT Tryz.prog 265 1 = some 1 := by kernel_rfl
@[simp] theorem fo265_2 : fieldT Tryz.prog 265 2 = some 2 := by kernel_rfl
@[simp] theorem pa265 : partsT Tryz.prog 265 = some [(0, 1), (1, 1), (2, 1)] := by kernel_rfl
@[simp] theorem tf266 : tf Tryz.prog 266 = some ⟨2, 16, (some [.int .i64 0, .int .i64 0]), true, true⟩ := by kernel_rfl
@[simp] theorem un266 : (Tryz.prog.underlying 266).isSome = true := by kernel_rfl
@[simp] theorem fo266_0 : fieldT Tryz.prog 266 0 = some 0 := by kernel_rfl
@[simp] theorem fo266_1 : fieldT Tryz.prog 266 1 = some 1 := by kernel_rfl
@[simp] theorem pa266 : partsT Tryz.prog 266 = some [(0, 1), (1, 1)] := by kernel_rfl
@[simp] theorem tf267 : tf Tryz.prog 267 = some ⟨2, 16, (some [.int .i64 0, .int .i64 0]), true, true⟩ := by kernel_rfl
@[simp] theorem un267 : (Tryz.prog.underlying 267).isSome = true := by kernel_rfl
@[simp] theorem fo267_0 : fieldT Tryz.prog 267 0 = some 0 := by kernel_rfl
@[simp] theorem fo267_1 : fieldT Tryz.prog 267 1 = some 1 := by kernel_rfl
@[simp] theorem pa267 : partsT Tryz.prog 267 = some [(0, 1), (1, 1)] := by kernel_rfl
@[simp] theorem tf268 : tf Tryz.prog 268 = some ⟨1, 8, (some [.pointer none]), false, true⟩ := by kernel_rfl
@[simp] theorem un268 : (Tryz.prog.underlying 268).isSome = true := by kernel_rfl
@[simp] theorem un269 : (Tryz.prog.underlying 269).isSome = true := by kernel_rfl
@[simp] theorem tf270 : tf Tryz.prog 270 = some ⟨2, 32, (some [.slice none 0 0, .int .i64 0]), true, true⟩ := by kernel_rfl
@[simp] theorem un270 : (Tryz.prog.underlying 270).isSome = true := by kernel_rfl
@[simp] theorem fo270_0 : fieldT Tryz.prog 270 0 = some 0 := by kernel_rfl
@[simp] theorem fo270_1 : fieldT Tryz.prog 270 1 = some 1 := by kernel_rfl
@[simp] theorem pa270 : partsT Tryz.prog 270 = some [(0, 1), (1, 1)] := by kernel_rfl
@[simp] theorem tf271 : tf Tryz.prog 271 = some ⟨2, 32, (some [.slice none 0 0, .int .i64 0]), true, true⟩ := by kernel_rfl
@[simp] theorem un271 : (Tryz.prog.underlying 271).isSome = true := by kernel_rfl
@[simp] theorem fo271_0 : fieldT Tryz.prog 271 0 = some 0 := by kernel_rfl
@[simp] theorem fo271_1 : fieldT Tryz.prog 271 1 = some 1 := by kernel_rfl
@[simp] theorem pa271 : partsT Tryz.prog 271 = some [(0, 1), (1, 1)] := by kernel_rfl
@[simp] theorem tf272 : tf Tryz.prog 272 = some ⟨1, 8, (some [.nilFunc]), false, true⟩ := by kernel_rfl
@[simp] theorem un272 : (Tryz.prog.underlying 272).isSome = true := by kernel_rfl
@[simp] theorem tf273 : tf Tryz.prog 273 = some ⟨1, 8, (some [.nilFunc]), false, true⟩ := by kernel_rfl
@[simp] theorem un273 : (Tryz.prog.underlying 273).isSome = true := by kernel_rfl
@[simp] theorem tf274 : tf Tryz.prog 274 = some ⟨1, 8, (some [.nilFunc]), false, true⟩ := by kernel_rfl
@[simp] theorem un274 : (Tryz.prog.underlying 274).isSome = true := by kernel_rfl
@[simp] theorem tf275 : tf Tryz.prog 275 = some ⟨1, 8, (some [.nilFunc]), false, true⟩ := by kernel_rfl
@[simp] theorem un275 : (Tryz.prog.underlying 275).isSome = true := by kernel_rfl
@[simp] theorem tf276 : tf Tryz.prog 276 = some ⟨0, 0, (some []), true, true⟩ := by kernel_rfl
@[simp] theorem un276 : (Tryz.prog.underlying 276).isSome = true := by kernel_rfl
@[simp] theorem pa276 : partsT Tryz.prog 276 = some [] := by kernel_rfl
@[simp] theorem tf277 : tf Tryz.prog 277 = some ⟨0, 0, (some []), true, true⟩ := by kernel_rfl
@[simp] theorem un277 : (Tryz.prog.underlying 277).isSome = true := by kernel_rfl
@[simp] theorem pa277 : partsT Tryz.prog 277 = some [] := by kernel_rfl
@[simp] theorem tf278 : tf Tryz.prog 278 = some ⟨1, 8, (some [.nilFunc]), false, true⟩ := by kernel_rfl
@[simp] theorem un278 : (Tryz.prog.underlying 278).isSome = true := by kernel_rfl
@[simp] theorem tf279 : tf Tryz.prog 279 = some ⟨1, 8, (some [.nilFunc]), false, true⟩ := by kernel_rfl
@[simp] theorem un279 : (Tryz.prog.underlying 279).isSome = true := by kernel_rfl
@[simp] theorem tf280 : tf Tryz.prog 280 = some ⟨1, 8, (some [.nilFunc]), false, true⟩ := by kernel_rfl
@[simp] theorem un280 : (Tryz.prog.underlying 280).isSome = true := by kernel_rfl
@[simp] theorem un281 : (Tryz.prog.underlying 281).isSome = true := by kernel_rfl
@[simp] theorem tf282 : tf Tryz.prog 282 = some ⟨1, 8, (some [.nilFunc]), false, true⟩ := by kernel_rfl
@[simp] theorem un282 : (Tryz.prog.underlying 282).isSome = true := by kernel_rfl
@[simp] theorem un283 : (Tryz.prog.underlying 283).isSome = true := by kernel_rfl
@[simp] theorem tf284 : tf Tryz.prog 284 = some ⟨1, 8, (some [.nilFunc]), false, true⟩ := by kernel_rfl
@[simp] theorem un284 : (Tryz.prog.underlying 284).isSome = true := by kernel_rfl
@[simp] theorem tf285 : tf Tryz.prog 285 = some ⟨1, 8, (some [.nilFunc]), false, true⟩ := by kernel_rfl
@[simp] theorem un285 : (Tryz.prog.underlying 285).isSome = true := by kernel_rfl
@[simp] theorem tf286 : tf Tryz.prog 286 = some ⟨1, 8, (some [.nilFunc]), false, true⟩ := by kernel_rfl
@[simp] theorem un286 : (Tryz.prog.underlying 286).isSome = true := by kernel_rfl
@[simp] theorem tf287 : tf Tryz.prog 287 = some ⟨1, 8, (some [.nilFunc]), false, true⟩ := by kernel_rfl
@[simp] theorem un287 : (Tryz.prog.underlying 287).isSome = true := by kernel_rfl
@[simp] theorem tf288 : tf Tryz.prog 288 = some ⟨4, 40, (some [.pointer none, .pointer none, .pointer none, .string ⟨#[]⟩]), true, true⟩ := by kernel_rfl
@[simp] theorem un288 : (Tryz.prog.underlying 288).isSome = true := by kernel_rfl
@[simp] theorem fo288_0 : fieldT Tryz.prog 288 0 = some 0 := by kernel_rfl
@[simp] theorem fo288_1 : fieldT Tryz.prog 288 1 = some 1 := by kernel_rfl
@[simp] theorem fo288_2 : fieldT Tryz.prog 288 2 = some 2 := by kernel_rfl
@[simp] theorem fo288_3 : fieldT Tryz.prog 288 3 = some 3 := by kernel_rfl
@[simp] theorem pa288 : partsT Tryz.prog 288 = some [(0, 1), (1, 1), (2, 1), (3, 1)] := by kernel_rfl
@[simp] theorem tf289 : tf Tryz.prog 289 = some ⟨4, 40, (some [.pointer none, .pointer none, .pointer none, .string ⟨#[]⟩]), true, true⟩ := by kernel_rfl
@[simp] theorem un289 : (Tryz.prog.underlying 289).isSome = true := by kernel_rfl
@[simp] theorem fo289_0 : fieldT Tryz.prog 289 0 = some 0 := by kernel_rfl
@[simp] theorem fo289_1 : fieldT Tryz.prog 289 1 = some 1 := by kernel_rfl
@[simp] theorem fo289_2 : fieldT Tryz.prog 289 2 = some 2 := by kernel_rfl
@[simp] theorem fo289_3 : fieldT Tryz.prog 289 3 = some 3 := by kernel_rfl
@[simp] theorem pa289 : partsT Tryz.prog 289 = some [(0, 1), (1, 1), (2, 1), (3, 1)] := by kernel_rfl
@[simp] theorem tf290 : tf Tryz.prog 290 = some ⟨0, 0, (some []), true, true⟩ := by kernel_rfl
@[simp] theorem un290 : (Tryz.prog.underlying 290).isSome = true := by kernel_rfl
@[simp] theorem tf291 : tf Tryz.prog 291 = some ⟨0, 0, (some []), true, true⟩ := by kernel_rfl
@[simp] theorem un291 : (Tryz.prog.underlying 291).isSome = true := by kernel_rfl
@[simp] theorem pa291 : partsT Tryz.prog 291 = some [(0, 0)] := by kernel_rfl
@[simp] theorem tf292 : tf Tryz.prog 292 = some ⟨0, 0, (some []), true, true⟩ := by kernel_rfl
@[simp] theorem un292 : (Tryz.prog.underlying 292).isSome = true := by kernel_rfl
@[simp] theorem pa292 : partsT Tryz.prog 292 = some [(0, 0)] := by kernel_rfl
@[simp] theorem tf293 : tf Tryz.prog 293 = some ⟨1, 1, (some [.int .u8 0]), false, true⟩ := by kernel_rfl
@[simp] theorem it293 : intT Tryz.prog 293 = some .u8 := by kernel_rfl
@[simp] theorem un293 : (Tryz.prog.underlying 293).isSome = true := by kernel_rfl
@[simp] theorem tf294 : tf Tryz.prog 294 = some ⟨1, 1, (some [.int .u8 0]), false, true⟩ := by kernel_rfl
@[simp] theorem it294 : intT Tryz.prog 294 = some .u8 := by kernel_rfl
@[simp] theorem un294 : (Tryz.prog.underlying 294).isSome = true := by kernel_rfl
@[simp] theorem tf295 : tf Tryz.prog 295 = some ⟨1, 8, (some [.nilFunc]), false, true⟩ := by kernel_rfl
@[simp] theorem un295 : (Tryz.prog.underlying 295).isSome = true := by kernel_rfl
@[simp] theorem tf296 : tf Tryz.prog 296 = some ⟨1, 4, (some [.int .i32 0]), false, true⟩ := by kernel_rfl
@[simp] theorem it296 : intT Tryz.prog 296 = some .i32 := by kernel_rfl
@[simp] theorem un296 : (Tryz.prog.underlying 296).isSome = true := by kernel_rfl
@[simp] theorem tf297 : tf Tryz.prog 297 = some ⟨1, 4, (some [.int .i32 0]), false, true⟩ := by kernel_rfl
@[simp] theorem it297 : intT Tryz.prog 297 = some .i32 := by kernel_rfl
@[simp] theorem un297 : (Tryz.prog.underlying 297).isSome = true := by kernel_rfl
@[simp] theorem tf298 : tf Tryz.prog 298 = some ⟨11, 48, (some [.int .u64 0, .int .u64 0, .int .u32 0, .int .u8 0, .int .u8 0, .int .u8 0, .int .u8 0, .nilFunc, .pointer none, .int .i32 0, .int .i32 0]), true, true⟩ := by kernel_rfl
@[simp] theorem un298 : (Tryz.prog.underlying 298).isSome = true := by kernel_rfl
@[simp] theorem fo298_0 : fieldT Tryz.prog 298 0 = some 0 := by kernel_rfl
@[simp] theorem fo298_1 : fieldT Tryz.prog 298 1 = some 1 := by kernel_rfl
@[simp] theorem fo298_2 : fieldT Tryz.prog 298 2 = some 2 := by kernel_rfl
@[simp] theorem fo298_3 : fieldT Tryz.prog 298 3 = some 3 := by kernel_rfl
@[simp] theorem fo298_4 : fieldT Tryz.prog 298 4 = some 4 := by kernel_rfl
@[simp] theorem fo298_5 : fieldT Tryz.prog 298 5 = some 5 := by kernel_rfl
@[simp] theorem fo298_6 : fieldT Tryz.prog 298 6 = some 6 := by kernel_rfl
@[simp] theorem fo298_7 : fieldT Tryz.prog 298 7 = some 7 := by kernel_rfl
@[simp] theorem fo298_8 : fieldT Tryz.prog 298 8 = some 8 := by kernel_rfl
@[simp] theorem fo298_9 : fieldT Tryz.prog 298 9 = some 9 := by kernel_rfl
@[simp] theorem fo298_10 : fieldT Tryz.prog 298 10 = some 10 := by kernel_rfl
@[simp] theorem pa298 : partsT Tryz.prog 298 = some [(0, 1), (1, 1), (2, 1), (3, 1), (4, 1), (5, 1), (6, 1), (7, 1), (8, 1), (9, 1), (10, 1)] := by kernel_rfl
@[simp] theorem tf299 : tf Tryz.prog 299 = some ⟨11, 48, (some [.int .u64 0, .int .u64 0, .int .u32 0, .int .u8 0, .int .u8 0, .int .u8 0, .int .u8 0, .nilFunc, .pointer none, .int .i32 0, .int .i32 0]), true, true⟩ := by kernel_rfl
@[simp] theorem un299 : (Tryz.prog.underlying 299).isSome = true := by kernel_rfl
@[simp] theorem fo299_0 : fieldT Tryz.prog 299 0 = some 0 := by kernel_rfl
@[simp] theorem fo299_1 : fieldT Tryz.prog 299 1 = some 1 := by kernel_rfl
@[simp] theorem fo299_2 : fieldT Tryz.prog 299 2 = some 2 := by kernel_rfl
@[simp] theorem fo299_3 : fieldT Tryz.prog 299 3 = some 3 := by kernel_rfl
@[simp] theorem fo299_4 : fieldT Tryz.prog 299 4 = some 4 := by kernel_rfl
@[simp] theorem fo299_5 : fieldT Tryz.prog 299 5 = some 5 := by kernel_rfl
@[simp] theorem fo299_6 : fieldT Tryz.prog 299 6 = some 6 := by kernel_rfl
@[simp] theorem fo299_7 : fieldT Tryz.prog 299 7 = some 7 := by kernel_rfl
@[simp] theorem fo299_8 : fieldT Tryz.prog 299 8 = some 8 := by kernel_rfl
@[simp] theorem fo299_9 : fieldT Tryz.prog 299 9 = some 9 := by kernel_rfl
@[simp] theorem fo299_10 : fieldT Tryz.prog 299 10 = some 10 := by kernel_rfl
@[simp] theorem pa299 : partsT Tryz.prog 299 = some [(0, 1), (1, 1), (2, 1), (3, 1), (4, 1), (5, 1), (6, 1), (7, 1), (8, 1), (9, 1), (10, 1)] := by kernel_rfl
@[simp] theorem tf300 : tf Tryz.prog 300 = some ⟨1, 8, (some [.nilFunc]), false, true⟩ := by kernel_rfl
@[simp] theorem un300 : (Tryz.prog.underlying 300).isSome = true := by kernel_rfl
@[simp] theorem nt2 : Tryz.f2.ntmps = 1 := by kernel_rfl
@[simp] theorem rs2 : Tryz.f2.results.toList = [] := by kernel_rfl
@[simp] theorem nt3 : Tryz.f3.ntmps = 99 := by kernel_rfl
@[simp] theorem rs3 : Tryz.f3.results.toList = [.tmp 4] := by kernel_rfl
@[simp] theorem nt4 : Tryz.f4.ntmps = 30 := by kernel_rfl
@[simp] theorem rs4 : Tryz.f4.results.toList = [.tmp 2] := by kernel_rfl
@[simp] theorem nt5 : Tryz.f5.ntmps = 66 := by kernel_rfl
@[simp] theorem rs5 : Tryz.f5.results.toList = [.tmp 10] := by kernel_rfl
@[simp] theorem nt6 : Tryz.f6.ntmps = 37 := by kernel_rfl
@[simp] theorem rs6 : Tryz.f6.results.toList = [.tmp 4] := by kernel_rfl
@[simp] theorem nt7 : Tryz.f7.ntmps = 71 := by kernel_rfl
@[simp] theorem rs7 : Tryz.f7.results.toList = [.tmp 10] := by kernel_rfl
@[simp] theorem nt8 : Tryz.f8.ntmps = 73 := by kernel_rfl
@[simp] theorem rs8 : Tryz.f8.results.toList = [.cell 4 4] := by kernel_rfl
@[simp] theorem nt9 : Tryz.f9.ntmps = 80 := by kernel_rfl
@[simp] theorem rs9 : Tryz.f9.results.toList = [.tmp 6] := by kernel_rfl
@[simp] theorem nt10 : Tryz.f10.ntmps = 96 := by kernel_rfl
@[simp] theorem rs10 : Tryz.f10.results.toList = [.tmp 10] := by kernel_rfl
@[simp] theorem nt11 : Tryz.f11.ntmps = 88 := by kernel_rfl
@[simp] theorem rs11 : Tryz.f11.results.toList = [.tmp 6] := by kernel_rfl
@[simp] theorem nt12 : Tryz.f12.ntmps = 12 := by kernel_rfl
@[simp] theorem rs12 : Tryz.f12.results.toList = [.tmp 0] := by kernel_rfl
@[simp] theorem nt13 : Tryz.f13.ntmps = 11 := by kernel_rfl
@[simp] theorem rs13 : Tryz.f13.results.toList = [] := by kernel_rfl
@[simp] theorem nt14 : Tryz.f14.ntmps = 17 := by kernel_rfl
@[simp] theorem rs14 : Tryz.f14.results.toList = [.tmp 2] := by kernel_rfl
@[simp] theorem nt15 : Tryz.f15.ntmps = 15 := by kernel_rfl
@[simp] theorem rs15 : Tryz.f15.results.toList = [.tmp 2] := by kernel_rfl
@[simp] theorem nt16 : Tryz.f16.ntmps = 8 := by kernel_rfl
@[simp] theorem rs16 : Tryz.f16.results.toList = [.tmp 2] := by kernel_rfl
@[simp] theorem nt17 : Tryz.f17.ntmps = 7 := by kernel_rfl
@[simp] theorem rs17 : Tryz.f17.results.toList = [.cell 2 33] := by kernel_rfl
@[simp] theorem nt18 : Tryz.f18.ntmps = 26 := by kernel_rfl
@[simp] theorem rs18 : Tryz.f18.results.toList = [.tmp 4] := by kernel_rfl
@[simp] theorem nt19 : Tryz.f19.ntmps = 16 := by kernel_rfl
@[simp] theorem rs19 : Tryz.f19.results.toList = [.tmp 2] := by kernel_rfl
@[simp] theorem nt20 : Tryz.f20.ntmps = 77 := by kernel_rfl
@[simp] theorem rs20 : Tryz.f20.results.toList = [.cell 2 47, .tmp 3] := by kernel_rfl
@[simp] theorem nt21 : Tryz.f21.ntmps = 176 := by kernel_rfl
@[simp] theorem rs21 : Tryz.f21.results.toList = [.cell 2 47, .tmp 3] := by kernel_rfl
@[simp] theorem nt22 : Tryz.f22.ntmps = 17 := by kernel_rfl
@[simp] theorem rs22 : Tryz.f22.results.toList = [.tmp 4] := by kernel_rfl
@[simp] theorem nt23 : Tryz.f23.ntmps = 78 := by kernel_rfl
@[simp] theorem rs23 : Tryz.f23.results.toList = [.cell 4 47] := by kernel_rfl
@[simp] theorem nt24 : Tryz.f24.ntmps = 30 := by kernel_rfl
@[simp] theorem rs24 : Tryz.f24.results.toList = [.tmp 2] := by kernel_rfl
@[simp] theorem nt25 : Tryz.f25.ntmps = 33 := by kernel_rfl
@[simp] theorem rs25 : Tryz.f25.results.toList = [.tmp 2] := by kernel_rfl
@[simp] theorem nt26 : Tryz.f26.ntmps = 36 := by kernel_rfl
@[simp] theorem rs26 : Tryz.f26.results.toList = [.tmp 2] := by kernel_rfl
@[simp] theorem nt27 : Tryz.f27.ntmps = 30 := by kernel_rfl
@[simp] theorem rs27 : Tryz.f27.results.toList = [.tmp 0] := by kernel_rfl
@[simp] theorem nt28 : Tryz.f28.ntmps = 45 := by kernel_rfl
@[simp] theorem rs28 : Tryz.f28.results.toList = [.tmp 2, .tmp 3] := by kernel_rfl
@[simp] theorem nt29 : Tryz.f29.ntmps = 42 := by kernel_rfl
@[simp] theorem rs29 : Tryz.f29.results.toList = [.tmp 4] := by kernel_rfl
@[simp] theorem nt30 : Tryz.f30.ntmps = 78 := by kernel_rfl
@[simp] theorem rs30 : Tryz.f30.results.toList = [.tmp 2, .tmp 3, .tmp 4] := by kernel_rfl
@[simp] theorem nt31 : Tryz.f31.ntmps = 61 := by kernel_rfl
@[simp] theorem rs31 : Tryz.f31.results.toList = [.tmp 4] := by kernel_rfl
@[simp] theorem nt32 : Tryz.f32.ntmps = 4 := by kernel_rfl
@[simp] theorem rs32 : Tryz.f32.results.toList = [.tmp 2] := by kernel_rfl
@[simp] theorem nt33 : Tryz.f33.ntmps = 26 := by kernel_rfl
@[simp] theorem rs33 : Tryz.f33.results.toList = [.tmp 4] := by kernel_rfl
@[simp] theorem nt34 : Tryz.f34.ntmps = 33 := by kernel_rfl
@[simp] theorem rs34 : Tryz.f34.results.toList = [.tmp 2] := by kernel_rfl
@[simp] theorem nt35 : Tryz.f35.ntmps = 145 := by kernel_rfl
@[simp] theorem rs35 : Tryz.f35.results.toList = [.tmp 2] := by kernel_rfl
@[simp] theorem nt36 : Tryz.f36.ntmps = 9 := by kernel_rfl
@[simp] theorem rs36 : Tryz.f36.results.toList = [.tmp 4] := by kernel_rfl
@[simp] theorem nt37 : Tryz.f37.ntmps = 20 := by kernel_rfl
@[simp] theorem rs37 : Tryz.f37.results.toList = [.tmp 3] := by kernel_rfl
@[simp] theorem nt38 : Tryz.f38.ntmps = 36 := by kernel_rfl
@[simp] theorem rs38 : Tryz.f38.results.toList = [.tmp 2] := by kernel_rfl
@[simp] theorem nt39 : Tryz.f39.ntmps = 48 := by kernel_rfl
@[simp] theorem rs39 : Tryz.f39.results.toList = [] := by kernel_rfl
@[simp] theorem nt40 : Tryz.f40.ntmps = 15 := by kernel_rfl
@[simp] theorem rs40 : Tryz.f40.results.toList = [.tmp 2] := by kernel_rfl
@[simp] theorem nt41 : Tryz.f41.ntmps = 51 := by kernel_rfl
@[simp] theorem rs41 : Tryz.f41.results.toList = [.tmp 0] := by kernel_rfl
@[simp] theorem nt42 : Tryz.f42.ntmps = 31 := by kernel_rfl
@[simp] theorem rs42 : Tryz.f42.results.toList = [] := by kernel_rfl
@[simp] theorem nt43 : Tryz.f43.ntmps = 25 := by kernel_rfl
@[simp] theorem rs43 : Tryz.f43.results.toList = [] := by kernel_rfl
@[simp] theorem nt44 : Tryz.f44.ntmps = 60 := by kernel_rfl
@[simp] theorem rs44 : Tryz.f44.results.toList = [.cell 4 33] := by kernel_rfl
@[simp] theorem nt45 : Tryz.f45.ntmps = 78 := by kernel_rfl
@[simp] theorem rs45 : Tryz.f45.results.toList = [.tmp 2] := by kernel_rfl
@[simp] theorem nt46 : Tryz.f46.ntmps = 49 := by kernel_rfl
@[simp] theorem rs46 : Tryz.f46.results.toList = [.tmp 4] := by kernel_rfl
@[simp] theorem nt47 : Tryz.f47.ntmps = 47 := by kernel_rfl
@[simp] theorem rs47 : Tryz.f47.results.toList = [.tmp 2, .tmp 3] := by kernel_rfl
@[simp] theorem nt48 : Tryz.f48.ntmps = 26 := by kernel_rfl
@[simp] theorem rs48 : Tryz.f48.results.toList = [.tmp 4] := by kernel_rfl
@[simp] theorem nt49 : Tryz.f49.ntmps = 14 := by kernel_rfl
@[simp] theorem rs49 : Tryz.f49.results.toList = [.tmp 2] := by kernel_rfl
@[simp] theorem nt50 : Tryz.f50.ntmps = 18 := by kernel_rfl
@[simp] theorem rs50 : Tryz.f50.results.toList = [] := by kernel_rfl
@[simp] theorem nt51 : Tryz.f51.ntmps = 9 := by kernel_rfl
@[simp] theorem rs51 : Tryz.f51.results.toList = [.tmp 2] := by kernel_rfl
@[simp] theorem nt52 : Tryz.f52.ntmps = 27 := by kernel_rfl
@[simp] theorem rs52 : Tryz.f52.results.toList = [.tmp 4] := by kernel_rfl
@[simp] theorem nt53 : Tryz.f53.ntmps = 3 := by kernel_rfl
@[simp] theorem rs53 : Tryz.f53.results.toList = [.tmp 0] := by kernel_rfl
@[simp] theorem nt54 : Tryz.f54.ntmps = 19 := by kernel_rfl
@[simp] theorem rs54 : Tryz.f54.results.toList = [.cell 2 33] := by kernel_rfl
@[simp] theorem nt55 : Tryz.f55.ntmps = 82 := by kernel_rfl
@[simp] theorem rs55 : Tryz.f55.results.toList = [.tmp 4, .tmp 5] := by kernel_rfl
@[simp] theorem nt56 : Tryz.f56.ntmps = 9 := by kernel_rfl
@[simp] theorem rs56 : Tryz.f56.results.toList = [.tmp 2] := by kernel_rfl
@[simp] theorem nt57 : Tryz.f57.ntmps = 4 := by kernel_rfl
@[simp] theorem rs57 : Tryz.f57.results.toList = [.tmp 2] := by kernel_rfl
@[simp] theorem nt58 : Tryz.f58.ntmps = 23 := by kernel_rfl
@[simp] theorem rs58 : Tryz.f58.results.toList = [] := by kernel_rfl
@[simp] theorem nt59 : Tryz.f59.ntmps = 8 := by kernel_rfl
@[simp] theorem rs59 : Tryz.f59.results.toList = [.tmp 2] := by kernel_rfl
@[simp] theorem nt60 : Tryz.f60.ntmps = 16 := by kernel_rfl
@[simp] theorem rs60 : Tryz.f60.results.toList = [.tmp 1, .tmp 2] := by kernel_rfl
@[simp] theorem nt61 : Tryz.f61.ntmps = 19 := by kernel_rfl
@[simp] theorem rs61 : Tryz.f61.results.toList = [.tmp 4] := by kernel_rfl
@[simp] theorem nt62 : Tryz.f62.ntmps = 27 := by kernel_rfl
@[simp] theorem rs62 : Tryz.f62.results.toList = [.tmp 4] := by kernel_rfl
@[simp] theorem nt63 : Tryz.f63.ntmps = 49 := by kernel_rfl
@[simp] theorem rs63 : Tryz.f63.results.toList = [.tmp 6, .tmp 7] := by kernel_rfl
@[simp] theorem nt64 : Tryz.f64.ntmps = 15 := by kernel_rfl
@[simp] theorem rs64 : Tryz.f64.results.toList = [.tmp 4] := by kernel_rfl
@[simp] theorem nt65 : Tryz.f65.ntmps = 95 := by kernel_rfl
@[simp] theorem rs65 : Tryz.f65.results.toList = [.tmp 6] := by kernel_rfl
@[simp] theorem nt66 : Tryz.f66.ntmps = 28 := by kernel_rfl
@[simp] theorem rs66 : Tryz.f66.results.toList = [.tmp 4] := by kernel_rfl
@[simp] theorem nt67 : Tryz.f67.ntmps = 125 := by kernel_rfl
@[simp] theorem rs67 : Tryz.f67.results.toList = [.tmp 4] := by kernel_rfl
@[simp] theorem nt68 : Tryz.f68.ntmps = 17 := by kernel_rfl
@[simp] theorem rs68 : Tryz.f68.results.toList = [.tmp 0] := by kernel_rfl
@[simp] theorem nt69 : Tryz.f69.ntmps = 7 := by kernel_rfl
@[simp] theorem rs69 : Tryz.f69.results.toList = [.tmp 0] := by kernel_rfl
@[simp] theorem nt70 : Tryz.f70.ntmps = 39 := by kernel_rfl
@[simp] theorem rs70 : Tryz.f70.results.toList = [.tmp 4, .tmp 5] := by kernel_rfl
@[simp] theorem nt71 : Tryz.f71.ntmps = 20 := by kernel_rfl
@[simp] theorem rs71 : Tryz.f71.results.toList = [.tmp 4, .tmp 5] := by kernel_rfl
@[simp] theorem nt72 : Tryz.f72.ntmps = 5 := by kernel_rfl
@[simp] theorem rs72 : Tryz.f72.results.toList = [.tmp 2] := by kernel_rfl
@[simp] theorem nt73 : Tryz.f73.ntmps = 11 := by kernel_rfl
@[simp] theorem rs73 : Tryz.f73.results.toList = [] := by kernel_rfl
@[simp] theorem nt74 : Tryz.f74.ntmps = 14 := by kernel_rfl
@[simp] theorem rs74 : Tryz.f74.results.toList = [] := by kernel_rfl
@[simp] theorem nt76 : Tryz.f76.ntmps = 10 := by kernel_rfl
@[simp] theorem rs76 : Tryz.f76.results.toList = [] := by kernel_rfl
@[simp] theorem nt77 : Tryz.f77.ntmps = 49 := by kernel_rfl
@[simp] theorem rs77 : Tryz.f77.results.toList = [.tmp 6, .tmp 7] := by kernel_rfl
@[simp] theorem nt78 : Tryz.f78.ntmps = 15 := by kernel_rfl
@[simp] theorem rs78 : Tryz.f78.results.toList = [.tmp 4] := by kernel_rfl
@[simp] theorem nt79 : Tryz.f79.ntmps = 95 := by kernel_rfl
@[simp] theorem rs79 : Tryz.f79.results.toList = [.tmp 6] := by kernel_rfl
@[simp] theorem nt80 : Tryz.f80.ntmps = 30 := by kernel_rfl
@[simp] theorem rs80 : Tryz.f80.results.toList = [.tmp 4, .tmp 5] := by kernel_rfl
@[simp] theorem nt81 : Tryz.f81.ntmps = 8 := by kernel_rfl
@[simp] theorem rs81 : Tryz.f81.results.toList = [.tmp 4] := by kernel_rfl
@[simp] theorem nt82 : Tryz.f82.ntmps = 25 := by kernel_rfl
@[simp] theorem rs82 : Tryz.f82.results.toList = [] := by kernel_rfl
@[simp] theorem nt83 : Tryz.f83.ntmps = 19 := by kernel_rfl
@[simp] theorem rs83 : Tryz.f83.results.toList = [.tmp 4, .tmp 5] := by kernel_rfl
@[simp] theorem nt84 : Tryz.f84.ntmps = 8 := by kernel_rfl
@[simp] theorem rs84 : Tryz.f84.results.toList = [.tmp 2] := by kernel_rfl
@[simp] theorem nt85 : Tryz.f85.ntmps = 14 := by kernel_rfl
@[simp] theorem rs85 : Tryz.f85.results.toList = [.tmp 2] := by kernel_rfl
@[simp] theorem nt86 : Tryz.f86.ntmps = 29 := by kernel_rfl
@[simp] theorem rs86 : Tryz.f86.results.toList = [.tmp 0] := by kernel_rfl
@[simp] theorem nt87 : Tryz.f87.ntmps = 49 := by kernel_rfl
@[simp] theorem rs87 : Tryz.f87.results.toList = [.tmp 4] := by kernel_rfl
@[simp] theorem nt88 : Tryz.f88.ntmps = 63 := by kernel_rfl
@[simp] theorem rs88 : Tryz.f88.results.toList = [.tmp 8] := by kernel_rfl
@[simp] theorem nt89 : Tryz.f89.ntmps = 11 := by kernel_rfl
@[simp] theorem rs89 : Tryz.f89.results.toList = [.tmp 4] := by kernel_rfl
@[simp] theorem nt90 : Tryz.f90.ntmps = 32 := by kernel_rfl
@[simp] theorem rs90 : Tryz.f90.results.toList = [.tmp 4, .tmp 5] := by kernel_rfl
@[simp] theorem nt91 : Tryz.f91.ntmps = 13 := by kernel_rfl
@[simp] theorem rs91 : Tryz.f91.results.toList = [.tmp 4] := by kernel_rfl
@[simp] theorem nt92 : Tryz.f92.ntmps = 134 := by kernel_rfl
@[simp] theorem rs92 : Tryz.f92.results.toList = [] := by kernel_rfl
@[simp] theorem nt93 : Tryz.f93.ntmps = 8 := by kernel_rfl
@[simp] theorem rs93 : Tryz.f93.results.toList = [.tmp 2] := by kernel_rfl
@[simp] theorem nt94 : Tryz.f94.ntmps = 14 := by kernel_rfl
@[simp] theorem rs94 : Tryz.f94.results.toList = [] := by kernel_rfl
@[simp] theorem nt96 : Tryz.f96.ntmps = 10 := by kernel_rfl
@[simp] theorem rs96 : Tryz.f96.results.toList = [] := by kernel_rfl
@[simp] theorem nt97 : Tryz.f97.ntmps = 17 := by kernel_rfl
@[simp] theorem rs97 : Tryz.f97.results.toList = [.tmp 4, .tmp 5] := by kernel_rfl
@[simp] theorem nt98 : Tryz.f98.ntmps = 51 := by kernel_rfl
@[simp] theorem rs98 : Tryz.f98.results.toList = [.tmp 4, .tmp 5] := by kernel_rfl
@[simp] theorem nt99 : Tryz.f99.ntmps = 18 := by kernel_rfl
@[simp] theorem rs99 : Tryz.f99.results.toList = [.tmp 4] := by kernel_rfl
@[simp] theorem nt100 : Tryz.f100.ntmps = 20 := by kernel_rfl
@[simp] theorem rs100 : Tryz.f100.results.toList = [] := by kernel_rfl
@[simp] theorem nt101 : Tryz.f101.ntmps = 30 := by kernel_rfl
@[simp] theorem rs101 : Tryz.f101.results.toList = [] := by kernel_rfl
@[simp] theorem nt102 : Tryz.f102.ntmps = 37 := by kernel_rfl
@[simp] theorem rs102 : Tryz.f102.results.toList = [.tmp 0] := by kernel_rfl
@[simp] theorem nt103 : Tryz.f103.ntmps = 25 := by kernel_rfl
@[simp] theorem rs103 : Tryz.f103.results.toList = [] := by kernel_rfl
@[simp] theorem nt104 : Tryz.f104.ntmps = 43 := by kernel_rfl
@[simp] theorem rs104 : Tryz.f104.results.toList = [.tmp 6] := by kernel_rfl
@[simp] theorem nt105 : Tryz.f105.ntmps = 54 := by kernel_rfl
@[simp] theorem rs105 : Tryz.f105.results.toList = [.tmp 4, .tmp 5] := by kernel_rfl
@[simp] theorem nt106 : Tryz.f106.ntmps = 20 := by kernel_rfl
@[simp] theorem rs106 : Tryz.f106.results.toList = [.cell 6 196] := by kernel_rfl
@[simp] theorem nt107 : Tryz.f107.ntmps = 33 := by kernel_rfl
@[simp] theorem rs107 : Tryz.f107.results.toList = [.tmp 4] := by kernel_rfl
@[simp] theorem nt108 : Tryz.f108.ntmps = 49 := by kernel_rfl
@[simp] theorem rs108 : Tryz.f108.results.toList = [] := by kernel_rfl
@[simp] theorem nt109 : Tryz.f109.ntmps = 56 := by kernel_rfl
@[simp] theorem rs109 : Tryz.f109.results.toList = [] := by kernel_rfl
@[simp] theorem nt110 : Tryz.f110.ntmps = 65 := by kernel_rfl
@[simp] theorem rs110 : Tryz.f110.results.toList = [] := by kernel_rfl
@[simp] theorem nt111 : Tryz.f111.ntmps = 57 := by kernel_rfl
@[simp] theorem rs111 : Tryz.f111.results.toList = [.tmp 6, .tmp 7] := by kernel_rfl
@[simp] theorem nt112 : Tryz.f112.ntmps = 32 := by kernel_rfl
@[simp] theorem rs112 : Tryz.f112.results.toList = [] := by kernel_rfl
@[simp] theorem nt113 : Tryz.f113.ntmps = 133 := by kernel_rfl
@[simp] theorem rs113 : Tryz.f113.results.toList = [.tmp 6] := by kernel_rfl
@[simp] theorem nt114 : Tryz.f114.ntmps = 17 := by kernel_rfl
@[simp] theorem rs114 : Tryz.f114.results.toList = [.tmp 4] := by kernel_rfl
@[simp] theorem nt115 : Tryz.f115.ntmps = 84 := by kernel_rfl
@[simp] theorem rs115 : Tryz.f115.results.toList = [.tmp 8] := by kernel_rfl
@[simp] theorem nt116 : Tryz.f116.ntmps = 168 := by kernel_rfl
@[simp] theorem rs116 : Tryz.f116.results.toList = [.tmp 8, .tmp 9] := by kernel_rfl
@[simp] theorem nt117 : Tryz.f117.ntmps = 19 := by kernel_rfl
@[simp] theorem rs117 : Tryz.f117.results.toList = [.tmp 2] := by kernel_rfl
@[simp] theorem nt118 : Tryz.f118.ntmps = 25 := by kernel_rfl
@[simp] theorem rs118 : Tryz.f118.results.toList = [.tmp 2] := by kernel_rfl
@[simp] theorem nt119 : Tryz.f119.ntmps = 28 := by kernel_rfl
@[simp] theorem rs119 : Tryz.f119.results.toList = [] := by kernel_rfl
@[simp] theorem nt120 : Tryz.f120.ntmps = 14 := by kernel_rfl
@[simp] theorem rs120 : Tryz.f120.results.toList = [] := by kernel_rfl
@[simp] theorem nt123 : Tryz.f123.ntmps = 34 := by kernel_rfl
@[simp] theorem rs123 : Tryz.f123.results.toList = [.tmp 0] := by kernel_rfl
@[simp] theorem nt124 : Tryz.f124.ntmps = 42 := by kernel_rfl
@[simp] theorem rs124 : Tryz.f124.results.toList = [.tmp 2, .tmp 3] := by kernel_rfl
@[simp] theorem nt125 : Tryz.f125.ntmps = 8 := by kernel_rfl
@[simp] theorem rs125 : Tryz.f125.results.toList = [.tmp 6] := by kernel_rfl
@[simp] theorem nt126 : Tryz.f126.ntmps = 34 := by kernel_rfl
@[simp] theorem rs126 : Tryz.f126.results.toList = [.cell 6 33, .tmp 7] := by kernel_rfl
@[simp] theorem nt127 : Tryz.f127.ntmps = 8 := by kernel_rfl
@[simp] theorem rs127 : Tryz.f127.results.toList = [.tmp 2] := by kernel_rfl
@[simp] theorem nt128 : Tryz.f128.ntmps = 65 := by kernel_rfl
@[simp] theorem rs128 : Tryz.f128.results.toList = [.tmp 2] := by kernel_rfl
@[simp] theorem nt129 : Tryz.f129.ntmps = 6 := by kernel_rfl
@[simp] theorem rs129 : Tryz.f129.results.toList = [.tmp 2] := by kernel_rfl
@[simp] theorem nt130 : Tryz.f130.ntmps = 76 := by kernel_rfl
@[simp] theorem rs130 : Tryz.f130.results.toList = [] := by kernel_rfl
@[simp] theorem nt131 : Tryz.f131.ntmps = 7 := by kernel_rfl
@[simp] theorem rs131 : Tryz.f131.results.toList = [.tmp 2] := by kernel_rfl
@[simp] theorem nt132 : Tryz.f132.ntmps = 33 := by kernel_rfl
@[simp] theorem rs132 : Tryz.f132.results.toList = [.tmp 2] := by kernel_rfl
@[simp] theorem nt133 : Tryz.f133.ntmps = 15 := by kernel_rfl
@[simp] theorem rs133 : Tryz.f133.results.toList = [.tmp 6] := by kernel_rfl
@[simp] theorem nt134 : Tryz.f134.ntmps = 36 := by kernel_rfl
@[simp] theorem rs134 : Tryz.f134.results.toList = [.tmp 10] := by kernel_rfl
@[simp] theorem nt135 : Tryz.f135.ntmps = 6 := by kernel_rfl
@[simp] theorem rs135 : Tryz.f135.results.toList = [.tmp 2] := by kernel_rfl
@[simp] theorem nt136 : Tryz.f136.ntmps = 28 := by kernel_rfl
@[simp] theorem rs136 : Tryz.f136.results.toList = [] := by kernel_rfl
@[simp] theorem nt137 : Tryz.f137.ntmps = 36 := by kernel_rfl
@[simp] theorem rs137 : Tryz.f137.results.toList = [.tmp 0] := by kernel_rfl
@[simp] theorem nt138 : Tryz.f138.ntmps = 18 := by kernel_rfl
@[simp] theorem rs138 : Tryz.f138.results.toList = [.tmp 2] := by kernel_rfl
@[simp] theorem nt139 : Tryz.f139.ntmps = 32 := by kernel_rfl
@[simp] theorem rs139 : Tryz.f139.results.toList = [.tmp 4] := by kernel_rfl
@[simp] theorem nt140 : Tryz.f140.ntmps = 8 := by kernel_rfl
@[simp] theorem rs140 : Tryz.f140.results.toList = [.tmp 2] := by kernel_rfl
@[simp] theorem nt141 : Tryz.f141.ntmps = 57 := by kernel_rfl
@[simp] theorem rs141 : Tryz.f141.results.toList = [] := by kernel_rfl
@[simp] theorem nt142 : Tryz.f142.ntmps = 25 := by kernel_rfl
@[simp] theorem rs142 : Tryz.f142.results.toList = [.cell 4 33, .tmp 5] := by kernel_rfl
@[simp] theorem nt143 : Tryz.f143.ntmps = 42 := by kernel_rfl
@[simp] theorem rs143 : Tryz.f143.results.toList = [.tmp 4] := by kernel_rfl
@[simp] theorem nt144 : Tryz.f144.ntmps = 8 := by kernel_rfl
@[simp] theorem rs144 : Tryz.f144.results.toList = [.tmp 2] := by kernel_rfl
@[simp] theorem nt145 : Tryz.f145.ntmps = 14 := by kernel_rfl
@[simp] theorem rs145 : Tryz.f145.results.toList = [] := by kernel_rfl
@[simp] theorem nt146 : Tryz.f146.ntmps = 17 := by kernel_rfl
@[simp] theorem rs146 : Tryz.f146.results.toList = [.tmp 4] := by kernel_rfl
@[simp] theorem nt147 : Tryz.f147.ntmps = 28 := by kernel_rfl
@[simp] theorem rs147 : Tryz.f147.results.toList = [.tmp 8, .tmp 9] := by kernel_rfl
@[simp] theorem nt148 : Tryz.f148.ntmps = 13 := by kernel_rfl
@[simp] theorem rs148 : Tryz.f148.results.toList = [.tmp 0] := by kernel_rfl
@[simp] theorem nt149 : Tryz.f149.ntmps = 6 := by kernel_rfl
@[simp] theorem rs149 : Tryz.f149.results.toList = [.tmp 2] := by kernel_rfl
@[simp] theorem nt150 : Tryz.f150.ntmps = 51 := by kernel_rfl
@[simp] theorem rs150 : Tryz.f150.results.toList = [.tmp 4, .tmp 5, .tmp 6] := by kernel_rfl
@[simp] theorem nt151 : Tryz.f151.ntmps = 29 := by kernel_rfl
@[simp] theorem rs151 : Tryz.f151.results.toList = [.tmp 4] := by kernel_rfl
@[simp] theorem nt152 : Tryz.f152.ntmps = 19 := by kernel_rfl
@[simp] theorem rs152 : Tryz.f152.results.toList = [.tmp 2] := by kernel_rfl
@[simp] theorem nt153 : Tryz.f153.ntmps = 19 := by kernel_rfl
@[simp] theorem rs153 : Tryz.f153.results.toList = [.tmp 4] := by kernel_rfl
@[simp] theorem nt154 : Tryz.f154.ntmps = 148 := by kernel_rfl
@[simp] theorem rs154 : Tryz.f154.results.toList = [] := by kernel_rfl
@[simp] theorem nt155 : Tryz.f155.ntmps = 9 := by kernel_rfl
@[simp] theorem rs155 : Tryz.f155.results.toList = [.tmp 0] := by kernel_rfl
@[simp] theorem nt156 : Tryz.f156.ntmps = 30 := by kernel_rfl
@[simp] theorem rs156 : Tryz.f156.results.toList = [.tmp 2] := by kernel_rfl
@[simp] theorem nt157 : Tryz.f157.ntmps = 14 := by kernel_rfl
@[simp] theorem rs157 : Tryz.f157.results.toList = [.tmp 2] := by kernel_rfl
@[simp] theorem nt158 : Tryz.f158.ntmps = 10 := by kernel_rfl
@[simp] theorem rs158 : Tryz.f158.results.toList = [.tmp 4] := by kernel_rfl
@[simp] theorem nt159 : Tryz.f159.ntmps = 6 := by kernel_rfl
@[simp] theorem rs159 : Tryz.f159.results.toList = [.tmp 2] := by kernel_rfl
@[simp] theorem nt160 : Tryz.f160.ntmps = 24 := by kernel_rfl
@[simp] theorem rs160 : Tryz.f160.results.toList = [.tmp 4, .tmp 5] := by kernel_rfl
@[simp] theorem nt161 : Tryz.f161.ntmps = 55 := by kernel_rfl
@[simp] theorem rs161 : Tryz.f161.results.toList = [.tmp 2, .tmp 3] := by kernel_rfl
@[simp] theorem nt162 : Tryz.f162.ntmps = 21 := by kernel_rfl
@[simp] theorem rs162 : Tryz.f162.results.toList = [.tmp 4] := by kernel_rfl
@[simp] theorem nt163 : Tryz.f163.ntmps = 52 := by kernel_rfl
@[simp] theorem rs163 : Tryz.f163.results.toList = [.tmp 6] := by kernel_rfl
@[simp] theorem nt164 : Tryz.f164.ntmps = 52 := by kernel_rfl
@[simp] theorem rs164 : Tryz.f164.results.toList = [.tmp 6] := by kernel_rfl
@[simp] theorem nt165 : Tryz.f165.ntmps = 31 := by kernel_rfl
@[simp] theorem rs165 : Tryz.f165.results.toList = [.tmp 4] := by kernel_rfl
@[simp] theorem nt166 : Tryz.f166.ntmps = 53 := by kernel_rfl
@[simp] theorem rs166 : Tryz.f166.results.toList = [] := by kernel_rfl
@[simp] theorem nt167 : Tryz.f167.ntmps = 60 := by kernel_rfl
@[simp] theorem rs167 : Tryz.f167.results.toList = [] := by kernel_rfl
@[simp] theorem nt168 : Tryz.f168.ntmps = 67 := by kernel_rfl
@[simp] theorem rs168 : Tryz.f168.results.toList = [] := by kernel_rfl
@[simp] theorem nt169 : Tryz.f169.ntmps = 63 := by kernel_rfl
@[simp] theorem rs169 : Tryz.f169.results.toList = [.tmp 8, .tmp 9] := by kernel_rfl
@[simp] theorem nt170 : Tryz.f170.ntmps = 34 := by kernel_rfl
@[simp] theorem rs170 : Tryz.f170.results.toList = [] := by kernel_rfl
@[simp] theorem nt171 : Tryz.f171.ntmps = 141 := by kernel_rfl
@[simp] theorem rs171 : Tryz.f171.results.toList = [.tmp 8] := by kernel_rfl
@[simp] theorem nt172 : Tryz.f172.ntmps = 90 := by kernel_rfl
@[simp] theorem rs172 : Tryz.f172.results.toList = [.tmp 10] := by kernel_rfl
@[simp] theorem nt173 : Tryz.f173.ntmps = 178 := by kernel_rfl
@[simp] theorem rs173 : Tryz.f173.results.toList = [.tmp 10, .tmp 11] := by kernel_rfl
@[simp] theorem nt174 : Tryz.f174.ntmps = 36 := by kernel_rfl
@[simp] theorem rs174 : Tryz.f174.results.toList = [.tmp 0] := by kernel_rfl
@[simp] theorem nt175 : Tryz.f175.ntmps = 19 := by kernel_rfl
@[simp] theorem rs175 : Tryz.f175.results.toList = [.tmp 4] := by kernel_rfl
@[simp] theorem nt176 : Tryz.f176.ntmps = 25 := by kernel_rfl
@[simp] theorem rs176 : Tryz.f176.results.toList = [.tmp 2] := by kernel_rfl
@[simp] theorem nt177 : Tryz.f177.ntmps = 27 := by kernel_rfl
@[simp] theorem rs177 : Tryz.f177.results.toList = [] := by kernel_rfl
@[simp] theorem nt178 : Tryz.f178.ntmps = 23 := by kernel_rfl
@[simp] theorem rs178 : Tryz.f178.results.toList = [.tmp 2] := by kernel_rfl
@[simp] theorem nt179 : Tryz.f179.ntmps = 82 := by kernel_rfl
@[simp] theorem rs179 : Tryz.f179.results.toList = [] := by kernel_rfl
@[simp] theorem nt180 : Tryz.f180.ntmps = 18 := by kernel_rfl
@[simp] theorem rs180 : Tryz.f180.results.toList = [.tmp 8] := by kernel_rfl
@[simp] theorem nt181 : Tryz.f181.ntmps = 41 := by kernel_rfl
@[simp] theorem rs181 : Tryz.f181.results.toList = [.tmp 12] := by kernel_rfl
@[simp] theorem nt182 : Tryz.f182.ntmps = 20 := by kernel_rfl
@[simp] theorem rs182 : Tryz.f182.results.toList = [.tmp 0] := by kernel_rfl
@[simp] theorem nt183 : Tryz.f183.ntmps = 70 := by kernel_rfl
@[simp] theorem rs183 : Tryz.f183.results.toList = [] := by kernel_rfl
@[simp] theorem nt184 : Tryz.f184.ntmps = 5 := by kernel_rfl
@[simp] theorem rs184 : Tryz.f184.results.toList = [.tmp 4] := by kernel_rfl
@[simp] theorem nt185 : Tryz.f185.ntmps = 32 := by kernel_rfl
@[simp] theorem rs185 : Tryz.f185.results.toList = [.tmp 10, .tmp 11] := by kernel_rfl
@[simp] theorem nt186 : Tryz.f186.ntmps = 18 := by kernel_rfl
@[simp] theorem rs186 : Tryz.f186.results.toList = [.tmp 0] := by kernel_rfl
@[simp] theorem nt187 : Tryz.f187.ntmps = 6 := by kernel_rfl
@[simp] theorem rs187 : Tryz.f187.results.toList = [.cell 2 4] := by kernel_rfl
@[simp] theorem nt188 : Tryz.f188.ntmps = 5 := by kernel_rfl
@[simp] theorem rs188 : Tryz.f188.results.toList = [] := by kernel_rfl
@[simp] theorem nt189 : Tryz.f189.ntmps = 7 := by kernel_rfl
@[simp] theorem rs189 : Tryz.f189.results.toList = [.tmp 2] := by kernel_rfl
@[simp] theorem nt190 : Tryz.f190.ntmps = 0 := by kernel_rfl
@[simp] theorem rs190 : Tryz.f190.results.toList = [] := by kernel_rfl
@[simp] theorem nt191 : Tryz.f191.ntmps = 9 := by kernel_rfl
@[simp] theorem rs191 : Tryz.f191.results.toList = [.tmp 2] := by kernel_rfl
@[simp] theorem nt192 : Tryz.f192.ntmps = 21 := by kernel_rfl
@[simp] theorem rs192 : Tryz.f192.results.toList = [.tmp 0] := by kernel_rfl
@[simp] theorem nt193 : Tryz.f193.ntmps = 15 := by kernel_rfl
@[simp] theorem rs193 : Tryz.f193.results.toList = [] := by kernel_rfl
@[simp] theorem nt194 : Tryz.f194.ntmps = 4 := by kernel_rfl
@[simp] theorem rs194 : Tryz.f194.results.toList = [.tmp 2] := by kernel_rfl
@[simp] theorem nt195 : Tryz.f195.ntmps = 19 := by kernel_rfl
@[simp] theorem rs195 : Tryz.f195.results.toList = [.cell 4 145, .cell 5 145] := by kernel_rfl
@[simp] theorem nt196 : Tryz.f196.ntmps = 15 := by kernel_rfl
@[simp] theorem rs196 : Tryz.f196.results.toList = [.tmp 4] := by kernel_rfl
@[simp] theorem nt197 : Tryz.f197.ntmps = 14 := by kernel_rfl
@[simp] theorem rs197 : Tryz.f197.results.toList = [] := by kernel_rfl
@[simp] theorem nt198 : Tryz.f198.ntmps = 7 := by kernel_rfl
@[simp] theorem rs198 : Tryz.f198.results.toList = [.cell 2 145] := by kernel_rfl
@[simp] theorem nt199 : Tryz.f199.ntmps = 19 := by kernel_rfl
@[simp] theorem rs199 : Tryz.f199.results.toList = [.cell 4 145] := by kernel_rfl
@[simp] theorem nt200 : Tryz.f200.ntmps = 19 := by kernel_rfl
@[simp] theorem rs200 : Tryz.f200.results.toList = [.cell 4 145] := by kernel_rfl
@[simp] theorem nt227 : Tryz.f227.ntmps = 1 := by kernel_rfl
@[simp] theorem rs227 : Tryz.f227.results.toList = [] := by kernel_rfl
attribute [simp] Tryz.func2
attribute [simp] Tryz.func3
attribute [simp] Tryz.func4
attribute [simp] Tryz.func5
attribute [simp] Tryz.func6
attribute [simp] Tryz.func7
attribute [simp] Tryz.func8
attribute [simp] Tryz.func9
attribute [simp] Tryz.func10
attribute [simp] Tryz.func11
attribute [simp] Tryz.func12
attribute [simp] Tryz.func13
attribute [simp] Tryz.func14
attribute [simp] Tryz.func15
attribute [simp] Tryz.func16
attribute [simp] Tryz.func17
attribute [simp] Tryz.func18
attribute [simp] Tryz.func19
attribute [simp] Tryz.func20
attribute [simp] Tryz.func21
attribute [simp] Tryz.func22
attribute [simp] Tryz.func23
attribute [simp] Tryz.func24
attribute [simp] Tryz.func25
attribute [simp] Tryz.func26
attribute [simp] Tryz.func27
attribute [simp] Tryz.func28
attribute [simp] Tryz.func29
attribute [simp] Tryz.func30
attribute [simp] Tryz.func31
attribute [simp] Tryz.func32
attribute [simp] Tryz.func33
attribute [simp] Tryz.func34
attribute [simp] Tryz.func35
attribute [simp] Tryz.func36
attribute [simp] Tryz.func37
attribute [simp] Tryz.func38
attribute [simp] Tryz.func39
attribute [simp] Tryz.func40
attribute [simp] Tryz.func41
attribute [simp] Tryz.func42
attribute [simp] Tryz.func43
attribute [simp] Tryz.func44
attribute [simp] Tryz.func45
attribute [simp] Tryz.func46
attribute [simp] Tryz.func47
attribute [simp] Tryz.func48
attribute [simp] Tryz.func49
attribute [simp] Tryz.func50
attribute [simp] Tryz.func51
attribute [simp] Tryz.func52
attribute [simp] Tryz.func53
attribute [simp] Tryz.func54
attribute [simp] Tryz.func55
attribute [simp] Tryz.func56
attribute [simp] Tryz.func57
attribute [simp] Tryz.func58
attribute [simp] Tryz.func59
attribute [simp] Tryz.func60
attribute [simp] Tryz.func61
attribute [simp] Tryz.func62
attribute [simp] Tryz.func63
attribute [simp] Tryz.func64
attribute [simp] Tryz.func65
attribute [simp] Tryz.func66
attribute [simp] Tryz.func67
attribute [simp] Tryz.func68
attribute [simp] Tryz.func69
attribute [simp] Tryz.func70
attribute [simp] Tryz.func71
attribute [simp] Tryz.func72
attribute [simp] Tryz.func73
attribute [simp] Tryz.func74
attribute [simp] Tryz.func76
attribute [simp] Tryz.func77
attribute [simp] Tryz.func78
attribute [simp] Tryz.func79
attribute [simp] Tryz.func80
attribute [simp] Tryz.func81
attribute [simp] Tryz.func82
attribute [simp] Tryz.func83
attribute [simp] Tryz.func84
attribute [simp] Tryz.func85
attribute [simp] Tryz.func86
attribute [simp] Tryz.func87
attribute [simp] Tryz.func88
attribute [simp] Tryz.func89
attribute [simp] Tryz.func90
attribute [simp] Tryz.func91
attribute [simp] Tryz.func92
attribute [simp] Tryz.func93
attribute [simp] Tryz.func94
attribute [simp] Tryz.func96
attribute [simp] Tryz.func97
attribute [simp] Tryz.func98
attribute [simp] Tryz.func99
attribute [simp] Tryz.func100
attribute [simp] Tryz.func101
attribute [simp] Tryz.func102
attribute [simp] Tryz.func103
attribute [simp] Tryz.func104
attribute [simp] Tryz.func105
attribute [simp] Tryz.func106
attribute [simp] Tryz.func107
attribute [simp] Tryz.func108
attribute [simp] Tryz.func109
attribute [simp] Tryz.func110
attribute [simp] Tryz.func111
attribute [simp] Tryz.func112
attribute [simp] Tryz.func113
attribute [simp] Tryz.func114
attribute [simp] Tryz.func115
attribute [simp] Tryz.func116
attribute [simp] Tryz.func117
attribute [simp] Tryz.func118
attribute [simp] Tryz.func119
attribute [simp] Tryz.func120
attribute [simp] Tryz.func123
attribute [simp] Tryz.func124
attribute [simp] Tryz.func125
attribute [simp] Tryz.func126
attribute [simp] Tryz.func127
attribute [simp] Tryz.func128
attribute [simp] Tryz.func129
attribute [simp] Tryz.func130
attribute [simp] Tryz.func131
attribute [simp] Tryz.func132
attribute [simp] Tryz.func133
attribute [simp] Tryz.func134
attribute [simp] Tryz.func135
attribute [simp] Tryz.func136
attribute [simp] Tryz.func137
attribute [simp] Tryz.func138
attribute [simp] Tryz.func139
attribute [simp] Tryz.func140
attribute [simp] Tryz.func141
attribute [simp] Tryz.func142
attribute [simp] Tryz.func143
attribute [simp] Tryz.func144
attribute [simp] Tryz.func145
attribute [simp] Tryz.func146
attribute [simp] Tryz.func147
attribute [simp] Tryz.func148
attribute [simp] Tryz.func149
attribute [simp] Tryz.func150
attribute [simp] Tryz.func151
attribute [simp] Tryz.func152
attribute [simp] Tryz.func153
attribute [simp] Tryz.func154
attribute [simp] Tryz.func155
attribute [simp] Tryz.func156
attribute [simp] Tryz.func157
attribute [simp] Tryz.func158
attribute [simp] Tryz.func159
attribute [simp] Tryz.func160
attribute [simp] Tryz.func161
attribute [simp] Tryz.func162
attribute [simp] Tryz.func163
attribute [simp] Tryz.func164
attribute [simp] Tryz.func165
attribute [simp] Tryz.func166
attribute [simp] Tryz.func167
attribute [simp] Tryz.func168
attribute [simp] Tryz.func169
attribute [simp] Tryz.func170
attribute [simp] Tryz.func171
attribute [simp] Tryz.func172
attribute [simp] Tryz.func173
attribute [simp] Tryz.func174
attribute [simp] Tryz.func175
attribute [simp] Tryz.func176
attribute [simp] Tryz.func177
attribute [simp] Tryz.func178
attribute [simp] Tryz.func179
attribute [simp] Tryz.func180
attribute [simp] Tryz.func181
attribute [simp] Tryz.func182
attribute [simp] Tryz.func183
attribute [simp] Tryz.func184
attribute [simp] Tryz.func185
attribute [simp] Tryz.func186
attribute [simp] Tryz.func187
attribute [simp] Tryz.func188
attribute [simp] Tryz.func189
attribute [simp] Tryz.func190
attribute [simp] Tryz.func191
attribute [simp] Tryz.func192
attribute [simp] Tryz.func193
attribute [simp] Tryz.func194
attribute [simp] Tryz.func195
attribute [simp] Tryz.func196
attribute [simp] Tryz.func197
attribute [simp] Tryz.func198
attribute [simp] Tryz.func199
attribute [simp] Tryz.func200
attribute [simp] Tryz.func227
end Go.Sm
/- More operations as equations: copy, append of so many, cap, clear; rows written. -/
set_option linter.unusedVariables false
set_option linter.unusedSimpArgs false
namespace Go.Sm
open Go

/-- A row, written from a place on. -/
def wr (c : List Value) (off : Nat) (vs : List Value) : List Value := c.take off ++ vs ++ c.drop (off + vs.length)
theorem st_wr {c : List Value} {off : Nat} {vs : List Value} (h : off + vs.length ≤ c.length) : st c off vs = some (wr c off vs) := by simp [st, h, wr]
theorem wr_length {c : List Value} {off : Nat} {vs : List Value} (h : off + vs.length ≤ c.length) : (wr c off vs).length = c.length := by simp [wr]; omega
theorem wr_get {c : List Value} {off : Nat} {vs : List Value} (h : off + vs.length ≤ c.length) (k : Nat) : (wr c off vs)[k]? = if k < off then c[k]? else if k < off + vs.length then vs[k - off]? else c[k]? := by
  unfold wr
  by_cases h1 : k < off
  · rw [if_pos h1, List.append_assoc, List.getElem?_append_left (by simp; omega), List.getElem?_take, if_pos h1]
  · rw [if_neg h1]
    have hl : (c.take off).length = off := by simp; omega
    by_cases h2 : k < off + vs.length
    · rw [if_pos h2, List.append_assoc, List.getElem?_append_right (by omega), hl, List.getElem?_append_left (by omega)]
    · rw [if_neg h2, List.getElem?_append_right (by simp; omega)]
      simp only [List.length_append, hl, List.getElem?_drop]
      congr 1
      omega

@[simp] theorem rep_cok (n : Nat) (z : List Value) (h : cokL z = true) : cokL (List.replicate n z).flatten = true := by
  induction n with
  | zero => rfl
  | succ n ih => rw [List.replicate_succ, List.flatten_cons, cokL_append, h, ih]; rfl
section
variable {P : Program} {σ : CSt} {ev : Operand → Value} {dst : Option Tmp} {ty : TypeId} {pos : String} {after : Array Edge} {g : Option (Nat × Bool)}

/-! ### copy -/
def copyIK (σ : CSt) : Option Addr → Nat → List Value → Option CSt
  | some ⟨i, off, none⟩, n, new => if n = 0 then some σ else match σ.get i with
    | some (.cells c e false) => (st c off new).map fun c' => σ.put i (.cells c' e false)
    | _ => none
  | _, n, _ => if n = 0 then some σ else none
def copyK : Option (TypeId × TF) → CSt → Value → Value → Option (Value × CSt)
  | some (_, f), σ, .slice base dl _, s =>
    match lenOf? s with
    | some sl => (firstOf σ f.size (min sl dl) s).bind fun new => if new.length = min sl dl * f.size ∧ cokL new = true then (copyIK σ base (min sl dl) new).map fun σ' => (.int .i64 (min sl dl : Nat), σ') else none
    | none => none
  | _, _, _, _ => none
theorem copyIK_eq (base : Option Addr) (n : Nat) (new : List Value) : copyInto σ base n new = copyIK σ base n new := by
  unfold copyInto copyIK
  by_cases h0 : n = 0
  · simp only [h0, if_true]
    split <;> rfl
  · simp only [h0, if_false]
    split
    · rename_i i off
      simp only [h0, if_false, CSt.cells]
      generalize σ.get i = o
      cases o with
      | none => rfl
      | some o =>
        cases o with
        | cells c e ro => cases ro <;> rfl
        | _ => rfl
    · rename_i h
      split
      · rename_i i off
        exact absurd rfl (h _ _)
      · rw [if_neg h0]
theorem copyOp_K {ts : Array TypeId} {d s : Value} (h : (ts[0]?.bind (elemF P)).isSome = true) : copyOp P σ ts d s = copyK (ts[0]?.bind (elemF P)) σ d s := by
  obtain ⟨⟨e, f⟩, hf⟩ := Option.isSome_iff_exists.1 h
  rw [hf]
  simp only [Option.bind_eq_some_iff] at hf
  obtain ⟨t, ht, hf⟩ := hf
  obtain ⟨inf, g1, g2, g3, g4⟩ := elemOf_some hf
  unfold copyOp
  rw [ht]
  cases d with
  | slice base dl c =>
    cases hs : lenOf? s with
    | none => simp [copyK, hs]
    | some sl =>
      simp only [g1, copyK, hs, g2, copyIK_eq]
      show (match firstOf σ f.size (min sl dl) s with | some new => _ | none => none) = _
      cases firstOf σ f.size (min sl dl) s <;> rfl
  | _ => cases hs : lenOf? s <;> rfl

/-! ### nil[l:h] -/
def sliceN : Option Nat → Option Nat → Option Value
  | some l, some h => if l ≤ h ∧ h ≤ 0 then some (.slice none 0 0) else none
  | _, _ => none
@[simp] theorem sliceN_eq (l h : Nat) : sliceN (some l) (some h) = if l ≤ h ∧ h ≤ 0 then some (.slice none 0 0) else none := (rfl)
theorem sliceOp_nil {t : TypeId} (he : (elemF P t).isSome = true) (lo hi : Option Value) : sliceOp P σ t (.slice none 0 0) lo hi none = sliceN (bound? 0 lo) (bound? 0 hi) := by
  obtain ⟨⟨e, f⟩, hf⟩ := Option.isSome_iff_exists.1 he
  obtain ⟨inf, h1, h2, h3, h4⟩ := elemOf_some hf
  have hb : bound? 0 none = some 0 := rfl
  simp only [sliceOp, h1, hb]
  generalize bound? 0 hi = bh
  cases bound? 0 lo with
  | none => cases bh <;> rfl
  | some l =>
    cases bh with
    | none => rfl
    | some h => simp [sliceN]
/-! ### append(s, make(..)...) -/
def appNK : Option (TypeId × TF) → CSt → Value → Int → Option (Value × CSt)
  | some (e, f), σ, s, n => match f.zero with
    | some z => if 0 ≤ n ∧ n * f.bytes ≤ 2 ^ 47 ∧ z.length = f.size ∧ z.all flat0 = true then appendF σ e f s n.toNat ((List.replicate n.toNat z).flatten) else none
    | none => none
  | none, _, _, _ => none
theorem zerosOf_eq (z : Array Value) (n : Nat) : zerosOf z n = (List.replicate n z.toList).flatten := range_flatten z n
theorem appendOp_N {ts : Array TypeId} {s : Value} {k : IntKind} {n : Int} (h : (ts[0]?.bind (elemF P)).isSome = true) (h' : (ts[1]?.bind (intT P)).isSome = true) : appendOp P σ ts s (.int k n) = appNK (ts[0]?.bind (elemF P)) σ s n := by
  obtain ⟨⟨e, f⟩, hf⟩ := Option.isSome_iff_exists.1 h
  obtain ⟨e1, hf1⟩ := Option.isSome_iff_exists.1 h'
  rw [hf]
  simp only [Option.bind_eq_some_iff] at hf hf1
  obtain ⟨t, ht, hf⟩ := hf
  obtain ⟨u, hu, hf1⟩ := hf1
  obtain ⟨inf, g1, g2, g3, g4⟩ := elemOf_some hf
  have hund : ∃ k, P.underlying u = some (.int k) := by
    unfold intT at hf1
    split at hf1
    · rename_i e2 h2; exact ⟨_, h2⟩
    · cases hf1
  obtain ⟨k', hund⟩ := hund
  simp only [appendOp, ht, hu, g1, hund, appNK]
  cases hz : inf.zero with
  | none =>
    rw [hz] at g4
    simp only [Option.map_none] at g4
    rw [← g4]
  | some z =>
    rw [hz] at g4
    simp only [Option.map_some] at g4
    rw [← g4]
    simp only [g2, g3, Array.length_toList]
    by_cases hc : 0 ≤ n ∧ n * (f.bytes : Int) ≤ 2 ^ 47 ∧ z.cells.size = f.size ∧ z.cells.toList.all flat0 = true
    · rw [if_pos hc, if_pos hc, appendTo_F g2 g3 (by rw [hz]; exact g4), zerosOf_eq]
    · rw [if_neg hc, if_neg hc]

/-! ### cap -/
def capV (P : Program) (σ : CSt) (ts : Array TypeId) (fl : OpR) : Value → OpR
  | .slice none 0 0 => if (ts[0]?.bind (elemT P)).isSome = true then .val (.int .i64 0) σ else fl
  | .slice (some ⟨i, off, none⟩) n k => if k = openCap then capOp P σ ts i off n else if (ts[0]?.bind (elemT P)).isSome = true then .val (.int .i64 k) σ else .fail
  | _ => .fail
@[simp] theorem capV_nil (ts : Array TypeId) (fl : OpR) (h : (ts[0]?.bind (elemT P)).isSome = true) : capV P σ ts fl (.slice none 0 0) = .val (.int .i64 0) σ := by simp [capV, h]
@[simp] theorem capV_known (ts : Array TypeId) (fl : OpR) (i off n k : Nat) (hk : k ≠ openCap) (h : (ts[0]?.bind (elemT P)).isSome = true) : capV P σ ts fl (.slice (some ⟨i, off, none⟩) n k) = .val (.int .i64 k) σ := by simp [capV, h, hk]
theorem und_isSome {ts : Array TypeId} (h : (ts[0]?.bind (elemT P)).isSome = true) : ∃ t e, ts[0]? = some t ∧ P.underlying t = some (.slice e) := by
  cases ht : ts[0]? with
  | none => rw [ht] at h; cases h
  | some t =>
    rw [ht] at h
    obtain ⟨e, he⟩ := und_of_elem (show (elemT P t).isSome = true from h)
    exact ⟨t, e, rfl, he⟩
@[simp] theorem callOp_capV {x : Operand} {ts : Array TypeId} : callOp P σ ev ⟨dst, .call ⟨.builtin .cap, #[x], ts⟩, ty, pos, after, g⟩ ⟨.builtin .cap, #[x], ts⟩ =
    capV P σ ts (flatOp P σ ev ⟨dst, .call ⟨.builtin .cap, #[x], ts⟩, ty, pos, after, g⟩) (ev x) := by
  have ha : (Array.map ev #[x]).toList = [ev x] := by simp
  unfold capV
  split
  · rename_i hx
    simp only [callOp, ha, hx]
    split
    · rename_i h
      obtain ⟨t, e, ht, hu⟩ := und_isSome h
      have h1 : pureRun P (execOp ev ⟨dst, .call ⟨.builtin .cap, #[x], ts⟩, ty, pos, after, g⟩) = some (.value (.int .i64 0)) := by
        have h2 : execOp ev ⟨dst, .call ⟨.builtin .cap, #[x], ts⟩, ty, pos, after, g⟩ = (do pure (Next.value (← Builtin.cap_ ts ty #[.slice none 0 0])) : Sem Next) := by
          simp only [execOp, resolve]
          have : (Array.map ev #[x]) = #[.slice none 0 0] := by simp [hx]
          simp only [this]
          rfl
        rw [h2, pureRun_v]
        have h3 : pureRun P (Builtin.cap_ ts ty #[.slice none 0 0]) = some (.int .i64 0) := by
          simp [Builtin.cap_, ht, pureRun_bind, pureRun_underlying, hu, goInt]
        rw [h3]
        rfl
      simp only [flatOp, Op.operands, Call.operands, h1]
      simp [hx]
    · rfl
  · rename_i i off n k hx
    simp only [callOp, ha, hx]
    by_cases hk : k = openCap
    · rw [if_pos hk, if_pos hk]
    · rw [if_neg hk, if_neg hk]
      by_cases h : (ts[0]?.bind (elemT P)).isSome = true
      · obtain ⟨t, e, ht, hu⟩ := und_isSome h
        rw [if_pos h]
        simp only [ht, hu]
      · rw [if_neg h]
        cases ht : ts[0]? with
        | none => rfl
        | some t =>
          rw [ht] at h
          simp only [Option.bind_some, elemT] at h
          cases hu : P.underlying t with
          | none => simp [hu]
          | some d =>
            cases d with
            | slice e => rw [hu] at h; simp at h
            | _ => simp [hu]
  · rename_i h1 h2
    simp only [callOp, ha]
    split <;> simp_all
variable {E : Env}
theorem wres_ext (x : Ctx) (a : CAct) (d : Option Tmp) (K : CAct → CSt → Prop) (Q : Out → CSt → Prop) {fv : Value} {args : Array Value} {v : Value} (h : extOf E fv args σ = some v) : wres E x a d K Q σ (.call fv args) = K (a.put d v) σ := by simp only [wres, h]
/-! ### clear -/
def clearK : Option (TypeId × TF) → CSt → Value → Option (Value × CSt)
  | some (_, f), σ, .slice (some ⟨i, off, none⟩) n _ => if n = 0 then some (undef, σ) else
    match f.zero, σ.get i with
    | some z, some (.cells c e false) => if z.length = f.size ∧ z.all flat0 = true then (st c off ((List.replicate n z).flatten)).map fun c' => (undef, σ.put i (.cells c' e false)) else none
    | _, _ => none
  | some _, σ, .slice none 0 0 => some (undef, σ)
  | _, _, _ => none
theorem clearOp_K {ts : Array TypeId} {x : Value} (h : (ts[0]?.bind (elemF P)).isSome = true) : clearOp P σ ts x = clearK (ts[0]?.bind (elemF P)) σ x := by
  obtain ⟨⟨e, f⟩, hf⟩ := Option.isSome_iff_exists.1 h
  rw [hf]
  simp only [Option.bind_eq_some_iff] at hf
  obtain ⟨t, ht, hf⟩ := hf
  have hf0 := hf
  unfold elemF elemT at hf
  unfold clearOp
  rw [ht]
  cases hu : P.underlying t with
  | none => rw [hu] at hf; cases hf
  | some d =>
    cases d with
    | slice e0 =>
      rw [hu] at hf
      simp only [Option.bind_some, tf] at hf
      cases hi : P.info? e0 with
      | none => rw [hi] at hf; cases hf
      | some inf =>
        rw [hi] at hf
        simp only [Option.map_some, Option.some.injEq, Prod.mk.injEq] at hf
        obtain ⟨rfl, rfl⟩ := hf
        simp only [hu]
        cases x with
        | slice a n c =>
          cases a with
          | none =>
            cases n with
            | zero => cases c <;> simp [clearK]
            | succ n => simp [clearK]
          | some a =>
            obtain ⟨i, off, sp⟩ := a
            cases sp with
            | some s => rfl
            | none =>
              simp only [clearK, hi, CSt.cells]
              split
              · rfl
              · generalize σ.get i = o
                cases hz : inf.zero with
                | none =>
                  cases o with
                  | none => simp [hz]
                  | some o => cases o with
                    | cells c e ro => cases ro <;> simp [hz]
                    | _ => simp [hz]
                | some z =>
                  cases o with
                  | none => simp
                  | some o => cases o with
                    | cells c e ro =>
                      cases ro with
                      | true => simp
                      | false => simp [hz, zerosOf_eq]
                    | _ => simp
        | _ => rfl
    | _ => rw [hu] at hf; cases hf
@[simp] theorem callOp_clear (o : Oper) (x : Operand) (ts : Array TypeId) : callOp P σ ev o ⟨.builtin .clear, #[x], ts⟩ = OpR.ofP (clearOp P σ ts (ev x)) := by
  have : (Array.map ev #[x]).toList = [ev x] := by simp
  simp only [callOp, this]
end
end Go.Sm
/- The row with one element more: plain facts of lists. -/
set_option linter.unusedVariables false
namespace Go.Sm
open Go
section
variable {sz a n : Nat} {row new : List Value}
theorem insRow_get (hl : new.length = sz) (ha : a ≤ n) (hn : n * sz ≤ row.length) (k : Nat) :
    (insRow sz a n row new)[k]? = if k < a * sz then row[k]? else if k < a * sz + sz then new[k - a * sz]? else if k < n * sz + sz then row[k - sz]? else none := by
  have h1 : a * sz ≤ n * sz := Nat.mul_le_mul_right _ ha
  have hlen : (row.take (a * sz)).length = a * sz := by simp; omega
  unfold insRow
  by_cases c1 : k < a * sz
  · rw [if_pos c1, List.append_assoc, List.getElem?_append_left (by omega), List.getElem?_take, if_pos c1]
  · rw [if_neg c1]
    by_cases c2 : k < a * sz + sz
    · rw [if_pos c2, List.append_assoc, List.getElem?_append_right (by omega), hlen, List.getElem?_append_left (by omega)]
    · rw [if_neg c2, List.getElem?_append_right (by simp only [List.length_append, hlen]; omega)]
      simp only [List.length_append, hlen, hl, List.getElem?_drop, List.getElem?_take]
      have e : a * sz + (k - (a * sz + sz)) = k - sz := by omega
      rw [e]
      by_cases c3 : k < n * sz + sz
      · rw [if_pos c3, if_pos (by omega)]
      · rw [if_neg c3, if_neg (by omega)]
theorem insRow_len (hl : new.length = sz) (ha : a ≤ n) (hn : n * sz ≤ row.length) : (insRow sz a n row new).length = n * sz + sz := by
  have h1 : a * sz ≤ n * sz := Nat.mul_le_mul_right _ ha
  simp only [insRow, List.length_append, List.length_take, List.length_drop, hl]
  omega
/-- At the end, where there is room. -/
theorem insA (hl : new.length = sz) (hn : n * sz + sz ≤ row.length) : insRow sz n n row new = (wr row (n * sz) new).take (insRow sz n n row new).length := by
  rw [insRow_len hl (Nat.le_refl _) (by omega)]
  apply List.ext_getElem?
  intro k
  rw [insRow_get hl (Nat.le_refl _) (by omega), List.getElem?_take, wr_get (by omega), hl]
  by_cases c1 : k < n * sz
  · rw [if_pos c1, if_pos (by omega), if_pos c1]
  · rw [if_neg c1]
    by_cases c2 : k < n * sz + sz
    · rw [if_pos c2, if_pos c2, if_neg c1, if_pos c2]
    · rw [if_neg c2, if_neg c2, if_neg c2]
/-- At the end, anew. -/
theorem insB (hl : new.length = sz) (hn : n * sz ≤ row.length) : insRow sz n n row new = (row.take (n * sz) ++ new).take (insRow sz n n row new).length := by
  rw [insRow_len hl (Nat.le_refl _) hn]
  have : insRow sz n n row new = row.take (n * sz) ++ new := by simp [insRow]
  have hl2 : (row.take (n * sz)).length = n * sz := by simp; omega
  rw [this]
  exact (List.take_of_length_le (by rw [List.length_append, hl2, hl]; exact Nat.le_refl _)).symm
theorem seg_get {l m : Nat} (k : Nat) : ((row.drop l).take m)[k]? = if k < m then row[l + k]? else none := by rw [List.getElem?_take, List.getElem?_drop]
theorem mul_sub' (n a sz : Nat) : (n - a) * sz = n * sz - a * sz := Nat.sub_mul ..
/-- Within, anew. -/
theorem insC {z : List Value} (hl : new.length = sz) (ha : a < n) (hn : n * sz ≤ row.length) (hz : z.length = n * sz + sz - a * sz) :
    insRow sz a n row new = (wr (wr (row.take (a * sz) ++ z) (a * sz) new) (a * sz + sz) ((row.drop (a * sz)).take (n * sz - a * sz))).take (insRow sz a n row new).length := by
  have h1 : a * sz + sz ≤ n * sz := by have := Nat.mul_le_mul_right sz ha; rw [Nat.succ_mul] at this; exact this
  have h2 : (row.take (a * sz)).length = a * sz := by simp; omega
  have h3 : a * sz + new.length ≤ (row.take (a * sz) ++ z).length := by simp only [List.length_append, h2]; omega
  have h4 : ((row.drop (a * sz)).take (n * sz - a * sz)).length = n * sz - a * sz := by simp; omega
  rw [insRow_len hl (by omega) hn]
  apply List.ext_getElem?
  intro k
  rw [insRow_get hl (by omega) hn, List.getElem?_take, wr_get (by rw [wr_length h3]; simp only [List.length_append, h2, h4]; omega), wr_get h3, hl, h4, seg_get]
  by_cases c1 : k < a * sz
  · rw [if_pos c1, if_pos (by omega), if_pos (by omega), if_pos c1, List.getElem?_append_left (by omega), List.getElem?_take, if_pos c1]
  · rw [if_neg c1]
    by_cases c2 : k < a * sz + sz
    · rw [if_pos c2, if_pos (by omega), if_pos c2, if_neg c1, if_pos c2]
    · rw [if_neg c2]
      by_cases c3 : k < n * sz + sz
      · rw [if_pos c3, if_pos c3, if_neg c2, if_pos (by omega), if_pos (by omega)]
        congr 1
        omega
      · rw [if_neg c3, if_neg c3]
/-- Within, where there is room. -/
theorem insD (hl : new.length = sz) (ha : a < n) (hn : n * sz + sz ≤ row.length) :
    insRow sz a n row new = (wr (wr row (a * sz + sz) ((row.drop (a * sz)).take (n * sz - a * sz))) (a * sz) new).take (insRow sz a n row new).length := by
  have h1 : a * sz + sz ≤ n * sz := by have := Nat.mul_le_mul_right sz ha; rw [Nat.succ_mul] at this; exact this
  have h4 : ((row.drop (a * sz)).take (n * sz - a * sz)).length = n * sz - a * sz := by simp; omega
  have h3 : a * sz + sz + ((row.drop (a * sz)).take (n * sz - a * sz)).length ≤ row.length := by rw [h4]; omega
  rw [insRow_len hl (by omega) (by omega)]
  apply List.ext_getElem?
  intro k
  rw [insRow_get hl (by omega) (by omega), List.getElem?_take, wr_get (by rw [wr_length h3]; omega), wr_get h3, hl, h4, seg_get]
  by_cases c1 : k < a * sz
  · rw [if_pos c1, if_pos (by omega), if_pos c1, if_pos (by omega)]
  · rw [if_neg c1]
    by_cases c2 : k < a * sz + sz
    · rw [if_pos c2, if_pos (by omega), if_neg c1, if_pos c2]
    · rw [if_neg c2]
      by_cases c3 : k < n * sz + sz
      · rw [if_pos c3, if_pos c3, if_neg c1, if_neg c2, if_neg c2, if_pos (by omega), if_pos (by omega)]
        congr 1
        omega
      · rw [if_neg c3, if_neg c3]
end

theorem i64n (a : Nat) (h : a < 2 ^ 62) : IntKind.i64.wrap (a : Int) = a := IntWalk.i64_in _ (by omega)
theorem i64n1 (a : Nat) (h : a < 2 ^ 61) : IntKind.i64.wrap ((a : Int) + 1) = ((a + 1 : Nat) : Int) := by rw [IntWalk.i64_in _ (by omega)]; omega
theorem apartX_ne {e i oi ni ci j oj nj cj : Nat} {σ : CSt} {c d : List Value} {ed : TypeId} (hne : i ≠ j) (hi : σ.get i = some (.cells c e false)) (hj : σ.get j = some (.cells d ed false)) (hd : 0 < d.length) :
    apartX e #[.slice (some ⟨i, oi, none⟩) ni ci, .slice (some ⟨j, oj, none⟩) nj cj] σ = some (.bool false) := by
  cases d with
  | nil => simp at hd
  | cons x d => simp [apartX, hne, hi, hj]
end Go.Sm
set_option linter.unusedVariables false
set_option linter.unusedSimpArgs false
namespace Go.Sm
open Go Go.Proofs
set_option maxRecDepth 100000
set_option maxHeartbeats 1000000
attribute [local simp] sliceOp_open3 sliceOp_cap sliceOp_open sliceOp_nil appendOp_K appendOp_N copyOp_K
theorem ins_nil_29 (σ : CSt) (j : Nat) (new : List Value) (hj : j < σ.n) (hg : σ.get j = some (.cells new 33 false)) (hl : new.length = 3) (hc : cokL new = true) :
    W E0 (.fn 79 #[.slice none 0 0, .int .i64 0, .slice (some ⟨j, 0, none⟩) 1 1] none) σ (InsPost σ none 0 33 new 1) := by
  rw [W_fn (fn := Tryz.f79) Tryz.func79 rfl rfl rfl]
  have ht : new.take 3 = new := List.take_of_length_le (by omega)
  simp [wops_cons, hg, hl, hc, ht, appK, appendF]
  refine ⟨σ.n, new, openCap, rfl, by simp, by simp, .inl ⟨by omega, rfl⟩, fun y hy _ => ?_⟩
  simp
  omega
theorem ins_zero_29 (σ : CSt) (i j : Nat) (row new : List Value) (hi : i < σ.n) (hj : j < σ.n) (hij : i ≠ j) (hgi : σ.get i = some (.cells row 33 false)) (hg : σ.get j = some (.cells new 33 false)) (hl : new.length = 3) (hc : cokL new = true) :
    W E0 (.fn 79 #[.slice (some ⟨i, 0, none⟩) 0 0, .int .i64 0, .slice (some ⟨j, 0, none⟩) 1 1] none) σ (InsPost σ none 0 33 new 1) := by
  rw [W_fn (fn := Tryz.f79) Tryz.func79 rfl rfl rfl]
  have ht : new.take 3 = new := List.take_of_length_le (by omega)
  have h0 : (0 : Nat) ≠ openCap := by simp [openCap]
  have h1 : 0 < openCap := by simp [openCap]
  simp [wops_cons, hg, hgi, hl, hc, ht, appK, appendF, sliceC, h0, h1]
  refine ⟨σ.n, new, openCap, rfl, by simp, by simp, .inl ⟨by omega, rfl⟩, fun y hy _ => ?_⟩
  simp
  omega
theorem ins_end_29 (σ : CSt) (i j n k : Nat) (row new : List Value) (hi : i < σ.n) (hj : j < σ.n) (hij : i ≠ j) (hgi : σ.get i = some (.cells row 33 false)) (hg : σ.get j = some (.cells new 33 false)) (hl : new.length = 3) (hc : cokL new = true)
    (hn : n * 3 ≤ row.length) (hk : k * 3 ≤ row.length) (hb : (n + 1) * 32 ≤ 140737488355328) (hnk : n ≤ k) (hko : k < openCap) :
    W E0 (.fn 79 #[.slice (some ⟨i, 0, none⟩) n k, .int .i64 n, .slice (some ⟨j, 0, none⟩) 1 1] none) σ (InsPost σ (some i) k 33 (insRow 3 n n row new) (n + 1)) := by
  rw [W_fn (fn := Tryz.f79) Tryz.func79 rfl rfl rfl]
  have ht : new.take 3 = new := List.take_of_length_le (by omega)
  have h0 : k ≠ openCap := by omega
  by_cases hr : n + 1 ≤ k
  · have hst : st row (n * 3) new = some (wr row (n * 3) new) := st_wr (by omega)
    simp [wops_cons, hg, hgi, hl, hc, ht, appK, appendF, sliceC, h0, hko, hnk, hr, hst, -st_eq]
    refine ⟨i, wr row (n * 3) new, k, rfl, by simp, insA hl (by omega), .inr ⟨rfl, rfl, hr⟩, fun y hy hne => ?_⟩
    rw [CSt.get_put, if_neg]
    rintro rfl
    exact hne rfl
  · simp [wops_cons, hg, hgi, hl, hc, ht, appK, appendF, sliceC, h0, hko, hnk, hr, hn, hb]
    refine ⟨σ.n, _, openCap, rfl, by simp, insB hl hn, .inl ⟨Nat.le_refl _, rfl⟩, fun y hy hne => ?_⟩
    rw [CSt.get_alloc, if_neg (by omega)]
theorem ins_mid_29 (σ : CSt) (i j n a k : Nat) (row new : List Value) (hi : i < σ.n) (hj : j < σ.n) (hij : i ≠ j) (hgi : σ.get i = some (.cells row 33 false)) (hg : σ.get j = some (.cells new 33 false)) (hl : new.length = 3) (hc : cokL new = true)
    (hn : n * 3 ≤ row.length) (hk : k * 3 ≤ row.length) (hrc : cokL (row.take (n * 3)) = true) (ha : a < n) (hb : (n + 1) * 32 ≤ 140737488355328) (hn40 : n < 2 ^ 40) (hnk : n ≤ k) (hko : k < openCap) :
    W E0 (.fn 79 #[.slice (some ⟨i, 0, none⟩) n k, .int .i64 a, .slice (some ⟨j, 0, none⟩) 1 1] none) σ (InsPost σ (some i) k 33 (insRow 3 a n row new) (n + 1)) := by
  rw [W_fn (fn := Tryz.f79) Tryz.func79 rfl rfl rfl]
  have ht : new.take 3 = new := List.take_of_length_le (by omega)
  have h0 : k ≠ openCap := by omega
  have hle : a ≤ n := by omega
  have hne : a ≠ n := by omega
  have hw1 := i64n1 n (by omega)
  have hw2 := i64n1 a (by omega)
  have hlt : ¬ k < n ∧ ¬ (a : Int) = n := by omega
  have hnew : ld new 0 3 = some new := by simp [ld, hl, ht]
  have hp1 : (0 : Int) ≤ (n : Int) + 1 ∧ (0 : Int) ≤ (a : Int) + 1 ∧ ((n : Int) + 1).toNat = n + 1 ∧ ((a : Int) + 1).toNat = a + 1 := by omega
  by_cases hr : n + 1 ≤ k
  · have hI : ¬ ((k : Int) < n + 1) := by omega
    have hq : a ≤ k ∧ a + 1 ≤ k ∧ a ≤ n + 1 := by omega
    simp [wops_cons, hg, hgi, hl, hc, ht, appK, appendF, sliceC, h0, hko, hnk, hr, hle, hne, hlt.2, hw1, hw2, hp1, hI, hq, ha, -st_eq]
    rw [wres_ext (E := E0) (v := .bool false)]
    rotate_left
    · simp only [extOf_fn, E0X, extE]
      exact apartX_ne (Ne.symm hij) hg hgi (by omega)
    have hmin : min (n + 1 - a) (n - a) = n - a := by omega
    have hmul : (n - a) * 3 = n * 3 - a * 3 := by omega
    have hmin2 : min 1 (n + 1 - a) = 1 := by omega
    obtain ⟨seg, hseg⟩ : ∃ seg, seg = (row.drop (a * 3)).take (n * 3 - a * 3) := ⟨_, rfl⟩
    have hs1 : ld row (a * 3) ((n - a) * 3) = some seg := by rw [hmul, hseg]; simp; omega
    have hs2 : seg.length = (n - a) * 3 := by rw [hseg]; simp; omega
    have hs3 : cokL seg = true := by rw [hseg, ← List.drop_take]; exact cokL_drop hrc _
    have hs4 : st row ((a + 1) * 3) seg = some (wr row (a * 3 + 3) seg) := by rw [show (a + 1) * 3 = a * 3 + 3 by omega]; exact st_wr (by omega)
    have hs5 : (wr row (a * 3 + 3) seg).length = row.length := wr_length (by omega)
    have hs6 : st (wr row (a * 3 + 3) seg) (a * 3) new = some (wr (wr row (a * 3 + 3) seg) (a * 3) new) := st_wr (by omega)
    have hq2 : ¬ (k = a) ∧ ¬ (k = a + 1) ∧ ¬ (n - a = 0) := by omega
    simp only [Bool.not_false, wops_cons]
    simp [wops_cons, hg, hgi, hl, hc, ht]
    refine W_calm (by kernel_rfl) ?_
    simp [dops_cons, wops_cons, hg, hgi, hl, hc, ht, appK, appendF, sliceC, copyK, copyIK, h0, hko, hnk, hr, hle, hne, hlt.2, hw1, hw2, hp1, hI, hq, hq2, ha, hmin, hmin2, hs1, hs2, hs3, hs4, hs6, hnew, Ne.symm hij, -st_eq, -ld_eq]
    refine ⟨i, _, k, rfl, by simp; rfl, ?_, .inr ⟨rfl, rfl, hr⟩, fun y hy hne => ?_⟩
    · rw [hseg]; exact insD hl ha (by omega)
    · have : y ≠ i := by rintro rfl; exact hne rfl
      simp [this]
  · have hkn : k = n := by omega
    subst hkn
    have hI : ((k : Int) < k + 1) := by omega
    have hw3 : IntKind.i64.wrap ((k : Int) + 1 - a) = ((k + 1 - a : Nat) : Int) := by rw [IntWalk.i64_in _ (by omega)]; omega
    have hz1 : ((k + 1 - a : Nat) : Int) * 32 ≤ 140737488355328 := by omega
    have hz2 : ¬ (k + 1 - a = 0) := by omega
    have hz3 : ¬ (a + (k + 1 - a) ≤ k) := by omega
    have hz4 : a + (k + 1 - a) = k + 1 := by omega
    have hz5 : a * 3 ≤ row.length := by omega
    have hq : a ≤ k + 1 ∧ a + 1 ≤ k + 1 := by omega
    have hmin : min (k + 1 - a) (k - a) = k - a ∧ min (k - a) (k - a) = k - a := by omega
    have hmin2 : min 1 (k + 1 - a) = 1 := by omega
    have hjn : ¬ (j = σ.n) ∧ ¬ (i = σ.n) := by omega
    obtain ⟨z, hz⟩ : ∃ z, z = (List.replicate (k + 1 - a) [Value.int IntKind.u64 0, Value.string ⟨#[]⟩, Value.bool false]).flatten := ⟨_, rfl⟩
    have hzl : z.length = (k + 1 - a) * 3 := by rw [hz]; simp
    have hzc : cokL z = true := by rw [hz]; exact rep_cok _ _ rfl
    have hta : (row.take (a * 3)).length = a * 3 := by simp; omega
    have hrw : (row.take (a * 3) ++ z).length = k * 3 + 3 := by rw [List.length_append, hta, hzl]; omega
    have hc1 : st (row.take (a * 3) ++ z) (a * 3) new = some (wr (row.take (a * 3) ++ z) (a * 3) new) := st_wr (by omega)
    have hc2 : (wr (row.take (a * 3) ++ z) (a * 3) new).length = k * 3 + 3 := by rw [wr_length (by omega)]; exact hrw
    obtain ⟨seg, hseg⟩ : ∃ seg, seg = (row.drop (a * 3)).take (k * 3 - a * 3) := ⟨_, rfl⟩
    have hs1 : ld row (a * 3) ((k - a) * 3) = some seg := by rw [show (k - a) * 3 = k * 3 - a * 3 by omega, hseg]; simp; omega
    have hs2 : seg.length = (k - a) * 3 := by rw [hseg]; simp; omega
    have hs3 : cokL seg = true := by rw [hseg, ← List.drop_take]; exact cokL_drop hrc _
    have hs4 : st (wr (row.take (a * 3) ++ z) (a * 3) new) ((a + 1) * 3) seg = some (wr (wr (row.take (a * 3) ++ z) (a * 3) new) (a * 3 + 3) seg) := by rw [show (a + 1) * 3 = a * 3 + 3 by omega]; exact st_wr (by omega)
    have hq2 : ¬ (k = a) ∧ ¬ (k - a = 0) ∧ k + 1 - (a + 1) = k - a := by omega
    have hld : ld row 0 (a * 3) = some (row.take (a * 3)) := by simp [ld]; omega
    simp [wops_cons, hg, hgi, hl, hc, ht, appK, appendF, sliceC, h0, hko, hnk, hr, hn, hb, hle, hne, hlt.2, hw1, hw2, hw3, hz1, hz2, hz3, hz4, hz5, hp1, hI, hq, hq2, ha, appNK, sliceO, copyK, copyIK, ← hz, hzl, hzc, hc1, hnew, hmin, hmin2, hjn, hld, -st_eq, -ld_eq, -List.append_assoc]
    refine W_calm (by kernel_rfl) ?_
    simp [dops_cons, wops_cons, hg, hgi, hl, hc, ht, sliceC, h0, hko, hnk, hr, hn, hb, hle, hne, hlt.2, hw1, hw2, hp1, hI, hq, hq2, ha, sliceO, copyK, copyIK, hzl, hzc, hs1, hs2, hs3, hs4, hmin, hmin2, hjn, -st_eq, -ld_eq, -List.append_assoc]
    refine ⟨σ.n, _, openCap, rfl, by simp; rfl, ?_, .inl ⟨Nat.le_refl _, rfl⟩, fun y hy hne => ?_⟩
    · rw [hseg]; exact insC hl ha hn (by omega)
    · have : y ≠ σ.n := by omega
      simp [this]
/-- slices.Insert of a chain's versions. -/
theorem insW_29 : InsW E0 79 33 3 32 where
  nil := fun σ j new hj hg hl hc _ => ins_nil_29 σ j new hj hg hl hc
  zero := fun σ i j row new hi hj hij hgi hg hl hc _ => ins_zero_29 σ i j row new hi hj hij hgi hg hl hc
  some_ := fun σ i j n a k row new hi hj hij hgi hg hl hc hn hk hrc ha hb hn40 hnk hko => by
    by_cases he : a = n
    · subst he
      exact ins_end_29 σ i j a k row new hi hj hij hgi hg hl hc hn hk (by omega) hnk hko
    · exact ins_mid_29 σ i j n a k row new hi hj hij hgi hg hl hc hn hk hrc (by omega) (by omega) hn40 hnk hko
end Go.Sm
set_option linter.unusedVariables false
set_option linter.unusedSimpArgs false
namespace Go.Sm
open Go Go.Proofs
set_option maxRecDepth 100000
set_option maxHeartbeats 1000000
attribute [local simp] sliceOp_open3 sliceOp_cap sliceOp_open sliceOp_nil appendOp_K appendOp_N copyOp_K
theorem ins_nil_95 (σ : CSt) (j : Nat) (new : List Value) (hj : j < σ.n) (hg : σ.get j = some (.cells new 116 false)) (hl : new.length = 2) (hc : cokL new = true) :
    W E0 (.fn 65 #[.slice none 0 0, .int .i64 0, .slice (some ⟨j, 0, none⟩) 1 1] none) σ (InsPost σ none 0 116 new 1) := by
  rw [W_fn (fn := Tryz.f65) Tryz.func65 rfl rfl rfl]
  have ht : new.take 2 = new := List.take_of_length_le (by omega)
  simp [wops_cons, hg, hl, hc, ht, appK, appendF]
  refine ⟨σ.n, new, openCap, rfl, by simp, by simp, .inl ⟨by omega, rfl⟩, fun y hy _ => ?_⟩
  simp
  omega
theorem ins_zero_95 (σ : CSt) (i j : Nat) (row new : List Value) (hi : i < σ.n) (hj : j < σ.n) (hij : i ≠ j) (hgi : σ.get i = some (.cells row 116 false)) (hg : σ.get j = some (.cells new 116 false)) (hl : new.length = 2) (hc : cokL new = true) :
    W E0 (.fn 65 #[.slice (some ⟨i, 0, none⟩) 0 0, .int .i64 0, .slice (some ⟨j, 0, none⟩) 1 1] none) σ (InsPost σ none 0 116 new 1) := by
  rw [W_fn (fn := Tryz.f65) Tryz.func65 rfl rfl rfl]
  have ht : new.take 2 = new := List.take_of_length_le (by omega)
  have h0 : (0 : Nat) ≠ openCap := by simp [openCap]
  have h1 : 0 < openCap := by simp [openCap]
  simp [wops_cons, hg, hgi, hl, hc, ht, appK, appendF, sliceC, h0, h1]
  refine ⟨σ.n, new, openCap, rfl, by simp, by simp, .inl ⟨by omega, rfl⟩, fun y hy _ => ?_⟩
  simp
  omega
theorem ins_end_95 (σ : CSt) (i j n k : Nat) (row new : List Value) (hi : i < σ.n) (hj : j < σ.n) (hij : i ≠ j) (hgi : σ.get i = some (.cells row 116 false)) (hg : σ.get j = some (.cells new 116 false)) (hl : new.length = 2) (hc : cokL new = true)
    (hn : n * 2 ≤ row.length) (hk : k * 2 ≤ row.length) (hb : (n + 1) * 40 ≤ 140737488355328) (hnk : n ≤ k) (hko : k < openCap) :
    W E0 (.fn 65 #[.slice (some ⟨i, 0, none⟩) n k, .int .i64 n, .slice (some ⟨j, 0, none⟩) 1 1] none) σ (InsPost σ (some i) k 116 (insRow 2 n n row new) (n + 1)) := by
  rw [W_fn (fn := Tryz.f65) Tryz.func65 rfl rfl rfl]
  have ht : new.take 2 = new := List.take_of_length_le (by omega)
  have h0 : k ≠ openCap := by omega
  by_cases hr : n + 1 ≤ k
  · have hst : st row (n * 2) new = some (wr row (n * 2) new) := st_wr (by omega)
    simp [wops_cons, hg, hgi, hl, hc, ht, appK, appendF, sliceC, h0, hko, hnk, hr, hst, -st_eq]
    refine ⟨i, wr row (n * 2) new, k, rfl, by simp, insA hl (by omega), .inr ⟨rfl, rfl, hr⟩, fun y hy hne => ?_⟩
    rw [CSt.get_put, if_neg]
    rintro rfl
    exact hne rfl
  · simp [wops_cons, hg, hgi, hl, hc, ht, appK, appendF, sliceC, h0, hko, hnk, hr, hn, hb]
    refine ⟨σ.n, _, openCap, rfl, by simp, insB hl hn, .inl ⟨Nat.le_refl _, rfl⟩, fun y hy hne => ?_⟩
    rw [CSt.get_alloc, if_neg (by omega)]
theorem ins_mid_95 (σ : CSt) (i j n a k : Nat) (row new : List Value) (hi : i < σ.n) (hj : j < σ.n) (hij : i ≠ j) (hgi : σ.get i = some (.cells row 116 false)) (hg : σ.get j = some (.cells new 116 false)) (hl : new.length = 2) (hc : cokL new = true)
    (hn : n * 2 ≤ row.length) (hk : k * 2 ≤ row.length) (hrc : cokL (row.take (n * 2)) = true) (ha : a < n) (hb : (n + 1) * 40 ≤ 140737488355328) (hn40 : n < 2 ^ 40) (hnk : n ≤ k) (hko : k < openCap) :
    W E0 (.fn 65 #[.slice (some ⟨i, 0, none⟩) n k, .int .i64 a, .slice (some ⟨j, 0, none⟩) 1 1] none) σ (InsPost σ (some i) k 116 (insRow 2 a n row new) (n + 1)) := by
  rw [W_fn (fn := Tryz.f65) Tryz.func65 rfl rfl rfl]
  have ht : new.take 2 = new := List.take_of_length_le (by omega)
  have h0 : k ≠ openCap := by omega
  have hle : a ≤ n := by omega
  have hne : a ≠ n := by omega
  have hw1 := i64n1 n (by omega)
  have hw2 := i64n1 a (by omega)
  have hlt : ¬ k < n ∧ ¬ (a : Int) = n := by omega
  have hnew : ld new 0 2 = some new := by simp [ld, hl, ht]
  have hp1 : (0 : Int) ≤ (n : Int) + 1 ∧ (0 : Int) ≤ (a : Int) + 1 ∧ ((n : Int) + 1).toNat = n + 1 ∧ ((a : Int) + 1).toNat = a + 1 := by omega
  by_cases hr : n + 1 ≤ k
  · have hI : ¬ ((k : Int) < n + 1) := by omega
    have hq : a ≤ k ∧ a + 1 ≤ k ∧ a ≤ n + 1 := by omega
    simp [wops_cons, hg, hgi, hl, hc, ht, appK, appendF, sliceC, h0, hko, hnk, hr, hle, hne, hlt.2, hw1, hw2, hp1, hI, hq, ha, -st_eq]
    rw [wres_ext (E := E0) (v := .bool false)]
    rotate_left
    · simp only [extOf_fn, E0X, extE]
      exact apartX_ne (Ne.symm hij) hg hgi (by omega)
    have hmin : min (n + 1 - a) (n - a) = n - a := by omega
    have hmul : (n - a) * 2 = n * 2 - a * 2 := by omega
    have hmin2 : min 1 (n + 1 - a) = 1 := by omega
    obtain ⟨seg, hseg⟩ : ∃ seg, seg = (row.drop (a * 2)).take (n * 2 - a * 2) := ⟨_, rfl⟩
    have hs1 : ld row (a * 2) ((n - a) * 2) = some seg := by rw [hmul, hseg]; simp; omega
    have hs2 : seg.length = (n - a) * 2 := by rw [hseg]; simp; omega
    have hs3 : cokL seg = true := by rw [hseg, ← List.drop_take]; exact cokL_drop hrc _
    have hs4 : st row ((a + 1) * 2) seg = some (wr row (a * 2 + 2) seg) := by rw [show (a + 1) * 2 = a * 2 + 2 by omega]; exact st_wr (by omega)
    have hs5 : (wr row (a * 2 + 2) seg).length = row.length := wr_length (by omega)
    have hs6 : st (wr row (a * 2 + 2) seg) (a * 2) new = some (wr (wr row (a * 2 + 2) seg) (a * 2) new) := st_wr (by omega)
    have hq2 : ¬ (k = a) ∧ ¬ (k = a + 1) ∧ ¬ (n - a = 0) := by omega
    simp only [Bool.not_false, wops_cons]
    simp [wops_cons, hg, hgi, hl, hc, ht]
    refine W_calm (by kernel_rfl) ?_
    simp [dops_cons, wops_cons, hg, hgi, hl, hc, ht, appK, appendF, sliceC, copyK, copyIK, h0, hko, hnk, hr, hle, hne, hlt.2, hw1, hw2, hp1, hI, hq, hq2, ha, hmin, hmin2, hs1, hs2, hs3, hs4, hs6, hnew, Ne.symm hij, -st_eq, -ld_eq]
    refine ⟨i, _, k, rfl, by simp; rfl, ?_, .inr ⟨rfl, rfl, hr⟩, fun y hy hne => ?_⟩
    · rw [hseg]; exact insD hl ha (by omega)
    · have : y ≠ i := by rintro rfl; exact hne rfl
      simp [this]
  · have hkn : k = n := by omega
    subst hkn
    have hI : ((k : Int) < k + 1) := by omega
    have hw3 : IntKind.i64.wrap ((k : Int) + 1 - a) = ((k + 1 - a : Nat) : Int) := by rw [IntWalk.i64_in _ (by omega)]; omega
    have hz1 : ((k + 1 - a : Nat) : Int) * 40 ≤ 140737488355328 := by omega
    have hz2 : ¬ (k + 1 - a = 0) := by omega
    have hz3 : ¬ (a + (k + 1 - a) ≤ k) := by omega
    have hz4 : a + (k + 1 - a) = k + 1 := by omega
    have hz5 : a * 2 ≤ row.length := by omega
    have hq : a ≤ k + 1 ∧ a + 1 ≤ k + 1 := by omega
    have hmin : min (k + 1 - a) (k - a) = k - a ∧ min (k - a) (k - a) = k - a := by omega
    have hmin2 : min 1 (k + 1 - a) = 1 := by omega
    have hjn : ¬ (j = σ.n) ∧ ¬ (i = σ.n) := by omega
    obtain ⟨z, hz⟩ : ∃ z, z = (List.replicate (k + 1 - a) [Value.string ⟨#[]⟩, Value.slice none 0 0]).flatten := ⟨_, rfl⟩
    have hzl : z.length = (k + 1 - a) * 2 := by rw [hz]; simp
    have hzc : cokL z = true := by rw [hz]; exact rep_cok _ _ rfl
    have hta : (row.take (a * 2)).length = a * 2 := by simp; omega
    have hrw : (row.take (a * 2) ++ z).length = k * 2 + 2 := by rw [List.length_append, hta, hzl]; omega
    have hc1 : st (row.take (a * 2) ++ z) (a * 2) new = some (wr (row.take (a * 2) ++ z) (a * 2) new) := st_wr (by omega)
    have hc2 : (wr (row.take (a * 2) ++ z) (a * 2) new).length = k * 2 + 2 := by rw [wr_length (by omega)]; exact hrw
    obtain ⟨seg, hseg⟩ : ∃ seg, seg = (row.drop (a * 2)).take (k * 2 - a * 2) := ⟨_, rfl⟩
    have hs1 : ld row (a * 2) ((k - a) * 2) = some seg := by rw [show (k - a) * 2 = k * 2 - a * 2 by omega, hseg]; simp; omega
    have hs2 : seg.length = (k - a) * 2 := by rw [hseg]; simp; omega
    have hs3 : cokL seg = true := by rw [hseg, ← List.drop_take]; exact cokL_drop hrc _
    have hs4 : st (wr (row.take (a * 2) ++ z) (a * 2) new) ((a + 1) * 2) seg = some (wr (wr (row.take (a * 2) ++ z) (a * 2) new) (a * 2 + 2) seg) := by rw [show (a + 1) * 2 = a * 2 + 2 by omega]; exact st_wr (by omega)
    have hq2 : ¬ (k = a) ∧ ¬ (k - a = 0) ∧ k + 1 - (a + 1) = k - a := by omega
    have hld : ld row 0 (a * 2) = some (row.take (a * 2)) := by simp [ld]; omega
    simp [wops_cons, hg, hgi, hl, hc, ht, appK, appendF, sliceC, h0, hko, hnk, hr, hn, hb, hle, hne, hlt.2, hw1, hw2, hw3, hz1, hz2, hz3, hz4, hz5, hp1, hI, hq, hq2, ha, appNK, sliceO, copyK, copyIK, ← hz, hzl, hzc, hc1, hnew, hmin, hmin2, hjn, hld, -st_eq, -ld_eq, -List.append_assoc]
    refine W_calm (by kernel_rfl) ?_
    simp [dops_cons, wops_cons, hg, hgi, hl, hc, ht, sliceC, h0, hko, hnk, hr, hn, hb, hle, hne, hlt.2, hw1, hw2, hp1, hI, hq, hq2, ha, sliceO, copyK, copyIK, hzl, hzc, hs1, hs2, hs3, hs4, hmin, hmin2, hjn, -st_eq, -ld_eq, -List.append_assoc]
    refine ⟨σ.n, _, openCap, rfl, by simp; rfl, ?_, .inl ⟨Nat.le_refl _, rfl⟩, fun y hy hne => ?_⟩
    · rw [hseg]; exact insC hl ha hn (by omega)
    · have : y ≠ σ.n := by omega
      simp [this]
/-- slices.Insert of a chain's versions. -/
theorem insW_95 : InsW E0 65 116 2 40 where
  nil := fun σ j new hj hg hl hc _ => ins_nil_95 σ j new hj hg hl hc
  zero := fun σ i j row new hi hj hij hgi hg hl hc _ => ins_zero_95 σ i j row new hi hj hij hgi hg hl hc
  some_ := fun σ i j n a k row new hi hj hij hgi hg hl hc hn hk hrc ha hb hn40 hnk hko => by
    by_cases he : a = n
    · subst he
      exact ins_end_95 σ i j a k row new hi hj hij hgi hg hl hc hn hk (by omega) hnk hko
    · exact ins_mid_95 σ i j n a k row new hi hj hij hgi hg hl hc hn hk hrc (by omega) (by omega) hn40 hnk hko
end Go.Sm
/- The closed tests, reckoned. -/
namespace Go.Sm
open Go Go.Proofs
def isTrue : Out → CSt → Bool := fun o _ => match o with | .ret (.bool true) false => true | _ => false
def st0 : CSt := { h := ((Tr.nil : Tr CObj).set 1 (.cells [.int .u64 1, .int .u64 0] 0 true)), n := 256 }
set_option maxRecDepth 1000000
theorem aw27 : runB EV 80000 (.fn 27 #[] none) st0 isTrue = true := by kernel_rfl
theorem aw12 : runB EV 40000 (.fn 12 #[] none) st0 isTrue = true := by kernel_rfl
end Go.Sm
/- strings.Repeat, laid at this program (printed by the tools of the shelf). -/
namespace Go.Proofs
open Go.Shelf
def Tryz.lays105_ren : Go.Shelf.Ren := ⟨fun | 105 => 67 | 212 => 80 | 99 => 81 | 165 => 82 | 166 => 83 | 170 => 84 | 169 => 85 | 263 => 97 | 264 => 98 | 206 => 99 | 240 => 100 | 241 => 101 | 276 => 121 | 277 => 122 | n => n, fun | 9 => 9 | 3 => 3 | 4 => 4 | 20 => 20 | 0 => 0 | 46 => 149 | 109 => 157 | 5 => 5 | 72 => 162 | 76 => 166 | 51 => 183 | 146 => 184 | 53 => 31 | 148 => 186 | 70 => 160 | 37 => 25 | 75 => 165 | 127 => 188 | 164 => 210 | 80 => 169 | n => n, fun | n => n⟩
theorem Tryz.lays105 : Go.Proofs.Lays.n105 Tryz.prog Tryz.lays105_ren := {
  mixed := by kernel_rfl
  f99 := Tryz.func81.trans (congrArg some (by kernel_rfl))
  f105 := Tryz.func67.trans (congrArg some (by kernel_rfl))
  f165 := Tryz.func82.trans (congrArg some (by kernel_rfl))
  f166 := Tryz.func83.trans (congrArg some (by kernel_rfl))
  f169 := Tryz.func85.trans (congrArg some (by kernel_rfl))
  f170 := Tryz.func84.trans (congrArg some (by kernel_rfl))
  f206 := Tryz.func99.trans (congrArg some (by kernel_rfl))
  f212 := Tryz.func80.trans (congrArg some (by kernel_rfl))
  f240 := Tryz.func100.trans (congrArg some (by kernel_rfl))
  f241 := Tryz.func101.trans (congrArg some (by kernel_rfl))
  f263 := Tryz.func97.trans (congrArg some (by kernel_rfl))
  f264 := Tryz.func98.trans (congrArg some (by kernel_rfl))
  f276 := Tryz.func121.trans (congrArg some (by kernel_rfl))
  f277 := Tryz.func122.trans (congrArg some (by kernel_rfl))
  t0 := Tryz.underlying0
  a0 := Tryz.isAgg0
  z0 := Tryz.sizeOf0
  v0 := Tryz.zeroValue0
  t3 := Tryz.underlying3
  a3 := Tryz.isAgg3
  z3 := Tryz.sizeOf3
  v3 := Tryz.zeroValue3
  t4 := Tryz.underlying4
  a4 := Tryz.isAgg4
  z4 := Tryz.sizeOf4
  v4 := Tryz.zeroValue4
  t5 := Tryz.underlying5
  a5 := Tryz.isAgg5
  z5 := Tryz.sizeOf5
  v5 := Tryz.zeroValue5
  t9 := Tryz.underlying9
  a9 := Tryz.isAgg9
  z9 := Tryz.sizeOf9
  v9 := Tryz.zeroValue9
  t20 := Tryz.underlying20
  a20 := Tryz.isAgg20
  z20 := Tryz.sizeOf20
  v20 := Tryz.zeroValue20
  t37 := Tryz.underlying25
  a37 := Tryz.isAgg25
  z37 := Tryz.sizeOf25
  v37 := Tryz.zeroValue25
  t46 := Tryz.underlying149
  a46 := Tryz.isAgg149
  z46 := Tryz.sizeOf149
  v46 := Tryz.zeroValue149
  t51 := Tryz.underlying183
  a51 := Tryz.isAgg183
  z51 := Tryz.sizeOf183
  v51 := Tryz.zeroValue183
  t53 := Tryz.underlying31
  a53 := Tryz.isAgg31
  z53 := Tryz.sizeOf31
  v53 := Tryz.zeroValue31
  t70 := Tryz.underlying160
  a70 := Tryz.isAgg160
  z70 := Tryz.sizeOf160
  v70 := Tryz.zeroValue160
  t72 := Tryz.underlying162
  a72 := Tryz.isAgg162
  z72 := Tryz.sizeOf162
  v72 := Tryz.zeroValue162
  t75 := Tryz.underlying165
  a75 := Tryz.isAgg165
  z75 := Tryz.sizeOf165
  v75 := Tryz.zeroValue165
  t76 := Tryz.underlying166
  a76 := Tryz.isAgg166
  z76 := Tryz.sizeOf166
  v76 := Tryz.zeroValue166
  t109 := Tryz.underlying157
  a109 := Tryz.isAgg157
  z109 := Tryz.sizeOf157
  v109 := Tryz.zeroValue157
  t127 := Tryz.underlying188
  a127 := Tryz.isAgg188
  z127 := Tryz.sizeOf188
  v127 := Tryz.zeroValue188
  t146 := Tryz.underlying184
  a146 := Tryz.isAgg184
  z146 := Tryz.sizeOf184
  v146 := Tryz.zeroValue184
  t148 := Tryz.underlying186
  a148 := Tryz.isAgg186
  z148 := Tryz.sizeOf186
  v148 := Tryz.zeroValue186
  t164 := Tryz.underlying210
  a164 := Tryz.isAgg210
  z164 := Tryz.sizeOf210
  v164 := Tryz.zeroValue210 }
theorem Tryz.Builder_Extra_105 : Builder.Extra Tryz.prog Tryz.lays105_ren := {
  sizeBuilder := by kernel_rfl
  liesBuilder := by kernel_rfl
  t5 := Tryz.underlying5
  a5 := Tryz.isAgg5
  z5 := Tryz.sizeOf5
  v5 := Tryz.zeroValue5
  infoByte := by kernel_rfl
  cellsByte := by kernel_rfl
  sizeByte := by kernel_rfl
  neB5 := by decide }
open Go.RowKit Go.Lib in
/-- **strings.Repeat: count ≥ 0, the result within one allocation: count copies of s.** (LAID: no walk: one application.) -/
theorem Tryz.strings_Repeat (s : ByteArray) (c : Nat) (w : World) (hc : c ≤ 9223372036854775807) (hlen : s.size * c ≤ 140737488355328) :
    Calls Tryz.prog 67 #[.string s, .int .i64 c] w fun e w' => e = .returned (.string ⟨(Lib.repeatL s.data.toList c).toArray⟩) ∧ Below w.heap.size w w' := Any.strings_Repeat Tryz.lays105 Tryz.Builder_Extra_105 s c w hc hlen
end Go.Proofs
/- A contract of the machine's, taken as one step of the rules. -/
set_option linter.unusedVariables false
set_option linter.unusedSimpArgs false
namespace Go.Sm
open Go Go.RowKit
/-- A function that hands back a plain value and leaves all as it was. -/
theorem calls_gam {P : Program} {f : FuncId} {args : Array Value} {v : Value} (hbody : ∃ fn, P.funcs[f]? = some fn ∧ fn.body.isSome = true) (ha : ∀ a ∈ args, flat0 a = true) (hv : flat0 v = true)
    (hc : ∀ w : World, Calls P f args w fun e w' => e = .returned v ∧ Below w.heap.size w w') {σ : CSt} {Q : Out → CSt → Prop} (hq : Q (.ret v false) σ) : SimFn P f args none σ Q := by
  refine ⟨hbody, fun ρ w args' cs hR hA hd => ?_⟩
  have heq : args' = args := by
    apply Array.ext
    · exact hA.1.symm
    · intro i h1 h2
      have := hA.2 i h2 h1
      exact this.flat_eq (ha _ (Array.getElem_mem h2))
  subst heq
  obtain ⟨e, w', fr, ⟨rfl, hb⟩, hs, hf, hm, hdf, hk, fn, hfn, hr⟩ := hc w cs
  exact .inl ⟨v, false, σ, ρ, w', v, fr, hq, hR.grow hb.size fun k hk => hb.block k hk, ⟨ρ.le_refl, hb.os, hb.tape, hb.output, hb.size, fun k hkk _ => hb.block k hkk, fun i p a b => .inr ⟨i, p, a, b, rfl⟩⟩, .plain _ hv, hs, fun _ => rfl, hf, hk, hm, hdf, fn, by rw [← hf]; exact hfn, hr⟩
end Go.Sm
/- The environments are sound: what is taken as one step is so. -/
set_option linter.unusedVariables false
namespace Go.Sm
open Go Go.Proofs
set_option maxRecDepth 100000
theorem good_all : (Tryz.prog.funcs.toList.all fun fn => !(fn.name == "runtime.NumGoroutine")) = true := by kernel_rfl
theorem good_mixed : Tryz.prog.follows .mixedOrders = true := by kernel_rfl
theorem good : Good Tryz.prog := by
  refine ⟨fun f fn h _ => ?_, good_mixed⟩
  have := List.all_eq_true.1 good_all fn (by rw [Array.mem_toList_iff]; exact Array.mem_of_getElem? h)
  simpa using this
def isU8 (P : Program) (e : TypeId) : Bool := match P.underlying e with | some (.int .u8) => true | _ => false
theorem not_u8 {P : Program} {e : TypeId} (h : isU8 P e = false) : P.underlying e ≠ some (.int .u8) := by
  intro hh
  unfold isU8 at h
  rw [hh] at h
  cases h
theorem ext_ok {E : Env} (hP : E.P = Tryz.prog) (hx : E.ext = extE) : ExtOk E := by
  intro g args σ v h ρ w args' hR ha
  rw [hx] at h
  rw [hP] at hR ⊢
  unfold extE at h
  split at h
  · exact apart_ok (tS := 112) (tR := 4) (size := 2) Tryz.func75 (by kernel_rfl) (by kernel_rfl) (by kernel_rfl) (by kernel_rfl) (by kernel_rfl) (fun w => by kernel_rfl) (not_u8 (by kernel_rfl)) h hR ha
  · exact apart_ok (tS := 28) (tR := 4) (size := 3) Tryz.func95 (by kernel_rfl) (by kernel_rfl) (by kernel_rfl) (by kernel_rfl) (by kernel_rfl) (fun w => by kernel_rfl) (not_u8 (by kernel_rfl)) h hR ha
  · cases h
theorem gam0 : GamOk E0 := by
  intro f g h
  cases h
theorem gamV : GamOk EV := by
  intro f g h args σ v σ' hg Q hq
  change gamI f = some g at h
  unfold gamI at h
  split at h
  · cases h
    exact ins_gam (E := E0) good (ext_ok rfl rfl) gam0 (by exact ⟨_, Tryz.func65, rfl⟩) (by kernel_rfl) (by decide) insW_95 hg hq
  · cases h
    exact ins_gam (E := E0) good (ext_ok rfl rfl) gam0 (by exact ⟨_, Tryz.func79, rfl⟩) (by kernel_rfl) (by decide) insW_29 hg hq
  · cases h
theorem base0 : Base st0 := by
  refine ⟨rfl, fun i o h => ?_⟩
  simp only [st0, CSt.get, Tr.get_set] at h
  split at h
  · cases h
    rename_i hi
    subst hi
    exact ⟨by decide, _, _, rfl, by simp⟩
  · simp [Tr.get_nil] at h
theorem ext0 {σ : CSt} (h : gnone σ) : Ext st0 σ := by
  intro i o ho
  simp only [st0, CSt.get, Tr.get_set] at ho
  split at ho
  · rename_i hi
    subst hi
    cases ho
    exact h
  · simp [Tr.get_nil] at ho
theorem aw_ok {f : FuncId} {n : Nat} (h : runB EV n (.fn f #[] none) st0 isTrue = true) {args : Array Value} {σ σ' : CSt} {v : Value} (hg : awakeG args σ = some (v, σ')) {Q : Out → CSt → Prop} (hq : Q (.ret v false) σ') : SimFn Tryz.prog f args none σ Q := by
  unfold awakeG at hg
  split at hg
  · rename_i hc
    cases hg
    obtain ⟨rfl, hn⟩ := hc
    refine base_fn (E := EV) good (ext_ok rfl rfl) gamV base0 ((runB_W _ h).weaken fun o s ho => ?_) (by simp) rfl (ext0 hn) hq
    unfold isTrue at ho
    split at ho
    · rfl
    · cases ho
  · cases hg
theorem repL_eq (l : List UInt8) : ∀ n, Go.Lib.repeatL l n = (List.replicate n l).flatten
  | 0 => rfl
  | n + 1 => by rw [Go.Lib.repeatL, repL_eq l n, List.replicate_succ, List.flatten_cons]
theorem rep_ok {args : Array Value} {σ σ' : CSt} {v : Value} (hg : repG args σ = some (v, σ')) {Q : Out → CSt → Prop} (hq : Q (.ret v false) σ') : SimFn Tryz.prog 67 args none σ Q := by
  unfold repG at hg
  split at hg
  · rename_i s c
    split at hg
    · rename_i hc
      cases hg
      obtain ⟨n, rfl⟩ : ∃ n : Nat, c = n := ⟨c.toNat, by omega⟩
      refine calls_gam (v := .string (repS s n)) ⟨_, Tryz.func67, rfl⟩ (by simp [flat0]) (by simp [flat0]) (fun w => ?_) (by simpa using hq)
      have h := Tryz.strings_Repeat s n w (by omega) (by have := hc.2.2; simp only [Int.toNat_natCast] at this; omega)
      rw [repL_eq] at h
      exact h
    · cases hg
  · cases hg
theorem gam1 : GamOk E1 := by
  intro f g h args σ v σ' hg Q hq
  change gamL f = some g at h
  unfold gamL at h
  split at h
  · cases h
    exact ins_gam (E := E0) good (ext_ok rfl rfl) gam0 (by exact ⟨_, Tryz.func65, rfl⟩) (by kernel_rfl) (by decide) insW_95 hg hq
  · cases h
    exact ins_gam (E := E0) good (ext_ok rfl rfl) gam0 (by exact ⟨_, Tryz.func79, rfl⟩) (by kernel_rfl) (by decide) insW_29 hg hq
  · cases h; exact aw_ok aw12 hg hq
  · cases h; exact aw_ok aw27 hg hq
  · cases h; exact rep_ok hg hq
  · cases h
end Go.Sm
/- Arguments that are plain data: how they lie in the abstract state. -/
set_option linter.unusedVariables false
set_option linter.unusedSimpArgs false
namespace Go.Sm
open Go Go.WideShapes Go.ChangeShapes

/-- A cell's kind. -/
inductive PK where
  | int (k : IntKind)
  | bool
  | str
def okK : PK → Value → Prop
  | .int k, v => ∃ n, v = .int k n ∧ (Lit.int k n).wf = true
  | .bool, v => ∃ b, v = .bool b
  | .str, v => ∃ s : ByteArray, v = .string s ∧ s.size ≤ maxLen
def OkL : List PK → List Value → Prop
  | [], [] => True
  | k :: ks, v :: vs => okK k v ∧ OkL ks vs
  | _, _ => False
theorem OkL.length : ∀ {ks : List PK} {vs : List Value}, OkL ks vs → vs.length = ks.length
  | [], [], _ => rfl
  | _ :: ks, _ :: vs, h => by simp [OkL.length h.2]
theorem OkL.append : ∀ {ks ls : List PK} {vs ws : List Value}, OkL ks vs → OkL ls ws → OkL (ks ++ ls) (vs ++ ws)
  | [], _, [], _, _, h => h
  | _ :: _, _, _ :: _, _, h, k => ⟨h.1, OkL.append h.2 k⟩
theorem okK.flat {k : PK} {v : Value} (h : okK k v) : flat0 v = true := by
  cases k with
  | int k => obtain ⟨n, rfl, _⟩ := h; rfl
  | bool => obtain ⟨b, rfl⟩ := h; rfl
  | str => obtain ⟨s, rfl, _⟩ := h; rfl
theorem okK.cellv {k : PK} {v : Value} (h : okK k v) : Sm.cellv v = true := by
  cases k with
  | int k => obtain ⟨n, rfl, _⟩ := h; rfl
  | bool => obtain ⟨b, rfl⟩ := h; rfl
  | str => obtain ⟨s, rfl, _⟩ := h; rfl
theorem OkL.flat : ∀ {ks : List PK} {vs : List Value}, OkL ks vs → ∀ v ∈ vs, flat0 v = true
  | [], [], _ => by simp
  | _ :: ks, _ :: vs, h => fun v hv => by
    rcases List.mem_cons.1 hv with rfl | hv
    · exact h.1.flat
    · exact OkL.flat h.2 v hv

def kindsL (P : Program) (g : TypeId → Option (List PK)) : List Field → Nat → Option (List PK)
  | [], _ => some []
  | fl :: l, off =>
    if fl.offset = off then
      match g fl.type with
      | some ks => if ks.length = P.cellsOf fl.type then (kindsL P g l (off + ks.length)).map (ks ++ ·) else none
      | none => none
    else none
def kindsF (P : Program) : Nat → TypeId → Option (List PK)
  | 0, _ => none
  | f + 1, t =>
    match P.underlying t with
    | some (.int k) => some [.int k]
    | some .bool => some [.bool]
    | some .string => some [.str]
    | some (.struct fs) => match kindsL P (kindsF P f) fs.toList 0 with | some ks => if ks.length = P.cellsOf t then some ks else none | none => none
    | _ => none

section
variable {H : Type} {enc : TypeId × Value → H} {P : Program} {w : World} {base : Nat} {spare : Nat → Bool} {held : Bool}

theorem kindsL_ok {g : TypeId → Option (List PK)} {fuel : Nat} {cs : List Value} (hg : ∀ t ks, g t = some ks → ∀ cs x, DataW.trod enc P w base spare held fuel t cs = some x → OkL ks cs) :
    ∀ (l : List Field) (off : Nat) (ks : List PK), kindsL P g l off = some ks → (∀ fl ∈ l, ∃ x, DataW.trod enc P w base spare held fuel fl.type ((cs.drop fl.offset).take (P.cellsOf fl.type)) = some x) → off + ks.length = cs.length → OkL ks (cs.drop off)
  | [], off, ks, h, _, hl => by
    simp only [kindsL, Option.some.injEq] at h
    subst h
    rw [List.drop_of_length_le (by simpa using Nat.le_of_eq hl.symm)]
    trivial
  | fl :: l, off, ks, h, hx, hl => by
    unfold kindsL at h
    split at h
    · rename_i ho
      split at h
      · rename_i k1 hk1
        split at h
        · rename_i hc
          rw [Option.map_eq_some_iff] at h
          obtain ⟨k2, h2, rfl⟩ := h
          obtain ⟨x, hx1⟩ := hx fl (by simp)
          have a1 := hg _ _ hk1 _ _ hx1
          rw [ho, ← hc] at a1
          have a2 := kindsL_ok hg l (off + k1.length) k2 h2 (fun f hf => hx f (by simp [hf])) (by simp at hl; omega)
          have : cs.drop off = (cs.drop off).take k1.length ++ cs.drop (off + k1.length) := by
            rw [← List.drop_drop, List.take_append_drop]
          rw [this]
          exact a1.append a2
        · cases h
      · cases h
    · cases h

theorem trod_kinds : ∀ (f : Nat) (t : TypeId) (ks : List PK), kindsF P f t = some ks → ∀ (fuel : Nat) (cs : List Value) (x : DataW H × List MemPlace), DataW.trod enc P w base spare held fuel t cs = some x → OkL ks cs
  | 0, _, _, h, _, _, _, _ => by cases h
  | f + 1, t, ks, h, fuel, cs, x, hx => by
    unfold kindsF at h
    cases hu : P.underlying t with
    | none => rw [hu] at h; cases h
    | some d =>
      rw [hu] at h
      cases d with
      | int k =>
        cases h
        obtain ⟨n, rfl, _, hw⟩ := DataW.trod_int hu hx
        exact ⟨⟨n, rfl, hw⟩, trivial⟩
      | bool =>
        cases h
        obtain ⟨b, rfl, _⟩ := DataW.trod_bool hu hx
        exact ⟨⟨b, rfl⟩, trivial⟩
      | string =>
        cases h
        obtain ⟨s, rfl, _, hs⟩ := DataW.trod_string hu hx
        exact ⟨⟨s, rfl, hs⟩, trivial⟩
      | struct fs =>
        simp only at h
        split at h
        · rename_i k1 hk1
          split at h
          · rename_i hc
            cases h
            obtain ⟨xs, n, rfl, _, hlen, hxl, hf⟩ := DataW.trod_struct hu hx
            have := kindsL_ok (cs := cs) (fuel := n) (fun t ks ht cs x hx => trod_kinds f t ks ht n cs x hx) fs.toList 0 ks hk1 (fun fl hfl => ?_) (by omega)
            · simpa using this
            · obtain ⟨i, hi, rfl⟩ := List.mem_iff_getElem.1 hfl
              have h1 := hf i fs.toList[i] (by simp at hi ⊢)
              have : i < xs.length := by simpa [hxl] using hi
              rw [List.getElem?_eq_getElem this] at h1
              exact ⟨_, h1⟩
          · cases h
        · cases h
      | _ => cases h

/-- A slice of plain elements. -/
theorem open_rows {t e : TypeId} {f fuel : Nat} {ks : List PK} {cs : List Value} {x : DataW H × List MemPlace} (ht : P.underlying t = some (.slice e)) (hk : kindsF P f e = some ks) (hc : P.cellsOf e = ks.length)
    (h : DataW.trod enc P w base spare held fuel t cs = some x) :
    cs = [.slice none 0 0] ∨ ∃ (a : Addr) (len cap : Nat) (rows : List (List Value)), cs = [.slice (some a) len cap] ∧ len ≤ cap ∧ cap ≤ maxLen ∧ rows.length = len ∧ (∀ r ∈ rows, OkL ks r) ∧
      ∀ i j, i < len → j < ks.length → ∃ v, (rows.flatten)[i * ks.length + j]? = some v ∧ w.cell? ((a.add (i * ks.length)).add j) = some v := by
  rcases DataW.trod_slice ht h with ⟨h0, _⟩ | ⟨a, len, cap, elems, rest, n, _, rfl, rfl, hb, hl, hm, hlen, hel, hsp, hns⟩
  · exact .inl h0
  refine .inr ⟨a, len, cap, ?_⟩
  have each : ∀ i, i < len → ∃ r, w.cells? base (a.add (i * ks.length)) ks.length = some r ∧ OkL ks r := by
    intro i hi
    have := hel i hi
    rw [List.getElem?_eq_getElem (by omega), Option.bind_eq_some_iff] at this
    obtain ⟨r, h1, h2⟩ := this
    rw [hc] at h1
    exact ⟨r, h1, trod_kinds f e ks hk n r _ h2⟩
  let row : Nat → List Value := fun i => if hi : i < len then (each i hi).choose else []
  have hrow : ∀ i (hi : i < len), w.cells? base (a.add (i * ks.length)) ks.length = some (row i) ∧ OkL ks (row i) := fun i hi => by
    simp only [row, hi, dif_pos]
    exact (each i hi).choose_spec
  have hrl : ∀ i, i < len → (row i).length = ks.length := fun i hi => (hrow i hi).2.length
  refine ⟨(List.range len).map row, rfl, hl, hm, by simp, fun r hr => ?_, fun i j hi hj => ?_⟩
  · simp only [List.mem_map, List.mem_range] at hr
    obtain ⟨i, hi, rfl⟩ := hr
    exact (hrow i hi).2
  · have hflat : ∀ (m : Nat), m ≤ len → (((List.range len).map row).flatten)[i * ks.length + j]? = ((List.range len).map row).flatten[i * ks.length + j]? := fun _ _ => rfl
    have key : (((List.range len).map row).flatten)[i * ks.length + j]? = (row i)[j]? := by
      have e1 : (List.range len).map row = (List.range len).map row := rfl
      have gen : ∀ (l : List (List Value)) (i : Nat), (∀ r ∈ l, r.length = ks.length) → (hi : i < l.length) → l.flatten[i * ks.length + j]? = (l[i])[j]? := by
        intro l
        induction l with
        | nil => intro i _ hi; simp at hi
        | cons r l ih =>
          intro i hr hi
          cases i with
          | zero =>
            simp only [List.flatten_cons, Nat.zero_mul, Nat.zero_add, List.getElem_cons_zero]
            rw [List.getElem?_append_left (by rw [hr r (by simp)]; exact hj)]
          | succ i =>
            simp only [List.flatten_cons, List.getElem_cons_succ]
            rw [List.getElem?_append_right (by rw [hr r (by simp), Nat.add_mul]; omega), hr r (by simp)]
            have : (i + 1) * ks.length + j - ks.length = i * ks.length + j := by rw [Nat.add_mul]; omega
            rw [this]
            exact ih i (fun r h => hr r (by simp [h])) (by simpa using hi)
      rw [gen _ i (fun r hr => by
        simp only [List.mem_map, List.mem_range] at hr
        obtain ⟨i, hi, rfl⟩ := hr
        exact hrl i hi) (by simpa using hi)]
      simp
    rw [key]
    have hlt : j < (row i).length := by rw [hrl i hi]; exact hj
    refine ⟨(row i)[j], List.getElem?_eq_getElem hlt, ?_⟩
    have := (World.cells?_some (hrow i hi).1).2.2 j hj
    rw [this, List.getElem?_eq_getElem hlt]
end
end Go.Sm
/- Slices as lists. -/
set_option linter.unusedVariables false
namespace Go.Sm
open Go

/-- A slice's elements, as they lie. -/
def Sl {α : Type} (σ : CSt) (e : TypeId) (sz : Nat) (enc : α → List Value) (v : Value) (l : List α) : Prop :=
  (v = .slice none 0 0 ∧ l = []) ∨ ∃ i off cap row ro, v = .slice (some ⟨i, off, none⟩) l.length cap ∧ σ.get i = some (.cells row e ro) ∧ i < σ.n ∧ (row.drop off).take (l.length * sz) = l.flatMap enc ∧ off + l.length * sz ≤ row.length ∧
    (cap = openCap ∨ (l.length ≤ cap ∧ cap < openCap))

section
variable {α : Type} {σ σ' : CSt} {e : TypeId} {sz : Nat} {enc : α → List Value} {v : Value} {l : List α}
theorem Sl.nil : Sl σ e sz enc (.slice none 0 0) ([] : List α) := .inl ⟨rfl, rfl⟩
theorem Sl.grow (h : Sl σ e sz enc v l) (hg : Grow σ σ') : Sl σ' e sz enc v l := by
  rcases h with h | ⟨i, off, cap, row, ro, h1, h2, h3, h4⟩
  · exact .inl h
  · exact .inr ⟨i, off, cap, row, ro, h1, hg.get h2 h3, Nat.lt_of_lt_of_le h3 hg.n, h4⟩
/-- A slice that is all of its object. -/
theorem Sl.all {i cap : Nat} {ro : Bool} (hsz : ∀ x, (enc x).length = sz) (hg : σ.get i = some (.cells (l.flatMap enc) e ro)) (hi : i < σ.n) (hc : cap = openCap ∨ (l.length ≤ cap ∧ cap < openCap)) : Sl σ e sz enc (.slice (some ⟨i, 0, none⟩) l.length cap) l := by
  have := enc_length enc hsz l
  exact .inr ⟨i, 0, cap, _, ro, rfl, hg, hi, by rw [List.drop_zero, List.take_of_length_le (by omega)], by omega, hc⟩
theorem Sl.form (h : Sl σ e sz enc v l) : ∃ p c, v = .slice p l.length c := by
  rcases h with ⟨rfl, rfl⟩ | ⟨i, off, cap, row, ro, rfl, _⟩
  · exact ⟨_, _, rfl⟩
  · exact ⟨_, _, rfl⟩
/-- One of its elements. -/
theorem Sl.at {p : Option Addr} {n c : Nat} (h : Sl σ e sz enc (.slice p n c) l) {k : Nat} (hk : k < l.length) : ∃ i off row ro, p = some ⟨i, off, none⟩ ∧ σ.get i = some (.cells row e ro) ∧ i < σ.n ∧ (row.drop off).take (l.length * sz) = l.flatMap enc ∧ off + l.length * sz ≤ row.length := by
  rcases h with ⟨h1, rfl⟩ | ⟨i, off, cap, row, ro, h1, h2, h3, h4, h5, _⟩
  · simp at hk
  · cases h1; exact ⟨i, off, row, ro, rfl, h2, h3, h4, h5⟩
/-- One element of a row. -/
theorem row_get (hsz : ∀ x, (enc x).length = sz) {row : List Value} {off : Nat} (h : (row.drop off).take (l.length * sz) = l.flatMap enc) (k : Nat) (hk : k < l.length) : (row.drop (off + k * sz)).take sz = enc l[k] := by
  have := enc_get enc hsz l k hk
  rw [← h] at this
  rw [← this, List.drop_take, List.drop_drop, List.take_take]
  congr 1
  have : (k + 1) * sz ≤ l.length * sz := Nat.mul_le_mul_right _ hk
  rw [Nat.succ_mul] at this
  omega
theorem row_le {row : List Value} {off : Nat} (h : off + l.length * sz ≤ row.length) (k : Nat) (hk : k < l.length) : off + k * sz + sz ≤ row.length := by
  have : (k + 1) * sz ≤ l.length * sz := Nat.mul_le_mul_right _ hk
  rw [Nat.succ_mul] at this
  omega
/-- One cell of one element. -/
theorem row_cell (hsz : ∀ x, (enc x).length = sz) {row : List Value} {off : Nat} (h : (row.drop off).take (l.length * sz) = l.flatMap enc) (k j : Nat) (hk : k < l.length) (hj : j < sz) : row[off + k * sz + j]? = (enc l[k])[j]? := by
  have := congrArg (·[j]?) (row_get hsz h k hk)
  simp only [List.getElem?_take, hj, if_true, List.getElem?_drop] at this
  exact this
/-- Of a slice from an element on. -/
theorem row_drop (hsz : ∀ x, (enc x).length = sz) {row : List Value} {off : Nat} (h : (row.drop off).take (l.length * sz) = l.flatMap enc) (k : Nat) (hk : k ≤ l.length) : (row.drop (off + k * sz)).take ((l.drop k).length * sz) = (l.drop k).flatMap enc := by
  rw [← enc_drop enc hsz, ← h, List.drop_take, List.drop_drop, List.length_drop, Nat.sub_mul]
theorem row_take (hsz : ∀ x, (enc x).length = sz) {row : List Value} {off : Nat} (h : (row.drop off).take (l.length * sz) = l.flatMap enc) (k : Nat) (hk : k ≤ l.length) : (row.drop off).take ((l.take k).length * sz) = (l.take k).flatMap enc := by
  rw [← enc_take enc hsz, ← h, List.take_take, List.length_take]
  congr 1
  rw [Nat.min_eq_left hk]
  exact (Nat.min_eq_left (Nat.mul_le_mul_right _ hk)).symm
end

/-- A slice that is one's own: all of an object that was made behind a point. -/
def Own {α : Type} (b : Nat) (σ : CSt) (e : TypeId) (enc : α → List Value) (v : Value) (l : List α) : Prop :=
  (v = .slice none 0 0 ∧ l = []) ∨ ∃ i cap, v = .slice (some ⟨i, 0, none⟩) l.length cap ∧ b ≤ i ∧ i < σ.n ∧ σ.get i = some (.cells (l.flatMap enc) e false) ∧ (cap = openCap ∨ (l = [] ∧ cap = 0))
section
variable {α : Type} {σ σ' : CSt} {e : TypeId} {sz : Nat} {enc : α → List Value} {v : Value} {l : List α} {b : Nat}
theorem Own.nil : Own b σ e enc (.slice none 0 0) ([] : List α) := .inl ⟨rfl, rfl⟩
theorem Own.sl (hsz : ∀ x, (enc x).length = sz) (h : Own b σ e enc v l) : Sl σ e sz enc v l := by
  rcases h with h | ⟨i, cap, rfl, hb, hi, hg, hc⟩
  · exact .inl h
  · refine Sl.all hsz hg hi ?_
    rcases hc with rfl | ⟨rfl, rfl⟩
    · exact .inl rfl
    · exact .inr ⟨by simp, by simp [openCap]⟩
theorem Own.grow (h : Own b σ e enc v l) (hg : Grow σ σ') : Own b σ' e enc v l := by
  rcases h with h | ⟨i, cap, h1, hb, hi, h2, h3⟩
  · exact .inl h
  · exact .inr ⟨i, cap, h1, hb, Nat.lt_of_lt_of_le hi hg.n, hg.get h2 hi, h3⟩
theorem Own.keep (h : Own b σ e enc v l) (hn : σ.n ≤ σ'.n) (hg : ∀ i, b ≤ i → i < σ.n → σ'.get i = σ.get i) : Own b σ' e enc v l := by
  rcases h with h | ⟨i, cap, h1, hb, hi, h2, h3⟩
  · exact .inl h
  · exact .inr ⟨i, cap, h1, hb, Nat.lt_of_lt_of_le hi hn, by rw [hg i hb hi]; exact h2, h3⟩
theorem Own.put (h : Own b σ e enc v l) {i : Nat} (hi : i < b) (o : CObj) : Own b (σ.put i o) e enc v l :=
  h.keep (Nat.le_refl _) fun j hj _ => by rw [CSt.get_put, if_neg (by omega)]
theorem Own.weaken {b' : Nat} (h : Own b σ e enc v l) (hb : b' ≤ b) : Own b' σ e enc v l := by
  rcases h with h | ⟨i, cap, h1, hb', h2⟩
  · exact .inl h
  · exact .inr ⟨i, cap, h1, Nat.le_trans hb hb', h2⟩
theorem insRow_enc (hsz : ∀ x, (enc x).length = sz) (a : Nat) (ha : a ≤ l.length) (x : α) : insRow sz a l.length (l.flatMap enc) (enc x) = (l.take a ++ x :: l.drop a).flatMap enc := by
  have := enc_length enc hsz l
  unfold insRow
  rw [List.take_of_length_le (Nat.le_of_eq this), enc_take enc hsz, enc_drop enc hsz]
  simp
theorem cokL_enc (hc : ∀ x, cokL (enc x) = true) (l : List α) : cokL (l.flatMap enc) = true := by
  induction l with
  | nil => rfl
  | cons x l ih => rw [List.flatMap_cons, cokL_append, hc, ih]; rfl
/-- New objects, and changes to those that were made behind a point. -/
def GrowB (b : Nat) (σ σ' : CSt) : Prop := σ.n ≤ σ'.n ∧ ∀ i, i < b → σ'.get i = σ.get i
theorem GrowB.refl (b : Nat) (σ : CSt) : GrowB b σ σ := ⟨Nat.le_refl _, fun _ _ => rfl⟩
theorem GrowB.trans {a b c : CSt} {k : Nat} (h : GrowB k a b) (h' : GrowB k b c) : GrowB k a c := ⟨Nat.le_trans h.1 h'.1, fun i hi => (h'.2 i hi).trans (h.2 i hi)⟩
theorem Grow.toB {a b : CSt} {k : Nat} (h : Grow a b) (hk : k ≤ a.n) : GrowB k a b := ⟨h.n, fun i hi => h.old i (Nat.lt_of_lt_of_le hi hk)⟩
theorem GrowB.toGrow {a b : CSt} (h : GrowB a.n a b) : Grow a b := ⟨h.1, h.2⟩
theorem Grow.thenB {a b c : CSt} {k : Nat} (h : Grow a b) (h' : GrowB k b c) (hk : a.n ≤ k) : Grow a c := ⟨Nat.le_trans h.n h'.1, fun i hi => (h'.2 i (Nat.lt_of_lt_of_le hi hk)).trans (h.old i hi)⟩
theorem GrowB.alloc {a b : CSt} {k : Nat} (h : GrowB k a b) (hk : k ≤ b.n) (o : CObj) : GrowB k a (b.alloc o) := ⟨by have := h.1; simp; omega, fun i hi => by rw [CSt.get_alloc, if_neg (by omega)]; exact h.2 i hi⟩
theorem GrowB.put {a b : CSt} {k i : Nat} (h : GrowB k a b) (hi : k ≤ i) (o : CObj) : GrowB k a (b.put i o) := ⟨h.1, fun j hj => by rw [CSt.get_put, if_neg (by omega)]; exact h.2 j hj⟩
end
/-- How a search ends: so many are below. -/
structure Cut {α : Type} (ord : α → Int) (l : List α) (k : Nat) : Prop where
  le : k ≤ l.length
  lo : ∀ j (h : j < l.length), j < k → ord l[j] < 0
  hi : ∀ j (h : j < l.length), k ≤ j → 0 ≤ ord l[j]
end Go.Sm
/- From the arguments to an abstract state. -/
set_option linter.unusedVariables false
namespace Go.Sm
open Go Go.WideShapes Go.ChangeShapes

/-- Nothing can be written. -/
def Calm (σ : CSt) : Prop := ∀ i, ¬ rw_ σ i

section
variable {P : Program} {ρ : Rho} {σ : CSt} {w : World}
/-- A row that is only read. -/
theorem R.addRo (h : R P ρ σ w) (hc : Calm σ) {p : Place} {c : List Value} {e : TypeId} (hlt : p.b < w.heap.size) (hz : p.z = P.cellsOf e) (hl : c.length ≤ p.e) (hcell : ∀ (k : Nat) (u : k < c.length), w.cell? ⟨p.b, p.o + k, none⟩ = some c[k] ∧ flat0 c[k] = true) :
    R P (ρ.set σ.n p) (σ.alloc (.cells c e true)) w ∧ ρ.le (ρ.set σ.n p) ∧ Calm (σ.alloc (.cells c e true)) ∧ (ρ.set σ.n p) σ.n = some p := by
  have hg := h.gn
  have hle : ρ.le (ρ.set σ.n p) := fun j r hr => by
    unfold Rho.set; rw [if_neg]; exact hr
    intro e; rw [e, h.dom _ (Nat.le_refl _)] at hr; cases hr
  have hset : ∀ j, j ≠ σ.n → (ρ.set σ.n p) j = ρ j := fun j hj => by unfold Rho.set; rw [if_neg hj]
  have hself : (ρ.set σ.n p) σ.n = some p := by unfold Rho.set; rw [if_pos rfl]
  have hget : ∀ j, j ≠ σ.n → (σ.alloc (.cells c e true)).get j = σ.get j := fun j hj => by rw [CSt.get_alloc, if_neg hj]
  have hlive : ∀ j, j ≠ σ.n → live (σ.alloc (.cells c e true)) j → live σ j := fun j hj ⟨o, ho, hd⟩ => ⟨o, by rw [← hget j hj]; exact ho, hd⟩
  have hcalm : Calm (σ.alloc (.cells c e true)) := fun j hj => by
    rw [rw_alloc] at hj
    by_cases e : j = σ.n
    · rw [if_pos e] at hj; cases hj.1
    · rw [if_neg e] at hj; exact hc j hj
  refine ⟨⟨fun j hj => ?_, fun j hj => ?_, fun j r hr hj => ?_, fun j o r ho hr => ?_, fun a b r s hne hr hs hra hlb => absurd hra (hcalm a), fun g hgl => ?_, Nat.le_succ_of_le hg⟩, hle, hcalm, hself⟩
  · rw [CSt.n_alloc] at hj; rw [hset j (by omega)]; exact h.dom j (by omega)
  · by_cases e : j = σ.n
    · rw [e]; exact ⟨p, hself⟩
    · rw [hset j e]; exact h.tot j (hlive j e hj)
  · by_cases e : j = σ.n
    · subst e; rw [hself] at hr; cases hr; exact hlt
    · rw [hset j e] at hr; exact h.lt j r hr (hlive j e hj)
  · by_cases e' : j = σ.n
    · subst e'
      rw [CSt.get_alloc, if_pos rfl] at ho
      cases ho
      rw [hself] at hr; cases hr
      refine ⟨⟨hz, hl⟩, fun k u => ?_⟩
      obtain ⟨h1, h2⟩ := hcell k u
      exact ⟨_, h1, .plain _ h2⟩
    · rw [hget j e'] at ho
      rw [hset j e'] at hr
      exact (h.obj j o r ho hr).mono hle
  · obtain ⟨q, h1, h2⟩ := h.glob g hgl
    exact ⟨q, hle _ _ h1, h2⟩

/-- A slice of plain elements among the arguments. -/
theorem open_arg {H : Type} {en : TypeId × Value → H} {base base' : Nat} {spare : Nat → Bool} {held : Bool} {t e : TypeId} {f fuel : Nat} {ks : List PK} {v' : Value} {x : DataW H × List MemPlace}
    (hR : R P ρ σ w) (hc : Calm σ) (ht : P.underlying t = some (.slice e)) (hk : kindsF P f e = some ks) (hce : P.cellsOf e = ks.length) (hval : Value.okWide P w .any base t v') (hd : DataW.trod en P w base' spare held fuel t v'.cells.toList = some x) :
    ∃ ρ' σ' v rows, R P ρ' σ' w ∧ Calm σ' ∧ ρ.le ρ' ∧ VR ρ' v v' ∧ Grow σ σ' ∧ (∀ r ∈ rows, OkL ks r) ∧
      ((v = .slice none 0 0 ∧ rows = []) ∨ ∃ i cap, v = .slice (some ⟨i, 0, none⟩) rows.length cap ∧ i < σ'.n ∧ σ'.get i = some (.cells rows.flatten e true) ∧ rows.length ≤ cap ∧ cap < openCap) := by
  obtain ⟨a0, len, cap, rfl⟩ := okWide_slice ht hval
  have hcells : (Value.slice a0 len cap).cells.toList = [.slice a0 len cap] := rfl
  rw [hcells] at hd
  rcases open_rows ht hk hce hd with h0 | ⟨a, len', cap', rows, h1, h2, h3, h4, h5, h6⟩
  · have h0' : a0 = none ∧ len = 0 ∧ cap = 0 := by simpa using h0
    obtain ⟨rfl, rfl, rfl⟩ := h0'
    exact ⟨ρ, σ, .slice none 0 0, [], hR, hc, Rho.le_refl ρ, .plain _ rfl, Grow.refl σ, by simp, .inl ⟨rfl, rfl⟩⟩
  · have h1' : a0 = some a ∧ len = len' ∧ cap = cap' := by simpa using h1
    obtain ⟨rfl, rfl, rfl⟩ := h1'
    have hok : w.has P .any base a e cap := by
      simp only [Value.okWide, ht, Cell.okWide, Cell.ok] at hval
      exact hval.2.2
    obtain ⟨_, hspot, row, cells, hsh, _⟩ := hok
    have hb : a.block < w.heap.size := by
      unfold World.shape? at hsh
      split at hsh
      · rename_i h; exact (Array.getElem?_eq_some_iff.1 h).1
      · cases hsh
    obtain ⟨ab, ao, asl⟩ := a
    simp only at hspot
    subst hspot
    have hfl : rows.flatten.length = len * ks.length := by
      have : ∀ (l : List (List Value)), (∀ r ∈ l, OkL ks r) → l.flatten.length = l.length * ks.length := by
        intro l
        induction l with
        | nil => simp
        | cons r l ih =>
          intro h
          rw [List.flatten_cons, List.length_append, ih (fun r hr => h r (by simp [hr])), (h r (by simp)).length, List.length_cons, Nat.add_mul]
          omega
      rw [this rows h5, h4]
    have hflat : ∀ v ∈ rows.flatten, flat0 v = true := fun v hv => by
      obtain ⟨r, hr, hv⟩ := List.mem_flatten.1 hv
      exact (h5 r hr).flat v hv
    have hm : cap < openCap := by unfold maxLen at h3; simp [openCap]; omega
    obtain ⟨r1, r2, r3, r4⟩ := hR.addRo hc (p := ⟨ab, ao, len * ks.length, ks.length⟩) (c := rows.flatten) (e := e) hb hce.symm (by simp [hfl]) (fun k u => by
      rw [hfl] at u
      have hk0 : 0 < ks.length := by
        rcases Nat.eq_zero_or_pos ks.length with h | h
        · rw [h] at u; omega
        · exact h
      have hi : k / ks.length < len := by rw [Nat.div_lt_iff_lt_mul hk0]; exact u
      obtain ⟨v, g1, g2⟩ := h6 (k / ks.length) (k % ks.length) hi (Nat.mod_lt _ hk0)
      have hkk : k / ks.length * ks.length + k % ks.length = k := by rw [Nat.mul_comm]; exact Nat.div_add_mod k ks.length
      rw [hkk] at g1
      rw [Addr.add_plain, Addr.add_plain, Nat.add_assoc, hkk] at g2
      obtain ⟨u', e'⟩ := List.getElem?_eq_some_iff.1 g1
      rw [e']
      exact ⟨g2, hflat v (by rw [← e']; exact List.getElem_mem u')⟩)
    refine ⟨_, _, .slice (some ⟨σ.n, 0, none⟩) len cap, rows, r1, r3, r2, ?_, (Grow.refl σ).alloc _, h5, .inr ⟨σ.n, cap, by rw [h4], by simp, by simp, by omega, hm⟩⟩
    exact .slc _ _ _ _ ⟨ab, ao, len * ks.length, ks.length⟩ r4 (by omega)

/-- The rows as one's own data. -/
theorem rows_enc {α : Type} {enc : α → List Value} {ok : α → Prop} {ks : List PK} (h : ∀ r, OkL ks r → ∃ x, ok x ∧ r = enc x) : ∀ rows : List (List Value), (∀ r ∈ rows, OkL ks r) → ∃ l : List α, (∀ x ∈ l, ok x) ∧ rows = l.map enc
  | [], _ => ⟨[], by simp, rfl⟩
  | r :: rows, hr => by
    obtain ⟨x, h1, rfl⟩ := h r (hr r (by simp))
    obtain ⟨l, h2, rfl⟩ := rows_enc h rows fun r hr' => hr r (by simp [hr'])
    exact ⟨x :: l, fun y hy => by
      rcases List.mem_cons.1 hy with rfl | hy
      · exact h1
      · exact h2 y hy, rfl⟩
theorem open_sl {H : Type} {en : TypeId × Value → H} {base base' : Nat} {spare : Nat → Bool} {held : Bool} {t e : TypeId} {f fuel sz : Nat} {ks : List PK} {v' : Value} {x : DataW H × List MemPlace} {α : Type} {enc : α → List Value} {ok : α → Prop}
    (hR : R P ρ σ w) (hc : Calm σ) (ht : P.underlying t = some (.slice e)) (hk : kindsF P f e = some ks) (hce : P.cellsOf e = ks.length) (hsz : ∀ x, (enc x).length = sz) (hen : ∀ r, OkL ks r → ∃ x, ok x ∧ r = enc x)
    (hval : Value.okWide P w .any base t v') (hd : DataW.trod en P w base' spare held fuel t v'.cells.toList = some x) :
    ∃ ρ' σ' v, ∃ l : List α, R P ρ' σ' w ∧ Calm σ' ∧ ρ.le ρ' ∧ VR ρ' v v' ∧ Grow σ σ' ∧ (∀ x ∈ l, ok x) ∧ Sl σ' e sz enc v l := by
  obtain ⟨ρ', σ', v, rows, h1, h2, h3, h4, h5, h6, h7⟩ := open_arg hR hc ht hk hce hval hd
  obtain ⟨l, h8, rfl⟩ := rows_enc hen rows h6
  refine ⟨ρ', σ', v, l, h1, h2, h3, h4, h5, h8, ?_⟩
  rcases h7 with ⟨rfl, h9⟩ | ⟨i, cap, rfl, h9, h10, h11, h12⟩
  · exact .inl ⟨rfl, by simpa using h9⟩
  · rw [List.length_map] at h11 ⊢
    exact Sl.all hsz (by rw [List.flatMap_def]; exact h10) h9 (.inr ⟨h11, h12⟩)
end
end Go.Sm
/- From the rules to a law's contract. -/
set_option linter.unusedVariables false
namespace Go.Sm
open Go Go.WideShapes Go.ChangeShapes Go.RowKit

def isTrueP : Out → CSt → Prop := fun o _ => o = .ret (.bool true) false
theorem Frm.below {ρ ρ' : Rho} {σ σ' : CSt} {w w' : World} (h : Frm ρ σ w ρ' σ' w') (hc : Calm σ) : Below w.heap.size w w' :=
  ⟨h.os, h.tape, h.output, h.size, fun k hk => h.keep k hk fun i p _ hr => absurd hr (hc i)⟩

section
variable {H : Type} {enc : TypeId × Value → H} {P : Program}
theorem trodAll_stays (hl : laidOutB P = true) {W W' : World} (hb : Below W.heap.size W W') : ∀ (ts : List TypeId) (vs : List Value) (ds : List (DataW H)) (p : List MemPlace), (∀ t ∈ ts, P.readableRec t = true ∧ t < P.types.size) →
    DataW.TrodAll enc P W 0 (fun _ => true) true ts vs ds p → (∀ x ∈ p, x.block < W.heap.size) → DataW.TrodAll enc P W' 0 (fun b => decide (b < W.heap.size)) true ts vs ds p
  | [], vs, ds, p, _, h, _ => by
    cases vs <;> cases ds <;> simp_all [DataW.TrodAll]
  | t :: ts, [], ds, p, _, h, _ => by simp [DataW.TrodAll] at h
  | t :: ts, v :: vs, [], p, _, h, _ => by simp [DataW.TrodAll] at h
  | t :: ts, v :: vs, d :: ds, p, ht, h, hp => by
    obtain ⟨p1, p2, h1, h2, rfl⟩ := h
    exact ⟨p1, p2, Below.trod hl (ht t (by simp)).1 (ht t (by simp)).2 h1 hb fun x hx => hp x (by simp [hx]), trodAll_stays hl hb ts vs ds p2 (fun t h => ht t (by simp [h])) h2 fun x hx => hp x (by simp [hx]), rfl⟩

theorem law_calls {E : Env} (G : Good E.P) (HE : ExtOk E) (HG : GamOk E) {f : FuncId} {fn : Func} {s : ChangeSpec} (hl : laidOutB E.P = true) (hts : fn.params.toList.all (fun t => E.P.readableRec t && decide (t < E.P.types.size)) = true) {bt : TypeId}
    (hrt : fn.resultTypes = #[bt]) (hbt : E.P.underlying bt = some .bool) (hvars : s.vars = []) {W : World} {args : Array Value} {ds gs : List (DataW H)} {before : List MemPlace} (hW : DataW.Whole enc E.P fn.params.toList s.vars false W args.toList ds gs before)
    (hfn : s.fn H (ds ++ gs) = { results := [.lit (.bool true)], args := ds }) {ρ : Rho} {σ : CSt} {aa : Array Value} (hR : R E.P ρ σ W) (hc : Calm σ) (hA : AsR ρ aa args) (hw : Sm.W E (.fn f aa none) σ isTrueP) :
    Calls E.P f args W fun e W' => ∃ v, e = .returned v ∧ s.post enc E.P fn false true false false W args v W' := by
  have hW' := hW
  obtain ⟨p, q, hA0, hV, rfl, _, _⟩ := hW
  rw [hvars] at hV
  obtain ⟨rfl, rfl⟩ := trodVars_none hV
  refine (Sm.W.calls G HE HG (Q := fun v _ => v = .bool true) (hw.weaken fun o s h => ⟨_, h, rfl⟩) hR hA).mono fun e W' ⟨v, v', σ', ρ', he, hv, _, hvr, hf⟩ => ?_
  subst hv
  have := hvr.bool
  subst this
  subst he
  have hb := hf.below hc
  have hlt : ∀ x ∈ p, x.block < W.heap.size := fun x hx => by simpa using hW'.lt x (by simp [hx])
  refine ⟨_, rfl, ds, [], p ++ [], [], p, [], hW', ?_, ?_, ?_, hb.frame _, fun h => by cases h⟩
  · rw [hfn, hrt]
    exact ⟨[], [], ⟨1, by simp [DataW.trod, hbt, Value.cells]⟩, rfl, rfl⟩
  · rw [hfn]
    refine trodAll_stays hl hb _ _ _ _ (fun t ht => ?_) hA0 hlt
    have := List.all_eq_true.1 hts t ht
    simpa using this
  · rw [hfn, hvars]
    rfl
end
end Go.Sm
/- append to a slice of one's own. -/
set_option linter.unusedVariables false
namespace Go.Sm
open Go
section
variable {α : Type} {P : Program} {σ : CSt} {e : TypeId} {sz b : Nat} {enc : α → List Value} {v x : Value} {l m : List α} {f : TF} {ts : Array TypeId}

theorem first_sl (hsz : ∀ x, (enc x).length = sz) (h : Sl σ e sz enc x m) : lenOf? x = some m.length ∧ firstOf σ sz m.length x = some (m.flatMap enc) := by
  rcases h with ⟨rfl, rfl⟩ | ⟨i, off, cap, row, ro, rfl, hg, hi, hrow, hlen, hcap⟩
  · exact ⟨rfl, rfl⟩
  · refine ⟨rfl, ?_⟩
    rw [firstOf_sl, hg]
    simp only [firstK_some, ld, if_pos hlen, hrow]
theorem appendF_own (hsz : ∀ x, (enc x).length = sz) (hc : ∀ x, cokL (enc x) = true) (hfs : f.size = sz) (h0 : 0 < sz) (h1 : 0 < f.bytes) (h2 : f.zero.map List.length = some sz) (hown : Own b σ e enc v l) (hb : b ≤ σ.n)
    (hbig : (l.length + m.length) * f.bytes ≤ 2 ^ 47) (hl : l.length < 2 ^ 62) : ∃ v' σ', appendF σ e f v m.length (m.flatMap enc) = some (v', σ') ∧ Own b σ' e enc v' (l ++ m) ∧ GrowB b σ σ' := by
  have hml := enc_length enc hsz m
  have hll := enc_length enc hsz l
  have hcond : (m.flatMap enc).length = m.length * f.size ∧ cokL (m.flatMap enc) = true ∧ 0 < f.size ∧ 0 < f.bytes ∧ f.zero.map List.length = some f.size := by
    rw [hfs]; exact ⟨hml, cokL_enc hc m, h0, h1, h2⟩
  unfold appendF
  rw [if_pos hcond]
  rcases hown with ⟨rfl, rfl⟩ | ⟨i, cap, rfl, hbi, hin, hg, hcap⟩
  · by_cases hm : m.length = 0
    · have : m = [] := List.eq_nil_of_length_eq_zero hm
      subst this
      exact ⟨.slice none 0 0, σ, by simp, Own.nil, GrowB.refl b σ⟩
    · refine ⟨.slice (some ⟨σ.n, 0, none⟩) m.length openCap, σ.alloc (.cells (m.flatMap enc) e false), ?_, .inr ⟨σ.n, openCap, rfl, hb, by simp, by simp, .inl rfl⟩, (GrowB.refl b σ).alloc hb _⟩
      simp only [hm, if_false]
      rw [if_pos (by simpa using hbig)]
  · by_cases hm : m.length = 0
    · have : m = [] := List.eq_nil_of_length_eq_zero hm
      subst this
      refine ⟨.slice (some ⟨i, 0, none⟩) l.length cap, σ, ?_, ?_, GrowB.refl b σ⟩
      · simp only [List.length_nil, if_true]
        rw [if_pos]
        rcases hcap with rfl | ⟨rfl, rfl⟩
        · simp only [openCap]; omega
        · simp
      · rw [List.append_nil]
        exact .inr ⟨i, cap, rfl, hbi, hin, hg, hcap⟩
    · simp only [hm, if_false, hg]
      rcases hcap with rfl | ⟨rfl, rfl⟩
      · refine ⟨.slice (some ⟨σ.n, 0, none⟩) (l ++ m).length openCap, (σ.put i .dead).alloc (.cells ((l ++ m).flatMap enc) e false), ?_, .inr ⟨σ.n, openCap, rfl, hb, by simp, by simp, .inl rfl⟩, ((GrowB.refl b σ).put hbi _).alloc hb _⟩
        simp only [if_true, and_self]
        rw [if_neg, if_pos hbig]
        · have : ld (l.flatMap enc) 0 (l.length * f.size) = some (l.flatMap enc) := by
            rw [hfs, ← hll]
            unfold ld
            rw [if_pos (by omega), List.drop_zero, List.take_of_length_le (Nat.le_refl _)]
          rw [this]
          simp
        · rw [hll, hfs, Nat.add_mul]
          have : 0 < m.length * sz := Nat.mul_pos (by omega) h0
          omega
      · refine ⟨.slice (some ⟨σ.n, 0, none⟩) m.length openCap, σ.alloc (.cells (m.flatMap enc) e false), ?_, .inr ⟨σ.n, openCap, by simp, hb, by simp, by simp, .inl rfl⟩, (GrowB.refl b σ).alloc hb _⟩
        rw [if_neg (by simp [openCap]), if_neg (by rw [List.length_nil]; omega)]
        simp only [List.length_nil, Nat.zero_add, Nat.zero_mul] at hbig ⊢
        rw [if_pos hbig]
        simp [ld]
/-- append(s, x...), s one's own. -/
theorem append_own (hf : ts[0]?.bind (elemF P) = some (e, f)) (hu : (ts[1]?.bind (elemT P)).isSome = true) (hsz : ∀ x, (enc x).length = sz) (hc : ∀ x, cokL (enc x) = true) (hfs : f.size = sz) (h0 : 0 < sz) (h1 : 0 < f.bytes) (h2 : f.zero.map List.length = some sz)
    (hown : Own b σ e enc v l) (hb : b ≤ σ.n) (hx : Sl σ e sz enc x m) (hbig : (l.length + m.length) * f.bytes ≤ 2 ^ 47) (hl : l.length < 2 ^ 62) :
    ∃ v' σ', appendOp P σ ts v x = some (v', σ') ∧ Own b σ' e enc v' (l ++ m) ∧ GrowB b σ σ' := by
  obtain ⟨g1, g2⟩ := first_sl hsz hx
  obtain ⟨v', σ', g3, g4, g5⟩ := appendF_own hsz hc hfs h0 h1 h2 hown hb hbig hl
  refine ⟨v', σ', ?_, g4, g5⟩
  rw [appendOp_K (by rw [hf]; rfl) hu, hf]
  simp only [appK, g1, hfs, g2, Option.bind_some]
  exact g3
end
end Go.Sm
/- append into room that is there. -/
set_option linter.unusedVariables false
namespace Go.Sm
open Go
section
variable {α : Type} {P : Program} {σ : CSt} {e : TypeId} {sz b : Nat} {enc : α → List Value} {v x : Value} {l m : List α} {f : TF} {ts : Array TypeId}
theorem append_fit (hf : ts[0]?.bind (elemF P) = some (e, f)) (hu : (ts[1]?.bind (elemT P)).isSome = true) (hsz : ∀ x, (enc x).length = sz) (hc : ∀ x, cokL (enc x) = true) (hfs : f.size = sz) (h0 : 0 < sz) (h1 : 0 < f.bytes) (h2 : f.zero.map List.length = some sz)
    {g : Nat} {zs : List Value} (hg : σ.get g = some (.cells (l.flatMap enc ++ zs) e false)) (hx : Sl σ e sz enc x m) (hz : m.length * sz ≤ zs.length) (hl : l.length < 2 ^ 62) :
    ∃ σ', appendOp P σ ts (.slice (some ⟨g, 0, none⟩) l.length openCap) x = some (.slice (some ⟨g, 0, none⟩) (l ++ m).length openCap, σ') ∧ σ'.get g = some (.cells ((l ++ m).flatMap enc ++ zs.drop (m.length * sz)) e false) ∧ σ'.n = σ.n ∧ ∀ j, j ≠ g → σ'.get j = σ.get j := by
  obtain ⟨g1, g2⟩ := first_sl hsz hx
  have hml := enc_length enc hsz m
  have hll := enc_length enc hsz l
  rw [appendOp_K (by rw [hf]; rfl) hu, hf]
  simp only [appK, g1, hfs, g2, Option.bind_some]
  have hcond : (m.flatMap enc).length = m.length * f.size ∧ cokL (m.flatMap enc) = true ∧ 0 < f.size ∧ 0 < f.bytes ∧ f.zero.map List.length = some f.size := by
    rw [hfs]; exact ⟨hml, cokL_enc hc m, h0, h1, h2⟩
  unfold appendF
  rw [if_pos hcond]
  by_cases hm : m.length = 0
  · have : m = [] := List.eq_nil_of_length_eq_zero hm
    subst this
    refine ⟨σ, ?_, by simpa using hg, rfl, fun _ _ => rfl⟩
    simp only [List.length_nil, if_true, List.append_nil]
    rw [if_pos (by simp only [openCap]; omega)]
  · refine ⟨σ.put g (.cells ((l ++ m).flatMap enc ++ zs.drop (m.length * sz)) e false), ?_, by simp, rfl, fun j hj => by rw [CSt.get_put, if_neg hj]⟩
    simp only [hm, if_false, hg, if_true, and_self]
    have hle : 0 + (l.length + m.length) * f.size ≤ (l.flatMap enc ++ zs).length := by
      rw [List.length_append, hll, hfs, Nat.add_mul]; omega
    rw [if_pos hle]
    have hst : st (l.flatMap enc ++ zs) (0 + l.length * f.size) (m.flatMap enc) = some ((l ++ m).flatMap enc ++ zs.drop (m.length * sz)) := by
      unfold st
      rw [if_pos (by rw [List.length_append, hll, hml, hfs]; omega), hfs, Nat.zero_add, ← hll, List.take_left, ← List.drop_drop, List.drop_left, hml, List.flatMap_append]
    rw [hst]
    simp
end
section
variable {P : Program} {σ : CSt} {ev : Operand → Value} {dst : Option Tmp} {ty : TypeId} {pos : String} {after : Array Edge} {g : Option (Nat × Bool)}
@[simp] theorem copE_makeFunc (f : FuncId) (first captured : Array Operand) : cop P σ ev ⟨dst, .makeFunc (.func f) first captured, ty, pos, after, g⟩ = .val (.func (.func f) (first.map ev) (captured.map ev)) σ := (rfl)
end
end Go.Sm
/- What may change: objects of some types that were made behind a point. -/
set_option linter.unusedVariables false
namespace Go.Sm
open Go
def Fr (T : TypeId → Prop) (b : Nat) (σ σ' : CSt) : Prop := σ.n ≤ σ'.n ∧ ∀ j, j < σ.n → (j < b ∨ ∀ row e ro, σ.get j = some (.cells row e ro) → ¬ T e) → σ'.get j = σ.get j
section
variable {T T' : TypeId → Prop} {b b' : Nat} {s0 s1 s2 : CSt}
theorem Fr.refl (T : TypeId → Prop) (b : Nat) (σ : CSt) : Fr T b σ σ := ⟨Nat.le_refl _, fun _ _ _ => rfl⟩
theorem Grow.fr (h : Grow s0 s1) : Fr T b s0 s1 := ⟨h.n, fun j hj _ => h.old j hj⟩
theorem Fr.trans (h : Fr T b s0 s1) (h' : Fr T b s1 s2) : Fr T b s0 s2 :=
  ⟨Nat.le_trans h.1 h'.1, fun j hj hc => by rw [h'.2 j (Nat.lt_of_lt_of_le hj h.1) (by rw [h.2 j hj hc]; exact hc), h.2 j hj hc]⟩
theorem Fr.mono (h : Fr T b s0 s1) (hT : ∀ e, T e → T' e) (hb : b' ≤ b) : Fr T' b' s0 s1 :=
  ⟨h.1, fun j hj hc => h.2 j hj (hc.elim (fun h => .inl (Nat.lt_of_lt_of_le h hb)) fun hc => .inr fun row e ro hg ht => hc row e ro hg (hT e ht))⟩
theorem Fr.alloc (h : Fr T b s0 s1) (o : CObj) : Fr T b s0 (s1.alloc o) := h.trans ((Grow.refl s1).alloc o).fr
theorem Fr.put (h : Fr T b s0 s1) {i : Nat} (hi : b ≤ i) {row : List Value} {e : TypeId} {ro : Bool} (hg : s1.get i = some (.cells row e ro)) (ht : T e) (o : CObj) : Fr T b s0 (s1.put i o) :=
  h.trans ⟨Nat.le_refl _, fun j hj hc => by
    rw [CSt.get_put]
    by_cases e' : j = i
    · subst e'
      rcases hc with hc | hc
      · omega
      · exact absurd ht (hc _ _ _ hg)
    · rw [if_neg e']⟩
theorem Fr.new (h : Fr T b s0 s1) {i : Nat} (hi : s0.n ≤ i) (o : CObj) : Fr T b s0 (s1.put i o) := ⟨h.1, fun j hj hc => by rw [CSt.get_put, if_neg (by omega)]; exact h.2 j hj hc⟩
theorem Fr.growB (h : Fr T b s0 s1) (hb : b ≤ s0.n) : GrowB b s0 s1 := ⟨h.1, fun j hj => h.2 j (Nat.lt_of_lt_of_le hj hb) (.inl hj)⟩
theorem Fr.grow (h : Fr T b s0 s1) (hb : s0.n ≤ b) : Grow s0 s1 := ⟨h.1, fun j hj => h.2 j hj (.inl (Nat.lt_of_lt_of_le hj hb))⟩
theorem Fr.get (h : Fr T b s0 s1) {i : Nat} {o : CObj} (hg : s0.get i = some o) (hi : i < s0.n) (hc : i < b ∨ ∀ row e ro, o = .cells row e ro → ¬ T e) : s1.get i = some o := by
  rw [h.2 i hi (hc.elim .inl fun hc => .inr fun row e ro h1 => hc row e ro (by rw [hg] at h1; exact Option.some.inj h1)), hg]
variable {α : Type} {e : TypeId} {sz : Nat} {enc : α → List Value} {v : Value} {l : List α}
theorem Sl.fr (h : Sl s0 e sz enc v l) (ht : ¬ T e) (hg : Fr T b s0 s1) : Sl s1 e sz enc v l := by
  rcases h with h | ⟨i, off, cap, row, ro, h1, h2, h3, h4⟩
  · exact .inl h
  · exact .inr ⟨i, off, cap, row, ro, h1, hg.get h2 h3 (.inr fun row' e' ro' he => by cases he; exact ht), Nat.lt_of_lt_of_le h3 hg.1, h4⟩
theorem Own.fr (h : Own b' s0 e enc v l) (ht : ¬ T e) (hg : Fr T b s0 s1) : Own b' s1 e enc v l := by
  rcases h with h | ⟨i, cap, h1, hb, hi, h2, h3⟩
  · exact .inl h
  · exact .inr ⟨i, cap, h1, hb, Nat.lt_of_lt_of_le hi hg.1, hg.get h2 hi (.inr fun row' e' ro' he => by cases he; exact ht), h3⟩
end
section
variable {P : Program} {σ : CSt} {ev : Operand → Value} {dst : Option Tmp} {ty : TypeId} {pos : String} {after : Array Edge} {g : Option (Nat × Bool)}
def nilK (σ : CSt) : Value → OpR
  | .pointer (some a) => .val (.pointer (some a)) σ
  | .func (.func f) fs cs => .val (.func (.func f) fs cs) σ
  | .func (.yield f) fs cs => .val (.func (.yield f) fs cs) σ
  | .iface t v => .val (.iface t v) σ
  | _ => .fail
@[simp] theorem copE_nilCheck (x : Operand) : cop P σ ev ⟨dst, .nilCheck x, ty, pos, after, g⟩ = nilK σ (ev x) := (rfl)
@[simp] theorem nilK_ptr (a : Addr) : nilK σ (.pointer (some a)) = .val (.pointer (some a)) σ := (rfl)
@[simp] theorem nilK_fn (f : FuncId) (fs cs : Array Value) : nilK σ (.func (.func f) fs cs) = .val (.func (.func f) fs cs) σ := (rfl)
@[simp] theorem nilK_yield (f : Nat) (fs cs : Array Value) : nilK σ (.func (.yield f) fs cs) = .val (.func (.yield f) fs cs) σ := (rfl)
end
end Go.Sm
/- Ranges over functions, as equations. -/
set_option linter.unusedVariables false
set_option linter.unusedSimpArgs false
namespace Go.Sm
open Go
variable {E : Env} {σ : CSt}
/-- Behind the function that is ranged over. -/
def krange (E : Env) (x : Ctx) (a : CAct) (L : Nat) (Q : Out → CSt → Prop) : Out → CSt → Prop := fun o σ =>
  match o with
  | .ret _ _ =>
    match σ.get L with
    | some (.loop st pend fn tm sz ps asg body) =>
      if st = .busy then False else
      match pend with
      | none => Q (.code .normal a) (σ.put L (.loop .exhausted pend fn tm sz ps asg body))
      | some c => W E (.code x c a) (σ.put L (.loop .exhausted pend fn tm sz ps asg body)) Q
    | _ => False
  | .pan v => Q (.code (.panic v) a) σ
  | _ => False
/-- Behind the assignments of a round. -/
def kround1 (E : Env) (L : Nat) (fn : FuncId) (body : Code) (Q : Out → CSt → Prop) : Out → CSt → Prop := fun o σ =>
  match o with
  | .code .normal a =>
    match σ.get L with
    | some (.loop .ready pend fn' tm' sz' ps' asg' body') =>
      W E (.code ⟨fn, some L, none⟩ body a) (σ.put L (.loop .busy pend fn' tm' sz' ps' asg' body')) fun o σ2 =>
        match o with
        | .code e a2 =>
          match jumpOf e with
          | some j =>
            match σ2.get L with
            | some (.loop st _ fn' tm' sz' ps' asg' body') => Q (.ret (.bool j.isNone) false) (σ2.put L (.loop (if j.isNone then .ready else .done) j fn' tm' sz' ps' asg' body'))
            | _ => False
          | none => match e with | .panic v => if a2.df.isEmpty then (match E.P.funcs[fn]? with | some _ => Q (.pan v) σ2 | none => False) else False | _ => False
        | _ => False
    | _ => False
  | _ => False
theorem W_rangeFunc {x : Ctx} {f : Operand} {ps : Array Tmp} {asg body : Code} {a : CAct} {σ : CSt} {Q : Out → CSt → Prop} {g : FuncId} {fs cs : Array Value} (hf : a.eval f = .func (.func g) fs cs) (ha : aroundOk σ x.rnd = true) :
    W E (.code x (.rangeFunc f ps asg body) a) σ Q = W E (.fn g (fs ++ #[.func (.yield σ.n) #[] #[]] ++ cs) none) (σ.alloc (.loop .ready none x.f a.tm a.sz ps asg body)) (krange E x a σ.n Q) := by
  rw [W_eq]
  simp only [F, ha, hf, callv, Bool.not_true, Bool.false_eq_true, if_false]
  rfl
theorem W_round {L : Nat} {args : Array Value} {σ : CSt} {Q : Out → CSt → Prop} {st : LoopState} {pend : Option Code} {fn : FuncId} {tm : Tr Value} {sz : Nat} {ps : Array Tmp} {asg body : Code} (hg : σ.get L = some (.loop st pend fn tm sz ps asg body)) (hs : args.size = ps.size) :
    W E (.round L args) σ Q = W E (.code ⟨fn, some L, none⟩ asg { tm := (ps.toList.zip args.toList).foldl (fun t p => if p.1 < sz then t.set p.1 p.2 else t) tm, sz := sz, df := [], tk := false }) σ (kround1 E L fn body Q) := by
  rw [W_eq]
  simp only [F, hg, hs, if_true]
  rfl
@[simp] theorem wres_yield (x : Ctx) (a : CAct) (d : Option Tmp) (K : CAct → CSt → Prop) (Q : Out → CSt → Prop) (L : Nat) (fs cs args : Array Value) (h : extOf E (.func (.yield L) fs cs) args σ = none) :
    wres E x a d K Q σ (.call (.func (.yield L) fs cs) args) = W E (.round L (fs ++ args)) σ (kret a d K Q) := by
  simp only [wres, h, callv]
  rfl
@[simp] theorem dres_yield (ops : Array Oper) (a0 a : CAct) (d : Option Tmp) (K : CAct → CSt → Prop) (Q : Out → CSt → Prop) (L : Nat) (fs cs args : Array Value) (h : extOf E (.func (.yield L) fs cs) args σ = none) :
    dres E ops a0 a d K Q σ (.call (.func (.yield L) fs cs) args) = W E (.round L (fs ++ args)) σ (kretd ops a0 a d K Q) := by
  simp only [dres, h, callv]
  rfl
@[simp] theorem ext_yield (L : Nat) (fs cs args : Array Value) (σ : CSt) : extOf E (.func (.yield L) fs cs) args σ = none := (rfl)
end Go.Sm
/- Strings in order. -/
set_option linter.unusedVariables false
set_option linter.unusedSimpArgs false
namespace Go.Sm
open Go
def bl : List UInt8 → List UInt8 → Bool := Op.bytesLess
theorem bl_irrefl : ∀ x : List UInt8, bl x x = false
  | [] => rfl
  | a :: x => by
    have h := bl_irrefl x
    unfold bl at h ⊢
    simp [Op.bytesLess, h]
theorem bl_trans : ∀ {x y z : List UInt8}, bl x y = true → bl y z = true → bl x z = true
  | _, [], _, h, _ => by unfold bl at h; simp [Op.bytesLess] at h
  | _, _ :: _, [], _, h => by unfold bl at h; simp [Op.bytesLess] at h
  | [], _ :: _, _ :: _, _, _ => rfl
  | a :: x, b :: y, c :: z, h1, h2 => by
    have ih := @bl_trans x y z
    unfold bl at h1 h2 ih ⊢
    simp only [Op.bytesLess, Bool.or_eq_true, decide_eq_true_eq, Bool.and_eq_true, beq_iff_eq] at h1 h2 ⊢
    rcases h1 with h1 | ⟨rfl, h1⟩
    · rcases h2 with h2 | ⟨rfl, h2⟩
      · exact .inl (UInt8.lt_trans h1 h2)
      · exact .inl h1
    · rcases h2 with h2 | ⟨rfl, h2⟩
      · exact .inl h2
      · exact .inr ⟨rfl, ih h1 h2⟩
theorem bl_tri : ∀ {x y : List UInt8}, bl x y = false → bl y x = false → x = y
  | [], [], _, _ => rfl
  | [], _ :: _, h, _ => by unfold bl at h; simp [Op.bytesLess] at h
  | _ :: _, [], _, h => by unfold bl at h; simp [Op.bytesLess] at h
  | a :: x, b :: y, h1, h2 => by
    have ih := @bl_tri x y
    unfold bl at h1 h2 ih
    simp only [Op.bytesLess, Bool.or_eq_false_iff, decide_eq_false_iff_not, Bool.and_eq_false_iff] at h1 h2
    have e : a = b := UInt8.le_antisymm (UInt8.not_lt.1 h2.1) (UInt8.not_lt.1 h1.1)
    subst e
    rw [ih (by simpa using h1.2) (by simpa using h2.2)]
theorem bl_asymm {x y : List UInt8} (h : bl x y = true) : bl y x = false := by
  cases h' : bl y x with
  | false => rfl
  | true => have := bl_trans h h'; rw [bl_irrefl] at this; cases this
theorem ba_list_inj {s u : ByteArray} (h : s.toList = u.toList) : s = u := by
  have h3 : s.data.toList = u.data.toList := by rw [ByteArray.toList_eq, ByteArray.toList_eq] at h; exact h
  cases s; cases u
  simp only at h3
  rw [Array.toList_inj.1 h3]
/-- One key ahead of another. -/
def klt (s u : ByteArray) : Bool := bl s.toList u.toList
section
variable {P : Program} {σ : CSt} {t : TypeId} {x y : Operand} {s u : ByteArray}
@[simp] theorem bin_strlt : binF P σ .lss t x y (.string s) (.string u) = .val (.bool (klt s u)) σ := by simp [binF, eqGuard, binOp, Op.stringOp, klt, bl]
@[simp] theorem bin_strgt : binF P σ .gtr t x y (.string s) (.string u) = .val (.bool (!(klt s u || s.toList == u.toList))) σ := by simp [binF, eqGuard, binOp, Op.stringOp, klt, bl]
@[simp] theorem bin_strle : binF P σ .leq t x y (.string s) (.string u) = .val (.bool (klt s u || s.toList == u.toList)) σ := by simp [binF, eqGuard, binOp, Op.stringOp, klt, bl]
@[simp] theorem bin_strge : binF P σ .geq t x y (.string s) (.string u) = .val (.bool (!klt s u)) σ := by simp [binF, eqGuard, binOp, Op.stringOp, klt, bl]
end
end Go.Sm
/- Two structs of plain cells against each other. -/
set_option linter.unusedVariables false
set_option linter.unusedSimpArgs false
namespace Go.Sm
open Go

theorem ba_eq {a b : ByteArray} (h : (a == b) = true) : a = b := by
  have h2 : (a.data == b.data) = true := h
  have h3 : a.data = b.data := eq_of_beq h2
  cases a; cases b
  cases h3
  rfl
theorem ba_self (a : ByteArray) : (a == a) = true := by
  have : (a.data == a.data) = true := beq_self_eq_true _
  exact this
def KK : PK → Value → Prop
  | .int k, v => ∃ n, v = .int k n
  | .bool, v => ∃ b, v = .bool b
  | .str, v => ∃ s, v = .string s
def KL : List PK → List Value → Prop
  | [], [] => True
  | k :: ks, v :: vs => KK k v ∧ KL ks vs
  | _, _ => False
theorem KL.length : ∀ {ks : List PK} {vs : List Value}, KL ks vs → vs.length = ks.length
  | [], [], _ => rfl
  | _ :: ks, _ :: vs, h => by simp [KL.length h.2]
theorem KL.split : ∀ {ks ls : List PK} {vs : List Value}, KL (ks ++ ls) vs → KL ks (vs.take ks.length) ∧ KL ls (vs.drop ks.length)
  | [], _, vs, h => ⟨by simp [KL], by simpa using h⟩
  | _ :: ks, ls, v :: vs, h => by
    obtain ⟨h1, h2⟩ := KL.split (ks := ks) (ls := ls) (vs := vs) h.2
    exact ⟨⟨h.1, h1⟩, h2⟩

def eqOkF (P : Program) : Nat → TypeId → Bool
  | 0, _ => false
  | f + 1, t =>
    match P.underlying t with
    | some (.int _) | some .bool | some .string => true
    | some (.struct fs) => !P.stoodInHeld t && fs.toList.all fun fl => fl.name != "_" && eqOkF P f fl.type && ((P.info? fl.type).map (·.size) == some (P.cellsOf fl.type)) && decide (0 < P.cellsOf fl.type)
    | _ => false
def wrapV (P : Program) (t : TypeId) (xs : List Value) : Value := if isAggT P t then .agg xs.toArray else xs.getD 0 undef

section
variable {P : Program}
/-- A comparison of two structs of plain cells. -/
theorem pureRun_program : pureRun P program = some P := rfl
theorem pureRun_isAgg {t : TypeId} {d : TypeDesc} (h : P.underlying t = some d) : pureRun P (isAgg t) = some (isAggT P t) := by
  unfold isAgg isAggT
  rw [pureRun_bind, pureRun_underlying, h, Option.bind_some]
  cases d <;> rfl
theorem pureRun_sizeOf {t : TypeId} {n : Nat} (h : (P.info? t).map (·.size) = some n) : pureRun P (Go.sizeOf t) = some n := by
  unfold Go.sizeOf typeInfo
  rw [pureRun_bind, pureRun_bind, pureRun_program, Option.bind_some]
  cases hi : P.info? t with
  | none => rw [hi] at h; cases h
  | some i => rw [hi] at h; simp at h; simp [hi, h]
theorem kinds_und {f : Nat} {t : TypeId} {ks : List PK} (h : kindsF P f t = some ks) : ∃ d, P.underlying t = some d ∧ (isAggT P t = false → ks.length = 1) := by
  cases f with
  | zero => cases h
  | succ f =>
    unfold kindsF at h
    cases hu : P.underlying t with
    | none => rw [hu] at h; cases h
    | some d =>
      rw [hu] at h
      refine ⟨d, rfl, fun ha => ?_⟩
      cases d with
      | int k => cases h; rfl
      | bool => cases h; rfl
      | string => cases h; rfl
      | struct fs => simp [isAggT, hu] at ha
      | _ => cases h
/-- A part of a struct. -/
theorem part_wrap {f : Nat} {t : TypeId} {ks : List PK} (h : kindsF P f t = some ks) (hc : ks.length = P.cellsOf t) (hs : (P.info? t).map (·.size) = some (P.cellsOf t)) {xs : List Value} {off : Nat} (hl : off + ks.length ≤ xs.length) :
    pureRun P (part t xs.toArray off) = some (wrapV P t ((xs.drop off).take ks.length)) := by
  obtain ⟨d, hu, h1⟩ := kinds_und h
  unfold part wrapV
  rw [pureRun_bind, pureRun_isAgg hu, Option.bind_some]
  cases ha : isAggT P t with
  | true =>
    simp only [if_true]
    rw [pureRun_bind, pureRun_sizeOf hs, Option.bind_some, hc]
    have : xs.toArray.extract off (off + P.cellsOf t) = ((xs.drop off).take (P.cellsOf t)).toArray := by
      rw [List.extract_toArray, List.extract_eq_take_drop]
      simp
    rw [this]
    rfl
  | false =>
    have h2 := h1 ha
    rw [h2] at hl ⊢
    have h3 : off < xs.length := by omega
    have h4 : xs.toArray[off]? = some xs[off] := by simp [h3]
    simp only [Bool.false_eq_true, if_false]
    rw [h4]
    have : ((xs.drop off).take 1).getD 0 undef = xs[off] := by
      rw [List.drop_eq_getElem_cons h3]
      rfl
    rw [this]
    rfl

theorem eq_loop {f d : Nat} (ih : ∀ t ks, kindsF P f t = some ks → eqOkF P f t = true → ∀ xs ys : List Value, KL ks xs → KL ks ys → ∃ b, pureRun P (Op.equalIn d t (wrapV P t xs) (wrapV P t ys)) = some b ∧ (b = true ↔ xs = ys)) {xs ys : List Value} :
    ∀ (l : List Field) (off : Nat) (ks : List PK), kindsL P (kindsF P f) l off = some ks → (∀ fl ∈ l, (fl.name != "_") = true ∧ eqOkF P f fl.type = true ∧ (P.info? fl.type).map (·.size) = some (P.cellsOf fl.type) ∧ 0 < P.cellsOf fl.type) → KL ks (xs.drop off) → KL ks (ys.drop off) →
      ∃ b : Bool, pureRun P (forIn l ((none, ()) : Option Bool × Unit) fun f __s => if f.name ≠ "_" then do
                let __do_lift ← part f.type xs.toArray f.offset
                let __do_lift_1 ← part f.type ys.toArray f.offset
                let __do_lift ← Op.equalIn d f.type __do_lift __do_lift_1
                if (!__do_lift) = true then pure (ForInStep.done (some false, ()))
                  else pure (ForInStep.yield (none, ()))
              else pure (ForInStep.yield (none, ()))) = some (if b = true then (none, ()) else (some false, ())) ∧ (b = true ↔ xs.drop off = ys.drop off)
  | [], off, ks, h, _, hx, hy => by
    simp only [kindsL, Option.some.injEq] at h
    subst h
    have e1 : xs.drop off = [] := List.eq_nil_of_length_eq_zero (by simpa using hx.length)
    have e2 : ys.drop off = [] := List.eq_nil_of_length_eq_zero (by simpa using hy.length)
    exact ⟨true, rfl, by simp [e1, e2]⟩
  | fl :: l, off, ks, h, hf, hx, hy => by
    unfold kindsL at h
    split at h
    · rename_i ho
      split at h
      · rename_i k1 hk1
        split at h
        · rename_i hc
          rw [Option.map_eq_some_iff] at h
          obtain ⟨k2, h2, rfl⟩ := h
          obtain ⟨f1, f2, f3, f4⟩ := hf fl (by simp)
          have f1' : fl.name ≠ "_" := by simpa using f1
          obtain ⟨x1, x2⟩ := hx.split
          obtain ⟨y1, y2⟩ := hy.split
          rw [List.drop_drop] at x2 y2
          have lx := hx.length
          have ly := hy.length
          simp only [List.length_append, List.length_drop] at lx ly
          have p1 := part_wrap hk1 hc f3 (xs := xs) (off := off) (by omega)
          have p2 := part_wrap hk1 hc f3 (xs := ys) (off := off) (by omega)
          obtain ⟨b1, g1, g2⟩ := ih _ _ hk1 f2 _ _ x1 y1
          obtain ⟨b2, g3, g4⟩ := eq_loop ih l (off + k1.length) k2 h2 (fun g hg => hf g (by simp [hg])) x2 y2
          rw [List.forIn_cons, pureRun_bind, if_pos f1', pureRun_bind, ho, p1, Option.bind_some, pureRun_bind, p2, Option.bind_some, pureRun_bind, g1, Option.bind_some]
          have hsplit : (xs.drop off = ys.drop off) ↔ ((xs.drop off).take k1.length = (ys.drop off).take k1.length ∧ xs.drop (off + k1.length) = ys.drop (off + k1.length)) := by
            constructor
            · intro e
              rw [← List.drop_drop, ← List.drop_drop, e]
              exact ⟨rfl, rfl⟩
            · rintro ⟨e1, e2⟩
              rw [← List.take_append_drop k1.length (xs.drop off), ← List.take_append_drop k1.length (ys.drop off), e1, List.drop_drop, List.drop_drop, e2]
          cases b1 with
          | false =>
            refine ⟨false, rfl, ?_⟩
            rw [hsplit]
            simp only [Bool.false_eq_true, false_iff] at g2 ⊢
            exact fun e => g2 e.1
          | true =>
            refine ⟨b2, g3, ?_⟩
            rw [hsplit, g4]
            simp only [true_iff] at g2
            exact ⟨fun e => ⟨g2, e⟩, fun e => e.2⟩
        · cases h
      · cases h
    · cases h

theorem eq_kinds : ∀ (f : Nat) (t : TypeId) (ks : List PK), kindsF P f t = some ks → eqOkF P f t = true → ∀ (d : Nat), f ≤ d → ∀ xs ys : List Value, KL ks xs → KL ks ys → ∃ b, pureRun P (Op.equalIn d t (wrapV P t xs) (wrapV P t ys)) = some b ∧ (b = true ↔ xs = ys)
  | 0, _, _, h, _, _, _, _, _, _, _ => by cases h
  | f + 1, t, ks, h, he, d, hd, xs, ys, hx, hy => by
    obtain ⟨d, rfl⟩ : ∃ d', d = d' + 1 := ⟨d - 1, by omega⟩
    unfold kindsF at h
    unfold eqOkF at he
    cases hu : P.underlying t with
    | none => rw [hu] at h; cases h
    | some dd =>
      rw [hu] at h he
      rw [Op.equalIn, pureRun_bind, pureRun_underlying, hu, Option.bind_some]
      cases dd with
      | int k =>
        cases h
        match xs, ys, hx, hy with
        | [x], [y], ⟨⟨n, hx⟩, _⟩, ⟨⟨m, hy⟩, _⟩ =>
          subst hx; subst hy
          refine ⟨n == m, ?_, by simp⟩
          simp [wrapV, isAggT, hu]
      | bool =>
        cases h
        match xs, ys, hx, hy with
        | [x], [y], ⟨⟨n, hx⟩, _⟩, ⟨⟨m, hy⟩, _⟩ =>
          subst hx; subst hy
          refine ⟨n == m, ?_, by simp⟩
          simp [wrapV, isAggT, hu]
      | string =>
        cases h
        match xs, ys, hx, hy with
        | [x], [y], ⟨⟨n, hx⟩, _⟩, ⟨⟨m, hy⟩, _⟩ =>
          subst hx; subst hy
          refine ⟨n == m, ?_, ⟨fun h => by rw [ba_eq h], fun h => by cases h; exact ba_self n⟩⟩
          simp [wrapV, isAggT, hu]
      | struct fs =>
        simp only at h
        split at h
        · rename_i k1 hk1
          split at h
          · rename_i hc
            cases h
            simp only [Bool.and_eq_true, Bool.not_eq_true', List.all_eq_true, beq_iff_eq, decide_eq_true_eq] at he
            obtain ⟨hs, hf⟩ := he
            obtain ⟨b, g1, g2⟩ := eq_loop (d := d) (fun t ks h1 h2 xs ys h3 h4 => eq_kinds f t ks h1 h2 d (by omega) xs ys h3 h4) (xs := xs) (ys := ys) fs.toList 0 ks hk1 (fun fl hfl => ⟨(hf fl hfl).1.1.1, (hf fl hfl).1.1.2, (hf fl hfl).1.2, (hf fl hfl).2⟩) (by simpa using hx) (by simpa using hy)
            rw [List.drop_zero, List.drop_zero] at g2
            refine ⟨b, ?_, g2⟩
            have hw : ∀ zs : List Value, wrapV P t zs = .agg zs.toArray := fun zs => by simp [wrapV, isAggT, hu]
            rw [hw, hw]
            simp only [pureRun_bind, pureRun_program, Option.bind_some, hs, Bool.false_eq_true, if_false]
            rw [Array.forIn_toList] at g1
            rw [g1, Option.bind_some]
            cases b <;> rfl
          · cases h
        · cases h
      | _ => cases h
theorem bin_struct {f : Nat} {t : TypeId} {ks : List PK} (hk : kindsF P f t = some ks) (he : eqOkF P f t = true) (hf : f ≤ 10000) (ha : isAggT P t = true) (hg : P.eqGuardType P.depth t = false) {xs ys : List Value} (hx : KL ks xs) (hy : KL ks ys)
    (hfx : xs.all flat0 = true) (hfy : ys.all flat0 = true) {σ : CSt} {x y : Operand} : ∃ b : Bool, binF P σ .eql t x y (.agg xs.toArray) (.agg ys.toArray) = .val (.bool b) σ ∧ binF P σ .neq t x y (.agg xs.toArray) (.agg ys.toArray) = .val (.bool (!b)) σ ∧ (b = true ↔ xs = ys) := by
  obtain ⟨b, h1, h2⟩ := eq_kinds f t ks hk he 10000 hf xs ys hx hy
  have hw : ∀ zs : List Value, wrapV P t zs = .agg zs.toArray := fun zs => by simp [wrapV, ha]
  rw [hw, hw] at h1
  have hgd : ∀ op, pureRun P (eqGuard op t x y (.agg xs.toArray) (.agg ys.toArray)) = some () := by
    intro op
    unfold eqGuard
    cases op <;> simp [pureRun_bind, pureRun_program, hg]
  have hfl : (flat (.agg xs.toArray) && flat (.agg ys.toArray)) = true := by simp only [flat, Bool.and_eq_true]; exact ⟨hfx, hfy⟩
  have e1 : pureRun P (binOp .eql t (.agg xs.toArray) (.agg ys.toArray)) = some (.bool b) := by
    have : binOp .eql t (.agg xs.toArray) (.agg ys.toArray) = (do pure (.bool (← Op.equal t (.agg xs.toArray) (.agg ys.toArray))) : Sem Value) := rfl
    rw [this, pureRun_bind]
    unfold Op.equal Op.maxDepth
    rw [h1]
    rfl
  have e2 : pureRun P (binOp .neq t (.agg xs.toArray) (.agg ys.toArray)) = some (.bool (!b)) := by
    have : binOp .neq t (.agg xs.toArray) (.agg ys.toArray) = (do pure (.bool (!(← Op.equal t (.agg xs.toArray) (.agg ys.toArray)))) : Sem Value) := rfl
    rw [this, pureRun_bind]
    unfold Op.equal Op.maxDepth
    rw [h1]
    rfl
  refine ⟨b, ?_, ?_, h2⟩
  · unfold binF
    rw [if_pos hfl, pureRun_bind, hgd, Option.bind_some, e1]
    rfl
  · unfold binF
    rw [if_pos hfl, pureRun_bind, hgd, Option.bind_some, e2]
    rfl
end
end Go.Sm
