/- Part D of the proof. -/
import Derived.Test.YtkcljmaklingoaaGreatDoorProg
import Derived.KernelRfl
import Derived.Shelf.Strings.Repeat
import Derived.ProofKit
import Derived.Carry
import Derived.Sort.AssemblyPlain
import Derived.Test.YtkcljmaklingoaaGreatDoorPartA
import Derived.Test.YtkcljmaklingoaaGreatDoorPartB
import Derived.Test.YtkcljmaklingoaaGreatDoorPartC
/- Printed by wip/facts.py: what is asked of the program's types; the environments. -/
namespace Go.Sm
open Go Go.Proofs
set_option linter.unusedVariables false
def extE : FuncId → Array Value → CSt → Option Value
  | 75 => apartX 116
  | 95 => apartX 33
  | _ => fun _ _ => none
def gamI : FuncId → Option (Array Value → CSt → Option (Value × CSt))
  | 65 => some (insG 116 2 40)
  | 79 => some (insG 33 3 32)
  | _ => none
def gnone : CSt → Prop := fun σ => σ.get 1 = some (.cells [.int .u64 1, .int .u64 0] 0 true)
open Classical in
noncomputable def awakeG (args : Array Value) (σ : CSt) : Option (Value × CSt) := if args = #[] ∧ gnone σ then some (.bool true, σ) else none
/-- So many copies of a string. -/
def repS (s : ByteArray) (n : Nat) : ByteArray := ⟨((List.replicate n s.data.toList).flatten).toArray⟩
/-- strings.Repeat. -/
def repG (args : Array Value) (σ : CSt) : Option (Value × CSt) :=
  match args with
  | ⟨[.string s, .int .i64 c]⟩ => if 0 ≤ c ∧ c < 2 ^ 62 ∧ s.size * c.toNat ≤ 2 ^ 47 then some (.string (repS s c.toNat), σ) else none
  | _ => none
noncomputable def gamL : FuncId → Option (Array Value → CSt → Option (Value × CSt))
  | 65 => some (insG 116 2 40)
  | 79 => some (insG 33 3 32)
  | 12 => some awakeG
  | 27 => some awakeG
  | 67 => some repG
  | _ => none
/-- The code itself. -/
noncomputable def E0 : Env := ⟨Tryz.prog, fun _ => none, extE, fun _ => none⟩
/-- With slices.Insert as one step. -/
noncomputable def EV : Env := ⟨Tryz.prog, gamI, extE, fun _ => none⟩
/-- With the closed tests, too. -/
noncomputable def E1 : Env := ⟨Tryz.prog, gamL, extE, fun _ => none⟩
@[simp] theorem E0P : E0.P = Tryz.prog := rfl
@[simp] theorem E1P : E1.P = Tryz.prog := rfl
@[simp] theorem E0X : E0.ext = extE := rfl
@[simp] theorem E1X : E1.ext = extE := rfl
attribute [simp] extE
theorem extOf_none {E : Env} {g : FuncId} {fs cs args : Array Value} {σ : CSt} (h : E.ext g args σ = none) : extOf E (.func (.func g) fs cs) args σ = none := by
  unfold extOf
  split
  · rename_i g' he
    cases he
    exact h
  · rfl
@[simp] theorem extOf_fn {E : Env} {g : FuncId} {args : Array Value} {σ : CSt} : extOf E (.func (.func g) #[] #[]) args σ = E.ext g args σ := rfl
@[simp] theorem extOf_cl {E : Env} {g : FuncId} {fs : Array Value} {c : Value} {l : List Value} {args : Array Value} {σ : CSt} : extOf E (.func (.func g) fs ⟨c :: l⟩) args σ = none := by
  unfold extOf
  split
  · rename_i g' he
    cases he
  · rfl
@[simp] theorem extOf_mv {E : Env} {g : FuncId} {cs : Array Value} {c : Value} {l : List Value} {args : Array Value} {σ : CSt} : extOf E (.func (.func g) ⟨c :: l⟩ cs) args σ = none := by
  unfold extOf
  split
  · rename_i g' he
    cases he
  · rfl

@[simp] theorem un0 : (Tryz.prog.underlying 0).isSome = true := by kernel_rfl
@[simp] theorem tf1 : tf Tryz.prog 1 = some ⟨1, 8, (some [.nilFunc]), false, true⟩ := by kernel_rfl
@[simp] theorem un1 : (Tryz.prog.underlying 1).isSome = true := by kernel_rfl
@[simp] theorem tf2 : tf Tryz.prog 2 = some ⟨1, 8, (some [.int .i64 0]), false, true⟩ := by kernel_rfl
@[simp] theorem it2 : intT Tryz.prog 2 = some .i64 := by kernel_rfl
@[simp] theorem un2 : (Tryz.prog.underlying 2).isSome = true := by kernel_rfl
@[simp] theorem tf3 : tf Tryz.prog 3 = some ⟨1, 8, (some [.int .i64 0]), false, true⟩ := by kernel_rfl
@[simp] theorem it3 : intT Tryz.prog 3 = some .i64 := by kernel_rfl
@[simp] theorem un3 : (Tryz.prog.underlying 3).isSome = true := by kernel_rfl
@[simp] theorem tf4 : tf Tryz.prog 4 = some ⟨1, 1, (some [.bool false]), false, true⟩ := by kernel_rfl
@[simp] theorem un4 : (Tryz.prog.underlying 4).isSome = true := by kernel_rfl
@[simp] theorem tf5 : tf Tryz.prog 5 = some ⟨1, 1, (some [.int .u8 0]), false, true⟩ := by kernel_rfl
@[simp] theorem it5 : intT Tryz.prog 5 = some .u8 := by kernel_rfl
@[simp] theorem un5 : (Tryz.prog.underlying 5).isSome = true := by kernel_rfl
@[simp] theorem tf6 : tf Tryz.prog 6 = some ⟨1, 1, (some [.int .u8 0]), false, true⟩ := by kernel_rfl
@[simp] theorem it6 : intT Tryz.prog 6 = some .u8 := by kernel_rfl
@[simp] theorem un6 : (Tryz.prog.underlying 6).isSome = true := by kernel_rfl
@[simp] theorem tf7 : tf Tryz.prog 7 = some ⟨4, 24, (some [.int .i64 0, .int .i64 0, .bool false, .int .u8 0]), true, true⟩ := by kernel_rfl
@[simp] theorem un7 : (Tryz.prog.underlying 7).isSome = true := by kernel_rfl
@[simp] theorem fo7_0 : fieldT Tryz.prog 7 0 = some 0 := by kernel_rfl
@[simp] theorem fo7_1 : fieldT Tryz.prog 7 1 = some 1 := by kernel_rfl
@[simp] theorem fo7_2 : fieldT Tryz.prog 7 2 = some 2 := by kernel_rfl
@[simp] theorem fo7_3 : fieldT Tryz.prog 7 3 = some 3 := by kernel_rfl
@[simp] theorem pa7 : partsT Tryz.prog 7 = some [(0, 1), (1, 1), (2, 1), (3, 1)] := by kernel_rfl
@[simp] theorem tf8 : tf Tryz.prog 8 = some ⟨4, 24, (some [.int .i64 0, .int .i64 0, .bool false, .int .u8 0]), true, true⟩ := by kernel_rfl
@[simp] theorem un8 : (Tryz.prog.underlying 8).isSome = true := by kernel_rfl
@[simp] theorem fo8_0 : fieldT Tryz.prog 8 0 = some 0 := by kernel_rfl
@[simp] theorem fo8_1 : fieldT Tryz.prog 8 1 = some 1 := by kernel_rfl
@[simp] theorem fo8_2 : fieldT Tryz.prog 8 2 = some 2 := by kernel_rfl
@[simp] theorem fo8_3 : fieldT Tryz.prog 8 3 = some 3 := by kernel_rfl
@[simp] theorem pa8 : partsT Tryz.prog 8 = some [(0, 1), (1, 1), (2, 1), (3, 1)] := by kernel_rfl
@[simp] theorem tf9 : tf Tryz.prog 9 = some ⟨1, 16, (some [.string ⟨#[]⟩]), false, true⟩ := by kernel_rfl
@[simp] theorem st9 : strT Tryz.prog 9 = true := by kernel_rfl
@[simp] theorem un9 : (Tryz.prog.underlying 9).isSome = true := by kernel_rfl
@[simp] theorem tf10 : tf Tryz.prog 10 = some ⟨1, 16, (some [.string ⟨#[]⟩]), false, true⟩ := by kernel_rfl
@[simp] theorem st10 : strT Tryz.prog 10 = true := by kernel_rfl
@[simp] theorem un10 : (Tryz.prog.underlying 10).isSome = true := by kernel_rfl
@[simp] theorem tf11 : tf Tryz.prog 11 = some ⟨1, 16, (some [.string ⟨#[]⟩]), false, true⟩ := by kernel_rfl
@[simp] theorem st11 : strT Tryz.prog 11 = true := by kernel_rfl
@[simp] theorem un11 : (Tryz.prog.underlying 11).isSome = true := by kernel_rfl
@[simp] theorem tf12 : tf Tryz.prog 12 = some ⟨1, 8, (some [.int .u64 0]), false, true⟩ := by kernel_rfl
@[simp] theorem it12 : intT Tryz.prog 12 = some .u64 := by kernel_rfl
@[simp] theorem un12 : (Tryz.prog.underlying 12).isSome = true := by kernel_rfl
@[simp] theorem tf13 : tf Tryz.prog 13 = some ⟨2, 24, (some [.string ⟨#[]⟩, .int .u64 0]), true, true⟩ := by kernel_rfl
@[simp] theorem un13 : (Tryz.prog.underlying 13).isSome = true := by kernel_rfl
@[simp] theorem fo13_0 : fieldT Tryz.prog 13 0 = some 0 := by kernel_rfl
@[simp] theorem fo13_1 : fieldT Tryz.prog 13 1 = some 1 := by kernel_rfl
@[simp] theorem pa13 : partsT Tryz.prog 13 = some [(0, 1), (1, 1)] := by kernel_rfl
@[simp] theorem tf14 : tf Tryz.prog 14 = some ⟨2, 24, (some [.string ⟨#[]⟩, .int .u64 0]), true, true⟩ := by kernel_rfl
@[simp] theorem un14 : (Tryz.prog.underlying 14).isSome = true := by kernel_rfl
@[simp] theorem fo14_0 : fieldT Tryz.prog 14 0 = some 0 := by kernel_rfl
@[simp] theorem fo14_1 : fieldT Tryz.prog 14 1 = some 1 := by kernel_rfl
@[simp] theorem pa14 : partsT Tryz.prog 14 = some [(0, 1), (1, 1)] := by kernel_rfl
@[simp] theorem tf15 : tf Tryz.prog 15 = some ⟨1, 8, (some [.pointer none]), false, true⟩ := by kernel_rfl
@[simp] theorem un15 : (Tryz.prog.underlying 15).isSome = true := by kernel_rfl
@[simp] theorem tf16 : tf Tryz.prog 16 = some ⟨1, 8, (some [.pointer none]), false, true⟩ := by kernel_rfl
@[simp] theorem un16 : (Tryz.prog.underlying 16).isSome = true := by kernel_rfl
@[simp] theorem tf17 : tf Tryz.prog 17 = some ⟨1, 8, (some [.pointer none]), false, true⟩ := by kernel_rfl
@[simp] theorem un17 : (Tryz.prog.underlying 17).isSome = true := by kernel_rfl
@[simp] theorem tf18 : tf Tryz.prog 18 = some ⟨1, 8, (some [.pointer none]), true, true⟩ := by kernel_rfl
@[simp] theorem un18 : (Tryz.prog.underlying 18).isSome = true := by kernel_rfl
@[simp] theorem fo18_0 : fieldT Tryz.prog 18 0 = some 0 := by kernel_rfl
@[simp] theorem pa18 : partsT Tryz.prog 18 = some [(0, 1)] := by kernel_rfl
@[simp] theorem tf19 : tf Tryz.prog 19 = some ⟨1, 8, (some [.pointer none]), true, true⟩ := by kernel_rfl
@[simp] theorem un19 : (Tryz.prog.underlying 19).isSome = true := by kernel_rfl
@[simp] theorem fo19_0 : fieldT Tryz.prog 19 0 = some 0 := by kernel_rfl
@[simp] theorem pa19 : partsT Tryz.prog 19 = some [(0, 1)] := by kernel_rfl
@[simp] theorem tf20 : tf Tryz.prog 20 = some ⟨1, 16, (some [.nilIface]), false, true⟩ := by kernel_rfl
@[simp] theorem un20 : (Tryz.prog.underlying 20).isSome = true := by kernel_rfl
@[simp] theorem tf21 : tf Tryz.prog 21 = some ⟨1, 4, (some [.int .i32 0]), false, true⟩ := by kernel_rfl
@[simp] theorem it21 : intT Tryz.prog 21 = some .i32 := by kernel_rfl
@[simp] theorem un21 : (Tryz.prog.underlying 21).isSome = true := by kernel_rfl
@[simp] theorem tf22 : tf Tryz.prog 22 = some ⟨1, 24, (some [.slice none 0 0]), false, true⟩ := by kernel_rfl
@[simp] theorem un22 : (Tryz.prog.underlying 22).isSome = true := by kernel_rfl
@[simp] theorem el22 : elemT Tryz.prog 22 = some 31 := by kernel_rfl
@[simp] theorem ef22 : elemF Tryz.prog 22 = some (31, ⟨1, 8, (some [.int .u64 0]), false, true⟩) := by kernel_rfl
@[simp] theorem tf23 : tf Tryz.prog 23 = some ⟨1, 24, (some [.slice none 0 0]), false, true⟩ := by kernel_rfl
@[simp] theorem un23 : (Tryz.prog.underlying 23).isSome = true := by kernel_rfl
@[simp] theorem el23 : elemT Tryz.prog 23 = some 30 := by kernel_rfl
@[simp] theorem ef23 : elemF Tryz.prog 23 = some (30, ⟨3, 32, (some [.int .u8 0, .string ⟨#[]⟩, .bool false]), true, true⟩) := by kernel_rfl
@[simp] theorem tf24 : tf Tryz.prog 24 = some ⟨1, 8, (some [.nilFunc]), false, true⟩ := by kernel_rfl
@[simp] theorem un24 : (Tryz.prog.underlying 24).isSome = true := by kernel_rfl
@[simp] theorem tf25 : tf Tryz.prog 25 = some ⟨1, 24, (some [.slice none 0 0]), false, true⟩ := by kernel_rfl
@[simp] theorem un25 : (Tryz.prog.underlying 25).isSome = true := by kernel_rfl
@[simp] theorem el25 : elemT Tryz.prog 25 = some 5 := by kernel_rfl
@[simp] theorem ef25 : elemF Tryz.prog 25 = some (5, ⟨1, 1, (some [.int .u8 0]), false, true⟩) := by kernel_rfl
@[simp] theorem tf26 : tf Tryz.prog 26 = some ⟨1, 24, (some [.slice none 0 0]), true, true⟩ := by kernel_rfl
@[simp] theorem un26 : (Tryz.prog.underlying 26).isSome = true := by kernel_rfl
@[simp] theorem fo26_0 : fieldT Tryz.prog 26 0 = some 0 := by kernel_rfl
@[simp] theorem pa26 : partsT Tryz.prog 26 = some [(0, 1)] := by kernel_rfl
@[simp] theorem tf27 : tf Tryz.prog 27 = some ⟨1, 24, (some [.slice none 0 0]), true, true⟩ := by kernel_rfl
@[simp] theorem un27 : (Tryz.prog.underlying 27).isSome = true := by kernel_rfl
@[simp] theorem fo27_0 : fieldT Tryz.prog 27 0 = some 0 := by kernel_rfl
@[simp] theorem pa27 : partsT Tryz.prog 27 = some [(0, 1)] := by kernel_rfl
@[simp] theorem tf28 : tf Tryz.prog 28 = some ⟨1, 24, (some [.slice none 0 0]), false, true⟩ := by kernel_rfl
@[simp] theorem un28 : (Tryz.prog.underlying 28).isSome = true := by kernel_rfl
@[simp] theorem el28 : elemT Tryz.prog 28 = some 33 := by kernel_rfl
@[simp] theorem ef28 : elemF Tryz.prog 28 = some (33, ⟨3, 32, (some [.int .u64 0, .string ⟨#[]⟩, .bool false]), true, true⟩) := by kernel_rfl
@[simp] theorem tf29 : tf Tryz.prog 29 = some ⟨3, 32, (some [.int .u8 0, .string ⟨#[]⟩, .bool false]), true, true⟩ := by kernel_rfl
@[simp] theorem un29 : (Tryz.prog.underlying 29).isSome = true := by kernel_rfl
@[simp] theorem fo29_0 : fieldT Tryz.prog 29 0 = some 0 := by kernel_rfl
@[simp] theorem fo29_1 : fieldT Tryz.prog 29 1 = some 1 := by kernel_rfl
@[simp] theorem fo29_2 : fieldT Tryz.prog 29 2 = some 2 := by kernel_rfl
@[simp] theorem pa29 : partsT Tryz.prog 29 = some [(0, 1), (1, 1), (2, 1)] := by kernel_rfl
@[simp] theorem tf30 : tf Tryz.prog 30 = some ⟨3, 32, (some [.int .u8 0, .string ⟨#[]⟩, .bool false]), true, true⟩ := by kernel_rfl
@[simp] theorem un30 : (Tryz.prog.underlying 30).isSome = true := by kernel_rfl
@[simp] theorem fo30_0 : fieldT Tryz.prog 30 0 = some 0 := by kernel_rfl
@[simp] theorem fo30_1 : fieldT Tryz.prog 30 1 = some 1 := by kernel_rfl
@[simp] theorem fo30_2 : fieldT Tryz.prog 30 2 = some 2 := by kernel_rfl
@[simp] theorem pa30 : partsT Tryz.prog 30 = some [(0, 1), (1, 1), (2, 1)] := by kernel_rfl
@[simp] theorem tf31 : tf Tryz.prog 31 = some ⟨1, 8, (some [.int .u64 0]), false, true⟩ := by kernel_rfl
@[simp] theorem it31 : intT Tryz.prog 31 = some .u64 := by kernel_rfl
@[simp] theorem un31 : (Tryz.prog.underlying 31).isSome = true := by kernel_rfl
@[simp] theorem tf32 : tf Tryz.prog 32 = some ⟨3, 32, (some [.int .u64 0, .string ⟨#[]⟩, .bool false]), true, true⟩ := by kernel_rfl
@[simp] theorem un32 : (Tryz.prog.underlying 32).isSome = true := by kernel_rfl
@[simp] theorem fo32_0 : fieldT Tryz.prog 32 0 = some 0 := by kernel_rfl
@[simp] theorem fo32_1 : fieldT Tryz.prog 32 1 = some 1 := by kernel_rfl
@[simp] theorem fo32_2 : fieldT Tryz.prog 32 2 = some 2 := by kernel_rfl
@[simp] theorem pa32 : partsT Tryz.prog 32 = some [(0, 1), (1, 1), (2, 1)] := by kernel_rfl
@[simp] theorem tf33 : tf Tryz.prog 33 = some ⟨3, 32, (some [.int .u64 0, .string ⟨#[]⟩, .bool false]), true, true⟩ := by kernel_rfl
@[simp] theorem un33 : (Tryz.prog.underlying 33).isSome = true := by kernel_rfl
@[simp] theorem fo33_0 : fieldT Tryz.prog 33 0 = some 0 := by kernel_rfl
@[simp] theorem fo33_1 : fieldT Tryz.prog 33 1 = some 1 := by kernel_rfl
@[simp] theorem fo33_2 : fieldT Tryz.prog 33 2 = some 2 := by kernel_rfl
@[simp] theorem pa33 : partsT Tryz.prog 33 = some [(0, 1), (1, 1), (2, 1)] := by kernel_rfl
@[simp] theorem tf34 : tf Tryz.prog 34 = some ⟨1, 8, (some [.nilFunc]), false, true⟩ := by kernel_rfl
@[simp] theorem un34 : (Tryz.prog.underlying 34).isSome = true := by kernel_rfl
@[simp] theorem tf35 : tf Tryz.prog 35 = some ⟨1, 8, (some [.pointer none]), false, true⟩ := by kernel_rfl
@[simp] theorem un35 : (Tryz.prog.underlying 35).isSome = true := by kernel_rfl
@[simp] theorem tf36 : tf Tryz.prog 36 = some ⟨1, 8, (some [.nilFunc]), false, true⟩ := by kernel_rfl
@[simp] theorem un36 : (Tryz.prog.underlying 36).isSome = true := by kernel_rfl
@[simp] theorem tf37 : tf Tryz.prog 37 = some ⟨1, 8, (some [.nilFunc]), false, true⟩ := by kernel_rfl
@[simp] theorem un37 : (Tryz.prog.underlying 37).isSome = true := by kernel_rfl
@[simp] theorem tf38 : tf Tryz.prog 38 = some ⟨1, 8, (some [.pointer none]), false, true⟩ := by kernel_rfl
@[simp] theorem un38 : (Tryz.prog.underlying 38).isSome = true := by kernel_rfl
@[simp] theorem tf39 : tf Tryz.prog 39 = some ⟨1, 8, (some [.nilFunc]), false, true⟩ := by kernel_rfl
@[simp] theorem un39 : (Tryz.prog.underlying 39).isSome = true := by kernel_rfl
@[simp] theorem tf40 : tf Tryz.prog 40 = some ⟨2, 32, (some [.slice none 0 0, .bool false]), true, true⟩ := by kernel_rfl
@[simp] theorem un40 : (Tryz.prog.underlying 40).isSome = true := by kernel_rfl
@[simp] theorem fo40_0 : fieldT Tryz.prog 40 0 = some 0 := by kernel_rfl
@[simp] theorem fo40_1 : fieldT Tryz.prog 40 1 = some 1 := by kernel_rfl
@[simp] theorem pa40 : partsT Tryz.prog 40 = some [(0, 1), (1, 1)] := by kernel_rfl
@[simp] theorem tf41 : tf Tryz.prog 41 = some ⟨2, 32, (some [.slice none 0 0, .bool false]), true, true⟩ := by kernel_rfl
@[simp] theorem un41 : (Tryz.prog.underlying 41).isSome = true := by kernel_rfl
@[simp] theorem fo41_0 : fieldT Tryz.prog 41 0 = some 0 := by kernel_rfl
@[simp] theorem fo41_1 : fieldT Tryz.prog 41 1 = some 1 := by kernel_rfl
@[simp] theorem pa41 : partsT Tryz.prog 41 = some [(0, 1), (1, 1)] := by kernel_rfl
@[simp] theorem tf42 : tf Tryz.prog 42 = some ⟨1, 8, (some [.nilFunc]), false, true⟩ := by kernel_rfl
@[simp] theorem un42 : (Tryz.prog.underlying 42).isSome = true := by kernel_rfl
@[simp] theorem tf43 : tf Tryz.prog 43 = some ⟨1, 8, (some [.nilFunc]), false, true⟩ := by kernel_rfl
@[simp] theorem un43 : (Tryz.prog.underlying 43).isSome = true := by kernel_rfl
@[simp] theorem tf44 : tf Tryz.prog 44 = some ⟨1, 8, (some [.nilFunc]), false, true⟩ := by kernel_rfl
@[simp] theorem un44 : (Tryz.prog.underlying 44).isSome = true := by kernel_rfl
@[simp] theorem tf45 : tf Tryz.prog 45 = some ⟨1, 24, (some [.slice none 0 0]), false, true⟩ := by kernel_rfl
@[simp] theorem un45 : (Tryz.prog.underlying 45).isSome = true := by kernel_rfl
@[simp] theorem el45 : elemT Tryz.prog 45 = some 90 := by kernel_rfl
@[simp] theorem ef45 : elemF Tryz.prog 45 = some (90, ⟨4, 48, (some [.string ⟨#[]⟩, .int .u64 0, .string ⟨#[]⟩, .bool false]), true, true⟩) := by kernel_rfl
@[simp] theorem tf46 : tf Tryz.prog 46 = some ⟨2, 32, (some [.int .u64 0, .slice none 0 0]), true, true⟩ := by kernel_rfl
@[simp] theorem un46 : (Tryz.prog.underlying 46).isSome = true := by kernel_rfl
@[simp] theorem fo46_0 : fieldT Tryz.prog 46 0 = some 0 := by kernel_rfl
@[simp] theorem fo46_1 : fieldT Tryz.prog 46 1 = some 1 := by kernel_rfl
@[simp] theorem pa46 : partsT Tryz.prog 46 = some [(0, 1), (1, 1)] := by kernel_rfl
@[simp] theorem tf47 : tf Tryz.prog 47 = some ⟨2, 32, (some [.int .u64 0, .slice none 0 0]), true, true⟩ := by kernel_rfl
@[simp] theorem un47 : (Tryz.prog.underlying 47).isSome = true := by kernel_rfl
@[simp] theorem fo47_0 : fieldT Tryz.prog 47 0 = some 0 := by kernel_rfl
@[simp] theorem fo47_1 : fieldT Tryz.prog 47 1 = some 1 := by kernel_rfl
@[simp] theorem pa47 : partsT Tryz.prog 47 = some [(0, 1), (1, 1)] := by kernel_rfl
@[simp] theorem tf48 : tf Tryz.prog 48 = some ⟨1, 8, (some [.int .i64 0]), false, true⟩ := by kernel_rfl
@[simp] theorem it48 : intT Tryz.prog 48 = some .i64 := by kernel_rfl
@[simp] theorem un48 : (Tryz.prog.underlying 48).isSome = true := by kernel_rfl
@[simp] theorem un49 : (Tryz.prog.underlying 49).isSome = true := by kernel_rfl
@[simp] theorem tf50 : tf Tryz.prog 50 = some ⟨1, 8, (some [.nilFunc]), false, true⟩ := by kernel_rfl
@[simp] theorem un50 : (Tryz.prog.underlying 50).isSome = true := by kernel_rfl
@[simp] theorem tf51 : tf Tryz.prog 51 = some ⟨1, 8, (some [.nilFunc]), false, true⟩ := by kernel_rfl
@[simp] theorem un51 : (Tryz.prog.underlying 51).isSome = true := by kernel_rfl
@[simp] theorem tf52 : tf Tryz.prog 52 = some ⟨1, 8, (some [.nilFunc]), false, true⟩ := by kernel_rfl
@[simp] theorem un52 : (Tryz.prog.underlying 52).isSome = true := by kernel_rfl
@[simp] theorem tf53 : tf Tryz.prog 53 = some ⟨1, 8, (some [.nilFunc]), false, true⟩ := by kernel_rfl
@[simp] theorem un53 : (Tryz.prog.underlying 53).isSome = true := by kernel_rfl
@[simp] theorem tf54 : tf Tryz.prog 54 = some ⟨1, 8, (some [.nilFunc]), false, true⟩ := by kernel_rfl
@[simp] theorem un54 : (Tryz.prog.underlying 54).isSome = true := by kernel_rfl
@[simp] theorem tf55 : tf Tryz.prog 55 = some ⟨1, 8, (some [.nilFunc]), false, true⟩ := by kernel_rfl
@[simp] theorem un55 : (Tryz.prog.underlying 55).isSome = true := by kernel_rfl
@[simp] theorem tf56 : tf Tryz.prog 56 = some ⟨1, 8, (some [.nilFunc]), false, true⟩ := by kernel_rfl
@[simp] theorem un56 : (Tryz.prog.underlying 56).isSome = true := by kernel_rfl
@[simp] theorem tf57 : tf Tryz.prog 57 = some ⟨1, 2, (some [.int .u16 0]), false, true⟩ := by kernel_rfl
@[simp] theorem it57 : intT Tryz.prog 57 = some .u16 := by kernel_rfl
@[simp] theorem un57 : (Tryz.prog.underlying 57).isSome = true := by kernel_rfl
@[simp] theorem tf58 : tf Tryz.prog 58 = some ⟨1, 8, (some [.nilFunc]), false, true⟩ := by kernel_rfl
@[simp] theorem un58 : (Tryz.prog.underlying 58).isSome = true := by kernel_rfl
@[simp] theorem tf59 : tf Tryz.prog 59 = some ⟨1, 8, (some [.nilFunc]), false, true⟩ := by kernel_rfl
@[simp] theorem un59 : (Tryz.prog.underlying 59).isSome = true := by kernel_rfl
@[simp] theorem tf60 : tf Tryz.prog 60 = some ⟨1, 24, (some [.slice none 0 0]), false, true⟩ := by kernel_rfl
@[simp] theorem un60 : (Tryz.prog.underlying 60).isSome = true := by kernel_rfl
@[simp] theorem el60 : elemT Tryz.prog 60 = some 82 := by kernel_rfl
@[simp] theorem ef60 : elemF Tryz.prog 60 = some (82, ⟨4, 4, (some [.int .u8 0, .int .u8 0, .int .u8 0, .bool false]), true, true⟩) := by kernel_rfl
@[simp] theorem tf61 : tf Tryz.prog 61 = some ⟨1, 8, (some [.pointer none]), false, true⟩ := by kernel_rfl
@[simp] theorem un61 : (Tryz.prog.underlying 61).isSome = true := by kernel_rfl
@[simp] theorem tf62 : tf Tryz.prog 62 = some ⟨1, 8, (some [.map none]), false, true⟩ := by kernel_rfl
@[simp] theorem un62 : (Tryz.prog.underlying 62).isSome = true := by kernel_rfl
@[simp] theorem un63 : (Tryz.prog.underlying 63).isSome = true := by kernel_rfl
@[simp] theorem tf64 : tf Tryz.prog 64 = some ⟨1, 8, (some [.nilFunc]), false, true⟩ := by kernel_rfl
@[simp] theorem un64 : (Tryz.prog.underlying 64).isSome = true := by kernel_rfl
@[simp] theorem tf65 : tf Tryz.prog 65 = some ⟨1, 8, (some [.nilFunc]), false, true⟩ := by kernel_rfl
@[simp] theorem un65 : (Tryz.prog.underlying 65).isSome = true := by kernel_rfl
@[simp] theorem un66 : (Tryz.prog.underlying 66).isSome = true := by kernel_rfl
@[simp] theorem tf67 : tf Tryz.prog 67 = some ⟨1, 8, (some [.nilFunc]), false, true⟩ := by kernel_rfl
@[simp] theorem un67 : (Tryz.prog.underlying 67).isSome = true := by kernel_rfl
@[simp] theorem tf68 : tf Tryz.prog 68 = some ⟨1, 8, (some [.nilFunc]), false, true⟩ := by kernel_rfl
@[simp] theorem un68 : (Tryz.prog.underlying 68).isSome = true := by kernel_rfl
@[simp] theorem tf69 : tf Tryz.prog 69 = some ⟨1, 8, (some [.nilFunc]), false, true⟩ := by kernel_rfl
@[simp] theorem un69 : (Tryz.prog.underlying 69).isSome = true := by kernel_rfl
@[simp] theorem tf70 : tf Tryz.prog 70 = some ⟨1, 8, (some [.nilFunc]), false, true⟩ := by kernel_rfl
@[simp] theorem un70 : (Tryz.prog.underlying 70).isSome = true := by kernel_rfl
@[simp] theorem tf71 : tf Tryz.prog 71 = some ⟨1, 8, (some [.nilFunc]), false, true⟩ := by kernel_rfl
@[simp] theorem un71 : (Tryz.prog.underlying 71).isSome = true := by kernel_rfl
@[simp] theorem tf72 : tf Tryz.prog 72 = some ⟨1, 24, (some [.slice none 0 0]), false, true⟩ := by kernel_rfl
@[simp] theorem un72 : (Tryz.prog.underlying 72).isSome = true := by kernel_rfl
@[simp] theorem el72 : elemT Tryz.prog 72 = some 33 := by kernel_rfl
@[simp] theorem ef72 : elemF Tryz.prog 72 = some (33, ⟨3, 32, (some [.int .u64 0, .string ⟨#[]⟩, .bool false]), true, true⟩) := by kernel_rfl
@[simp] theorem tf73 : tf Tryz.prog 73 = some ⟨1, 8, (some [.nilFunc]), false, true⟩ := by kernel_rfl
@[simp] theorem un73 : (Tryz.prog.underlying 73).isSome = true := by kernel_rfl
@[simp] theorem tf74 : tf Tryz.prog 74 = some ⟨1, 8, (some [.nilFunc]), false, true⟩ := by kernel_rfl
@[simp] theorem un74 : (Tryz.prog.underlying 74).isSome = true := by kernel_rfl
@[simp] theorem tf75 : tf Tryz.prog 75 = some ⟨1, 24, (some [.slice none 0 0]), false, true⟩ := by kernel_rfl
@[simp] theorem un75 : (Tryz.prog.underlying 75).isSome = true := by kernel_rfl
@[simp] theorem el75 : elemT Tryz.prog 75 = some 78 := by kernel_rfl
@[simp] theorem ef75 : elemF Tryz.prog 75 = some (78, ⟨3, 3, (some [.int .u8 0, .int .u8 0, .bool false]), true, true⟩) := by kernel_rfl
@[simp] theorem tf76 : tf Tryz.prog 76 = some ⟨1, 8, (some [.nilFunc]), false, true⟩ := by kernel_rfl
@[simp] theorem un76 : (Tryz.prog.underlying 76).isSome = true := by kernel_rfl
@[simp] theorem tf77 : tf Tryz.prog 77 = some ⟨3, 3, (some [.int .u8 0, .int .u8 0, .bool false]), true, true⟩ := by kernel_rfl
@[simp] theorem un77 : (Tryz.prog.underlying 77).isSome = true := by kernel_rfl
@[simp] theorem fo77_0 : fieldT Tryz.prog 77 0 = some 0 := by kernel_rfl
@[simp] theorem fo77_1 : fieldT Tryz.prog 77 1 = some 1 := by kernel_rfl
@[simp] theorem fo77_2 : fieldT Tryz.prog 77 2 = some 2 := by kernel_rfl
@[simp] theorem pa77 : partsT Tryz.prog 77 = some [(0, 1), (1, 1), (2, 1)] := by kernel_rfl
@[simp] theorem tf78 : tf Tryz.prog 78 = some ⟨3, 3, (some [.int .u8 0, .int .u8 0, .bool false]), true, true⟩ := by kernel_rfl
@[simp] theorem un78 : (Tryz.prog.underlying 78).isSome = true := by kernel_rfl
@[simp] theorem fo78_0 : fieldT Tryz.prog 78 0 = some 0 := by kernel_rfl
@[simp] theorem fo78_1 : fieldT Tryz.prog 78 1 = some 1 := by kernel_rfl
@[simp] theorem fo78_2 : fieldT Tryz.prog 78 2 = some 2 := by kernel_rfl
@[simp] theorem pa78 : partsT Tryz.prog 78 = some [(0, 1), (1, 1), (2, 1)] := by kernel_rfl
@[simp] theorem tf79 : tf Tryz.prog 79 = some ⟨1, 8, (some [.nilFunc]), false, true⟩ := by kernel_rfl
@[simp] theorem un79 : (Tryz.prog.underlying 79).isSome = true := by kernel_rfl
@[simp] theorem tf80 : tf Tryz.prog 80 = some ⟨1, 8, (some [.nilFunc]), false, true⟩ := by kernel_rfl
@[simp] theorem un80 : (Tryz.prog.underlying 80).isSome = true := by kernel_rfl
@[simp] theorem tf81 : tf Tryz.prog 81 = some ⟨4, 4, (some [.int .u8 0, .int .u8 0, .int .u8 0, .bool false]), true, true⟩ := by kernel_rfl
@[simp] theorem un81 : (Tryz.prog.underlying 81).isSome = true := by kernel_rfl
@[simp] theorem fo81_0 : fieldT Tryz.prog 81 0 = some 0 := by kernel_rfl
@[simp] theorem fo81_1 : fieldT Tryz.prog 81 1 = some 1 := by kernel_rfl
@[simp] theorem pa81 : partsT Tryz.prog 81 = some [(0, 1), (1, 3)] := by kernel_rfl
@[simp] theorem tf82 : tf Tryz.prog 82 = some ⟨4, 4, (some [.int .u8 0, .int .u8 0, .int .u8 0, .bool false]), true, true⟩ := by kernel_rfl
@[simp] theorem un82 : (Tryz.prog.underlying 82).isSome = true := by kernel_rfl
@[simp] theorem fo82_0 : fieldT Tryz.prog 82 0 = some 0 := by kernel_rfl
@[simp] theorem fo82_1 : fieldT Tryz.prog 82 1 = some 1 := by kernel_rfl
@[simp] theorem pa82 : partsT Tryz.prog 82 = some [(0, 1), (1, 3)] := by kernel_rfl
@[simp] theorem tf83 : tf Tryz.prog 83 = some ⟨1, 8, (some [.nilFunc]), false, true⟩ := by kernel_rfl
@[simp] theorem un83 : (Tryz.prog.underlying 83).isSome = true := by kernel_rfl
@[simp] theorem tf84 : tf Tryz.prog 84 = some ⟨1, 8, (some [.nilFunc]), false, true⟩ := by kernel_rfl
@[simp] theorem un84 : (Tryz.prog.underlying 84).isSome = true := by kernel_rfl
@[simp] theorem tf85 : tf Tryz.prog 85 = some ⟨1, 8, (some [.nilFunc]), false, true⟩ := by kernel_rfl
@[simp] theorem un85 : (Tryz.prog.underlying 85).isSome = true := by kernel_rfl
@[simp] theorem tf86 : tf Tryz.prog 86 = some ⟨1, 8, (some [.nilFunc]), false, true⟩ := by kernel_rfl
@[simp] theorem un86 : (Tryz.prog.underlying 86).isSome = true := by kernel_rfl
@[simp] theorem tf87 : tf Tryz.prog 87 = some ⟨1, 8, (some [.nilFunc]), false, true⟩ := by kernel_rfl
@[simp] theorem un87 : (Tryz.prog.underlying 87).isSome = true := by kernel_rfl
@[simp] theorem tf88 : tf Tryz.prog 88 = some ⟨1, 8, (some [.nilFunc]), false, true⟩ := by kernel_rfl
@[simp] theorem un88 : (Tryz.prog.underlying 88).isSome = true := by kernel_rfl
@[simp] theorem tf89 : tf Tryz.prog 89 = some ⟨4, 48, (some [.string ⟨#[]⟩, .int .u64 0, .string ⟨#[]⟩, .bool false]), true, true⟩ := by kernel_rfl
@[simp] theorem un89 : (Tryz.prog.underlying 89).isSome = true := by kernel_rfl
@[simp] theorem fo89_0 : fieldT Tryz.prog 89 0 = some 0 := by kernel_rfl
@[simp] theorem fo89_1 : fieldT Tryz.prog 89 1 = some 1 := by kernel_rfl
@[simp] theorem pa89 : partsT Tryz.prog 89 = some [(0, 1), (1, 3)] := by kernel_rfl
@[simp] theorem tf90 : tf Tryz.prog 90 = some ⟨4, 48, (some [.string ⟨#[]⟩, .int .u64 0, .string ⟨#[]⟩, .bool false]), true, true⟩ := by kernel_rfl
@[simp] theorem un90 : (Tryz.prog.underlying 90).isSome = true := by kernel_rfl
@[simp] theorem fo90_0 : fieldT Tryz.prog 90 0 = some 0 := by kernel_rfl
@[simp] theorem fo90_1 : fieldT Tryz.prog 90 1 = some 1 := by kernel_rfl
@[simp] theorem pa90 : partsT Tryz.prog 90 = some [(0, 1), (1, 3)] := by kernel_rfl
@[simp] theorem tf91 : tf Tryz.prog 91 = some ⟨1, 8, (some [.nilFunc]), false, true⟩ := by kernel_rfl
@[simp] theorem un91 : (Tryz.prog.underlying 91).isSome = true := by kernel_rfl
@[simp] theorem tf92 : tf Tryz.prog 92 = some ⟨1, 8, (some [.nilFunc]), false, true⟩ := by kernel_rfl
@[simp] theorem un92 : (Tryz.prog.underlying 92).isSome = true := by kernel_rfl
@[simp] theorem tf93 : tf Tryz.prog 93 = some ⟨1, 8, (some [.nilFunc]), false, true⟩ := by kernel_rfl
@[simp] theorem un93 : (Tryz.prog.underlying 93).isSome = true := by kernel_rfl
@[simp] theorem tf94 : tf Tryz.prog 94 = some ⟨1, 8, (some [.nilFunc]), false, true⟩ := by kernel_rfl
@[simp] theorem un94 : (Tryz.prog.underlying 94).isSome = true := by kernel_rfl
@[simp] theorem un95 : (Tryz.prog.underlying 95).isSome = true := by kernel_rfl
@[simp] theorem tf96 : tf Tryz.prog 96 = some ⟨1, 8, (some [.nilFunc]), false, true⟩ := by kernel_rfl
@[simp] theorem un96 : (Tryz.prog.underlying 96).isSome = true := by kernel_rfl
@[simp] theorem tf97 : tf Tryz.prog 97 = some ⟨1, 8, (some [.nilFunc]), false, true⟩ := by kernel_rfl
@[simp] theorem un97 : (Tryz.prog.underlying 97).isSome = true := by kernel_rfl
@[simp] theorem tf98 : tf Tryz.prog 98 = some ⟨1, 8, (some [.nilFunc]), false, true⟩ := by kernel_rfl
@[simp] theorem un98 : (Tryz.prog.underlying 98).isSome = true := by kernel_rfl
@[simp] theorem tf99 : tf Tryz.prog 99 = some ⟨1, 8, (some [.nilFunc]), false, true⟩ := by kernel_rfl
@[simp] theorem un99 : (Tryz.prog.underlying 99).isSome = true := by kernel_rfl
@[simp] theorem tf100 : tf Tryz.prog 100 = some ⟨1, 24, (some [.slice none 0 0]), false, true⟩ := by kernel_rfl
@[simp] theorem un100 : (Tryz.prog.underlying 100).isSome = true := by kernel_rfl
@[simp] theorem el100 : elemT Tryz.prog 100 = some 25 := by kernel_rfl
@[simp] theorem ef100 : elemF Tryz.prog 100 = some (25, ⟨1, 24, (some [.slice none 0 0]), false, true⟩) := by kernel_rfl
@[simp] theorem tf101 : tf Tryz.prog 101 = some ⟨1, 8, (some [.nilFunc]), false, true⟩ := by kernel_rfl
@[simp] theorem un101 : (Tryz.prog.underlying 101).isSome = true := by kernel_rfl
@[simp] theorem tf102 : tf Tryz.prog 102 = some ⟨1, 8, (some [.nilFunc]), false, true⟩ := by kernel_rfl
@[simp] theorem un102 : (Tryz.prog.underlying 102).isSome = true := by kernel_rfl
@[simp] theorem tf103 : tf Tryz.prog 103 = some ⟨1, 8, (some [.nilFunc]), false, true⟩ := by kernel_rfl
@[simp] theorem un103 : (Tryz.prog.underlying 103).isSome = true := by kernel_rfl
@[simp] theorem un104 : (Tryz.prog.underlying 104).isSome = true := by kernel_rfl
@[simp] theorem tf105 : tf Tryz.prog 105 = some ⟨1, 8, (some [.nilFunc]), false, true⟩ := by kernel_rfl
@[simp] theorem un105 : (Tryz.prog.underlying 105).isSome = true := by kernel_rfl
@[simp] theorem tf106 : tf Tryz.prog 106 = some ⟨1, 24, (some [.slice none 0 0]), false, true⟩ := by kernel_rfl
@[simp] theorem un106 : (Tryz.prog.underlying 106).isSome = true := by kernel_rfl
@[simp] theorem el106 : elemT Tryz.prog 106 = some 9 := by kernel_rfl
@[simp] theorem ef106 : elemF Tryz.prog 106 = some (9, ⟨1, 16, (some [.string ⟨#[]⟩]), false, true⟩) := by kernel_rfl
@[simp] theorem tf107 : tf Tryz.prog 107 = some ⟨1, 8, (some [.nilFunc]), false, true⟩ := by kernel_rfl
@[simp] theorem un107 : (Tryz.prog.underlying 107).isSome = true := by kernel_rfl
@[simp] theorem tf108 : tf Tryz.prog 108 = some ⟨1, 8, (some [.nilFunc]), false, true⟩ := by kernel_rfl
@[simp] theorem un108 : (Tryz.prog.underlying 108).isSome = true := by kernel_rfl
@[simp] theorem tf109 : tf Tryz.prog 109 = some ⟨1, 8, (some [.nilFunc]), false, true⟩ := by kernel_rfl
@[simp] theorem un109 : (Tryz.prog.underlying 109).isSome = true := by kernel_rfl
@[simp] theorem tf110 : tf Tryz.prog 110 = some ⟨1, 8, (some [.nilFunc]), false, true⟩ := by kernel_rfl
@[simp] theorem un110 : (Tryz.prog.underlying 110).isSome = true := by kernel_rfl
@[simp] theorem tf111 : tf Tryz.prog 111 = some ⟨1, 8, (some [.nilFunc]), false, true⟩ := by kernel_rfl
@[simp] theorem un111 : (Tryz.prog.underlying 111).isSome = true := by kernel_rfl
@[simp] theorem tf112 : tf Tryz.prog 112 = some ⟨1, 24, (some [.slice none 0 0]), false, true⟩ := by kernel_rfl
@[simp] theorem un112 : (Tryz.prog.underlying 112).isSome = true := by kernel_rfl
@[simp] theorem el112 : elemT Tryz.prog 112 = some 116 := by kernel_rfl
@[simp] theorem ef112 : elemF Tryz.prog 112 = some (116, ⟨2, 40, (some [.string ⟨#[]⟩, .slice none 0 0]), true, true⟩) := by kernel_rfl
@[simp] theorem tf113 : tf Tryz.prog 113 = some ⟨1, 24, (some [.slice none 0 0]), true, true⟩ := by kernel_rfl
@[simp] theorem un113 : (Tryz.prog.underlying 113).isSome = true := by kernel_rfl
@[simp] theorem fo113_0 : fieldT Tryz.prog 113 0 = some 0 := by kernel_rfl
@[simp] theorem pa113 : partsT Tryz.prog 113 = some [(0, 1)] := by kernel_rfl
@[simp] theorem tf114 : tf Tryz.prog 114 = some ⟨1, 24, (some [.slice none 0 0]), true, true⟩ := by kernel_rfl
@[simp] theorem un114 : (Tryz.prog.underlying 114).isSome = true := by kernel_rfl
@[simp] theorem fo114_0 : fieldT Tryz.prog 114 0 = some 0 := by kernel_rfl
@[simp] theorem pa114 : partsT Tryz.prog 114 = some [(0, 1)] := by kernel_rfl
@[simp] theorem tf115 : tf Tryz.prog 115 = some ⟨2, 40, (some [.string ⟨#[]⟩, .slice none 0 0]), true, true⟩ := by kernel_rfl
@[simp] theorem un115 : (Tryz.prog.underlying 115).isSome = true := by kernel_rfl
@[simp] theorem fo115_0 : fieldT Tryz.prog 115 0 = some 0 := by kernel_rfl
@[simp] theorem fo115_1 : fieldT Tryz.prog 115 1 = some 1 := by kernel_rfl
@[simp] theorem pa115 : partsT Tryz.prog 115 = some [(0, 1), (1, 1)] := by kernel_rfl
@[simp] theorem tf116 : tf Tryz.prog 116 = some ⟨2, 40, (some [.string ⟨#[]⟩, .slice none 0 0]), true, true⟩ := by kernel_rfl
@[simp] theorem un116 : (Tryz.prog.underlying 116).isSome = true := by kernel_rfl
@[simp] theorem fo116_0 : fieldT Tryz.prog 116 0 = some 0 := by kernel_rfl
@[simp] theorem fo116_1 : fieldT Tryz.prog 116 1 = some 1 := by kernel_rfl
@[simp] theorem pa116 : partsT Tryz.prog 116 = some [(0, 1), (1, 1)] := by kernel_rfl
@[simp] theorem tf117 : tf Tryz.prog 117 = some ⟨1, 8, (some [.nilFunc]), false, true⟩ := by kernel_rfl
@[simp] theorem un117 : (Tryz.prog.underlying 117).isSome = true := by kernel_rfl
@[simp] theorem tf118 : tf Tryz.prog 118 = some ⟨1, 8, (some [.nilFunc]), false, true⟩ := by kernel_rfl
@[simp] theorem un118 : (Tryz.prog.underlying 118).isSome = true := by kernel_rfl
@[simp] theorem un119 : (Tryz.prog.underlying 119).isSome = true := by kernel_rfl
@[simp] theorem tf120 : tf Tryz.prog 120 = some ⟨1, 8, (some [.nilFunc]), false, true⟩ := by kernel_rfl
@[simp] theorem un120 : (Tryz.prog.underlying 120).isSome = true := by kernel_rfl
@[simp] theorem tf121 : tf Tryz.prog 121 = some ⟨1, 24, (some [.slice none 0 0]), false, true⟩ := by kernel_rfl
@[simp] theorem un121 : (Tryz.prog.underlying 121).isSome = true := by kernel_rfl
@[simp] theorem el121 : elemT Tryz.prog 121 = some 60 := by kernel_rfl
@[simp] theorem ef121 : elemF Tryz.prog 121 = some (60, ⟨1, 24, (some [.slice none 0 0]), false, true⟩) := by kernel_rfl
@[simp] theorem tf122 : tf Tryz.prog 122 = some ⟨1, 8, (some [.nilFunc]), false, true⟩ := by kernel_rfl
@[simp] theorem un122 : (Tryz.prog.underlying 122).isSome = true := by kernel_rfl
@[simp] theorem un123 : (Tryz.prog.underlying 123).isSome = true := by kernel_rfl
@[simp] theorem tf124 : tf Tryz.prog 124 = some ⟨1, 8, (some [.nilFunc]), false, true⟩ := by kernel_rfl
@[simp] theorem un124 : (Tryz.prog.underlying 124).isSome = true := by kernel_rfl
@[simp] theorem tf125 : tf Tryz.prog 125 = some ⟨1, 8, (some [.nilFunc]), false, true⟩ := by kernel_rfl
@[simp] theorem un125 : (Tryz.prog.underlying 125).isSome = true := by kernel_rfl
@[simp] theorem tf126 : tf Tryz.prog 126 = some ⟨1, 8, (some [.nilFunc]), false, true⟩ := by kernel_rfl
@[simp] theorem un126 : (Tryz.prog.underlying 126).isSome = true := by kernel_rfl
@[simp] theorem tf127 : tf Tryz.prog 127 = some ⟨1, 8, (some [.nilFunc]), false, true⟩ := by kernel_rfl
@[simp] theorem un127 : (Tryz.prog.underlying 127).isSome = true := by kernel_rfl
@[simp] theorem tf128 : tf Tryz.prog 128 = some ⟨1, 8, (some [.nilFunc]), false, true⟩ := by kernel_rfl
@[simp] theorem un128 : (Tryz.prog.underlying 128).isSome = true := by kernel_rfl
@[simp] theorem tf129 : tf Tryz.prog 129 = some ⟨1, 8, (some [.pointer none]), false, true⟩ := by kernel_rfl
@[simp] theorem un129 : (Tryz.prog.underlying 129).isSome = true := by kernel_rfl
@[simp] theorem tf130 : tf Tryz.prog 130 = some ⟨1, 8, (some [.nilFunc]), false, true⟩ := by kernel_rfl
@[simp] theorem un130 : (Tryz.prog.underlying 130).isSome = true := by kernel_rfl
@[simp] theorem tf131 : tf Tryz.prog 131 = some ⟨1, 24, (some [.slice none 0 0]), false, true⟩ := by kernel_rfl
@[simp] theorem un131 : (Tryz.prog.underlying 131).isSome = true := by kernel_rfl
@[simp] theorem el131 : elemT Tryz.prog 131 = some 173 := by kernel_rfl
@[simp] theorem ef131 : elemF Tryz.prog 131 = some (173, ⟨5, 56, (some [.int .i64 0, .string ⟨#[]⟩, .string ⟨#[]⟩, .int .u64 0, .int .u64 0]), true, true⟩) := by kernel_rfl
@[simp] theorem tf132 : tf Tryz.prog 132 = some ⟨1, 24, (some [.slice none 0 0]), true, true⟩ := by kernel_rfl
@[simp] theorem un132 : (Tryz.prog.underlying 132).isSome = true := by kernel_rfl
@[simp] theorem fo132_0 : fieldT Tryz.prog 132 0 = some 0 := by kernel_rfl
@[simp] theorem pa132 : partsT Tryz.prog 132 = some [(0, 1)] := by kernel_rfl
@[simp] theorem tf133 : tf Tryz.prog 133 = some ⟨1, 24, (some [.slice none 0 0]), true, true⟩ := by kernel_rfl
@[simp] theorem un133 : (Tryz.prog.underlying 133).isSome = true := by kernel_rfl
@[simp] theorem fo133_0 : fieldT Tryz.prog 133 0 = some 0 := by kernel_rfl
@[simp] theorem pa133 : partsT Tryz.prog 133 = some [(0, 1)] := by kernel_rfl
@[simp] theorem tf134 : tf Tryz.prog 134 = some ⟨1, 8, (some [.map none]), false, true⟩ := by kernel_rfl
@[simp] theorem un134 : (Tryz.prog.underlying 134).isSome = true := by kernel_rfl
@[simp] theorem tf135 : tf Tryz.prog 135 = some ⟨1, 8, (some [.map none]), false, true⟩ := by kernel_rfl
@[simp] theorem un135 : (Tryz.prog.underlying 135).isSome = true := by kernel_rfl
@[simp] theorem tf136 : tf Tryz.prog 136 = some ⟨6, 64, (some [.pointer none, .slice none 0 0, .int .u64 0, .int .i64 0, .map none, .map none]), true, true⟩ := by kernel_rfl
@[simp] theorem un136 : (Tryz.prog.underlying 136).isSome = true := by kernel_rfl
@[simp] theorem fo136_0 : fieldT Tryz.prog 136 0 = some 0 := by kernel_rfl
@[simp] theorem fo136_1 : fieldT Tryz.prog 136 1 = some 1 := by kernel_rfl
@[simp] theorem fo136_2 : fieldT Tryz.prog 136 2 = some 2 := by kernel_rfl
@[simp] theorem fo136_3 : fieldT Tryz.prog 136 3 = some 3 := by kernel_rfl
@[simp] theorem fo136_4 : fieldT Tryz.prog 136 4 = some 4 := by kernel_rfl
@[simp] theorem fo136_5 : fieldT Tryz.prog 136 5 = some 5 := by kernel_rfl
@[simp] theorem pa136 : partsT Tryz.prog 136 = some [(0, 1), (1, 1), (2, 1), (3, 1), (4, 1), (5, 1)] := by kernel_rfl
@[simp] theorem tf137 : tf Tryz.prog 137 = some ⟨6, 64, (some [.pointer none, .slice none 0 0, .int .u64 0, .int .i64 0, .map none, .map none]), true, true⟩ := by kernel_rfl
@[simp] theorem un137 : (Tryz.prog.underlying 137).isSome = true := by kernel_rfl
@[simp] theorem fo137_0 : fieldT Tryz.prog 137 0 = some 0 := by kernel_rfl
@[simp] theorem fo137_1 : fieldT Tryz.prog 137 1 = some 1 := by kernel_rfl
@[simp] theorem fo137_2 : fieldT Tryz.prog 137 2 = some 2 := by kernel_rfl
@[simp] theorem fo137_3 : fieldT Tryz.prog 137 3 = some 3 := by kernel_rfl
@[simp] theorem fo137_4 : fieldT Tryz.prog 137 4 = some 4 := by kernel_rfl
@[simp] theorem fo137_5 : fieldT Tryz.prog 137 5 = some 5 := by kernel_rfl
@[simp] theorem pa137 : partsT Tryz.prog 137 = some [(0, 1), (1, 1), (2, 1), (3, 1), (4, 1), (5, 1)] := by kernel_rfl
@[simp] theorem un138 : (Tryz.prog.underlying 138).isSome = true := by kernel_rfl
@[simp] theorem tf139 : tf Tryz.prog 139 = some ⟨1, 8, (some [.nilFunc]), false, true⟩ := by kernel_rfl
@[simp] theorem un139 : (Tryz.prog.underlying 139).isSome = true := by kernel_rfl
@[simp] theorem tf140 : tf Tryz.prog 140 = some ⟨1, 8, (some [.pointer none]), false, true⟩ := by kernel_rfl
@[simp] theorem un140 : (Tryz.prog.underlying 140).isSome = true := by kernel_rfl
@[simp] theorem un141 : (Tryz.prog.underlying 141).isSome = true := by kernel_rfl
@[simp] theorem tf142 : tf Tryz.prog 142 = some ⟨1, 8, (some [.nilFunc]), false, true⟩ := by kernel_rfl
@[simp] theorem un142 : (Tryz.prog.underlying 142).isSome = true := by kernel_rfl
@[simp] theorem tf143 : tf Tryz.prog 143 = some ⟨1, 8, (some [.int .i64 0]), false, true⟩ := by kernel_rfl
@[simp] theorem it143 : intT Tryz.prog 143 = some .i64 := by kernel_rfl
@[simp] theorem un143 : (Tryz.prog.underlying 143).isSome = true := by kernel_rfl
@[simp] theorem tf144 : tf Tryz.prog 144 = some ⟨2, 16, (some [.int .u64 0, .int .u64 0]), true, true⟩ := by kernel_rfl
@[simp] theorem un144 : (Tryz.prog.underlying 144).isSome = true := by kernel_rfl
@[simp] theorem fo144_0 : fieldT Tryz.prog 144 0 = some 0 := by kernel_rfl
@[simp] theorem fo144_1 : fieldT Tryz.prog 144 1 = some 1 := by kernel_rfl
@[simp] theorem pa144 : partsT Tryz.prog 144 = some [(0, 1), (1, 1)] := by kernel_rfl
@[simp] theorem tf145 : tf Tryz.prog 145 = some ⟨2, 16, (some [.int .u64 0, .int .u64 0]), true, true⟩ := by kernel_rfl
@[simp] theorem un145 : (Tryz.prog.underlying 145).isSome = true := by kernel_rfl
@[simp] theorem fo145_0 : fieldT Tryz.prog 145 0 = some 0 := by kernel_rfl
@[simp] theorem fo145_1 : fieldT Tryz.prog 145 1 = some 1 := by kernel_rfl
@[simp] theorem pa145 : partsT Tryz.prog 145 = some [(0, 1), (1, 1)] := by kernel_rfl
@[simp] theorem tf146 : tf Tryz.prog 146 = some ⟨1, 8, (some [.map none]), false, true⟩ := by kernel_rfl
@[simp] theorem un146 : (Tryz.prog.underlying 146).isSome = true := by kernel_rfl
@[simp] theorem tf147 : tf Tryz.prog 147 = some ⟨4, 32, (some [.int .i64 0, .int .u64 0, .int .u64 0, .map none]), true, true⟩ := by kernel_rfl
@[simp] theorem un147 : (Tryz.prog.underlying 147).isSome = true := by kernel_rfl
@[simp] theorem fo147_0 : fieldT Tryz.prog 147 0 = some 0 := by kernel_rfl
@[simp] theorem fo147_1 : fieldT Tryz.prog 147 1 = some 1 := by kernel_rfl
@[simp] theorem fo147_2 : fieldT Tryz.prog 147 2 = some 3 := by kernel_rfl
@[simp] theorem pa147 : partsT Tryz.prog 147 = some [(0, 1), (1, 2), (3, 1)] := by kernel_rfl
@[simp] theorem tf148 : tf Tryz.prog 148 = some ⟨4, 32, (some [.int .i64 0, .int .u64 0, .int .u64 0, .map none]), true, true⟩ := by kernel_rfl
@[simp] theorem un148 : (Tryz.prog.underlying 148).isSome = true := by kernel_rfl
@[simp] theorem fo148_0 : fieldT Tryz.prog 148 0 = some 0 := by kernel_rfl
@[simp] theorem fo148_1 : fieldT Tryz.prog 148 1 = some 1 := by kernel_rfl
@[simp] theorem fo148_2 : fieldT Tryz.prog 148 2 = some 3 := by kernel_rfl
@[simp] theorem pa148 : partsT Tryz.prog 148 = some [(0, 1), (1, 2), (3, 1)] := by kernel_rfl
@[simp] theorem tf149 : tf Tryz.prog 149 = some ⟨1, 8, (some [.int .u64 0]), false, true⟩ := by kernel_rfl
@[simp] theorem it149 : intT Tryz.prog 149 = some .u64 := by kernel_rfl
@[simp] theorem un149 : (Tryz.prog.underlying 149).isSome = true := by kernel_rfl
@[simp] theorem tf150 : tf Tryz.prog 150 = some ⟨1, 8, (some [.nilFunc]), false, true⟩ := by kernel_rfl
@[simp] theorem un150 : (Tryz.prog.underlying 150).isSome = true := by kernel_rfl
@[simp] theorem tf151 : tf Tryz.prog 151 = some ⟨1, 8, (some [.nilFunc]), false, true⟩ := by kernel_rfl
@[simp] theorem un151 : (Tryz.prog.underlying 151).isSome = true := by kernel_rfl
@[simp] theorem tf152 : tf Tryz.prog 152 = some ⟨1, 8, (some [.nilFunc]), false, true⟩ := by kernel_rfl
@[simp] theorem un152 : (Tryz.prog.underlying 152).isSome = true := by kernel_rfl
@[simp] theorem tf153 : tf Tryz.prog 153 = some ⟨1, 8, (some [.nilFunc]), false, true⟩ := by kernel_rfl
@[simp] theorem un153 : (Tryz.prog.underlying 153).isSome = true := by kernel_rfl
@[simp] theorem tf154 : tf Tryz.prog 154 = some ⟨1, 8, (some [.nilFunc]), false, true⟩ := by kernel_rfl
@[simp] theorem un154 : (Tryz.prog.underlying 154).isSome = true := by kernel_rfl
@[simp] theorem tf155 : tf Tryz.prog 155 = some ⟨1, 8, (some [.nilFunc]), false, true⟩ := by kernel_rfl
@[simp] theorem un155 : (Tryz.prog.underlying 155).isSome = true := by kernel_rfl
@[simp] theorem tf156 : tf Tryz.prog 156 = some ⟨1, 8, (some [.nilFunc]), false, true⟩ := by kernel_rfl
@[simp] theorem un156 : (Tryz.prog.underlying 156).isSome = true := by kernel_rfl
@[simp] theorem un157 : (Tryz.prog.underlying 157).isSome = true := by kernel_rfl
@[simp] theorem tf158 : tf Tryz.prog 158 = some ⟨1, 8, (some [.nilFunc]), false, true⟩ := by kernel_rfl
@[simp] theorem un158 : (Tryz.prog.underlying 158).isSome = true := by kernel_rfl
@[simp] theorem tf159 : tf Tryz.prog 159 = some ⟨1, 8, (some [.nilFunc]), false, true⟩ := by kernel_rfl
@[simp] theorem un159 : (Tryz.prog.underlying 159).isSome = true := by kernel_rfl
@[simp] theorem tf160 : tf Tryz.prog 160 = some ⟨1, 8, (some [.pointer none]), false, true⟩ := by kernel_rfl
@[simp] theorem un160 : (Tryz.prog.underlying 160).isSome = true := by kernel_rfl
@[simp] theorem tf161 : tf Tryz.prog 161 = some ⟨2, 32, (some [.pointer none, .slice none 0 0]), true, true⟩ := by kernel_rfl
@[simp] theorem un161 : (Tryz.prog.underlying 161).isSome = true := by kernel_rfl
@[simp] theorem fo161_0 : fieldT Tryz.prog 161 0 = some 0 := by kernel_rfl
@[simp] theorem fo161_1 : fieldT Tryz.prog 161 1 = some 1 := by kernel_rfl
@[simp] theorem pa161 : partsT Tryz.prog 161 = some [(0, 1), (1, 1)] := by kernel_rfl
@[simp] theorem tf162 : tf Tryz.prog 162 = some ⟨2, 32, (some [.pointer none, .slice none 0 0]), true, true⟩ := by kernel_rfl
@[simp] theorem un162 : (Tryz.prog.underlying 162).isSome = true := by kernel_rfl
@[simp] theorem fo162_0 : fieldT Tryz.prog 162 0 = some 0 := by kernel_rfl
@[simp] theorem fo162_1 : fieldT Tryz.prog 162 1 = some 1 := by kernel_rfl
@[simp] theorem pa162 : partsT Tryz.prog 162 = some [(0, 1), (1, 1)] := by kernel_rfl
@[simp] theorem tf163 : tf Tryz.prog 163 = some ⟨1, 8, (some [.nilFunc]), false, true⟩ := by kernel_rfl
@[simp] theorem un163 : (Tryz.prog.underlying 163).isSome = true := by kernel_rfl
@[simp] theorem tf164 : tf Tryz.prog 164 = some ⟨1, 16, (some [.nilIface]), false, true⟩ := by kernel_rfl
@[simp] theorem un164 : (Tryz.prog.underlying 164).isSome = true := by kernel_rfl
@[simp] theorem tf165 : tf Tryz.prog 165 = some ⟨1, 16, (some [.nilIface]), false, true⟩ := by kernel_rfl
@[simp] theorem un165 : (Tryz.prog.underlying 165).isSome = true := by kernel_rfl
@[simp] theorem un166 : (Tryz.prog.underlying 166).isSome = true := by kernel_rfl
@[simp] theorem tf167 : tf Tryz.prog 167 = some ⟨1, 8, (some [.nilFunc]), false, true⟩ := by kernel_rfl
@[simp] theorem un167 : (Tryz.prog.underlying 167).isSome = true := by kernel_rfl
@[simp] theorem tf168 : tf Tryz.prog 168 = some ⟨1, 8, (some [.nilFunc]), false, true⟩ := by kernel_rfl
@[simp] theorem un168 : (Tryz.prog.underlying 168).isSome = true := by kernel_rfl
@[simp] theorem tf169 : tf Tryz.prog 169 = some ⟨1, 8, (some [.nilFunc]), false, true⟩ := by kernel_rfl
@[simp] theorem un169 : (Tryz.prog.underlying 169).isSome = true := by kernel_rfl
@[simp] theorem tf170 : tf Tryz.prog 170 = some ⟨1, 24, (some [.slice none 0 0]), false, true⟩ := by kernel_rfl
@[simp] theorem un170 : (Tryz.prog.underlying 170).isSome = true := by kernel_rfl
@[simp] theorem el170 : elemT Tryz.prog 170 = some 196 := by kernel_rfl
@[simp] theorem tf171 : tf Tryz.prog 171 = some ⟨1, 8, (some [.nilFunc]), false, true⟩ := by kernel_rfl
@[simp] theorem un171 : (Tryz.prog.underlying 171).isSome = true := by kernel_rfl
@[simp] theorem tf172 : tf Tryz.prog 172 = some ⟨5, 56, (some [.int .i64 0, .string ⟨#[]⟩, .string ⟨#[]⟩, .int .u64 0, .int .u64 0]), true, true⟩ := by kernel_rfl
@[simp] theorem un172 : (Tryz.prog.underlying 172).isSome = true := by kernel_rfl
@[simp] theorem fo172_0 : fieldT Tryz.prog 172 0 = some 0 := by kernel_rfl
@[simp] theorem fo172_1 : fieldT Tryz.prog 172 1 = some 1 := by kernel_rfl
@[simp] theorem fo172_2 : fieldT Tryz.prog 172 2 = some 2 := by kernel_rfl
@[simp] theorem fo172_3 : fieldT Tryz.prog 172 3 = some 3 := by kernel_rfl
@[simp] theorem pa172 : partsT Tryz.prog 172 = some [(0, 1), (1, 1), (2, 1), (3, 2)] := by kernel_rfl
@[simp] theorem tf173 : tf Tryz.prog 173 = some ⟨5, 56, (some [.int .i64 0, .string ⟨#[]⟩, .string ⟨#[]⟩, .int .u64 0, .int .u64 0]), true, true⟩ := by kernel_rfl
@[simp] theorem un173 : (Tryz.prog.underlying 173).isSome = true := by kernel_rfl
@[simp] theorem fo173_0 : fieldT Tryz.prog 173 0 = some 0 := by kernel_rfl
@[simp] theorem fo173_1 : fieldT Tryz.prog 173 1 = some 1 := by kernel_rfl
@[simp] theorem fo173_2 : fieldT Tryz.prog 173 2 = some 2 := by kernel_rfl
@[simp] theorem fo173_3 : fieldT Tryz.prog 173 3 = some 3 := by kernel_rfl
@[simp] theorem pa173 : partsT Tryz.prog 173 = some [(0, 1), (1, 1), (2, 1), (3, 2)] := by kernel_rfl
@[simp] theorem tf174 : tf Tryz.prog 174 = some ⟨1, 8, (some [.nilFunc]), false, true⟩ := by kernel_rfl
@[simp] theorem un174 : (Tryz.prog.underlying 174).isSome = true := by kernel_rfl
@[simp] theorem tf175 : tf Tryz.prog 175 = some ⟨1, 8, (some [.nilFunc]), false, true⟩ := by kernel_rfl
@[simp] theorem un175 : (Tryz.prog.underlying 175).isSome = true := by kernel_rfl
@[simp] theorem tf176 : tf Tryz.prog 176 = some ⟨1, 8, (some [.nilFunc]), false, true⟩ := by kernel_rfl
@[simp] theorem un176 : (Tryz.prog.underlying 176).isSome = true := by kernel_rfl
@[simp] theorem un177 : (Tryz.prog.underlying 177).isSome = true := by kernel_rfl
@[simp] theorem tf178 : tf Tryz.prog 178 = some ⟨1, 8, (some [.nilFunc]), false, true⟩ := by kernel_rfl
@[simp] theorem un178 : (Tryz.prog.underlying 178).isSome = true := by kernel_rfl
@[simp] theorem tf179 : tf Tryz.prog 179 = some ⟨1, 8, (some [.nilFunc]), false, true⟩ := by kernel_rfl
@[simp] theorem un179 : (Tryz.prog.underlying 179).isSome = true := by kernel_rfl
@[simp] theorem tf180 : tf Tryz.prog 180 = some ⟨1, 8, (some [.nilFunc]), false, true⟩ := by kernel_rfl
@[simp] theorem un180 : (Tryz.prog.underlying 180).isSome = true := by kernel_rfl
@[simp] theorem tf181 : tf Tryz.prog 181 = some ⟨1, 8, (some [.nilFunc]), false, true⟩ := by kernel_rfl
@[simp] theorem un181 : (Tryz.prog.underlying 181).isSome = true := by kernel_rfl
@[simp] theorem tf182 : tf Tryz.prog 182 = some ⟨1, 8, (some [.nilFunc]), false, true⟩ := by kernel_rfl
@[simp] theorem un182 : (Tryz.prog.underlying 182).isSome = true := by kernel_rfl
@[simp] theorem tf183 : tf Tryz.prog 183 = some ⟨1, 4, (some [.int .u32 0]), false, true⟩ := by kernel_rfl
@[simp] theorem it183 : intT Tryz.prog 183 = some .u32 := by kernel_rfl
@[simp] theorem un183 : (Tryz.prog.underlying 183).isSome = true := by kernel_rfl
@[simp] theorem un184 : (Tryz.prog.underlying 184).isSome = true := by kernel_rfl
@[simp] theorem tf185 : tf Tryz.prog 185 = some ⟨1, 8, (some [.nilFunc]), false, true⟩ := by kernel_rfl
@[simp] theorem un185 : (Tryz.prog.underlying 185).isSome = true := by kernel_rfl
@[simp] theorem un186 : (Tryz.prog.underlying 186).isSome = true := by kernel_rfl
@[simp] theorem tf187 : tf Tryz.prog 187 = some ⟨1, 8, (some [.nilFunc]), false, true⟩ := by kernel_rfl
@[simp] theorem un187 : (Tryz.prog.underlying 187).isSome = true := by kernel_rfl
@[simp] theorem tf188 : tf Tryz.prog 188 = some ⟨1, 8, (some [.pointer none]), false, true⟩ := by kernel_rfl
@[simp] theorem un188 : (Tryz.prog.underlying 188).isSome = true := by kernel_rfl
@[simp] theorem tf189 : tf Tryz.prog 189 = some ⟨1, 8, (some [.nilFunc]), false, true⟩ := by kernel_rfl
@[simp] theorem un189 : (Tryz.prog.underlying 189).isSome = true := by kernel_rfl
@[simp] theorem tf190 : tf Tryz.prog 190 = some ⟨1, 24, (some [.slice none 0 0]), false, true⟩ := by kernel_rfl
@[simp] theorem un190 : (Tryz.prog.underlying 190).isSome = true := by kernel_rfl
@[simp] theorem el190 : elemT Tryz.prog 190 = some 145 := by kernel_rfl
@[simp] theorem ef190 : elemF Tryz.prog 190 = some (145, ⟨2, 16, (some [.int .u64 0, .int .u64 0]), true, true⟩) := by kernel_rfl
@[simp] theorem tf191 : tf Tryz.prog 191 = some ⟨1, 24, (some [.slice none 0 0]), false, true⟩ := by kernel_rfl
@[simp] theorem un191 : (Tryz.prog.underlying 191).isSome = true := by kernel_rfl
@[simp] theorem el191 : elemT Tryz.prog 191 = some 145 := by kernel_rfl
@[simp] theorem ef191 : elemF Tryz.prog 191 = some (145, ⟨2, 16, (some [.int .u64 0, .int .u64 0]), true, true⟩) := by kernel_rfl
@[simp] theorem tf192 : tf Tryz.prog 192 = some ⟨1, 8, (some [.nilFunc]), false, true⟩ := by kernel_rfl
@[simp] theorem un192 : (Tryz.prog.underlying 192).isSome = true := by kernel_rfl
@[simp] theorem tf193 : tf Tryz.prog 193 = some ⟨1, 8, (some [.nilFunc]), false, true⟩ := by kernel_rfl
@[simp] theorem un193 : (Tryz.prog.underlying 193).isSome = true := by kernel_rfl
@[simp] theorem un194 : (Tryz.prog.underlying 194).isSome = true := by kernel_rfl
@[simp] theorem un195 : (Tryz.prog.underlying 195).isSome = true := by kernel_rfl
@[simp] theorem fo195_0 : fieldT Tryz.prog 195 0 = some 0 := by kernel_rfl
@[simp] theorem fo195_1 : fieldT Tryz.prog 195 1 = some 1 := by kernel_rfl
@[simp] theorem pa195 : partsT Tryz.prog 195 = some [(0, 1), (1, 1)] := by kernel_rfl
@[simp] theorem un196 : (Tryz.prog.underlying 196).isSome = true := by kernel_rfl
@[simp] theorem fo196_0 : fieldT Tryz.prog 196 0 = some 0 := by kernel_rfl
@[simp] theorem fo196_1 : fieldT Tryz.prog 196 1 = some 1 := by kernel_rfl
@[simp] theorem pa196 : partsT Tryz.prog 196 = some [(0, 1), (1, 1)] := by kernel_rfl
@[simp] theorem tf197 : tf Tryz.prog 197 = some ⟨1, 8, (some [.nilFunc]), false, true⟩ := by kernel_rfl
@[simp] theorem un197 : (Tryz.prog.underlying 197).isSome = true := by kernel_rfl
@[simp] theorem tf198 : tf Tryz.prog 198 = some ⟨1, 8, (some [.float .f64 0]), false, true⟩ := by kernel_rfl
@[simp] theorem un198 : (Tryz.prog.underlying 198).isSome = true := by kernel_rfl
@[simp] theorem tf199 : tf Tryz.prog 199 = some ⟨1, 8, (some [.nilFunc]), false, true⟩ := by kernel_rfl
@[simp] theorem un199 : (Tryz.prog.underlying 199).isSome = true := by kernel_rfl
@[simp] theorem tf200 : tf Tryz.prog 200 = some ⟨1, 8, (some [.nilFunc]), false, true⟩ := by kernel_rfl
@[simp] theorem un200 : (Tryz.prog.underlying 200).isSome = true := by kernel_rfl
@[simp] theorem tf201 : tf Tryz.prog 201 = some ⟨1, 8, (some [.int .i64 0]), false, true⟩ := by kernel_rfl
@[simp] theorem it201 : intT Tryz.prog 201 = some .i64 := by kernel_rfl
@[simp] theorem un201 : (Tryz.prog.underlying 201).isSome = true := by kernel_rfl
@[simp] theorem un202 : (Tryz.prog.underlying 202).isSome = true := by kernel_rfl
@[simp] theorem tf203 : tf Tryz.prog 203 = some ⟨1, 8, (some [.nilFunc]), false, true⟩ := by kernel_rfl
@[simp] theorem un203 : (Tryz.prog.underlying 203).isSome = true := by kernel_rfl
@[simp] theorem tf204 : tf Tryz.prog 204 = some ⟨1, 8, (some [.nilFunc]), false, true⟩ := by kernel_rfl
@[simp] theorem un204 : (Tryz.prog.underlying 204).isSome = true := by kernel_rfl
@[simp] theorem tf205 : tf Tryz.prog 205 = some ⟨1, 8, (some [.nilFunc]), false, true⟩ := by kernel_rfl
@[simp] theorem un205 : (Tryz.prog.underlying 205).isSome = true := by kernel_rfl
@[simp] theorem tf206 : tf Tryz.prog 206 = some ⟨1, 8, (some [.nilFunc]), false, true⟩ := by kernel_rfl
@[simp] theorem un206 : (Tryz.prog.underlying 206).isSome = true := by kernel_rfl
@[simp] theorem tf207 : tf Tryz.prog 207 = some ⟨1, 8, (some [.nilFunc]), false, true⟩ := by kernel_rfl
@[simp] theorem un207 : (Tryz.prog.underlying 207).isSome = true := by kernel_rfl
@[simp] theorem tf208 : tf Tryz.prog 208 = some ⟨1, 8, (some [.nilFunc]), false, true⟩ := by kernel_rfl
@[simp] theorem un208 : (Tryz.prog.underlying 208).isSome = true := by kernel_rfl
@[simp] theorem tf209 : tf Tryz.prog 209 = some ⟨1, 8, (some [.nilFunc]), false, true⟩ := by kernel_rfl
@[simp] theorem un209 : (Tryz.prog.underlying 209).isSome = true := by kernel_rfl
@[simp] theorem tf210 : tf Tryz.prog 210 = some ⟨1, 8, (some [.pointer none]), false, true⟩ := by kernel_rfl
@[simp] theorem un210 : (Tryz.prog.underlying 210).isSome = true := by kernel_rfl
@[simp] theorem tf211 : tf Tryz.prog 211 = some ⟨1, 8, (some [.nilFunc]), false, true⟩ := by kernel_rfl
@[simp] theorem un211 : (Tryz.prog.underlying 211).isSome = true := by kernel_rfl
@[simp] theorem tf212 : tf Tryz.prog 212 = some ⟨1, 8, (some [.nilFunc]), false, true⟩ := by kernel_rfl
@[simp] theorem un212 : (Tryz.prog.underlying 212).isSome = true := by kernel_rfl
@[simp] theorem tf213 : tf Tryz.prog 213 = some ⟨1, 8, (some [.nilFunc]), false, true⟩ := by kernel_rfl
@[simp] theorem un213 : (Tryz.prog.underlying 213).isSome = true := by kernel_rfl
@[simp] theorem un214 : (Tryz.prog.underlying 214).isSome = true := by kernel_rfl
@[simp] theorem tf215 : tf Tryz.prog 215 = some ⟨1, 8, (some [.nilFunc]), false, true⟩ := by kernel_rfl
@[simp] theorem un215 : (Tryz.prog.underlying 215).isSome = true := by kernel_rfl
@[simp] theorem tf216 : tf Tryz.prog 216 = some ⟨1, 8, (some [.pointer none]), false, true⟩ := by kernel_rfl
@[simp] theorem un216 : (Tryz.prog.underlying 216).isSome = true := by kernel_rfl
@[simp] theorem tf217 : tf Tryz.prog 217 = some ⟨1, 8, (some [.nilFunc]), false, true⟩ := by kernel_rfl
@[simp] theorem un217 : (Tryz.prog.underlying 217).isSome = true := by kernel_rfl
@[simp] theorem tf218 : tf Tryz.prog 218 = some ⟨1, 8, (some [.int .u64 0]), false, true⟩ := by kernel_rfl
@[simp] theorem it218 : intT Tryz.prog 218 = some .u64 := by kernel_rfl
@[simp] theorem un218 : (Tryz.prog.underlying 218).isSome = true := by kernel_rfl
@[simp] theorem tf219 : tf Tryz.prog 219 = some ⟨1, 8, (some [.nilFunc]), false, true⟩ := by kernel_rfl
@[simp] theorem un219 : (Tryz.prog.underlying 219).isSome = true := by kernel_rfl
@[simp] theorem tf220 : tf Tryz.prog 220 = some ⟨1, 8, (some [.nilFunc]), false, true⟩ := by kernel_rfl
@[simp] theorem un220 : (Tryz.prog.underlying 220).isSome = true := by kernel_rfl
@[simp] theorem tf221 : tf Tryz.prog 221 = some ⟨1, 8, (some [.pointer none]), false, true⟩ := by kernel_rfl
@[simp] theorem un221 : (Tryz.prog.underlying 221).isSome = true := by kernel_rfl
@[simp] theorem tf222 : tf Tryz.prog 222 = some ⟨1, 8, (some [.nilFunc]), false, true⟩ := by kernel_rfl
@[simp] theorem un222 : (Tryz.prog.underlying 222).isSome = true := by kernel_rfl
@[simp] theorem tf223 : tf Tryz.prog 223 = some ⟨1, 8, (some [.nilFunc]), false, true⟩ := by kernel_rfl
@[simp] theorem un223 : (Tryz.prog.underlying 223).isSome = true := by kernel_rfl
@[simp] theorem tf224 : tf Tryz.prog 224 = some ⟨1, 8, (some [.nilFunc]), false, true⟩ := by kernel_rfl
@[simp] theorem un224 : (Tryz.prog.underlying 224).isSome = true := by kernel_rfl
@[simp] theorem tf225 : tf Tryz.prog 225 = some ⟨1, 8, (some [.nilFunc]), false, true⟩ := by kernel_rfl
@[simp] theorem un225 : (Tryz.prog.underlying 225).isSome = true := by kernel_rfl
@[simp] theorem tf226 : tf Tryz.prog 226 = some ⟨1, 8, (some [.nilFunc]), false, true⟩ := by kernel_rfl
@[simp] theorem un226 : (Tryz.prog.underlying 226).isSome = true := by kernel_rfl
@[simp] theorem tf227 : tf Tryz.prog 227 = some ⟨1, 8, (some [.nilFunc]), false, true⟩ := by kernel_rfl
@[simp] theorem un227 : (Tryz.prog.underlying 227).isSome = true := by kernel_rfl
@[simp] theorem tf228 : tf Tryz.prog 228 = some ⟨1, 8, (some [.nilFunc]), false, true⟩ := by kernel_rfl
@[simp] theorem un228 : (Tryz.prog.underlying 228).isSome = true := by kernel_rfl
@[simp] theorem tf229 : tf Tryz.prog 229 = some ⟨1, 8, (some [.nilFunc]), false, true⟩ := by kernel_rfl
@[simp] theorem un229 : (Tryz.prog.underlying 229).isSome = true := by kernel_rfl
@[simp] theorem tf230 : tf Tryz.prog 230 = some ⟨1, 8, (some [.nilFunc]), false, true⟩ := by kernel_rfl
@[simp] theorem un230 : (Tryz.prog.underlying 230).isSome = true := by kernel_rfl
@[simp] theorem tf231 : tf Tryz.prog 231 = some ⟨1, 8, (some [.nilFunc]), false, true⟩ := by kernel_rfl
@[simp] theorem un231 : (Tryz.prog.underlying 231).isSome = true := by kernel_rfl
@[simp] theorem tf232 : tf Tryz.prog 232 = some ⟨1, 8, (some [.pointer none]), false, true⟩ := by kernel_rfl
@[simp] theorem un232 : (Tryz.prog.underlying 232).isSome = true := by kernel_rfl
@[simp] theorem un233 : (Tryz.prog.underlying 233).isSome = true := by kernel_rfl
@[simp] theorem tf234 : tf Tryz.prog 234 = some ⟨1, 8, (some [.nilFunc]), false, true⟩ := by kernel_rfl
@[simp] theorem un234 : (Tryz.prog.underlying 234).isSome = true := by kernel_rfl
@[simp] theorem tf235 : tf Tryz.prog 235 = some ⟨1, 8, (some [.pointer none]), false, true⟩ := by kernel_rfl
@[simp] theorem un235 : (Tryz.prog.underlying 235).isSome = true := by kernel_rfl
@[simp] theorem tf236 : tf Tryz.prog 236 = some ⟨1, 8, (some [.nilFunc]), false, true⟩ := by kernel_rfl
@[simp] theorem un236 : (Tryz.prog.underlying 236).isSome = true := by kernel_rfl
@[simp] theorem tf237 : tf Tryz.prog 237 = some ⟨1, 8, (some [.pointer none]), false, true⟩ := by kernel_rfl
@[simp] theorem un237 : (Tryz.prog.underlying 237).isSome = true := by kernel_rfl
@[simp] theorem un238 : (Tryz.prog.underlying 238).isSome = true := by kernel_rfl
@[simp] theorem tf239 : tf Tryz.prog 239 = some ⟨1, 8, (some [.nilFunc]), false, true⟩ := by kernel_rfl
@[simp] theorem un239 : (Tryz.prog.underlying 239).isSome = true := by kernel_rfl
@[simp] theorem tf240 : tf Tryz.prog 240 = some ⟨1, 8, (some [.nilFunc]), false, true⟩ := by kernel_rfl
@[simp] theorem un240 : (Tryz.prog.underlying 240).isSome = true := by kernel_rfl
@[simp] theorem tf241 : tf Tryz.prog 241 = some ⟨1, 8, (some [.nilFunc]), false, true⟩ := by kernel_rfl
@[simp] theorem un241 : (Tryz.prog.underlying 241).isSome = true := by kernel_rfl
@[simp] theorem tf242 : tf Tryz.prog 242 = some ⟨1, 8, (some [.nilFunc]), false, true⟩ := by kernel_rfl
@[simp] theorem un242 : (Tryz.prog.underlying 242).isSome = true := by kernel_rfl
@[simp] theorem tf243 : tf Tryz.prog 243 = some ⟨1, 8, (some [.nilFunc]), false, true⟩ := by kernel_rfl
@[simp] theorem un243 : (Tryz.prog.underlying 243).isSome = true := by kernel_rfl
@[simp] theorem tf244 : tf Tryz.prog 244 = some ⟨1, 8, (some [.nilFunc]), false, true⟩ := by kernel_rfl
@[simp] theorem un244 : (Tryz.prog.underlying 244).isSome = true := by kernel_rfl
@[simp] theorem tf245 : tf Tryz.prog 245 = some ⟨1, 8, (some [.pointer none]), false, true⟩ := by kernel_rfl
@[simp] theorem un245 : (Tryz.prog.underlying 245).isSome = true := by kernel_rfl
@[simp] theorem tf246 : tf Tryz.prog 246 = some ⟨1, 8, (some [.nilFunc]), false, true⟩ := by kernel_rfl
@[simp] theorem un246 : (Tryz.prog.underlying 246).isSome = true := by kernel_rfl
@[simp] theorem tf247 : tf Tryz.prog 247 = some ⟨2, 24, (some [.pointer none, .string ⟨#[]⟩]), true, true⟩ := by kernel_rfl
@[simp] theorem un247 : (Tryz.prog.underlying 247).isSome = true := by kernel_rfl
@[simp] theorem fo247_0 : fieldT Tryz.prog 247 0 = some 0 := by kernel_rfl
@[simp] theorem fo247_1 : fieldT Tryz.prog 247 1 = some 1 := by kernel_rfl
@[simp] theorem pa247 : partsT Tryz.prog 247 = some [(0, 1), (1, 1)] := by kernel_rfl
@[simp] theorem tf248 : tf Tryz.prog 248 = some ⟨2, 24, (some [.pointer none, .string ⟨#[]⟩]), true, true⟩ := by kernel_rfl
@[simp] theorem un248 : (Tryz.prog.underlying 248).isSome = true := by kernel_rfl
@[simp] theorem fo248_0 : fieldT Tryz.prog 248 0 = some 0 := by kernel_rfl
@[simp] theorem fo248_1 : fieldT Tryz.prog 248 1 = some 1 := by kernel_rfl
@[simp] theorem pa248 : partsT Tryz.prog 248 = some [(0, 1), (1, 1)] := by kernel_rfl
@[simp] theorem un249 : (Tryz.prog.underlying 249).isSome = true := by kernel_rfl
@[simp] theorem tf250 : tf Tryz.prog 250 = some ⟨1, 8, (some [.nilFunc]), false, true⟩ := by kernel_rfl
@[simp] theorem un250 : (Tryz.prog.underlying 250).isSome = true := by kernel_rfl
@[simp] theorem un251 : (Tryz.prog.underlying 251).isSome = true := by kernel_rfl
@[simp] theorem tf252 : tf Tryz.prog 252 = some ⟨1, 8, (some [.nilFunc]), false, true⟩ := by kernel_rfl
@[simp] theorem un252 : (Tryz.prog.underlying 252).isSome = true := by kernel_rfl
@[simp] theorem tf253 : tf Tryz.prog 253 = some ⟨1, 8, (some [.nilFunc]), false, true⟩ := by kernel_rfl
@[simp] theorem un253 : (Tryz.prog.underlying 253).isSome = true := by kernel_rfl
@[simp] theorem tf254 : tf Tryz.prog 254 = some ⟨1, 8, (some [.nilFunc]), false, true⟩ := by kernel_rfl
@[simp] theorem un254 : (Tryz.prog.underlying 254).isSome = true := by kernel_rfl
@[simp] theorem tf255 : tf Tryz.prog 255 = some ⟨1, 8, (some [.nilFunc]), false, true⟩ := by kernel_rfl
@[simp] theorem un255 : (Tryz.prog.underlying 255).isSome = true := by kernel_rfl
@[simp] theorem tf256 : tf Tryz.prog 256 = some ⟨1, 8, (some [.nilFunc]), false, true⟩ := by kernel_rfl
@[simp] theorem un256 : (Tryz.prog.underlying 256).isSome = true := by kernel_rfl
@[simp] theorem tf257 : tf Tryz.prog 257 = some ⟨1, 8, (some [.nilFunc]), false, true⟩ := by kernel_rfl
@[simp] theorem un257 : (Tryz.prog.underlying 257).isSome = true := by kernel_rfl
@[simp] theorem tf258 : tf Tryz.prog 258 = some ⟨1, 8, (some [.nilFunc]), false, true⟩ := by kernel_rfl
@[simp] theorem un258 : (Tryz.prog.underlying 258).isSome = true := by kernel_rfl
@[simp] theorem tf259 : tf Tryz.prog 259 = some ⟨1, 8, (some [.nilFunc]), false, true⟩ := by kernel_rfl
@[simp] theorem un259 : (Tryz.prog.underlying 259).isSome = true := by kernel_rfl
@[simp] theorem tf260 : tf Tryz.prog 260 = some ⟨1, 8, (some [.nilFunc]), false, true⟩ := by kernel_rfl
@[simp] theorem un260 : (Tryz.prog.underlying 260).isSome = true := by kernel_rfl
@[simp] theorem tf261 : tf Tryz.prog 261 = some ⟨1, 8, (some [.nilFunc]), false, true⟩ := by kernel_rfl
@[simp] theorem un261 : (Tryz.prog.underlying 261).isSome = true := by kernel_rfl
@[simp] theorem tf262 : tf Tryz.prog 262 = some ⟨1, 8, (some [.nilFunc]), false, true⟩ := by kernel_rfl
@[simp] theorem un262 : (Tryz.prog.underlying 262).isSome = true := by kernel_rfl
@[simp] theorem tf263 : tf Tryz.prog 263 = some ⟨1, 8, (some [.map none]), false, true⟩ := by kernel_rfl
@[simp] theorem un263 : (Tryz.prog.underlying 263).isSome = true := by kernel_rfl
@[simp] theorem tf264 : tf Tryz.prog 264 = some ⟨3, 24, (some [.pointer none, .map none, .int .i64 0]), true, true⟩ := by kernel_rfl
@[simp] theorem un264 : (Tryz.prog.underlying 264).isSome = true := by kernel_rfl
@[simp] theorem fo264_0 : fieldT Tryz.prog 264 0 = some 0 := by kernel_rfl
@[simp] theorem fo264_1 : fieldT Tryz.prog 264 1 = some 1 := by kernel_rfl
@[simp] theorem fo264_2 : fieldT Tryz.prog 264 2 = some 2 := by kernel_rfl
@[simp] theorem pa264 : partsT Tryz.prog 264 = some [(0, 1), (1, 1), (2, 1)] := by kernel_rfl
@[simp] theorem tf265 : tf Tryz.prog 265 = some ⟨3, 24, (some [.pointer none, .map none, .int .i64 0]), true, true⟩ := by kernel_rfl
@[simp] theorem un265 : (Tryz.prog.underlying 265).isSome = true := by kernel_rfl
@[simp] theorem fo265_0 : fieldT Tryz.prog 265 0 = some 0 := by kernel_rfl
@[simp] theorem fo265_1 : fieldT Tryz.prog 265 1 = some 1 := by kernel_rfl
@[simp] theorem fo265_2 : fieldT Tryz.prog 265 2 = some 2 := by kernel_rfl
@[simp] theorem pa265 : partsT Tryz.prog 265 = some [(0, 1), (1, 1), (2, 1)] := by kernel_rfl
@[simp] theorem tf266 : tf Tryz.prog 266 = some ⟨2, 16, (some [.int .i64 0, .int .i64 0]), true, true⟩ := by kernel_rfl
@[simp] theorem un266 : (Tryz.prog.underlying 266).isSome = true := by kernel_rfl
@[simp] theorem fo266_0 : fieldT Tryz.prog 266 0 = some 0 := by kernel_rfl
@[simp] theorem fo266_1 : fieldT Tryz.prog 266 1 = some 1 := by kernel_rfl
@[simp] theorem pa266 : partsT Tryz.prog 266 = some [(0, 1), (1, 1)] := by kernel_rfl
@[simp] theorem tf267 : tf Tryz.prog 267 = some ⟨2, 16, (some [.int .i64 0, .int .i64 0]), true, true⟩ := by kernel_rfl
@[simp] theorem un267 : (Tryz.prog.underlying 267).isSome = true := by kernel_rfl
@[simp] theorem fo267_0 : fieldT Tryz.prog 267 0 = some 0 := by kernel_rfl
@[simp] theorem fo267_1 : fieldT Tryz.prog 267 1 = some 1 := by kernel_rfl
@[simp] theorem pa267 : partsT Tryz.prog 267 = some [(0, 1), (1, 1)] := by kernel_rfl
@[simp] theorem tf268 : tf Tryz.prog 268 = some ⟨1, 8, (some [.pointer none]), false, true⟩ := by kernel_rfl
@[simp] theorem un268 : (Tryz.prog.underlying 268).isSome = true := by kernel_rfl
@[simp] theorem un269 : (Tryz.prog.underlying 269).isSome = true := by kernel_rfl
@[simp] theorem tf270 : tf Tryz.prog 270 = some ⟨2, 32, (some [.slice none 0 0, .int .i64 0]), true, true⟩ := by kernel_rfl
@[simp] theorem un270 : (Tryz.prog.underlying 270).isSome = true := by kernel_rfl
@[simp] theorem fo270_0 : fieldT Tryz.prog 270 0 = some 0 := by kernel_rfl
@[simp] theorem fo270_1 : fieldT Tryz.prog 270 1 = some 1 := by kernel_rfl
@[simp] theorem pa270 : partsT Tryz.prog 270 = some [(0, 1), (1, 1)] := by kernel_rfl
@[simp] theorem tf271 : tf Tryz.prog 271 = some ⟨2, 32, (some [.slice none 0 0, .int .i64 0]), true, true⟩ := by kernel_rfl
@[simp] theorem un271 : (Tryz.prog.underlying 271).isSome = true := by kernel_rfl
@[simp] theorem fo271_0 : fieldT Tryz.prog 271 0 = some 0 := by kernel_rfl
@[simp] theorem fo271_1 : fieldT Tryz.prog 271 1 = some 1 := by kernel_rfl
@[simp] theorem pa271 : partsT Tryz.prog 271 = some [(0, 1), (1, 1)] := by kernel_rfl
@[simp] theorem tf272 : tf Tryz.prog 272 = some ⟨1, 8, (some [.nilFunc]), false, true⟩ := by kernel_rfl
@[simp] theorem un272 : (Tryz.prog.underlying 272).isSome = true := by kernel_rfl
@[simp] theorem tf273 : tf Tryz.prog 273 = some ⟨1, 8, (some [.nilFunc]), false, true⟩ := by kernel_rfl
@[simp] theorem un273 : (Tryz.prog.underlying 273).isSome = true := by kernel_rfl
@[simp] theorem tf274 : tf Tryz.prog 274 = some ⟨1, 8, (some [.nilFunc]), false, true⟩ := by kernel_rfl
@[simp] theorem un274 : (Tryz.prog.underlying 274).isSome = true := by kernel_rfl
@[simp] theorem tf275 : tf Tryz.prog 275 = some ⟨1, 8, (some [.nilFunc]), false, true⟩ := by kernel_rfl
@[simp] theorem un275 : (Tryz.prog.underlying 275).isSome = true := by kernel_rfl
@[simp] theorem tf276 : tf Tryz.prog 276 = some ⟨0, 0, (some []), true, true⟩ := by kernel_rfl
@[simp] theorem un276 : (Tryz.prog.underlying 276).isSome = true := by kernel_rfl
@[simp] theorem pa276 : partsT Tryz.prog 276 = some [] := by kernel_rfl
@[simp] theorem tf277 : tf Tryz.prog 277 = some ⟨0, 0, (some []), true, true⟩ := by kernel_rfl
@[simp] theorem un277 : (Tryz.prog.underlying 277).isSome = true := by kernel_rfl
@[simp] theorem pa277 : partsT Tryz.prog 277 = some [] := by kernel_rfl
@[simp] theorem tf278 : tf Tryz.prog 278 = some ⟨1, 8, (some [.nilFunc]), false, true⟩ := by kernel_rfl
@[simp] theorem un278 : (Tryz.prog.underlying 278).isSome = true := by kernel_rfl
@[simp] theorem tf279 : tf Tryz.prog 279 = some ⟨1, 8, (some [.nilFunc]), false, true⟩ := by kernel_rfl
@[simp] theorem un279 : (Tryz.prog.underlying 279).isSome = true := by kernel_rfl
@[simp] theorem tf280 : tf Tryz.prog 280 = some ⟨1, 8, (some [.nilFunc]), false, true⟩ := by kernel_rfl
@[simp] theorem un280 : (Tryz.prog.underlying 280).isSome = true := by kernel_rfl
@[simp] theorem un281 : (Tryz.prog.underlying 281).isSome = true := by kernel_rfl
@[simp] theorem tf282 : tf Tryz.prog 282 = some ⟨1, 8, (some [.nilFunc]), false, true⟩ := by kernel_rfl
@[simp] theorem un282 : (Tryz.prog.underlying 282).isSome = true := by kernel_rfl
@[simp] theorem un283 : (Tryz.prog.underlying 283).isSome = true := by kernel_rfl
@[simp] theorem tf284 : tf Tryz.prog 284 = some ⟨1, 8, (some [.nilFunc]), false, true⟩ := by kernel_rfl
@[simp] theorem un284 : (Tryz.prog.underlying 284).isSome = true := by kernel_rfl
@[simp] theorem tf285 : tf Tryz.prog 285 = some ⟨1, 8, (some [.nilFunc]), false, true⟩ := by kernel_rfl
@[simp] theorem un285 : (Tryz.prog.underlying 285).isSome = true := by kernel_rfl
@[simp] theorem tf286 : tf Tryz.prog 286 = some ⟨1, 8, (some [.nilFunc]), false, true⟩ := by kernel_rfl
@[simp] theorem un286 : (Tryz.prog.underlying 286).isSome = true := by kernel_rfl
@[simp] theorem tf287 : tf Tryz.prog 287 = some ⟨1, 8, (some [.nilFunc]), false, true⟩ := by kernel_rfl
@[simp] theorem un287 : (Tryz.prog.underlying 287).isSome = true := by kernel_rfl
@[simp] theorem tf288 : tf Tryz.prog 288 = some ⟨4, 40, (some [.pointer none, .pointer none, .pointer none, .string ⟨#[]⟩]), true, true⟩ := by kernel_rfl
@[simp] theorem un288 : (Tryz.prog.underlying 288).isSome = true := by kernel_rfl
@[simp] theorem fo288_0 : fieldT Tryz.prog 288 0 = some 0 := by kernel_rfl
@[simp] theorem fo288_1 : fieldT Tryz.prog 288 1 = some 1 := by kernel_rfl
@[simp] theorem fo288_2 : fieldT Tryz.prog 288 2 = some 2 := by kernel_rfl
@[simp] theorem fo288_3 : fieldT Tryz.prog 288 3 = some 3 := by kernel_rfl
@[simp] theorem pa288 : partsT Tryz.prog 288 = some [(0, 1), (1, 1), (2, 1), (3, 1)] := by kernel_rfl
@[simp] theorem tf289 : tf Tryz.prog 289 = some ⟨4, 40, (some [.pointer none, .pointer none, .pointer none, .string ⟨#[]⟩]), true, true⟩ := by kernel_rfl
@[simp] theorem un289 : (Tryz.prog.underlying 289).isSome = true := by kernel_rfl
@[simp] theorem fo289_0 : fieldT Tryz.prog 289 0 = some 0 := by kernel_rfl
@[simp] theorem fo289_1 : fieldT Tryz.prog 289 1 = some 1 := by kernel_rfl
@[simp] theorem fo289_2 : fieldT Tryz.prog 289 2 = some 2 := by kernel_rfl
@[simp] theorem fo289_3 : fieldT Tryz.prog 289 3 = some 3 := by kernel_rfl
@[simp] theorem pa289 : partsT Tryz.prog 289 = some [(0, 1), (1, 1), (2, 1), (3, 1)] := by kernel_rfl
@[simp] theorem tf290 : tf Tryz.prog 290 = some ⟨0, 0, (some []), true, true⟩ := by kernel_rfl
@[simp] theorem un290 : (Tryz.prog.underlying 290).isSome = true := by kernel_rfl
@[simp] theorem tf291 : tf Tryz.prog 291 = some ⟨0, 0, (some []), true, true⟩ := by kernel_rfl
@[simp] theorem un291 : (Tryz.prog.underlying 291).isSome = true := by kernel_rfl
@[simp] theorem pa291 : partsT Tryz.prog 291 = some [(0, 0)] := by kernel_rfl
@[simp] theorem tf292 : tf Tryz.prog 292 = some ⟨0, 0, (some []), true, true⟩ := by kernel_rfl
@[simp] theorem un292 : (Tryz.prog.underlying 292).isSome = true := by kernel_rfl
@[simp] theorem pa292 : partsT Tryz.prog 292 = some [(0, 0)] := by kernel_rfl
@[simp] theorem tf293 : tf Tryz.prog 293 = some ⟨1, 1, (some [.int .u8 0]), false, true⟩ := by kernel_rfl
@[simp] theorem it293 : intT Tryz.prog 293 = some .u8 := by kernel_rfl
@[simp] theorem un293 : (Tryz.prog.underlying 293).isSome = true := by kernel_rfl
@[simp] theorem tf294 : tf Tryz.prog 294 = some ⟨1, 1, (some [.int .u8 0]), false, true⟩ := by kernel_rfl
@[simp] theorem it294 : intT Tryz.prog 294 = some .u8 := by kernel_rfl
@[simp] theorem un294 : (Tryz.prog.underlying 294).isSome = true := by kernel_rfl
@[simp] theorem tf295 : tf Tryz.prog 295 = some ⟨1, 8, (some [.nilFunc]), false, true⟩ := by kernel_rfl
@[simp] theorem un295 : (Tryz.prog.underlying 295).isSome = true := by kernel_rfl
@[simp] theorem tf296 : tf Tryz.prog 296 = some ⟨1, 4, (some [.int .i32 0]), false, true⟩ := by kernel_rfl
@[simp] theorem it296 : intT Tryz.prog 296 = some .i32 := by kernel_rfl
@[simp] theorem un296 : (Tryz.prog.underlying 296).isSome = true := by kernel_rfl
@[simp] theorem tf297 : tf Tryz.prog 297 = some ⟨1, 4, (some [.int .i32 0]), false, true⟩ := by kernel_rfl
@[simp] theorem it297 : intT Tryz.prog 297 = some .i32 := by kernel_rfl
@[simp] theorem un297 : (Tryz.prog.underlying 297).isSome = true := by kernel_rfl
@[simp] theorem tf298 : tf Tryz.prog 298 = some ⟨11, 48, (some [.int .u64 0, .int .u64 0, .int .u32 0, .int .u8 0, .int .u8 0, .int .u8 0, .int .u8 0, .nilFunc, .pointer none, .int .i32 0, .int .i32 0]), true, true⟩ := by kernel_rfl
@[simp] theorem un298 : (Tryz.prog.underlying 298).isSome = true := by kernel_rfl
@[simp] theorem fo298_0 : fieldT Tryz.prog 298 0 = some 0 := by kernel_rfl
@[simp] theorem fo298_1 : fieldT Tryz.prog 298 1 = some 1 := by kernel_rfl
@[simp] theorem fo298_2 : fieldT Tryz.prog 298 2 = some 2 := by kernel_rfl
@[simp] theorem fo298_3 : fieldT Tryz.prog 298 3 = some 3 := by kernel_rfl
@[simp] theorem fo298_4 : fieldT Tryz.prog 298 4 = some 4 := by kernel_rfl
@[simp] theorem fo298_5 : fieldT Tryz.prog 298 5 = some 5 := by kernel_rfl
@[simp] theorem fo298_6 : fieldT Tryz.prog 298 6 = some 6 := by kernel_rfl
@[simp] theorem fo298_7 : fieldT Tryz.prog 298 7 = some 7 := by kernel_rfl
@[simp] theorem fo298_8 : fieldT Tryz.prog 298 8 = some 8 := by kernel_rfl
@[simp] theorem fo298_9 : fieldT Tryz.prog 298 9 = some 9 := by kernel_rfl
@[simp] theorem fo298_10 : fieldT Tryz.prog 298 10 = some 10 := by kernel_rfl
@[simp] theorem pa298 : partsT Tryz.prog 298 = some [(0, 1), (1, 1), (2, 1), (3, 1), (4, 1), (5, 1), (6, 1), (7, 1), (8, 1), (9, 1), (10, 1)] := by kernel_rfl
@[simp] theorem tf299 : tf Tryz.prog 299 = some ⟨11, 48, (some [.int .u64 0, .int .u64 0, .int .u32 0, .int .u8 0, .int .u8 0, .int .u8 0, .int .u8 0, .nilFunc, .pointer none, .int .i32 0, .int .i32 0]), true, true⟩ := by kernel_rfl
@[simp] theorem un299 : (Tryz.prog.underlying 299).isSome = true := by kernel_rfl
@[simp] theorem fo299_0 : fieldT Tryz.prog 299 0 = some 0 := by kernel_rfl
@[simp] theorem fo299_1 : fieldT Tryz.prog 299 1 = some 1 := by kernel_rfl
@[simp] theorem fo299_2 : fieldT Tryz.prog 299 2 = some 2 := by kernel_rfl
@[simp] theorem fo299_3 : fieldT Tryz.prog 299 3 = some 3 := by kernel_rfl
@[simp] theorem fo299_4 : fieldT Tryz.prog 299 4 = some 4 := by kernel_rfl
@[simp] theorem fo299_5 : fieldT Tryz.prog 299 5 = some 5 := by kernel_rfl
@[simp] theorem fo299_6 : fieldT Tryz.prog 299 6 = some 6 := by kernel_rfl
@[simp] theorem fo299_7 : fieldT Tryz.prog 299 7 = some 7 := by kernel_rfl
@[simp] theorem fo299_8 : fieldT Tryz.prog 299 8 = some 8 := by kernel_rfl
@[simp] theorem fo299_9 : fieldT Tryz.prog 299 9 = some 9 := by kernel_rfl
@[simp] theorem fo299_10 : fieldT Tryz.prog 299 10 = some 10 := by kernel_rfl
@[simp] theorem pa299 : partsT Tryz.prog 299 = some [(0, 1), (1, 1), (2, 1), (3, 1), (4, 1), (5, 1), (6, 1), (7, 1), (8, 1), (9, 1), (10, 1)] := by kernel_rfl
@[simp] theorem tf300 : tf Tryz.prog 300 = some ⟨1, 8, (some [.nilFunc]), false, true⟩ := by kernel_rfl
@[simp] theorem un300 : (Tryz.prog.underlying 300).isSome = true := by kernel_rfl
@[simp] theorem nt2 : Tryz.f2.ntmps = 1 := by kernel_rfl
@[simp] theorem rs2 : Tryz.f2.results.toList = [] := by kernel_rfl
@[simp] theorem nt3 : Tryz.f3.ntmps = 99 := by kernel_rfl
@[simp] theorem rs3 : Tryz.f3.results.toList = [.tmp 4] := by kernel_rfl
@[simp] theorem nt4 : Tryz.f4.ntmps = 30 := by kernel_rfl
@[simp] theorem rs4 : Tryz.f4.results.toList = [.tmp 2] := by kernel_rfl
@[simp] theorem nt5 : Tryz.f5.ntmps = 66 := by kernel_rfl
@[simp] theorem rs5 : Tryz.f5.results.toList = [.tmp 10] := by kernel_rfl
@[simp] theorem nt6 : Tryz.f6.ntmps = 37 := by kernel_rfl
@[simp] theorem rs6 : Tryz.f6.results.toList = [.tmp 4] := by kernel_rfl
@[simp] theorem nt7 : Tryz.f7.ntmps = 71 := by kernel_rfl
@[simp] theorem rs7 : Tryz.f7.results.toList = [.tmp 10] := by kernel_rfl
@[simp] theorem nt8 : Tryz.f8.ntmps = 73 := by kernel_rfl
@[simp] theorem rs8 : Tryz.f8.results.toList = [.cell 4 4] := by kernel_rfl
@[simp] theorem nt9 : Tryz.f9.ntmps = 80 := by kernel_rfl
@[simp] theorem rs9 : Tryz.f9.results.toList = [.tmp 6] := by kernel_rfl
@[simp] theorem nt10 : Tryz.f10.ntmps = 96 := by kernel_rfl
@[simp] theorem rs10 : Tryz.f10.results.toList = [.tmp 10] := by kernel_rfl
@[simp] theorem nt11 : Tryz.f11.ntmps = 88 := by kernel_rfl
@[simp] theorem rs11 : Tryz.f11.results.toList = [.tmp 6] := by kernel_rfl
@[simp] theorem nt12 : Tryz.f12.ntmps = 12 := by kernel_rfl
@[simp] theorem rs12 : Tryz.f12.results.toList = [.tmp 0] := by kernel_rfl
@[simp] theorem nt13 : Tryz.f13.ntmps = 11 := by kernel_rfl
@[simp] theorem rs13 : Tryz.f13.results.toList = [] := by kernel_rfl
@[simp] theorem nt14 : Tryz.f14.ntmps = 17 := by kernel_rfl
@[simp] theorem rs14 : Tryz.f14.results.toList = [.tmp 2] := by kernel_rfl
@[simp] theorem nt15 : Tryz.f15.ntmps = 15 := by kernel_rfl
@[simp] theorem rs15 : Tryz.f15.results.toList = [.tmp 2] := by kernel_rfl
@[simp] theorem nt16 : Tryz.f16.ntmps = 8 := by kernel_rfl
@[simp] theorem rs16 : Tryz.f16.results.toList = [.tmp 2] := by kernel_rfl
@[simp] theorem nt17 : Tryz.f17.ntmps = 7 := by kernel_rfl
@[simp] theorem rs17 : Tryz.f17.results.toList = [.cell 2 33] := by kernel_rfl
@[simp] theorem nt18 : Tryz.f18.ntmps = 26 := by kernel_rfl
@[simp] theorem rs18 : Tryz.f18.results.toList = [.tmp 4] := by kernel_rfl
@[simp] theorem nt19 : Tryz.f19.ntmps = 16 := by kernel_rfl
@[simp] theorem rs19 : Tryz.f19.results.toList = [.tmp 2] := by kernel_rfl
@[simp] theorem nt20 : Tryz.f20.ntmps = 77 := by kernel_rfl
@[simp] theorem rs20 : Tryz.f20.results.toList = [.cell 2 47, .tmp 3] := by kernel_rfl
@[simp] theorem nt21 : Tryz.f21.ntmps = 176 := by kernel_rfl
@[simp] theorem rs21 : Tryz.f21.results.toList = [.cell 2 47, .tmp 3] := by kernel_rfl
@[simp] theorem nt22 : Tryz.f22.ntmps = 17 := by kernel_rfl
@[simp] theorem rs22 : Tryz.f22.results.toList = [.tmp 4] := by kernel_rfl
@[simp] theorem nt23 : Tryz.f23.ntmps = 78 := by kernel_rfl
@[simp] theorem rs23 : Tryz.f23.results.toList = [.cell 4 47] := by kernel_rfl
@[simp] theorem nt24 : Tryz.f24.ntmps = 30 := by kernel_rfl
@[simp] theorem rs24 : Tryz.f24.results.toList = [.tmp 2] := by kernel_rfl
@[simp] theorem nt25 : Tryz.f25.ntmps = 33 := by kernel_rfl
@[simp] theorem rs25 : Tryz.f25.results.toList = [.tmp 2] := by kernel_rfl
@[simp] theorem nt26 : Tryz.f26.ntmps = 36 := by kernel_rfl
@[simp] theorem rs26 : Tryz.f26.results.toList = [.tmp 2] := by kernel_rfl
@[simp] theorem nt27 : Tryz.f27.ntmps = 30 := by kernel_rfl
@[simp] theorem rs27 : Tryz.f27.results.toList = [.tmp 0] := by kernel_rfl
@[simp] theorem nt28 : Tryz.f28.ntmps = 45 := by kernel_rfl
@[simp] theorem rs28 : Tryz.f28.results.toList = [.tmp 2, .tmp 3] := by kernel_rfl
@[simp] theorem nt29 : Tryz.f29.ntmps = 42 := by kernel_rfl
@[simp] theorem rs29 : Tryz.f29.results.toList = [.tmp 4] := by kernel_rfl
@[simp] theorem nt30 : Tryz.f30.ntmps = 78 := by kernel_rfl
@[simp] theorem rs30 : Tryz.f30.results.toList = [.tmp 2, .tmp 3, .tmp 4] := by kernel_rfl
@[simp] theorem nt31 : Tryz.f31.ntmps = 61 := by kernel_rfl
@[simp] theorem rs31 : Tryz.f31.results.toList = [.tmp 4] := by kernel_rfl
@[simp] theorem nt32 : Tryz.f32.ntmps = 4 := by kernel_rfl
@[simp] theorem rs32 : Tryz.f32.results.toList = [.tmp 2] := by kernel_rfl
@[simp] theorem nt33 : Tryz.f33.ntmps = 26 := by kernel_rfl
@[simp] theorem rs33 : Tryz.f33.results.toList = [.tmp 4] := by kernel_rfl
@[simp] theorem nt34 : Tryz.f34.ntmps = 33 := by kernel_rfl
@[simp] theorem rs34 : Tryz.f34.results.toList = [.tmp 2] := by kernel_rfl
@[simp] theorem nt35 : Tryz.f35.ntmps = 145 := by kernel_rfl
@[simp] theorem rs35 : Tryz.f35.results.toList = [.tmp 2] := by kernel_rfl
@[simp] theorem nt36 : Tryz.f36.ntmps = 9 := by kernel_rfl
@[simp] theorem rs36 : Tryz.f36.results.toList = [.tmp 4] := by kernel_rfl
@[simp] theorem nt37 : Tryz.f37.ntmps = 20 := by kernel_rfl
@[simp] theorem rs37 : Tryz.f37.results.toList = [.tmp 3] := by kernel_rfl
@[simp] theorem nt38 : Tryz.f38.ntmps = 36 := by kernel_rfl
@[simp] theorem rs38 : Tryz.f38.results.toList = [.tmp 2] := by kernel_rfl
@[simp] theorem nt39 : Tryz.f39.ntmps = 48 := by kernel_rfl
@[simp] theorem rs39 : Tryz.f39.results.toList = [] := by kernel_rfl
@[simp] theorem nt40 : Tryz.f40.ntmps = 15 := by kernel_rfl
@[simp] theorem rs40 : Tryz.f40.results.toList = [.tmp 2] := by kernel_rfl
@[simp] theorem nt41 : Tryz.f41.ntmps = 51 := by kernel_rfl
@[simp] theorem rs41 : Tryz.f41.results.toList = [.tmp 0] := by kernel_rfl
@[simp] theorem nt42 : Tryz.f42.ntmps = 31 := by kernel_rfl
@[simp] theorem rs42 : Tryz.f42.results.toList = [] := by kernel_rfl
@[simp] theorem nt43 : Tryz.f43.ntmps = 25 := by kernel_rfl
@[simp] theorem rs43 : Tryz.f43.results.toList = [] := by kernel_rfl
@[simp] theorem nt44 : Tryz.f44.ntmps = 60 := by kernel_rfl
@[simp] theorem rs44 : Tryz.f44.results.toList = [.cell 4 33] := by kernel_rfl
@[simp] theorem nt45 : Tryz.f45.ntmps = 78 := by kernel_rfl
@[simp] theorem rs45 : Tryz.f45.results.toList = [.tmp 2] := by kernel_rfl
@[simp] theorem nt46 : Tryz.f46.ntmps = 49 := by kernel_rfl
@[simp] theorem rs46 : Tryz.f46.results.toList = [.tmp 4] := by kernel_rfl
@[simp] theorem nt47 : Tryz.f47.ntmps = 47 := by kernel_rfl
@[simp] theorem rs47 : Tryz.f47.results.toList = [.tmp 2, .tmp 3] := by kernel_rfl
@[simp] theorem nt48 : Tryz.f48.ntmps = 26 := by kernel_rfl
@[simp] theorem rs48 : Tryz.f48.results.toList = [.tmp 4] := by kernel_rfl
@[simp] theorem nt49 : Tryz.f49.ntmps = 14 := by kernel_rfl
@[simp] theorem rs49 : Tryz.f49.results.toList = [.tmp 2] := by kernel_rfl
@[simp] theorem nt50 : Tryz.f50.ntmps = 18 := by kernel_rfl
@[simp] theorem rs50 : Tryz.f50.results.toList = [] := by kernel_rfl
@[simp] theorem nt51 : Tryz.f51.ntmps = 9 := by kernel_rfl
@[simp] theorem rs51 : Tryz.f51.results.toList = [.tmp 2] := by kernel_rfl
@[simp] theorem nt52 : Tryz.f52.ntmps = 27 := by kernel_rfl
@[simp] theorem rs52 : Tryz.f52.results.toList = [.tmp 4] := by kernel_rfl
@[simp] theorem nt53 : Tryz.f53.ntmps = 3 := by kernel_rfl
@[simp] theorem rs53 : Tryz.f53.results.toList = [.tmp 0] := by kernel_rfl
@[simp] theorem nt54 : Tryz.f54.ntmps = 19 := by kernel_rfl
@[simp] theorem rs54 : Tryz.f54.results.toList = [.cell 2 33] := by kernel_rfl
@[simp] theorem nt55 : Tryz.f55.ntmps = 82 := by kernel_rfl
@[simp] theorem rs55 : Tryz.f55.results.toList = [.tmp 4, .tmp 5] := by kernel_rfl
@[simp] theorem nt56 : Tryz.f56.ntmps = 9 := by kernel_rfl
@[simp] theorem rs56 : Tryz.f56.results.toList = [.tmp 2] := by kernel_rfl
@[simp] theorem nt57 : Tryz.f57.ntmps = 4 := by kernel_rfl
@[simp] theorem rs57 : Tryz.f57.results.toList = [.tmp 2] := by kernel_rfl
@[simp] theorem nt58 : Tryz.f58.ntmps = 23 := by kernel_rfl
@[simp] theorem rs58 : Tryz.f58.results.toList = [] := by kernel_rfl
@[simp] theorem nt59 : Tryz.f59.ntmps = 8 := by kernel_rfl
@[simp] theorem rs59 : Tryz.f59.results.toList = [.tmp 2] := by kernel_rfl
@[simp] theorem nt60 : Tryz.f60.ntmps = 16 := by kernel_rfl
@[simp] theorem rs60 : Tryz.f60.results.toList = [.tmp 1, .tmp 2] := by kernel_rfl
@[simp] theorem nt61 : Tryz.f61.ntmps = 19 := by kernel_rfl
@[simp] theorem rs61 : Tryz.f61.results.toList = [.tmp 4] := by kernel_rfl
@[simp] theorem nt62 : Tryz.f62.ntmps = 27 := by kernel_rfl
@[simp] theorem rs62 : Tryz.f62.results.toList = [.tmp 4] := by kernel_rfl
@[simp] theorem nt63 : Tryz.f63.ntmps = 49 := by kernel_rfl
@[simp] theorem rs63 : Tryz.f63.results.toList = [.tmp 6, .tmp 7] := by kernel_rfl
@[simp] theorem nt64 : Tryz.f64.ntmps = 15 := by kernel_rfl
@[simp] theorem rs64 : Tryz.f64.results.toList = [.tmp 4] := by kernel_rfl
@[simp] theorem nt65 : Tryz.f65.ntmps = 95 := by kernel_rfl
@[simp] theorem rs65 : Tryz.f65.results.toList = [.tmp 6] := by kernel_rfl
@[simp] theorem nt66 : Tryz.f66.ntmps = 28 := by kernel_rfl
@[simp] theorem rs66 : Tryz.f66.results.toList = [.tmp 4] := by kernel_rfl
@[simp] theorem nt67 : Tryz.f67.ntmps = 125 := by kernel_rfl
@[simp] theorem rs67 : Tryz.f67.results.toList = [.tmp 4] := by kernel_rfl
@[simp] theorem nt68 : Tryz.f68.ntmps = 17 := by kernel_rfl
@[simp] theorem rs68 : Tryz.f68.results.toList = [.tmp 0] := by kernel_rfl
@[simp] theorem nt69 : Tryz.f69.ntmps = 7 := by kernel_rfl
@[simp] theorem rs69 : Tryz.f69.results.toList = [.tmp 0] := by kernel_rfl
@[simp] theorem nt70 : Tryz.f70.ntmps = 39 := by kernel_rfl
@[simp] theorem rs70 : Tryz.f70.results.toList = [.tmp 4, .tmp 5] := by kernel_rfl
@[simp] theorem nt71 : Tryz.f71.ntmps = 20 := by kernel_rfl
@[simp] theorem rs71 : Tryz.f71.results.toList = [.tmp 4, .tmp 5] := by kernel_rfl
@[simp] theorem nt72 : Tryz.f72.ntmps = 5 := by kernel_rfl
@[simp] theorem rs72 : Tryz.f72.results.toList = [.tmp 2] := by kernel_rfl
@[simp] theorem nt73 : Tryz.f73.ntmps = 11 := by kernel_rfl
@[simp] theorem rs73 : Tryz.f73.results.toList = [] := by kernel_rfl
@[simp] theorem nt74 : Tryz.f74.ntmps = 14 := by kernel_rfl
@[simp] theorem rs74 : Tryz.f74.results.toList = [] := by kernel_rfl
@[simp] theorem nt76 : Tryz.f76.ntmps = 10 := by kernel_rfl
@[simp] theorem rs76 : Tryz.f76.results.toList = [] := by kernel_rfl
@[simp] theorem nt77 : Tryz.f77.ntmps = 49 := by kernel_rfl
@[simp] theorem rs77 : Tryz.f77.results.toList = [.tmp 6, .tmp 7] := by kernel_rfl
@[simp] theorem nt78 : Tryz.f78.ntmps = 15 := by kernel_rfl
@[simp] theorem rs78 : Tryz.f78.results.toList = [.tmp 4] := by kernel_rfl
@[simp] theorem nt79 : Tryz.f79.ntmps = 95 := by kernel_rfl
@[simp] theorem rs79 : Tryz.f79.results.toList = [.tmp 6] := by kernel_rfl
@[simp] theorem nt80 : Tryz.f80.ntmps = 30 := by kernel_rfl
@[simp] theorem rs80 : Tryz.f80.results.toList = [.tmp 4, .tmp 5] := by kernel_rfl
@[simp] theorem nt81 : Tryz.f81.ntmps = 8 := by kernel_rfl
@[simp] theorem rs81 : Tryz.f81.results.toList = [.tmp 4] := by kernel_rfl
@[simp] theorem nt82 : Tryz.f82.ntmps = 25 := by kernel_rfl
@[simp] theorem rs82 : Tryz.f82.results.toList = [] := by kernel_rfl
@[simp] theorem nt83 : Tryz.f83.ntmps = 19 := by kernel_rfl
@[simp] theorem rs83 : Tryz.f83.results.toList = [.tmp 4, .tmp 5] := by kernel_rfl
@[simp] theorem nt84 : Tryz.f84.ntmps = 8 := by kernel_rfl
@[simp] theorem rs84 : Tryz.f84.results.toList = [.tmp 2] := by kernel_rfl
@[simp] theorem nt85 : Tryz.f85.ntmps = 14 := by kernel_rfl
@[simp] theorem rs85 : Tryz.f85.results.toList = [.tmp 2] := by kernel_rfl
@[simp] theorem nt86 : Tryz.f86.ntmps = 29 := by kernel_rfl
@[simp] theorem rs86 : Tryz.f86.results.toList = [.tmp 0] := by kernel_rfl
@[simp] theorem nt87 : Tryz.f87.ntmps = 49 := by kernel_rfl
@[simp] theorem rs87 : Tryz.f87.results.toList = [.tmp 4] := by kernel_rfl
@[simp] theorem nt88 : Tryz.f88.ntmps = 63 := by kernel_rfl
@[simp] theorem rs88 : Tryz.f88.results.toList = [.tmp 8] := by kernel_rfl
@[simp] theorem nt89 : Tryz.f89.ntmps = 11 := by kernel_rfl
@[simp] theorem rs89 : Tryz.f89.results.toList = [.tmp 4] := by kernel_rfl
@[simp] theorem nt90 : Tryz.f90.ntmps = 32 := by kernel_rfl
@[simp] theorem rs90 : Tryz.f90.results.toList = [.tmp 4, .tmp 5] := by kernel_rfl
@[simp] theorem nt91 : Tryz.f91.ntmps = 13 := by kernel_rfl
@[simp] theorem rs91 : Tryz.f91.results.toList = [.tmp 4] := by kernel_rfl
@[simp] theorem nt92 : Tryz.f92.ntmps = 134 := by kernel_rfl
@[simp] theorem rs92 : Tryz.f92.results.toList = [] := by kernel_rfl
@[simp] theorem nt93 : Tryz.f93.ntmps = 8 := by kernel_rfl
@[simp] theorem rs93 : Tryz.f93.results.toList = [.tmp 2] := by kernel_rfl
@[simp] theorem nt94 : Tryz.f94.ntmps = 14 := by kernel_rfl
@[simp] theorem rs94 : Tryz.f94.results.toList = [] := by kernel_rfl
@[simp] theorem nt96 : Tryz.f96.ntmps = 10 := by kernel_rfl
@[simp] theorem rs96 : Tryz.f96.results.toList = [] := by kernel_rfl
@[simp] theorem nt97 : Tryz.f97.ntmps = 17 := by kernel_rfl
@[simp] theorem rs97 : Tryz.f97.results.toList = [.tmp 4, .tmp 5] := by kernel_rfl
@[simp] theorem nt98 : Tryz.f98.ntmps = 51 := by kernel_rfl
@[simp] theorem rs98 : Tryz.f98.results.toList = [.tmp 4, .tmp 5] := by kernel_rfl
@[simp] theorem nt99 : Tryz.f99.ntmps = 18 := by kernel_rfl
@[simp] theorem rs99 : Tryz.f99.results.toList = [.tmp 4] := by kernel_rfl
@[simp] theorem nt100 : Tryz.f100.ntmps = 20 := by kernel_rfl
@[simp] theorem rs100 : Tryz.f100.results.toList = [] := by kernel_rfl
@[simp] theorem nt101 : Tryz.f101.ntmps = 30 := by kernel_rfl
@[simp] theorem rs101 : Tryz.f101.results.toList = [] := by kernel_rfl
@[simp] theorem nt102 : Tryz.f102.ntmps = 37 := by kernel_rfl
@[simp] theorem rs102 : Tryz.f102.results.toList = [.tmp 0] := by kernel_rfl
@[simp] theorem nt103 : Tryz.f103.ntmps = 25 := by kernel_rfl
@[simp] theorem rs103 : Tryz.f103.results.toList = [] := by kernel_rfl
@[simp] theorem nt104 : Tryz.f104.ntmps = 43 := by kernel_rfl
@[simp] theorem rs104 : Tryz.f104.results.toList = [.tmp 6] := by kernel_rfl
@[simp] theorem nt105 : Tryz.f105.ntmps = 54 := by kernel_rfl
@[simp] theorem rs105 : Tryz.f105.results.toList = [.tmp 4, .tmp 5] := by kernel_rfl
@[simp] theorem nt106 : Tryz.f106.ntmps = 20 := by kernel_rfl
@[simp] theorem rs106 : Tryz.f106.results.toList = [.cell 6 196] := by kernel_rfl
@[simp] theorem nt107 : Tryz.f107.ntmps = 33 := by kernel_rfl
@[simp] theorem rs107 : Tryz.f107.results.toList = [.tmp 4] := by kernel_rfl
@[simp] theorem nt108 : Tryz.f108.ntmps = 49 := by kernel_rfl
@[simp] theorem rs108 : Tryz.f108.results.toList = [] := by kernel_rfl
@[simp] theorem nt109 : Tryz.f109.ntmps = 56 := by kernel_rfl
@[simp] theorem rs109 : Tryz.f109.results.toList = [] := by kernel_rfl
@[simp] theorem nt110 : Tryz.f110.ntmps = 65 := by kernel_rfl
@[simp] theorem rs110 : Tryz.f110.results.toList = [] := by kernel_rfl
@[simp] theorem nt111 : Tryz.f111.ntmps = 57 := by kernel_rfl
@[simp] theorem rs111 : Tryz.f111.results.toList = [.tmp 6, .tmp 7] := by kernel_rfl
@[simp] theorem nt112 : Tryz.f112.ntmps = 32 := by kernel_rfl
@[simp] theorem rs112 : Tryz.f112.results.toList = [] := by kernel_rfl
@[simp] theorem nt113 : Tryz.f113.ntmps = 133 := by kernel_rfl
@[simp] theorem rs113 : Tryz.f113.results.toList = [.tmp 6] := by kernel_rfl
@[simp] theorem nt114 : Tryz.f114.ntmps = 17 := by kernel_rfl
@[simp] theorem rs114 : Tryz.f114.results.toList = [.tmp 4] := by kernel_rfl
@[simp] theorem nt115 : Tryz.f115.ntmps = 84 := by kernel_rfl
@[simp] theorem rs115 : Tryz.f115.results.toList = [.tmp 8] := by kernel_rfl
@[simp] theorem nt116 : Tryz.f116.ntmps = 168 := by kernel_rfl
@[simp] theorem rs116 : Tryz.f116.results.toList = [.tmp 8, .tmp 9] := by kernel_rfl
@[simp] theorem nt117 : Tryz.f117.ntmps = 19 := by kernel_rfl
@[simp] theorem rs117 : Tryz.f117.results.toList = [.tmp 2] := by kernel_rfl
@[simp] theorem nt118 : Tryz.f118.ntmps = 25 := by kernel_rfl
@[simp] theorem rs118 : Tryz.f118.results.toList = [.tmp 2] := by kernel_rfl
@[simp] theorem nt119 : Tryz.f119.ntmps = 28 := by kernel_rfl
@[simp] theorem rs119 : Tryz.f119.results.toList = [] := by kernel_rfl
@[simp] theorem nt120 : Tryz.f120.ntmps = 14 := by kernel_rfl
@[simp] theorem rs120 : Tryz.f120.results.toList = [] := by kernel_rfl
@[simp] theorem nt123 : Tryz.f123.ntmps = 34 := by kernel_rfl
@[simp] theorem rs123 : Tryz.f123.results.toList = [.tmp 0] := by kernel_rfl
@[simp] theorem nt124 : Tryz.f124.ntmps = 42 := by kernel_rfl
@[simp] theorem rs124 : Tryz.f124.results.toList = [.tmp 2, .tmp 3] := by kernel_rfl
@[simp] theorem nt125 : Tryz.f125.ntmps = 8 := by kernel_rfl
@[simp] theorem rs125 : Tryz.f125.results.toList = [.tmp 6] := by kernel_rfl
@[simp] theorem nt126 : Tryz.f126.ntmps = 34 := by kernel_rfl
@[simp] theorem rs126 : Tryz.f126.results.toList = [.cell 6 33, .tmp 7] := by kernel_rfl
@[simp] theorem nt127 : Tryz.f127.ntmps = 8 := by kernel_rfl
@[simp] theorem rs127 : Tryz.f127.results.toList = [.tmp 2] := by kernel_rfl
@[simp] theorem nt128 : Tryz.f128.ntmps = 65 := by kernel_rfl
@[simp] theorem rs128 : Tryz.f128.results.toList = [.tmp 2] := by kernel_rfl
@[simp] theorem nt129 : Tryz.f129.ntmps = 6 := by kernel_rfl
@[simp] theorem rs129 : Tryz.f129.results.toList = [.tmp 2] := by kernel_rfl
@[simp] theorem nt130 : Tryz.f130.ntmps = 76 := by kernel_rfl
@[simp] theorem rs130 : Tryz.f130.results.toList = [] := by kernel_rfl
@[simp] theorem nt131 : Tryz.f131.ntmps = 7 := by kernel_rfl
@[simp] theorem rs131 : Tryz.f131.results.toList = [.tmp 2] := by kernel_rfl
@[simp] theorem nt132 : Tryz.f132.ntmps = 33 := by kernel_rfl
@[simp] theorem rs132 : Tryz.f132.results.toList = [.tmp 2] := by kernel_rfl
@[simp] theorem nt133 : Tryz.f133.ntmps = 15 := by kernel_rfl
@[simp] theorem rs133 : Tryz.f133.results.toList = [.tmp 6] := by kernel_rfl
@[simp] theorem nt134 : Tryz.f134.ntmps = 36 := by kernel_rfl
@[simp] theorem rs134 : Tryz.f134.results.toList = [.tmp 10] := by kernel_rfl
@[simp] theorem nt135 : Tryz.f135.ntmps = 6 := by kernel_rfl
@[simp] theorem rs135 : Tryz.f135.results.toList = [.tmp 2] := by kernel_rfl
@[simp] theorem nt136 : Tryz.f136.ntmps = 28 := by kernel_rfl
@[simp] theorem rs136 : Tryz.f136.results.toList = [] := by kernel_rfl
@[simp] theorem nt137 : Tryz.f137.ntmps = 36 := by kernel_rfl
@[simp] theorem rs137 : Tryz.f137.results.toList = [.tmp 0] := by kernel_rfl
@[simp] theorem nt138 : Tryz.f138.ntmps = 18 := by kernel_rfl
@[simp] theorem rs138 : Tryz.f138.results.toList = [.tmp 2] := by kernel_rfl
@[simp] theorem nt139 : Tryz.f139.ntmps = 32 := by kernel_rfl
@[simp] theorem rs139 : Tryz.f139.results.toList = [.tmp 4] := by kernel_rfl
@[simp] theorem nt140 : Tryz.f140.ntmps = 8 := by kernel_rfl
@[simp] theorem rs140 : Tryz.f140.results.toList = [.tmp 2] := by kernel_rfl
@[simp] theorem nt141 : Tryz.f141.ntmps = 57 := by kernel_rfl
@[simp] theorem rs141 : Tryz.f141.results.toList = [] := by kernel_rfl
@[simp] theorem nt142 : Tryz.f142.ntmps = 25 := by kernel_rfl
@[simp] theorem rs142 : Tryz.f142.results.toList = [.cell 4 33, .tmp 5] := by kernel_rfl
@[simp] theorem nt143 : Tryz.f143.ntmps = 42 := by kernel_rfl
@[simp] theorem rs143 : Tryz.f143.results.toList = [.tmp 4] := by kernel_rfl
@[simp] theorem nt144 : Tryz.f144.ntmps = 8 := by kernel_rfl
@[simp] theorem rs144 : Tryz.f144.results.toList = [.tmp 2] := by kernel_rfl
@[simp] theorem nt145 : Tryz.f145.ntmps = 14 := by kernel_rfl
@[simp] theorem rs145 : Tryz.f145.results.toList = [] := by kernel_rfl
@[simp] theorem nt146 : Tryz.f146.ntmps = 17 := by kernel_rfl
@[simp] theorem rs146 : Tryz.f146.results.toList = [.tmp 4] := by kernel_rfl
@[simp] theorem nt147 : Tryz.f147.ntmps = 28 := by kernel_rfl
@[simp] theorem rs147 : Tryz.f147.results.toList = [.tmp 8, .tmp 9] := by kernel_rfl
@[simp] theorem nt148 : Tryz.f148.ntmps = 13 := by kernel_rfl
@[simp] theorem rs148 : Tryz.f148.results.toList = [.tmp 0] := by kernel_rfl
@[simp] theorem nt149 : Tryz.f149.ntmps = 6 := by kernel_rfl
@[simp] theorem rs149 : Tryz.f149.results.toList = [.tmp 2] := by kernel_rfl
@[simp] theorem nt150 : Tryz.f150.ntmps = 51 := by kernel_rfl
@[simp] theorem rs150 : Tryz.f150.results.toList = [.tmp 4, .tmp 5, .tmp 6] := by kernel_rfl
@[simp] theorem nt151 : Tryz.f151.ntmps = 29 := by kernel_rfl
@[simp] theorem rs151 : Tryz.f151.results.toList = [.tmp 4] := by kernel_rfl
@[simp] theorem nt152 : Tryz.f152.ntmps = 19 := by kernel_rfl
@[simp] theorem rs152 : Tryz.f152.results.toList = [.tmp 2] := by kernel_rfl
@[simp] theorem nt153 : Tryz.f153.ntmps = 19 := by kernel_rfl
@[simp] theorem rs153 : Tryz.f153.results.toList = [.tmp 4] := by kernel_rfl
@[simp] theorem nt154 : Tryz.f154.ntmps = 148 := by kernel_rfl
@[simp] theorem rs154 : Tryz.f154.results.toList = [] := by kernel_rfl
@[simp] theorem nt155 : Tryz.f155.ntmps = 9 := by kernel_rfl
@[simp] theorem rs155 : Tryz.f155.results.toList = [.tmp 0] := by kernel_rfl
@[simp] theorem nt156 : Tryz.f156.ntmps = 30 := by kernel_rfl
@[simp] theorem rs156 : Tryz.f156.results.toList = [.tmp 2] := by kernel_rfl
@[simp] theorem nt157 : Tryz.f157.ntmps = 14 := by kernel_rfl
@[simp] theorem rs157 : Tryz.f157.results.toList = [.tmp 2] := by kernel_rfl
@[simp] theorem nt158 : Tryz.f158.ntmps = 10 := by kernel_rfl
@[simp] theorem rs158 : Tryz.f158.results.toList = [.tmp 4] := by kernel_rfl
@[simp] theorem nt159 : Tryz.f159.ntmps = 6 := by kernel_rfl
@[simp] theorem rs159 : Tryz.f159.results.toList = [.tmp 2] := by kernel_rfl
@[simp] theorem nt160 : Tryz.f160.ntmps = 24 := by kernel_rfl
@[simp] theorem rs160 : Tryz.f160.results.toList = [.tmp 4, .tmp 5] := by kernel_rfl
@[simp] theorem nt161 : Tryz.f161.ntmps = 55 := by kernel_rfl
@[simp] theorem rs161 : Tryz.f161.results.toList = [.tmp 2, .tmp 3] := by kernel_rfl
@[simp] theorem nt162 : Tryz.f162.ntmps = 21 := by kernel_rfl
@[simp] theorem rs162 : Tryz.f162.results.toList = [.tmp 4] := by kernel_rfl
@[simp] theorem nt163 : Tryz.f163.ntmps = 52 := by kernel_rfl
@[simp] theorem rs163 : Tryz.f163.results.toList = [.tmp 6] := by kernel_rfl
@[simp] theorem nt164 : Tryz.f164.ntmps = 52 := by kernel_rfl
@[simp] theorem rs164 : Tryz.f164.results.toList = [.tmp 6] := by kernel_rfl
@[simp] theorem nt165 : Tryz.f165.ntmps = 31 := by kernel_rfl
@[simp] theorem rs165 : Tryz.f165.results.toList = [.tmp 4] := by kernel_rfl
@[simp] theorem nt166 : Tryz.f166.ntmps = 53 := by kernel_rfl
@[simp] theorem rs166 : Tryz.f166.results.toList = [] := by kernel_rfl
@[simp] theorem nt167 : Tryz.f167.ntmps = 60 := by kernel_rfl
@[simp] theorem rs167 : Tryz.f167.results.toList = [] := by kernel_rfl
@[simp] theorem nt168 : Tryz.f168.ntmps = 67 := by kernel_rfl
@[simp] theorem rs168 : Tryz.f168.results.toList = [] := by kernel_rfl
@[simp] theorem nt169 : Tryz.f169.ntmps = 63 := by kernel_rfl
@[simp] theorem rs169 : Tryz.f169.results.toList = [.tmp 8, .tmp 9] := by kernel_rfl
@[simp] theorem nt170 : Tryz.f170.ntmps = 34 := by kernel_rfl
@[simp] theorem rs170 : Tryz.f170.results.toList = [] := by kernel_rfl
@[simp] theorem nt171 : Tryz.f171.ntmps = 141 := by kernel_rfl
@[simp] theorem rs171 : Tryz.f171.results.toList = [.tmp 8] := by kernel_rfl
@[simp] theorem nt172 : Tryz.f172.ntmps = 90 := by kernel_rfl
@[simp] theorem rs172 : Tryz.f172.results.toList = [.tmp 10] := by kernel_rfl
@[simp] theorem nt173 : Tryz.f173.ntmps = 178 := by kernel_rfl
@[simp] theorem rs173 : Tryz.f173.results.toList = [.tmp 10, .tmp 11] := by kernel_rfl
@[simp] theorem nt174 : Tryz.f174.ntmps = 36 := by kernel_rfl
@[simp] theorem rs174 : Tryz.f174.results.toList = [.tmp 0] := by kernel_rfl
@[simp] theorem nt175 : Tryz.f175.ntmps = 19 := by kernel_rfl
@[simp] theorem rs175 : Tryz.f175.results.toList = [.tmp 4] := by kernel_rfl
@[simp] theorem nt176 : Tryz.f176.ntmps = 25 := by kernel_rfl
@[simp] theorem rs176 : Tryz.f176.results.toList = [.tmp 2] := by kernel_rfl
@[simp] theorem nt177 : Tryz.f177.ntmps = 27 := by kernel_rfl
@[simp] theorem rs177 : Tryz.f177.results.toList = [] := by kernel_rfl
@[simp] theorem nt178 : Tryz.f178.ntmps = 23 := by kernel_rfl
@[simp] theorem rs178 : Tryz.f178.results.toList = [.tmp 2] := by kernel_rfl
@[simp] theorem nt179 : Tryz.f179.ntmps = 82 := by kernel_rfl
@[simp] theorem rs179 : Tryz.f179.results.toList = [] := by kernel_rfl
@[simp] theorem nt180 : Tryz.f180.ntmps = 18 := by kernel_rfl
@[simp] theorem rs180 : Tryz.f180.results.toList = [.tmp 8] := by kernel_rfl
@[simp] theorem nt181 : Tryz.f181.ntmps = 41 := by kernel_rfl
@[simp] theorem rs181 : Tryz.f181.results.toList = [.tmp 12] := by kernel_rfl
@[simp] theorem nt182 : Tryz.f182.ntmps = 20 := by kernel_rfl
@[simp] theorem rs182 : Tryz.f182.results.toList = [.tmp 0] := by kernel_rfl
@[simp] theorem nt183 : Tryz.f183.ntmps = 70 := by kernel_rfl
@[simp] theorem rs183 : Tryz.f183.results.toList = [] := by kernel_rfl
@[simp] theorem nt184 : Tryz.f184.ntmps = 5 := by kernel_rfl
@[simp] theorem rs184 : Tryz.f184.results.toList = [.tmp 4] := by kernel_rfl
@[simp] theorem nt185 : Tryz.f185.ntmps = 32 := by kernel_rfl
@[simp] theorem rs185 : Tryz.f185.results.toList = [.tmp 10, .tmp 11] := by kernel_rfl
@[simp] theorem nt186 : Tryz.f186.ntmps = 18 := by kernel_rfl
@[simp] theorem rs186 : Tryz.f186.results.toList = [.tmp 0] := by kernel_rfl
@[simp] theorem nt187 : Tryz.f187.ntmps = 6 := by kernel_rfl
@[simp] theorem rs187 : Tryz.f187.results.toList = [.cell 2 4] := by kernel_rfl
@[simp] theorem nt188 : Tryz.f188.ntmps = 5 := by kernel_rfl
@[simp] theorem rs188 : Tryz.f188.results.toList = [] := by kernel_rfl
@[simp] theorem nt189 : Tryz.f189.ntmps = 7 := by kernel_rfl
@[simp] theorem rs189 : Tryz.f189.results.toList = [.tmp 2] := by kernel_rfl
@[simp] theorem nt190 : Tryz.f190.ntmps = 0 := by kernel_rfl
@[simp] theorem rs190 : Tryz.f190.results.toList = [] := by kernel_rfl
@[simp] theorem nt191 : Tryz.f191.ntmps = 9 := by kernel_rfl
@[simp] theorem rs191 : Tryz.f191.results.toList = [.tmp 2] := by kernel_rfl
@[simp] theorem nt192 : Tryz.f192.ntmps = 21 := by kernel_rfl
@[simp] theorem rs192 : Tryz.f192.results.toList = [.tmp 0] := by kernel_rfl
@[simp] theorem nt193 : Tryz.f193.ntmps = 15 := by kernel_rfl
@[simp] theorem rs193 : Tryz.f193.results.toList = [] := by kernel_rfl
@[simp] theorem nt194 : Tryz.f194.ntmps = 4 := by kernel_rfl
@[simp] theorem rs194 : Tryz.f194.results.toList = [.tmp 2] := by kernel_rfl
@[simp] theorem nt195 : Tryz.f195.ntmps = 19 := by kernel_rfl
@[simp] theorem rs195 : Tryz.f195.results.toList = [.cell 4 145, .cell 5 145] := by kernel_rfl
@[simp] theorem nt196 : Tryz.f196.ntmps = 15 := by kernel_rfl
@[simp] theorem rs196 : Tryz.f196.results.toList = [.tmp 4] := by kernel_rfl
@[simp] theorem nt197 : Tryz.f197.ntmps = 14 := by kernel_rfl
@[simp] theorem rs197 : Tryz.f197.results.toList = [] := by kernel_rfl
@[simp] theorem nt198 : Tryz.f198.ntmps = 7 := by kernel_rfl
@[simp] theorem rs198 : Tryz.f198.results.toList = [.cell 2 145] := by kernel_rfl
@[simp] theorem nt199 : Tryz.f199.ntmps = 19 := by kernel_rfl
@[simp] theorem rs199 : Tryz.f199.results.toList = [.cell 4 145] := by kernel_rfl
@[simp] theorem nt200 : Tryz.f200.ntmps = 19 := by kernel_rfl
@[simp] theorem rs200 : Tryz.f200.results.toList = [.cell 4 145] := by kernel_rfl
@[simp] theorem nt227 : Tryz.f227.ntmps = 1 := by kernel_rfl
@[simp] theorem rs227 : Tryz.f227.results.toList = [] := by kernel_rfl
attribute [simp] Tryz.func2
attribute [simp] Tryz.func3
attribute [simp] Tryz.func4
attribute [simp] Tryz.func5
attribute [simp] Tryz.func6
attribute [simp] Tryz.func7
attribute [simp] Tryz.func8
attribute [simp] Tryz.func9
attribute [simp] Tryz.func10
attribute [simp] Tryz.func11
attribute [simp] Tryz.func12
attribute [simp] Tryz.func13
attribute [simp] Tryz.func14
attribute [simp] Tryz.func15
attribute [simp] Tryz.func16
attribute [simp] Tryz.func17
attribute [simp] Tryz.func18
attribute [simp] Tryz.func19
attribute [simp] Tryz.func20
attribute [simp] Tryz.func21
attribute [simp] Tryz.func22
attribute [simp] Tryz.func23
attribute [simp] Tryz.func24
attribute [simp] Tryz.func25
attribute [simp] Tryz.func26
attribute [simp] Tryz.func27
attribute [simp] Tryz.func28
attribute [simp] Tryz.func29
attribute [simp] Tryz.func30
attribute [simp] Tryz.func31
attribute [simp] Tryz.func32
attribute [simp] Tryz.func33
attribute [simp] Tryz.func34
attribute [simp] Tryz.func35
attribute [simp] Tryz.func36
attribute [simp] Tryz.func37
attribute [simp] Tryz.func38
attribute [simp] Tryz.func39
attribute [simp] Tryz.func40
attribute [simp] Tryz.func41
attribute [simp] Tryz.func42
attribute [simp] Tryz.func43
attribute [simp] Tryz.func44
attribute [simp] Tryz.func45
attribute [simp] Tryz.func46
attribute [simp] Tryz.func47
attribute [simp] Tryz.func48
attribute [simp] Tryz.func49
attribute [simp] Tryz.func50
attribute [simp] Tryz.func51
attribute [simp] Tryz.func52
attribute [simp] Tryz.func53
attribute [simp] Tryz.func54
attribute [simp] Tryz.func55
attribute [simp] Tryz.func56
attribute [simp] Tryz.func57
attribute [simp] Tryz.func58
attribute [simp] Tryz.func59
attribute [simp] Tryz.func60
attribute [simp] Tryz.func61
attribute [simp] Tryz.func62
attribute [simp] Tryz.func63
attribute [simp] Tryz.func64
attribute [simp] Tryz.func65
attribute [simp] Tryz.func66
attribute [simp] Tryz.func67
attribute [simp] Tryz.func68
attribute [simp] Tryz.func69
attribute [simp] Tryz.func70
attribute [simp] Tryz.func71
attribute [simp] Tryz.func72
attribute [simp] Tryz.func73
attribute [simp] Tryz.func74
attribute [simp] Tryz.func76
attribute [simp] Tryz.func77
attribute [simp] Tryz.func78
attribute [simp] Tryz.func79
attribute [simp] Tryz.func80
attribute [simp] Tryz.func81
attribute [simp] Tryz.func82
attribute [simp] Tryz.func83
attribute [simp] Tryz.func84
attribute [simp] Tryz.func85
attribute [simp] Tryz.func86
attribute [simp] Tryz.func87
attribute [simp] Tryz.func88
attribute [simp] Tryz.func89
attribute [simp] Tryz.func90
attribute [simp] Tryz.func91
attribute [simp] Tryz.func92
attribute [simp] Tryz.func93
attribute [simp] Tryz.func94
attribute [simp] Tryz.func96
attribute [simp] Tryz.func97
attribute [simp] Tryz.func98
attribute [simp] Tryz.func99
attribute [simp] Tryz.func100
attribute [simp] Tryz.func101
attribute [simp] Tryz.func102
attribute [simp] Tryz.func103
attribute [simp] Tryz.func104
attribute [simp] Tryz.func105
attribute [simp] Tryz.func106
attribute [simp] Tryz.func107
attribute [simp] Tryz.func108
attribute [simp] Tryz.func109
attribute [simp] Tryz.func110
attribute [simp] Tryz.func111
attribute [simp] Tryz.func112
attribute [simp] Tryz.func113
attribute [simp] Tryz.func114
attribute [simp] Tryz.func115
attribute [simp] Tryz.func116
attribute [simp] Tryz.func117
attribute [simp] Tryz.func118
attribute [simp] Tryz.func119
attribute [simp] Tryz.func120
attribute [simp] Tryz.func123
attribute [simp] Tryz.func124
attribute [simp] Tryz.func125
attribute [simp] Tryz.func126
attribute [simp] Tryz.func127
attribute [simp] Tryz.func128
attribute [simp] Tryz.func129
attribute [simp] Tryz.func130
attribute [simp] Tryz.func131
attribute [simp] Tryz.func132
attribute [simp] Tryz.func133
attribute [simp] Tryz.func134
attribute [simp] Tryz.func135
attribute [simp] Tryz.func136
attribute [simp] Tryz.func137
attribute [simp] Tryz.func138
attribute [simp] Tryz.func139
attribute [simp] Tryz.func140
attribute [simp] Tryz.func141
attribute [simp] Tryz.func142
attribute [simp] Tryz.func143
attribute [simp] Tryz.func144
attribute [simp] Tryz.func145
attribute [simp] Tryz.func146
attribute [simp] Tryz.func147
attribute [simp] Tryz.func148
attribute [simp] Tryz.func149
attribute [simp] Tryz.func150
attribute [simp] Tryz.func151
attribute [simp] Tryz.func152
attribute [simp] Tryz.func153
attribute [simp] Tryz.func154
attribute [simp] Tryz.func155
attribute [simp] Tryz.func156
attribute [simp] Tryz.func157
attribute [simp] Tryz.func158
attribute [simp] Tryz.func159
attribute [simp] Tryz.func160
attribute [simp] Tryz.func161
attribute [simp] Tryz.func162
attribute [simp] Tryz.func163
attribute [simp] Tryz.func164
attribute [simp] Tryz.func165
attribute [simp] Tryz.func166
attribute [simp] Tryz.func167
attribute [simp] Tryz.func168
attribute [simp] Tryz.func169
attribute [simp] Tryz.func170
attribute [simp] Tryz.func171
attribute [simp] Tryz.func172
attribute [simp] Tryz.func173
attribute [simp] Tryz.func174
attribute [simp] Tryz.func175
attribute [simp] Tryz.func176
attribute [simp] Tryz.func177
attribute [simp] Tryz.func178
attribute [simp] Tryz.func179
attribute [simp] Tryz.func180
attribute [simp] Tryz.func181
attribute [simp] Tryz.func182
attribute [simp] Tryz.func183
attribute [simp] Tryz.func184
attribute [simp] Tryz.func185
attribute [simp] Tryz.func186
attribute [simp] Tryz.func187
attribute [simp] Tryz.func188
attribute [simp] Tryz.func189
attribute [simp] Tryz.func190
attribute [simp] Tryz.func191
attribute [simp] Tryz.func192
attribute [simp] Tryz.func193
attribute [simp] Tryz.func194
attribute [simp] Tryz.func195
attribute [simp] Tryz.func196
attribute [simp] Tryz.func197
attribute [simp] Tryz.func198
attribute [simp] Tryz.func199
attribute [simp] Tryz.func200
attribute [simp] Tryz.func227
end Go.Sm
set_option linter.unusedVariables false
set_option linter.unusedSimpArgs false
namespace Go.Sm
open Go Go.Proofs
set_option maxRecDepth 100000
set_option maxHeartbeats 1000000
attribute [local simp] sliceOp_open3 sliceOp_cap sliceOp_open sliceOp_nil appendOp_K appendOp_N copyOp_K
theorem ins_nil_29 (σ : CSt) (j : Nat) (new : List Value) (hj : j < σ.n) (hg : σ.get j = some (.cells new 33 false)) (hl : new.length = 3) (hc : cokL new = true) :
    W E0 (.fn 79 #[.slice none 0 0, .int .i64 0, .slice (some ⟨j, 0, none⟩) 1 1] none) σ (InsPost σ none 0 33 new 1) := by
  rw [W_fn (fn := Tryz.f79) Tryz.func79 rfl rfl rfl]
  have ht : new.take 3 = new := List.take_of_length_le (by omega)
  simp [wops_cons, hg, hl, hc, ht, appK, appendF]
  refine ⟨σ.n, new, openCap, rfl, by simp, by simp, .inl ⟨by omega, rfl⟩, fun y hy _ => ?_⟩
  simp
  omega
theorem ins_zero_29 (σ : CSt) (i j : Nat) (row new : List Value) (hi : i < σ.n) (hj : j < σ.n) (hij : i ≠ j) (hgi : σ.get i = some (.cells row 33 false)) (hg : σ.get j = some (.cells new 33 false)) (hl : new.length = 3) (hc : cokL new = true) :
    W E0 (.fn 79 #[.slice (some ⟨i, 0, none⟩) 0 0, .int .i64 0, .slice (some ⟨j, 0, none⟩) 1 1] none) σ (InsPost σ none 0 33 new 1) := by
  rw [W_fn (fn := Tryz.f79) Tryz.func79 rfl rfl rfl]
  have ht : new.take 3 = new := List.take_of_length_le (by omega)
  have h0 : (0 : Nat) ≠ openCap := by simp [openCap]
  have h1 : 0 < openCap := by simp [openCap]
  simp [wops_cons, hg, hgi, hl, hc, ht, appK, appendF, sliceC, h0, h1]
  refine ⟨σ.n, new, openCap, rfl, by simp, by simp, .inl ⟨by omega, rfl⟩, fun y hy _ => ?_⟩
  simp
  omega
theorem ins_end_29 (σ : CSt) (i j n k : Nat) (row new : List Value) (hi : i < σ.n) (hj : j < σ.n) (hij : i ≠ j) (hgi : σ.get i = some (.cells row 33 false)) (hg : σ.get j = some (.cells new 33 false)) (hl : new.length = 3) (hc : cokL new = true)
    (hn : n * 3 ≤ row.length) (hk : k * 3 ≤ row.length) (hb : (n + 1) * 32 ≤ 140737488355328) (hnk : n ≤ k) (hko : k < openCap) :
    W E0 (.fn 79 #[.slice (some ⟨i, 0, none⟩) n k, .int .i64 n, .slice (some ⟨j, 0, none⟩) 1 1] none) σ (InsPost σ (some i) k 33 (insRow 3 n n row new) (n + 1)) := by
  rw [W_fn (fn := Tryz.f79) Tryz.func79 rfl rfl rfl]
  have ht : new.take 3 = new := List.take_of_length_le (by omega)
  have h0 : k ≠ openCap := by omega
  by_cases hr : n + 1 ≤ k
  · have hst : st row (n * 3) new = some (wr row (n * 3) new) := st_wr (by omega)
    simp [wops_cons, hg, hgi, hl, hc, ht, appK, appendF, sliceC, h0, hko, hnk, hr, hst, -st_eq]
    refine ⟨i, wr row (n * 3) new, k, rfl, by simp, insA hl (by omega), .inr ⟨rfl, rfl, hr⟩, fun y hy hne => ?_⟩
    rw [CSt.get_put, if_neg]
    rintro rfl
    exact hne rfl
  · simp [wops_cons, hg, hgi, hl, hc, ht, appK, appendF, sliceC, h0, hko, hnk, hr, hn, hb]
    refine ⟨σ.n, _, openCap, rfl, by simp, insB hl hn, .inl ⟨Nat.le_refl _, rfl⟩, fun y hy hne => ?_⟩
    rw [CSt.get_alloc, if_neg (by omega)]
theorem ins_mid_29 (σ : CSt) (i j n a k : Nat) (row new : List Value) (hi : i < σ.n) (hj : j < σ.n) (hij : i ≠ j) (hgi : σ.get i = some (.cells row 33 false)) (hg : σ.get j = some (.cells new 33 false)) (hl : new.length = 3) (hc : cokL new = true)
    (hn : n * 3 ≤ row.length) (hk : k * 3 ≤ row.length) (hrc : cokL (row.take (n * 3)) = true) (ha : a < n) (hb : (n + 1) * 32 ≤ 140737488355328) (hn40 : n < 2 ^ 40) (hnk : n ≤ k) (hko : k < openCap) :
    W E0 (.fn 79 #[.slice (some ⟨i, 0, none⟩) n k, .int .i64 a, .slice (some ⟨j, 0, none⟩) 1 1] none) σ (InsPost σ (some i) k 33 (insRow 3 a n row new) (n + 1)) := by
  rw [W_fn (fn := Tryz.f79) Tryz.func79 rfl rfl rfl]
  have ht : new.take 3 = new := List.take_of_length_le (by omega)
  have h0 : k ≠ openCap := by omega
  have hle : a ≤ n := by omega
  have hne : a ≠ n := by omega
  have hw1 := i64n1 n (by omega)
  have hw2 := i64n1 a (by omega)
  have hlt : ¬ k < n ∧ ¬ (a : Int) = n := by omega
  have hnew : ld new 0 3 = some new := by simp [ld, hl, ht]
  have hp1 : (0 : Int) ≤ (n : Int) + 1 ∧ (0 : Int) ≤ (a : Int) + 1 ∧ ((n : Int) + 1).toNat = n + 1 ∧ ((a : Int) + 1).toNat = a + 1 := by omega
  by_cases hr : n + 1 ≤ k
  · have hI : ¬ ((k : Int) < n + 1) := by omega
    have hq : a ≤ k ∧ a + 1 ≤ k ∧ a ≤ n + 1 := by omega
    simp [wops_cons, hg, hgi, hl, hc, ht, appK, appendF, sliceC, h0, hko, hnk, hr, hle, hne, hlt.2, hw1, hw2, hp1, hI, hq, ha, -st_eq]
    rw [wres_ext (E := E0) (v := .bool false)]
    rotate_left
    · simp only [extOf_fn, E0X, extE]
      exact apartX_ne (Ne.symm hij) hg hgi (by omega)
    have hmin : min (n + 1 - a) (n - a) = n - a := by omega
    have hmul : (n - a) * 3 = n * 3 - a * 3 := by omega
    have hmin2 : min 1 (n + 1 - a) = 1 := by omega
    obtain ⟨seg, hseg⟩ : ∃ seg, seg = (row.drop (a * 3)).take (n * 3 - a * 3) := ⟨_, rfl⟩
    have hs1 : ld row (a * 3) ((n - a) * 3) = some seg := by rw [hmul, hseg]; simp; omega
    have hs2 : seg.length = (n - a) * 3 := by rw [hseg]; simp; omega
    have hs3 : cokL seg = true := by rw [hseg, ← List.drop_take]; exact cokL_drop hrc _
    have hs4 : st row ((a + 1) * 3) seg = some (wr row (a * 3 + 3) seg) := by rw [show (a + 1) * 3 = a * 3 + 3 by omega]; exact st_wr (by omega)
    have hs5 : (wr row (a * 3 + 3) seg).length = row.length := wr_length (by omega)
    have hs6 : st (wr row (a * 3 + 3) seg) (a * 3) new = some (wr (wr row (a * 3 + 3) seg) (a * 3) new) := st_wr (by omega)
    have hq2 : ¬ (k = a) ∧ ¬ (k = a + 1) ∧ ¬ (n - a = 0) := by omega
    simp only [Bool.not_false, wops_cons]
    simp [wops_cons, hg, hgi, hl, hc, ht]
    refine W_calm (by kernel_rfl) ?_
    simp [dops_cons, wops_cons, hg, hgi, hl, hc, ht, appK, appendF, sliceC, copyK, copyIK, h0, hko, hnk, hr, hle, hne, hlt.2, hw1, hw2, hp1, hI, hq, hq2, ha, hmin, hmin2, hs1, hs2, hs3, hs4, hs6, hnew, Ne.symm hij, -st_eq, -ld_eq]
    refine ⟨i, _, k, rfl, by simp; rfl, ?_, .inr ⟨rfl, rfl, hr⟩, fun y hy hne => ?_⟩
    · rw [hseg]; exact insD hl ha (by omega)
    · have : y ≠ i := by rintro rfl; exact hne rfl
      simp [this]
  · have hkn : k = n := by omega
    subst hkn
    have hI : ((k : Int) < k + 1) := by omega
    have hw3 : IntKind.i64.wrap ((k : Int) + 1 - a) = ((k + 1 - a : Nat) : Int) := by rw [IntWalk.i64_in _ (by omega)]; omega
    have hz1 : ((k + 1 - a : Nat) : Int) * 32 ≤ 140737488355328 := by omega
    have hz2 : ¬ (k + 1 - a = 0) := by omega
    have hz3 : ¬ (a + (k + 1 - a) ≤ k) := by omega
    have hz4 : a + (k + 1 - a) = k + 1 := by omega
    have hz5 : a * 3 ≤ row.length := by omega
    have hq : a ≤ k + 1 ∧ a + 1 ≤ k + 1 := by omega
    have hmin : min (k + 1 - a) (k - a) = k - a ∧ min (k - a) (k - a) = k - a := by omega
    have hmin2 : min 1 (k + 1 - a) = 1 := by omega
    have hjn : ¬ (j = σ.n) ∧ ¬ (i = σ.n) := by omega
    obtain ⟨z, hz⟩ : ∃ z, z = (List.replicate (k + 1 - a) [Value.int IntKind.u64 0, Value.string ⟨#[]⟩, Value.bool false]).flatten := ⟨_, rfl⟩
    have hzl : z.length = (k + 1 - a) * 3 := by rw [hz]; simp
    have hzc : cokL z = true := by rw [hz]; exact rep_cok _ _ rfl
    have hta : (row.take (a * 3)).length = a * 3 := by simp; omega
    have hrw : (row.take (a * 3) ++ z).length = k * 3 + 3 := by rw [List.length_append, hta, hzl]; omega
    have hc1 : st (row.take (a * 3) ++ z) (a * 3) new = some (wr (row.take (a * 3) ++ z) (a * 3) new) := st_wr (by omega)
    have hc2 : (wr (row.take (a * 3) ++ z) (a * 3) new).length = k * 3 + 3 := by rw [wr_length (by omega)]; exact hrw
    obtain ⟨seg, hseg⟩ : ∃ seg, seg = (row.drop (a * 3)).take (k * 3 - a * 3) := ⟨_, rfl⟩
    have hs1 : ld row (a * 3) ((k - a) * 3) = some seg := by rw [show (k - a) * 3 = k * 3 - a * 3 by omega, hseg]; simp; omega
    have hs2 : seg.length = (k - a) * 3 := by rw [hseg]; simp; omega
    have hs3 : cokL seg = true := by rw [hseg, ← List.drop_take]; exact cokL_drop hrc _
    have hs4 : st (wr (row.take (a * 3) ++ z) (a * 3) new) ((a + 1) * 3) seg = some (wr (wr (row.take (a * 3) ++ z) (a * 3) new) (a * 3 + 3) seg) := by rw [show (a + 1) * 3 = a * 3 + 3 by omega]; exact st_wr (by omega)
    have hq2 : ¬ (k = a) ∧ ¬ (k - a = 0) ∧ k + 1 - (a + 1) = k - a := by omega
    have hld : ld row 0 (a * 3) = some (row.take (a * 3)) := by simp [ld]; omega
    simp [wops_cons, hg, hgi, hl, hc, ht, appK, appendF, sliceC, h0, hko, hnk, hr, hn, hb, hle, hne, hlt.2, hw1, hw2, hw3, hz1, hz2, hz3, hz4, hz5, hp1, hI, hq, hq2, ha, appNK, sliceO, copyK, copyIK, ← hz, hzl, hzc, hc1, hnew, hmin, hmin2, hjn, hld, -st_eq, -ld_eq, -List.append_assoc]
    refine W_calm (by kernel_rfl) ?_
    simp [dops_cons, wops_cons, hg, hgi, hl, hc, ht, sliceC, h0, hko, hnk, hr, hn, hb, hle, hne, hlt.2, hw1, hw2, hp1, hI, hq, hq2, ha, sliceO, copyK, copyIK, hzl, hzc, hs1, hs2, hs3, hs4, hmin, hmin2, hjn, -st_eq, -ld_eq, -List.append_assoc]
    refine ⟨σ.n, _, openCap, rfl, by simp; rfl, ?_, .inl ⟨Nat.le_refl _, rfl⟩, fun y hy hne => ?_⟩
    · rw [hseg]; exact insC hl ha hn (by omega)
    · have : y ≠ σ.n := by omega
      simp [this]
/-- slices.Insert of a chain's versions. -/
theorem insW_29 : InsW E0 79 33 3 32 where
  nil := fun σ j new hj hg hl hc _ => ins_nil_29 σ j new hj hg hl hc
  zero := fun σ i j row new hi hj hij hgi hg hl hc _ => ins_zero_29 σ i j row new hi hj hij hgi hg hl hc
  some_ := fun σ i j n a k row new hi hj hij hgi hg hl hc hn hk hrc ha hb hn40 hnk hko => by
    by_cases he : a = n
    · subst he
      exact ins_end_29 σ i j a k row new hi hj hij hgi hg hl hc hn hk (by omega) hnk hko
    · exact ins_mid_29 σ i j n a k row new hi hj hij hgi hg hl hc hn hk hrc (by omega) (by omega) hn40 hnk hko
end Go.Sm
set_option linter.unusedVariables false
set_option linter.unusedSimpArgs false
namespace Go.Sm
open Go Go.Proofs
set_option maxRecDepth 100000
set_option maxHeartbeats 1000000
attribute [local simp] sliceOp_open3 sliceOp_cap sliceOp_open sliceOp_nil appendOp_K appendOp_N copyOp_K
theorem ins_nil_95 (σ : CSt) (j : Nat) (new : List Value) (hj : j < σ.n) (hg : σ.get j = some (.cells new 116 false)) (hl : new.length = 2) (hc : cokL new = true) :
    W E0 (.fn 65 #[.slice none 0 0, .int .i64 0, .slice (some ⟨j, 0, none⟩) 1 1] none) σ (InsPost σ none 0 116 new 1) := by
  rw [W_fn (fn := Tryz.f65) Tryz.func65 rfl rfl rfl]
  have ht : new.take 2 = new := List.take_of_length_le (by omega)
  simp [wops_cons, hg, hl, hc, ht, appK, appendF]
  refine ⟨σ.n, new, openCap, rfl, by simp, by simp, .inl ⟨by omega, rfl⟩, fun y hy _ => ?_⟩
  simp
  omega
theorem ins_zero_95 (σ : CSt) (i j : Nat) (row new : List Value) (hi : i < σ.n) (hj : j < σ.n) (hij : i ≠ j) (hgi : σ.get i = some (.cells row 116 false)) (hg : σ.get j = some (.cells new 116 false)) (hl : new.length = 2) (hc : cokL new = true) :
    W E0 (.fn 65 #[.slice (some ⟨i, 0, none⟩) 0 0, .int .i64 0, .slice (some ⟨j, 0, none⟩) 1 1] none) σ (InsPost σ none 0 116 new 1) := by
  rw [W_fn (fn := Tryz.f65) Tryz.func65 rfl rfl rfl]
  have ht : new.take 2 = new := List.take_of_length_le (by omega)
  have h0 : (0 : Nat) ≠ openCap := by simp [openCap]
  have h1 : 0 < openCap := by simp [openCap]
  simp [wops_cons, hg, hgi, hl, hc, ht, appK, appendF, sliceC, h0, h1]
  refine ⟨σ.n, new, openCap, rfl, by simp, by simp, .inl ⟨by omega, rfl⟩, fun y hy _ => ?_⟩
  simp
  omega
theorem ins_end_95 (σ : CSt) (i j n k : Nat) (row new : List Value) (hi : i < σ.n) (hj : j < σ.n) (hij : i ≠ j) (hgi : σ.get i = some (.cells row 116 false)) (hg : σ.get j = some (.cells new 116 false)) (hl : new.length = 2) (hc : cokL new = true)
    (hn : n * 2 ≤ row.length) (hk : k * 2 ≤ row.length) (hb : (n + 1) * 40 ≤ 140737488355328) (hnk : n ≤ k) (hko : k < openCap) :
    W E0 (.fn 65 #[.slice (some ⟨i, 0, none⟩) n k, .int .i64 n, .slice (some ⟨j, 0, none⟩) 1 1] none) σ (InsPost σ (some i) k 116 (insRow 2 n n row new) (n + 1)) := by
  rw [W_fn (fn := Tryz.f65) Tryz.func65 rfl rfl rfl]
  have ht : new.take 2 = new := List.take_of_length_le (by omega)
  have h0 : k ≠ openCap := by omega
  by_cases hr : n + 1 ≤ k
  · have hst : st row (n * 2) new = some (wr row (n * 2) new) := st_wr (by omega)
    simp [wops_cons, hg, hgi, hl, hc, ht, appK, appendF, sliceC, h0, hko, hnk, hr, hst, -st_eq]
    refine ⟨i, wr row (n * 2) new, k, rfl, by simp, insA hl (by omega), .inr ⟨rfl, rfl, hr⟩, fun y hy hne => ?_⟩
    rw [CSt.get_put, if_neg]
    rintro rfl
    exact hne rfl
  · simp [wops_cons, hg, hgi, hl, hc, ht, appK, appendF, sliceC, h0, hko, hnk, hr, hn, hb]
    refine ⟨σ.n, _, openCap, rfl, by simp, insB hl hn, .inl ⟨Nat.le_refl _, rfl⟩, fun y hy hne => ?_⟩
    rw [CSt.get_alloc, if_neg (by omega)]
theorem ins_mid_95 (σ : CSt) (i j n a k : Nat) (row new : List Value) (hi : i < σ.n) (hj : j < σ.n) (hij : i ≠ j) (hgi : σ.get i = some (.cells row 116 false)) (hg : σ.get j = some (.cells new 116 false)) (hl : new.length = 2) (hc : cokL new = true)
    (hn : n * 2 ≤ row.length) (hk : k * 2 ≤ row.length) (hrc : cokL (row.take (n * 2)) = true) (ha : a < n) (hb : (n + 1) * 40 ≤ 140737488355328) (hn40 : n < 2 ^ 40) (hnk : n ≤ k) (hko : k < openCap) :
    W E0 (.fn 65 #[.slice (some ⟨i, 0, none⟩) n k, .int .i64 a, .slice (some ⟨j, 0, none⟩) 1 1] none) σ (InsPost σ (some i) k 116 (insRow 2 a n row new) (n + 1)) := by
  rw [W_fn (fn := Tryz.f65) Tryz.func65 rfl rfl rfl]
  have ht : new.take 2 = new := List.take_of_length_le (by omega)
  have h0 : k ≠ openCap := by omega
  have hle : a ≤ n := by omega
  have hne : a ≠ n := by omega
  have hw1 := i64n1 n (by omega)
  have hw2 := i64n1 a (by omega)
  have hlt : ¬ k < n ∧ ¬ (a : Int) = n := by omega
  have hnew : ld new 0 2 = some new := by simp [ld, hl, ht]
  have hp1 : (0 : Int) ≤ (n : Int) + 1 ∧ (0 : Int) ≤ (a : Int) + 1 ∧ ((n : Int) + 1).toNat = n + 1 ∧ ((a : Int) + 1).toNat = a + 1 := by omega
  by_cases hr : n + 1 ≤ k
  · have hI : ¬ ((k : Int) < n + 1) := by omega
    have hq : a ≤ k ∧ a + 1 ≤ k ∧ a ≤ n + 1 := by omega
    simp [wops_cons, hg, hgi, hl, hc, ht, appK, appendF, sliceC, h0, hko, hnk, hr, hle, hne, hlt.2, hw1, hw2, hp1, hI, hq, ha, -st_eq]
    rw [wres_ext (E := E0) (v := .bool false)]
    rotate_left
    · simp only [extOf_fn, E0X, extE]
      exact apartX_ne (Ne.symm hij) hg hgi (by omega)
    have hmin : min (n + 1 - a) (n - a) = n - a := by omega
    have hmul : (n - a) * 2 = n * 2 - a * 2 := by omega
    have hmin2 : min 1 (n + 1 - a) = 1 := by omega
    obtain ⟨seg, hseg⟩ : ∃ seg, seg = (row.drop (a * 2)).take (n * 2 - a * 2) := ⟨_, rfl⟩
    have hs1 : ld row (a * 2) ((n - a) * 2) = some seg := by rw [hmul, hseg]; simp; omega
    have hs2 : seg.length = (n - a) * 2 := by rw [hseg]; simp; omega
    have hs3 : cokL seg = true := by rw [hseg, ← List.drop_take]; exact cokL_drop hrc _
    have hs4 : st row ((a + 1) * 2) seg = some (wr row (a * 2 + 2) seg) := by rw [show (a + 1) * 2 = a * 2 + 2 by omega]; exact st_wr (by omega)
    have hs5 : (wr row (a * 2 + 2) seg).length = row.length := wr_length (by omega)
    have hs6 : st (wr row (a * 2 + 2) seg) (a * 2) new = some (wr (wr row (a * 2 + 2) seg) (a * 2) new) := st_wr (by omega)
    have hq2 : ¬ (k = a) ∧ ¬ (k = a + 1) ∧ ¬ (n - a = 0) := by omega
    simp only [Bool.not_false, wops_cons]
    simp [wops_cons, hg, hgi, hl, hc, ht]
    refine W_calm (by kernel_rfl) ?_
    simp [dops_cons, wops_cons, hg, hgi, hl, hc, ht, appK, appendF, sliceC, copyK, copyIK, h0, hko, hnk, hr, hle, hne, hlt.2, hw1, hw2, hp1, hI, hq, hq2, ha, hmin, hmin2, hs1, hs2, hs3, hs4, hs6, hnew, Ne.symm hij, -st_eq, -ld_eq]
    refine ⟨i, _, k, rfl, by simp; rfl, ?_, .inr ⟨rfl, rfl, hr⟩, fun y hy hne => ?_⟩
    · rw [hseg]; exact insD hl ha (by omega)
    · have : y ≠ i := by rintro rfl; exact hne rfl
      simp [this]
  · have hkn : k = n := by omega
    subst hkn
    have hI : ((k : Int) < k + 1) := by omega
    have hw3 : IntKind.i64.wrap ((k : Int) + 1 - a) = ((k + 1 - a : Nat) : Int) := by rw [IntWalk.i64_in _ (by omega)]; omega
    have hz1 : ((k + 1 - a : Nat) : Int) * 40 ≤ 140737488355328 := by omega
    have hz2 : ¬ (k + 1 - a = 0) := by omega
    have hz3 : ¬ (a + (k + 1 - a) ≤ k) := by omega
    have hz4 : a + (k + 1 - a) = k + 1 := by omega
    have hz5 : a * 2 ≤ row.length := by omega
    have hq : a ≤ k + 1 ∧ a + 1 ≤ k + 1 := by omega
    have hmin : min (k + 1 - a) (k - a) = k - a ∧ min (k - a) (k - a) = k - a := by omega
    have hmin2 : min 1 (k + 1 - a) = 1 := by omega
    have hjn : ¬ (j = σ.n) ∧ ¬ (i = σ.n) := by omega
    obtain ⟨z, hz⟩ : ∃ z, z = (List.replicate (k + 1 - a) [Value.string ⟨#[]⟩, Value.slice none 0 0]).flatten := ⟨_, rfl⟩
    have hzl : z.length = (k + 1 - a) * 2 := by rw [hz]; simp
    have hzc : cokL z = true := by rw [hz]; exact rep_cok _ _ rfl
    have hta : (row.take (a * 2)).length = a * 2 := by simp; omega
    have hrw : (row.take (a * 2) ++ z).length = k * 2 + 2 := by rw [List.length_append, hta, hzl]; omega
    have hc1 : st (row.take (a * 2) ++ z) (a * 2) new = some (wr (row.take (a * 2) ++ z) (a * 2) new) := st_wr (by omega)
    have hc2 : (wr (row.take (a * 2) ++ z) (a * 2) new).length = k * 2 + 2 := by rw [wr_length (by omega)]; exact hrw
    obtain ⟨seg, hseg⟩ : ∃ seg, seg = (row.drop (a * 2)).take (k * 2 - a * 2) := ⟨_, rfl⟩
    have hs1 : ld row (a * 2) ((k - a) * 2) = some seg := by rw [show (k - a) * 2 = k * 2 - a * 2 by omega, hseg]; simp; omega
    have hs2 : seg.length = (k - a) * 2 := by rw [hseg]; simp; omega
    have hs3 : cokL seg = true := by rw [hseg, ← List.drop_take]; exact cokL_drop hrc _
    have hs4 : st (wr (row.take (a * 2) ++ z) (a * 2) new) ((a + 1) * 2) seg = some (wr (wr (row.take (a * 2) ++ z) (a * 2) new) (a * 2 + 2) seg) := by rw [show (a + 1) * 2 = a * 2 + 2 by omega]; exact st_wr (by omega)
    have hq2 : ¬ (k = a) ∧ ¬ (k - a = 0) ∧ k + 1 - (a + 1) = k - a := by omega
    have hld : ld row 0 (a * 2) = some (row.take (a * 2)) := by simp [ld]; omega
    simp [wops_cons, hg, hgi, hl, hc, ht, appK, appendF, sliceC, h0, hko, hnk, hr, hn, hb, hle, hne, hlt.2, hw1, hw2, hw3, hz1, hz2, hz3, hz4, hz5, hp1, hI, hq, hq2, ha, appNK, sliceO, copyK, copyIK, ← hz, hzl, hzc, hc1, hnew, hmin, hmin2, hjn, hld, -st_eq, -ld_eq, -List.append_assoc]
    refine W_calm (by kernel_rfl) ?_
    simp [dops_cons, wops_cons, hg, hgi, hl, hc, ht, sliceC, h0, hko, hnk, hr, hn, hb, hle, hne, hlt.2, hw1, hw2, hp1, hI, hq, hq2, ha, sliceO, copyK, copyIK, hzl, hzc, hs1, hs2, hs3, hs4, hmin, hmin2, hjn, -st_eq, -ld_eq, -List.append_assoc]
    refine ⟨σ.n, _, openCap, rfl, by simp; rfl, ?_, .inl ⟨Nat.le_refl _, rfl⟩, fun y hy hne => ?_⟩
    · rw [hseg]; exact insC hl ha hn (by omega)
    · have : y ≠ σ.n := by omega
      simp [this]
/-- slices.Insert of a chain's versions. -/
theorem insW_95 : InsW E0 65 116 2 40 where
  nil := fun σ j new hj hg hl hc _ => ins_nil_95 σ j new hj hg hl hc
  zero := fun σ i j row new hi hj hij hgi hg hl hc _ => ins_zero_95 σ i j row new hi hj hij hgi hg hl hc
  some_ := fun σ i j n a k row new hi hj hij hgi hg hl hc hn hk hrc ha hb hn40 hnk hko => by
    by_cases he : a = n
    · subst he
      exact ins_end_95 σ i j a k row new hi hj hij hgi hg hl hc hn hk (by omega) hnk hko
    · exact ins_mid_95 σ i j n a k row new hi hj hij hgi hg hl hc hn hk hrc (by omega) (by omega) hn40 hnk hko
end Go.Sm
/- The closed tests, reckoned. -/
namespace Go.Sm
open Go Go.Proofs
def isTrue : Out → CSt → Bool := fun o _ => match o with | .ret (.bool true) false => true | _ => false
def st0 : CSt := { h := ((Tr.nil : Tr CObj).set 1 (.cells [.int .u64 1, .int .u64 0] 0 true)), n := 256 }
set_option maxRecDepth 1000000
theorem aw27 : runB EV 80000 (.fn 27 #[] none) st0 isTrue = true := by kernel_rfl
theorem aw12 : runB EV 40000 (.fn 12 #[] none) st0 isTrue = true := by kernel_rfl
end Go.Sm
/- strings.Repeat, laid at this program (printed by the tools of the shelf). -/
namespace Go.Proofs
open Go.Shelf
def Tryz.lays105_ren : Go.Shelf.Ren := ⟨fun | 105 => 67 | 212 => 80 | 99 => 81 | 165 => 82 | 166 => 83 | 170 => 84 | 169 => 85 | 263 => 97 | 264 => 98 | 206 => 99 | 240 => 100 | 241 => 101 | 276 => 121 | 277 => 122 | n => n, fun | 9 => 9 | 3 => 3 | 4 => 4 | 20 => 20 | 0 => 0 | 46 => 149 | 109 => 157 | 5 => 5 | 72 => 162 | 76 => 166 | 51 => 183 | 146 => 184 | 53 => 31 | 148 => 186 | 70 => 160 | 37 => 25 | 75 => 165 | 127 => 188 | 164 => 210 | 80 => 169 | n => n, fun | n => n⟩
theorem Tryz.lays105 : Go.Proofs.Lays.n105 Tryz.prog Tryz.lays105_ren := {
  mixed := by kernel_rfl
  f99 := Tryz.func81.trans (congrArg some (by kernel_rfl))
  f105 := Tryz.func67.trans (congrArg some (by kernel_rfl))
  f165 := Tryz.func82.trans (congrArg some (by kernel_rfl))
  f166 := Tryz.func83.trans (congrArg some (by kernel_rfl))
  f169 := Tryz.func85.trans (congrArg some (by kernel_rfl))
  f170 := Tryz.func84.trans (congrArg some (by kernel_rfl))
  f206 := Tryz.func99.trans (congrArg some (by kernel_rfl))
  f212 := Tryz.func80.trans (congrArg some (by kernel_rfl))
  f240 := Tryz.func100.trans (congrArg some (by kernel_rfl))
  f241 := Tryz.func101.trans (congrArg some (by kernel_rfl))
  f263 := Tryz.func97.trans (congrArg some (by kernel_rfl))
  f264 := Tryz.func98.trans (congrArg some (by kernel_rfl))
  f276 := Tryz.func121.trans (congrArg some (by kernel_rfl))
  f277 := Tryz.func122.trans (congrArg some (by kernel_rfl))
  t0 := Tryz.underlying0
  a0 := Tryz.isAgg0
  z0 := Tryz.sizeOf0
  v0 := Tryz.zeroValue0
  t3 := Tryz.underlying3
  a3 := Tryz.isAgg3
  z3 := Tryz.sizeOf3
  v3 := Tryz.zeroValue3
  t4 := Tryz.underlying4
  a4 := Tryz.isAgg4
  z4 := Tryz.sizeOf4
  v4 := Tryz.zeroValue4
  t5 := Tryz.underlying5
  a5 := Tryz.isAgg5
  z5 := Tryz.sizeOf5
  v5 := Tryz.zeroValue5
  t9 := Tryz.underlying9
  a9 := Tryz.isAgg9
  z9 := Tryz.sizeOf9
  v9 := Tryz.zeroValue9
  t20 := Tryz.underlying20
  a20 := Tryz.isAgg20
  z20 := Tryz.sizeOf20
  v20 := Tryz.zeroValue20
  t37 := Tryz.underlying25
  a37 := Tryz.isAgg25
  z37 := Tryz.sizeOf25
  v37 := Tryz.zeroValue25
  t46 := Tryz.underlying149
  a46 := Tryz.isAgg149
  z46 := Tryz.sizeOf149
  v46 := Tryz.zeroValue149
  t51 := Tryz.underlying183
  a51 := Tryz.isAgg183
  z51 := Tryz.sizeOf183
  v51 := Tryz.zeroValue183
  t53 := Tryz.underlying31
  a53 := Tryz.isAgg31
  z53 := Tryz.sizeOf31
  v53 := Tryz.zeroValue31
  t70 := Tryz.underlying160
  a70 := Tryz.isAgg160
  z70 := Tryz.sizeOf160
  v70 := Tryz.zeroValue160
  t72 := Tryz.underlying162
  a72 := Tryz.isAgg162
  z72 := Tryz.sizeOf162
  v72 := Tryz.zeroValue162
  t75 := Tryz.underlying165
  a75 := Tryz.isAgg165
  z75 := Tryz.sizeOf165
  v75 := Tryz.zeroValue165
  t76 := Tryz.underlying166
  a76 := Tryz.isAgg166
  z76 := Tryz.sizeOf166
  v76 := Tryz.zeroValue166
  t109 := Tryz.underlying157
  a109 := Tryz.isAgg157
  z109 := Tryz.sizeOf157
  v109 := Tryz.zeroValue157
  t127 := Tryz.underlying188
  a127 := Tryz.isAgg188
  z127 := Tryz.sizeOf188
  v127 := Tryz.zeroValue188
  t146 := Tryz.underlying184
  a146 := Tryz.isAgg184
  z146 := Tryz.sizeOf184
  v146 := Tryz.zeroValue184
  t148 := Tryz.underlying186
  a148 := Tryz.isAgg186
  z148 := Tryz.sizeOf186
  v148 := Tryz.zeroValue186
  t164 := Tryz.underlying210
  a164 := Tryz.isAgg210
  z164 := Tryz.sizeOf210
  v164 := Tryz.zeroValue210 }
theorem Tryz.Builder_Extra_105 : Builder.Extra Tryz.prog Tryz.lays105_ren := {
  sizeBuilder := by kernel_rfl
  liesBuilder := by kernel_rfl
  t5 := Tryz.underlying5
  a5 := Tryz.isAgg5
  z5 := Tryz.sizeOf5
  v5 := Tryz.zeroValue5
  infoByte := by kernel_rfl
  cellsByte := by kernel_rfl
  sizeByte := by kernel_rfl
  neB5 := by decide }
open Go.RowKit Go.Lib in
/-- **strings.Repeat: count ≥ 0, the result within one allocation: count copies of s.** (LAID: no walk: one application.) -/
theorem Tryz.strings_Repeat (s : ByteArray) (c : Nat) (w : World) (hc : c ≤ 9223372036854775807) (hlen : s.size * c ≤ 140737488355328) :
    Calls Tryz.prog 67 #[.string s, .int .i64 c] w fun e w' => e = .returned (.string ⟨(Lib.repeatL s.data.toList c).toArray⟩) ∧ Below w.heap.size w w' := Any.strings_Repeat Tryz.lays105 Tryz.Builder_Extra_105 s c w hc hlen
end Go.Proofs
/- A contract of the machine's, taken as one step of the rules. -/
set_option linter.unusedVariables false
set_option linter.unusedSimpArgs false
namespace Go.Sm
open Go Go.RowKit
/-- A function that hands back a plain value and leaves all as it was. -/
theorem calls_gam {P : Program} {f : FuncId} {args : Array Value} {v : Value} (hbody : ∃ fn, P.funcs[f]? = some fn ∧ fn.body.isSome = true) (ha : ∀ a ∈ args, flat0 a = true) (hv : flat0 v = true)
    (hc : ∀ w : World, Calls P f args w fun e w' => e = .returned v ∧ Below w.heap.size w w') {σ : CSt} {Q : Out → CSt → Prop} (hq : Q (.ret v false) σ) : SimFn P f args none σ Q := by
  refine ⟨hbody, fun ρ w args' cs hR hA hd => ?_⟩
  have heq : args' = args := by
    apply Array.ext
    · exact hA.1.symm
    · intro i h1 h2
      have := hA.2 i h2 h1
      exact this.flat_eq (ha _ (Array.getElem_mem h2))
  subst heq
  obtain ⟨e, w', fr, ⟨rfl, hb⟩, hs, hf, hm, hdf, hk, fn, hfn, hr⟩ := hc w cs
  exact .inl ⟨v, false, σ, ρ, w', v, fr, hq, hR.grow hb.size fun k hk => hb.block k hk, ⟨ρ.le_refl, hb.os, hb.tape, hb.output, hb.size, fun k hkk _ => hb.block k hkk, fun i p a b => .inr ⟨i, p, a, b, rfl⟩⟩, .plain _ hv, hs, fun _ => rfl, hf, hk, hm, hdf, fn, by rw [← hf]; exact hfn, hr⟩
end Go.Sm
/- The environments are sound: what is taken as one step is so. -/
set_option linter.unusedVariables false
namespace Go.Sm
open Go Go.Proofs
set_option maxRecDepth 100000
theorem good_all : (Tryz.prog.funcs.toList.all fun fn => !(fn.name == "runtime.NumGoroutine")) = true := by kernel_rfl
theorem good_mixed : Tryz.prog.follows .mixedOrders = true := by kernel_rfl
theorem good : Good Tryz.prog := by
  refine ⟨fun f fn h _ => ?_, good_mixed⟩
  have := List.all_eq_true.1 good_all fn (by rw [Array.mem_toList_iff]; exact Array.mem_of_getElem? h)
  simpa using this
def isU8 (P : Program) (e : TypeId) : Bool := match P.underlying e with | some (.int .u8) => true | _ => false
theorem not_u8 {P : Program} {e : TypeId} (h : isU8 P e = false) : P.underlying e ≠ some (.int .u8) := by
  intro hh
  unfold isU8 at h
  rw [hh] at h
  cases h
theorem ext_ok {E : Env} (hP : E.P = Tryz.prog) (hx : E.ext = extE) : ExtOk E := by
  intro g args σ v h ρ w args' hR ha
  rw [hx] at h
  rw [hP] at hR ⊢
  unfold extE at h
  split at h
  · exact apart_ok (tS := 112) (tR := 4) (size := 2) Tryz.func75 (by kernel_rfl) (by kernel_rfl) (by kernel_rfl) (by kernel_rfl) (by kernel_rfl) (fun w => by kernel_rfl) (not_u8 (by kernel_rfl)) h hR ha
  · exact apart_ok (tS := 28) (tR := 4) (size := 3) Tryz.func95 (by kernel_rfl) (by kernel_rfl) (by kernel_rfl) (by kernel_rfl) (by kernel_rfl) (fun w => by kernel_rfl) (not_u8 (by kernel_rfl)) h hR ha
  · cases h
theorem gam0 : GamOk E0 := by
  intro f g h
  cases h
theorem gamV : GamOk EV := by
  intro f g h args σ v σ' hg Q hq
  change gamI f = some g at h
  unfold gamI at h
  split at h
  · cases h
    exact ins_gam (E := E0) good (ext_ok rfl rfl) gam0 (by exact ⟨_, Tryz.func65, rfl⟩) (by kernel_rfl) (by decide) insW_95 hg hq
  · cases h
    exact ins_gam (E := E0) good (ext_ok rfl rfl) gam0 (by exact ⟨_, Tryz.func79, rfl⟩) (by kernel_rfl) (by decide) insW_29 hg hq
  · cases h
theorem base0 : Base st0 := by
  refine ⟨rfl, fun i o h => ?_⟩
  simp only [st0, CSt.get, Tr.get_set] at h
  split at h
  · cases h
    rename_i hi
    subst hi
    exact ⟨by decide, _, _, rfl, by simp⟩
  · simp [Tr.get_nil] at h
theorem ext0 {σ : CSt} (h : gnone σ) : Ext st0 σ := by
  intro i o ho
  simp only [st0, CSt.get, Tr.get_set] at ho
  split at ho
  · rename_i hi
    subst hi
    cases ho
    exact h
  · simp [Tr.get_nil] at ho
theorem aw_ok {f : FuncId} {n : Nat} (h : runB EV n (.fn f #[] none) st0 isTrue = true) {args : Array Value} {σ σ' : CSt} {v : Value} (hg : awakeG args σ = some (v, σ')) {Q : Out → CSt → Prop} (hq : Q (.ret v false) σ') : SimFn Tryz.prog f args none σ Q := by
  unfold awakeG at hg
  split at hg
  · rename_i hc
    cases hg
    obtain ⟨rfl, hn⟩ := hc
    refine base_fn (E := EV) good (ext_ok rfl rfl) gamV base0 ((runB_W _ h).weaken fun o s ho => ?_) (by simp) rfl (ext0 hn) hq
    unfold isTrue at ho
    split at ho
    · rfl
    · cases ho
  · cases hg
theorem repL_eq (l : List UInt8) : ∀ n, Go.Lib.repeatL l n = (List.replicate n l).flatten
  | 0 => rfl
  | n + 1 => by rw [Go.Lib.repeatL, repL_eq l n, List.replicate_succ, List.flatten_cons]
theorem rep_ok {args : Array Value} {σ σ' : CSt} {v : Value} (hg : repG args σ = some (v, σ')) {Q : Out → CSt → Prop} (hq : Q (.ret v false) σ') : SimFn Tryz.prog 67 args none σ Q := by
  unfold repG at hg
  split at hg
  · rename_i s c
    split at hg
    · rename_i hc
      cases hg
      obtain ⟨n, rfl⟩ : ∃ n : Nat, c = n := ⟨c.toNat, by omega⟩
      refine calls_gam (v := .string (repS s n)) ⟨_, Tryz.func67, rfl⟩ (by simp [flat0]) (by simp [flat0]) (fun w => ?_) (by simpa using hq)
      have h := Tryz.strings_Repeat s n w (by omega) (by have := hc.2.2; simp only [Int.toNat_natCast] at this; omega)
      rw [repL_eq] at h
      exact h
    · cases hg
  · cases hg
theorem gam1 : GamOk E1 := by
  intro f g h args σ v σ' hg Q hq
  change gamL f = some g at h
  unfold gamL at h
  split at h
  · cases h
    exact ins_gam (E := E0) good (ext_ok rfl rfl) gam0 (by exact ⟨_, Tryz.func65, rfl⟩) (by kernel_rfl) (by decide) insW_95 hg hq
  · cases h
    exact ins_gam (E := E0) good (ext_ok rfl rfl) gam0 (by exact ⟨_, Tryz.func79, rfl⟩) (by kernel_rfl) (by decide) insW_29 hg hq
  · cases h; exact aw_ok aw12 hg hq
  · cases h; exact aw_ok aw27 hg hq
  · cases h; exact rep_ok hg hq
  · cases h
end Go.Sm
/- From the arguments to an abstract state. -/
set_option linter.unusedVariables false
namespace Go.Sm
open Go Go.WideShapes Go.ChangeShapes

/-- Nothing can be written. -/
def Calm (σ : CSt) : Prop := ∀ i, ¬ rw_ σ i

section
variable {P : Program} {ρ : Rho} {σ : CSt} {w : World}
/-- A row that is only read. -/
theorem R.addRo (h : R P ρ σ w) (hc : Calm σ) {p : Place} {c : List Value} {e : TypeId} (hlt : p.b < w.heap.size) (hz : p.z = P.cellsOf e) (hl : c.length ≤ p.e) (hcell : ∀ (k : Nat) (u : k < c.length), w.cell? ⟨p.b, p.o + k, none⟩ = some c[k] ∧ flat0 c[k] = true) :
    R P (ρ.set σ.n p) (σ.alloc (.cells c e true)) w ∧ ρ.le (ρ.set σ.n p) ∧ Calm (σ.alloc (.cells c e true)) ∧ (ρ.set σ.n p) σ.n = some p := by
  have hg := h.gn
  have hle : ρ.le (ρ.set σ.n p) := fun j r hr => by
    unfold Rho.set; rw [if_neg]; exact hr
    intro e; rw [e, h.dom _ (Nat.le_refl _)] at hr; cases hr
  have hset : ∀ j, j ≠ σ.n → (ρ.set σ.n p) j = ρ j := fun j hj => by unfold Rho.set; rw [if_neg hj]
  have hself : (ρ.set σ.n p) σ.n = some p := by unfold Rho.set; rw [if_pos rfl]
  have hget : ∀ j, j ≠ σ.n → (σ.alloc (.cells c e true)).get j = σ.get j := fun j hj => by rw [CSt.get_alloc, if_neg hj]
  have hlive : ∀ j, j ≠ σ.n → live (σ.alloc (.cells c e true)) j → live σ j := fun j hj ⟨o, ho, hd⟩ => ⟨o, by rw [← hget j hj]; exact ho, hd⟩
  have hcalm : Calm (σ.alloc (.cells c e true)) := fun j hj => by
    rw [rw_alloc] at hj
    by_cases e : j = σ.n
    · rw [if_pos e] at hj; cases hj.1
    · rw [if_neg e] at hj; exact hc j hj
  refine ⟨⟨fun j hj => ?_, fun j hj => ?_, fun j r hr hj => ?_, fun j o r ho hr => ?_, fun a b r s hne hr hs hra hlb => absurd hra (hcalm a), fun g hgl => ?_, Nat.le_succ_of_le hg⟩, hle, hcalm, hself⟩
  · rw [CSt.n_alloc] at hj; rw [hset j (by omega)]; exact h.dom j (by omega)
  · by_cases e : j = σ.n
    · rw [e]; exact ⟨p, hself⟩
    · rw [hset j e]; exact h.tot j (hlive j e hj)
  · by_cases e : j = σ.n
    · subst e; rw [hself] at hr; cases hr; exact hlt
    · rw [hset j e] at hr; exact h.lt j r hr (hlive j e hj)
  · by_cases e' : j = σ.n
    · subst e'
      rw [CSt.get_alloc, if_pos rfl] at ho
      cases ho
      rw [hself] at hr; cases hr
      refine ⟨⟨hz, hl⟩, fun k u => ?_⟩
      obtain ⟨h1, h2⟩ := hcell k u
      exact ⟨_, h1, .plain _ h2⟩
    · rw [hget j e'] at ho
      rw [hset j e'] at hr
      exact (h.obj j o r ho hr).mono hle
  · obtain ⟨q, h1, h2⟩ := h.glob g hgl
    exact ⟨q, hle _ _ h1, h2⟩

/-- A slice of plain elements among the arguments. -/
theorem open_arg {H : Type} {en : TypeId × Value → H} {base base' : Nat} {spare : Nat → Bool} {held : Bool} {t e : TypeId} {f fuel : Nat} {ks : List PK} {v' : Value} {x : DataW H × List MemPlace}
    (hR : R P ρ σ w) (hc : Calm σ) (ht : P.underlying t = some (.slice e)) (hk : kindsF P f e = some ks) (hce : P.cellsOf e = ks.length) (hval : Value.okWide P w .any base t v') (hd : DataW.trod en P w base' spare held fuel t v'.cells.toList = some x) :
    ∃ ρ' σ' v rows, R P ρ' σ' w ∧ Calm σ' ∧ ρ.le ρ' ∧ VR ρ' v v' ∧ Grow σ σ' ∧ (∀ r ∈ rows, OkL ks r) ∧
      ((v = .slice none 0 0 ∧ rows = []) ∨ ∃ i cap, v = .slice (some ⟨i, 0, none⟩) rows.length cap ∧ i < σ'.n ∧ σ'.get i = some (.cells rows.flatten e true) ∧ rows.length ≤ cap ∧ cap < openCap) := by
  obtain ⟨a0, len, cap, rfl⟩ := okWide_slice ht hval
  have hcells : (Value.slice a0 len cap).cells.toList = [.slice a0 len cap] := rfl
  rw [hcells] at hd
  rcases open_rows ht hk hce hd with h0 | ⟨a, len', cap', rows, h1, h2, h3, h4, h5, h6⟩
  · have h0' : a0 = none ∧ len = 0 ∧ cap = 0 := by simpa using h0
    obtain ⟨rfl, rfl, rfl⟩ := h0'
    exact ⟨ρ, σ, .slice none 0 0, [], hR, hc, Rho.le_refl ρ, .plain _ rfl, Grow.refl σ, by simp, .inl ⟨rfl, rfl⟩⟩
  · have h1' : a0 = some a ∧ len = len' ∧ cap = cap' := by simpa using h1
    obtain ⟨rfl, rfl, rfl⟩ := h1'
    have hok : w.has P .any base a e cap := by
      simp only [Value.okWide, ht, Cell.okWide, Cell.ok] at hval
      exact hval.2.2
    obtain ⟨_, hspot, row, cells, hsh, _⟩ := hok
    have hb : a.block < w.heap.size := by
      unfold World.shape? at hsh
      split at hsh
      · rename_i h; exact (Array.getElem?_eq_some_iff.1 h).1
      · cases hsh
    obtain ⟨ab, ao, asl⟩ := a
    simp only at hspot
    subst hspot
    have hfl : rows.flatten.length = len * ks.length := by
      have : ∀ (l : List (List Value)), (∀ r ∈ l, OkL ks r) → l.flatten.length = l.length * ks.length := by
        intro l
        induction l with
        | nil => simp
        | cons r l ih =>
          intro h
          rw [List.flatten_cons, List.length_append, ih (fun r hr => h r (by simp [hr])), (h r (by simp)).length, List.length_cons, Nat.add_mul]
          omega
      rw [this rows h5, h4]
    have hflat : ∀ v ∈ rows.flatten, flat0 v = true := fun v hv => by
      obtain ⟨r, hr, hv⟩ := List.mem_flatten.1 hv
      exact (h5 r hr).flat v hv
    have hm : cap < openCap := by unfold maxLen at h3; simp [openCap]; omega
    obtain ⟨r1, r2, r3, r4⟩ := hR.addRo hc (p := ⟨ab, ao, len * ks.length, ks.length⟩) (c := rows.flatten) (e := e) hb hce.symm (by simp [hfl]) (fun k u => by
      rw [hfl] at u
      have hk0 : 0 < ks.length := by
        rcases Nat.eq_zero_or_pos ks.length with h | h
        · rw [h] at u; omega
        · exact h
      have hi : k / ks.length < len := by rw [Nat.div_lt_iff_lt_mul hk0]; exact u
      obtain ⟨v, g1, g2⟩ := h6 (k / ks.length) (k % ks.length) hi (Nat.mod_lt _ hk0)
      have hkk : k / ks.length * ks.length + k % ks.length = k := by rw [Nat.mul_comm]; exact Nat.div_add_mod k ks.length
      rw [hkk] at g1
      rw [Addr.add_plain, Addr.add_plain, Nat.add_assoc, hkk] at g2
      obtain ⟨u', e'⟩ := List.getElem?_eq_some_iff.1 g1
      rw [e']
      exact ⟨g2, hflat v (by rw [← e']; exact List.getElem_mem u')⟩)
    refine ⟨_, _, .slice (some ⟨σ.n, 0, none⟩) len cap, rows, r1, r3, r2, ?_, (Grow.refl σ).alloc _, h5, .inr ⟨σ.n, cap, by rw [h4], by simp, by simp, by omega, hm⟩⟩
    exact .slc _ _ _ _ ⟨ab, ao, len * ks.length, ks.length⟩ r4 (by omega)

/-- The rows as one's own data. -/
theorem rows_enc {α : Type} {enc : α → List Value} {ok : α → Prop} {ks : List PK} (h : ∀ r, OkL ks r → ∃ x, ok x ∧ r = enc x) : ∀ rows : List (List Value), (∀ r ∈ rows, OkL ks r) → ∃ l : List α, (∀ x ∈ l, ok x) ∧ rows = l.map enc
  | [], _ => ⟨[], by simp, rfl⟩
  | r :: rows, hr => by
    obtain ⟨x, h1, rfl⟩ := h r (hr r (by simp))
    obtain ⟨l, h2, rfl⟩ := rows_enc h rows fun r hr' => hr r (by simp [hr'])
    exact ⟨x :: l, fun y hy => by
      rcases List.mem_cons.1 hy with rfl | hy
      · exact h1
      · exact h2 y hy, rfl⟩
theorem open_sl {H : Type} {en : TypeId × Value → H} {base base' : Nat} {spare : Nat → Bool} {held : Bool} {t e : TypeId} {f fuel sz : Nat} {ks : List PK} {v' : Value} {x : DataW H × List MemPlace} {α : Type} {enc : α → List Value} {ok : α → Prop}
    (hR : R P ρ σ w) (hc : Calm σ) (ht : P.underlying t = some (.slice e)) (hk : kindsF P f e = some ks) (hce : P.cellsOf e = ks.length) (hsz : ∀ x, (enc x).length = sz) (hen : ∀ r, OkL ks r → ∃ x, ok x ∧ r = enc x)
    (hval : Value.okWide P w .any base t v') (hd : DataW.trod en P w base' spare held fuel t v'.cells.toList = some x) :
    ∃ ρ' σ' v, ∃ l : List α, R P ρ' σ' w ∧ Calm σ' ∧ ρ.le ρ' ∧ VR ρ' v v' ∧ Grow σ σ' ∧ (∀ x ∈ l, ok x) ∧ Sl σ' e sz enc v l := by
  obtain ⟨ρ', σ', v, rows, h1, h2, h3, h4, h5, h6, h7⟩ := open_arg hR hc ht hk hce hval hd
  obtain ⟨l, h8, rfl⟩ := rows_enc hen rows h6
  refine ⟨ρ', σ', v, l, h1, h2, h3, h4, h5, h8, ?_⟩
  rcases h7 with ⟨rfl, h9⟩ | ⟨i, cap, rfl, h9, h10, h11, h12⟩
  · exact .inl ⟨rfl, by simpa using h9⟩
  · rw [List.length_map] at h11 ⊢
    exact Sl.all hsz (by rw [List.flatMap_def]; exact h10) h9 (.inr ⟨h11, h12⟩)
end
end Go.Sm
/- From the rules to a law's contract. -/
set_option linter.unusedVariables false
namespace Go.Sm
open Go Go.WideShapes Go.ChangeShapes Go.RowKit

def isTrueP : Out → CSt → Prop := fun o _ => o = .ret (.bool true) false
theorem Frm.below {ρ ρ' : Rho} {σ σ' : CSt} {w w' : World} (h : Frm ρ σ w ρ' σ' w') (hc : Calm σ) : Below w.heap.size w w' :=
  ⟨h.os, h.tape, h.output, h.size, fun k hk => h.keep k hk fun i p _ hr => absurd hr (hc i)⟩

section
variable {H : Type} {enc : TypeId × Value → H} {P : Program}
theorem trodAll_stays (hl : laidOutB P = true) {W W' : World} (hb : Below W.heap.size W W') : ∀ (ts : List TypeId) (vs : List Value) (ds : List (DataW H)) (p : List MemPlace), (∀ t ∈ ts, P.readableRec t = true ∧ t < P.types.size) →
    DataW.TrodAll enc P W 0 (fun _ => true) true ts vs ds p → (∀ x ∈ p, x.block < W.heap.size) → DataW.TrodAll enc P W' 0 (fun b => decide (b < W.heap.size)) true ts vs ds p
  | [], vs, ds, p, _, h, _ => by
    cases vs <;> cases ds <;> simp_all [DataW.TrodAll]
  | t :: ts, [], ds, p, _, h, _ => by simp [DataW.TrodAll] at h
  | t :: ts, v :: vs, [], p, _, h, _ => by simp [DataW.TrodAll] at h
  | t :: ts, v :: vs, d :: ds, p, ht, h, hp => by
    obtain ⟨p1, p2, h1, h2, rfl⟩ := h
    exact ⟨p1, p2, Below.trod hl (ht t (by simp)).1 (ht t (by simp)).2 h1 hb fun x hx => hp x (by simp [hx]), trodAll_stays hl hb ts vs ds p2 (fun t h => ht t (by simp [h])) h2 fun x hx => hp x (by simp [hx]), rfl⟩

theorem law_calls {E : Env} (G : Good E.P) (HE : ExtOk E) (HG : GamOk E) {f : FuncId} {fn : Func} {s : ChangeSpec} (hl : laidOutB E.P = true) (hts : fn.params.toList.all (fun t => E.P.readableRec t && decide (t < E.P.types.size)) = true) {bt : TypeId}
    (hrt : fn.resultTypes = #[bt]) (hbt : E.P.underlying bt = some .bool) (hvars : s.vars = []) {W : World} {args : Array Value} {ds gs : List (DataW H)} {before : List MemPlace} (hW : DataW.Whole enc E.P fn.params.toList s.vars false W args.toList ds gs before)
    (hfn : s.fn H (ds ++ gs) = { results := [.lit (.bool true)], args := ds }) {ρ : Rho} {σ : CSt} {aa : Array Value} (hR : R E.P ρ σ W) (hc : Calm σ) (hA : AsR ρ aa args) (hw : Sm.W E (.fn f aa none) σ isTrueP) :
    Calls E.P f args W fun e W' => ∃ v, e = .returned v ∧ s.post enc E.P fn false true false false W args v W' := by
  have hW' := hW
  obtain ⟨p, q, hA0, hV, rfl, _, _⟩ := hW
  rw [hvars] at hV
  obtain ⟨rfl, rfl⟩ := trodVars_none hV
  refine (Sm.W.calls G HE HG (Q := fun v _ => v = .bool true) (hw.weaken fun o s h => ⟨_, h, rfl⟩) hR hA).mono fun e W' ⟨v, v', σ', ρ', he, hv, _, hvr, hf⟩ => ?_
  subst hv
  have := hvr.bool
  subst this
  subst he
  have hb := hf.below hc
  have hlt : ∀ x ∈ p, x.block < W.heap.size := fun x hx => by simpa using hW'.lt x (by simp [hx])
  refine ⟨_, rfl, ds, [], p ++ [], [], p, [], hW', ?_, ?_, ?_, hb.frame _, fun h => by cases h⟩
  · rw [hfn, hrt]
    exact ⟨[], [], ⟨1, by simp [DataW.trod, hbt, Value.cells]⟩, rfl, rfl⟩
  · rw [hfn]
    refine trodAll_stays hl hb _ _ _ _ (fun t ht => ?_) hA0 hlt
    have := List.all_eq_true.1 hts t ht
    simpa using this
  · rw [hfn, hvars]
    rfl
end
end Go.Sm
/- What may change: objects of some types that were made behind a point. -/
set_option linter.unusedVariables false
namespace Go.Sm
open Go
def Fr (T : TypeId → Prop) (b : Nat) (σ σ' : CSt) : Prop := σ.n ≤ σ'.n ∧ ∀ j, j < σ.n → (j < b ∨ ∀ row e ro, σ.get j = some (.cells row e ro) → ¬ T e) → σ'.get j = σ.get j
section
variable {T T' : TypeId → Prop} {b b' : Nat} {s0 s1 s2 : CSt}
theorem Fr.refl (T : TypeId → Prop) (b : Nat) (σ : CSt) : Fr T b σ σ := ⟨Nat.le_refl _, fun _ _ _ => rfl⟩
theorem Grow.fr (h : Grow s0 s1) : Fr T b s0 s1 := ⟨h.n, fun j hj _ => h.old j hj⟩
theorem Fr.trans (h : Fr T b s0 s1) (h' : Fr T b s1 s2) : Fr T b s0 s2 :=
  ⟨Nat.le_trans h.1 h'.1, fun j hj hc => by rw [h'.2 j (Nat.lt_of_lt_of_le hj h.1) (by rw [h.2 j hj hc]; exact hc), h.2 j hj hc]⟩
theorem Fr.mono (h : Fr T b s0 s1) (hT : ∀ e, T e → T' e) (hb : b' ≤ b) : Fr T' b' s0 s1 :=
  ⟨h.1, fun j hj hc => h.2 j hj (hc.elim (fun h => .inl (Nat.lt_of_lt_of_le h hb)) fun hc => .inr fun row e ro hg ht => hc row e ro hg (hT e ht))⟩
theorem Fr.alloc (h : Fr T b s0 s1) (o : CObj) : Fr T b s0 (s1.alloc o) := h.trans ((Grow.refl s1).alloc o).fr
theorem Fr.put (h : Fr T b s0 s1) {i : Nat} (hi : b ≤ i) {row : List Value} {e : TypeId} {ro : Bool} (hg : s1.get i = some (.cells row e ro)) (ht : T e) (o : CObj) : Fr T b s0 (s1.put i o) :=
  h.trans ⟨Nat.le_refl _, fun j hj hc => by
    rw [CSt.get_put]
    by_cases e' : j = i
    · subst e'
      rcases hc with hc | hc
      · omega
      · exact absurd ht (hc _ _ _ hg)
    · rw [if_neg e']⟩
theorem Fr.new (h : Fr T b s0 s1) {i : Nat} (hi : s0.n ≤ i) (o : CObj) : Fr T b s0 (s1.put i o) := ⟨h.1, fun j hj hc => by rw [CSt.get_put, if_neg (by omega)]; exact h.2 j hj hc⟩
theorem Fr.grow (h : Fr T b s0 s1) (hb : s0.n ≤ b) : Grow s0 s1 := ⟨h.1, fun j hj => h.2 j hj (.inl (Nat.lt_of_lt_of_le hj hb))⟩
theorem Fr.get (h : Fr T b s0 s1) {i : Nat} {o : CObj} (hg : s0.get i = some o) (hi : i < s0.n) (hc : i < b ∨ ∀ row e ro, o = .cells row e ro → ¬ T e) : s1.get i = some o := by
  rw [h.2 i hi (hc.elim .inl fun hc => .inr fun row e ro h1 => hc row e ro (by rw [hg] at h1; exact Option.some.inj h1)), hg]
variable {α : Type} {e : TypeId} {sz : Nat} {enc : α → List Value} {v : Value} {l : List α}
theorem Sl.fr (h : Sl s0 e sz enc v l) (ht : ¬ T e) (hg : Fr T b s0 s1) : Sl s1 e sz enc v l := by
  rcases h with h | ⟨i, off, cap, row, ro, h1, h2, h3, h4⟩
  · exact .inl h
  · exact .inr ⟨i, off, cap, row, ro, h1, hg.get h2 h3 (.inr fun row' e' ro' he => by cases he; exact ht), Nat.lt_of_lt_of_le h3 hg.1, h4⟩
theorem Own.fr (h : Own b' s0 e enc v l) (ht : ¬ T e) (hg : Fr T b s0 s1) : Own b' s1 e enc v l := by
  rcases h with h | ⟨i, cap, h1, hb, hi, h2, h3⟩
  · exact .inl h
  · exact .inr ⟨i, cap, h1, hb, Nat.lt_of_lt_of_le hi hg.1, hg.get h2 hi (.inr fun row' e' ro' he => by cases he; exact ht), h3⟩
end
section
variable {P : Program} {σ : CSt} {ev : Operand → Value} {dst : Option Tmp} {ty : TypeId} {pos : String} {after : Array Edge} {g : Option (Nat × Bool)}
def nilK (σ : CSt) : Value → OpR
  | .pointer (some a) => .val (.pointer (some a)) σ
  | .func (.func f) fs cs => .val (.func (.func f) fs cs) σ
  | .func (.yield f) fs cs => .val (.func (.yield f) fs cs) σ
  | .iface t v => .val (.iface t v) σ
  | _ => .fail
@[simp] theorem copE_nilCheck (x : Operand) : cop P σ ev ⟨dst, .nilCheck x, ty, pos, after, g⟩ = nilK σ (ev x) := (rfl)
@[simp] theorem nilK_ptr (a : Addr) : nilK σ (.pointer (some a)) = .val (.pointer (some a)) σ := (rfl)
@[simp] theorem nilK_fn (f : FuncId) (fs cs : Array Value) : nilK σ (.func (.func f) fs cs) = .val (.func (.func f) fs cs) σ := (rfl)
@[simp] theorem nilK_yield (f : Nat) (fs cs : Array Value) : nilK σ (.func (.yield f) fs cs) = .val (.func (.yield f) fs cs) σ := (rfl)
end
end Go.Sm
/- Ranges over functions, as equations. -/
set_option linter.unusedVariables false
set_option linter.unusedSimpArgs false
namespace Go.Sm
open Go
variable {E : Env} {σ : CSt}
/-- Behind the function that is ranged over. -/
def krange (E : Env) (x : Ctx) (a : CAct) (L : Nat) (Q : Out → CSt → Prop) : Out → CSt → Prop := fun o σ =>
  match o with
  | .ret _ _ =>
    match σ.get L with
    | some (.loop st pend fn tm sz ps asg body) =>
      if st = .busy then False else
      match pend with
      | none => Q (.code .normal a) (σ.put L (.loop .exhausted pend fn tm sz ps asg body))
      | some c => W E (.code x c a) (σ.put L (.loop .exhausted pend fn tm sz ps asg body)) Q
    | _ => False
  | .pan v => Q (.code (.panic v) a) σ
  | _ => False
/-- Behind the assignments of a round. -/
def kround1 (E : Env) (L : Nat) (fn : FuncId) (body : Code) (Q : Out → CSt → Prop) : Out → CSt → Prop := fun o σ =>
  match o with
  | .code .normal a =>
    match σ.get L with
    | some (.loop .ready pend fn' tm' sz' ps' asg' body') =>
      W E (.code ⟨fn, some L, none⟩ body a) (σ.put L (.loop .busy pend fn' tm' sz' ps' asg' body')) fun o σ2 =>
        match o with
        | .code e a2 =>
          match jumpOf e with
          | some j =>
            match σ2.get L with
            | some (.loop st _ fn' tm' sz' ps' asg' body') => Q (.ret (.bool j.isNone) false) (σ2.put L (.loop (if j.isNone then .ready else .done) j fn' tm' sz' ps' asg' body'))
            | _ => False
          | none => match e with | .panic v => if a2.df.isEmpty then (match E.P.funcs[fn]? with | some _ => Q (.pan v) σ2 | none => False) else False | _ => False
        | _ => False
    | _ => False
  | _ => False
theorem W_rangeFunc {x : Ctx} {f : Operand} {ps : Array Tmp} {asg body : Code} {a : CAct} {σ : CSt} {Q : Out → CSt → Prop} {g : FuncId} {fs cs : Array Value} (hf : a.eval f = .func (.func g) fs cs) (ha : aroundOk σ x.rnd = true) :
    W E (.code x (.rangeFunc f ps asg body) a) σ Q = W E (.fn g (fs ++ #[.func (.yield σ.n) #[] #[]] ++ cs) none) (σ.alloc (.loop .ready none x.f a.tm a.sz ps asg body)) (krange E x a σ.n Q) := by
  rw [W_eq]
  simp only [F, ha, hf, callv, Bool.not_true, Bool.false_eq_true, if_false]
  rfl
theorem W_round {L : Nat} {args : Array Value} {σ : CSt} {Q : Out → CSt → Prop} {st : LoopState} {pend : Option Code} {fn : FuncId} {tm : Tr Value} {sz : Nat} {ps : Array Tmp} {asg body : Code} (hg : σ.get L = some (.loop st pend fn tm sz ps asg body)) (hs : args.size = ps.size) :
    W E (.round L args) σ Q = W E (.code ⟨fn, some L, none⟩ asg { tm := (ps.toList.zip args.toList).foldl (fun t p => if p.1 < sz then t.set p.1 p.2 else t) tm, sz := sz, df := [], tk := false }) σ (kround1 E L fn body Q) := by
  rw [W_eq]
  simp only [F, hg, hs, if_true]
  rfl
@[simp] theorem wres_yield (x : Ctx) (a : CAct) (d : Option Tmp) (K : CAct → CSt → Prop) (Q : Out → CSt → Prop) (L : Nat) (fs cs args : Array Value) (h : extOf E (.func (.yield L) fs cs) args σ = none) :
    wres E x a d K Q σ (.call (.func (.yield L) fs cs) args) = W E (.round L (fs ++ args)) σ (kret a d K Q) := by
  simp only [wres, h, callv]
  rfl
@[simp] theorem dres_yield (ops : Array Oper) (a0 a : CAct) (d : Option Tmp) (K : CAct → CSt → Prop) (Q : Out → CSt → Prop) (L : Nat) (fs cs args : Array Value) (h : extOf E (.func (.yield L) fs cs) args σ = none) :
    dres E ops a0 a d K Q σ (.call (.func (.yield L) fs cs) args) = W E (.round L (fs ++ args)) σ (kretd ops a0 a d K Q) := by
  simp only [dres, h, callv]
  rfl
@[simp] theorem ext_yield (L : Nat) (fs cs args : Array Value) (σ : CSt) : extOf E (.func (.yield L) fs cs) args σ = none := (rfl)
end Go.Sm
/- Two structs of plain cells against each other. -/
set_option linter.unusedVariables false
set_option linter.unusedSimpArgs false
namespace Go.Sm
open Go

theorem ba_eq {a b : ByteArray} (h : (a == b) = true) : a = b := by
  have h2 : (a.data == b.data) = true := h
  have h3 : a.data = b.data := eq_of_beq h2
  cases a; cases b
  cases h3
  rfl
theorem ba_self (a : ByteArray) : (a == a) = true := by
  have : (a.data == a.data) = true := beq_self_eq_true _
  exact this
def KK : PK → Value → Prop
  | .int k, v => ∃ n, v = .int k n
  | .bool, v => ∃ b, v = .bool b
  | .str, v => ∃ s, v = .string s
def KL : List PK → List Value → Prop
  | [], [] => True
  | k :: ks, v :: vs => KK k v ∧ KL ks vs
  | _, _ => False
theorem KL.length : ∀ {ks : List PK} {vs : List Value}, KL ks vs → vs.length = ks.length
  | [], [], _ => rfl
  | _ :: ks, _ :: vs, h => by simp [KL.length h.2]
theorem KL.split : ∀ {ks ls : List PK} {vs : List Value}, KL (ks ++ ls) vs → KL ks (vs.take ks.length) ∧ KL ls (vs.drop ks.length)
  | [], _, vs, h => ⟨by simp [KL], by simpa using h⟩
  | _ :: ks, ls, v :: vs, h => by
    obtain ⟨h1, h2⟩ := KL.split (ks := ks) (ls := ls) (vs := vs) h.2
    exact ⟨⟨h.1, h1⟩, h2⟩

def wrapV (P : Program) (t : TypeId) (xs : List Value) : Value := if isAggT P t then .agg xs.toArray else xs.getD 0 undef

end Go.Sm
/- Maps: their entries as a list; ranges over them. -/
set_option linter.unusedVariables false
set_option linter.unusedSimpArgs false
namespace Go.Sm
open Go
/-- A map's entries. -/
abbrev MlG (κ : Type) := List (κ × Value)
abbrev Ml := MlG ByteArray
section
variable {κ : Type} [DecidableEq κ]
def EntsG (key : κ → Value) (es : List MapEntry) (M : MlG κ) : Prop := es.map (fun e => (e.key, e.val)) = M.map fun p => (key p.1, p.2)
def posM (k : κ) : MlG κ → Nat → Option (Nat × Value)
  | [], _ => none
  | p :: M, i => if p.1 = k then some (i, p.2) else posM k M (i + 1)
/-- Keys of a kind: the model finds them. -/
structure Keyed (key : κ → Value) (kd : TypeDesc) : Prop where
  flat : ∀ k, flat0 (key k) = true
  same : ∀ k k', Instr.sameNow kd (key k) (key k') = some (decide (k' = k))
  inj : ∀ k k', key k = key k' → k = k'
theorem keyed_str : Keyed Value.string .string := by
  refine ⟨fun k => rfl, fun k k' => ?_, fun k k' h => by cases h; rfl⟩
  by_cases e1 : k' = k
  · subst e1; simp [Instr.sameNow, ba_self]
  · have hne : (k == k') = false := by
      cases h : (k == k') with
      | false => rfl
      | true => exact absurd (ba_eq h).symm e1
    simp [Instr.sameNow, hne, e1]
theorem find_entsG {key : κ → Value} {kd : TypeDesc} (hk : Keyed key kd) (k : κ) : ∀ (es : List MapEntry) (M : MlG κ) (i : Nat), EntsG key es M → Instr.findNow kd (key k) es i = some (posM k M i)
  | [], [], _, _ => rfl
  | [], p :: M, _, h => by simp [EntsG] at h
  | e :: es, [], _, h => by simp [EntsG] at h
  | e :: es, p :: M, i, h => by
    simp only [EntsG, List.map_cons, List.cons.injEq, Prod.mk.injEq] at h
    obtain ⟨⟨h1, h2⟩, h3⟩ := h
    have ih := find_entsG hk k es M (i + 1) h3
    unfold Instr.findNow posM
    rw [h1, hk.same]
    by_cases e1 : p.1 = k
    · simp [e1, h2]
    · simp [e1]
      exact ih
def getM (M : MlG κ) (k : κ) : Option Value := (M.find? fun p => decide (p.1 = k)).map (·.2)
def setM : MlG κ → κ → Value → MlG κ
  | [], k, v => [(k, v)]
  | p :: M, k, v => if p.1 = k then (k, v) :: M else p :: setM M k v
theorem posM_none {k : κ} {v : Value} : ∀ {M : MlG κ} {i : Nat}, posM k M i = none → getM M k = none ∧ setM M k v = M ++ [(k, v)] ∧ ∀ p ∈ M, p.1 ≠ k
  | [], _, _ => ⟨rfl, rfl, by simp⟩
  | p :: M, i, h => by
    unfold posM at h
    by_cases e : p.1 = k
    · rw [if_pos e] at h; cases h
    · rw [if_neg e] at h
      obtain ⟨h1, h2, h3⟩ := posM_none (v := v) h
      unfold getM setM
      rw [if_neg e, h2]
      refine ⟨?_, rfl, fun q hq => ?_⟩
      · rw [List.find?_cons]
        simp only [e, decide_false]
        exact h1
      · rcases List.mem_cons.1 hq with rfl | hq
        · exact e
        · exact h3 q hq
theorem posM_some {k : κ} {v w : Value} {j : Nat} : ∀ {M : MlG κ} {i : Nat}, posM k M i = some (j, w) → i ≤ j ∧ j - i < M.length ∧ getM M k = some w ∧ setM M k v = M.set (j - i) (k, v) ∧ (M[j - i]?).map (·.1) = some k
  | [], _, h => by cases h
  | p :: M, i, h => by
    unfold posM at h
    by_cases e : p.1 = k
    · rw [if_pos e] at h
      cases h
      refine ⟨Nat.le_refl _, by simp, ?_, ?_, by simp [e]⟩
      · unfold getM; rw [List.find?_cons]; simp [e]
      · unfold setM; rw [if_pos e]; simp
    · rw [if_neg e] at h
      obtain ⟨h0, h1, h2, h3, h4⟩ := posM_some (v := v) h
      have hj : j - i = (j - (i + 1)) + 1 := by omega
      refine ⟨by omega, by simp; omega, ?_, ?_, by rw [hj]; simpa using h4⟩
      · unfold getM; rw [List.find?_cons]; simp only [e, decide_false]; exact h2
      · unfold setM; rw [if_neg e, h3, hj, List.set_cons_succ]
/-- The entries; their births are of their own, before the clock; no key twice. -/
structure EntsOk (key : κ → Value) (es : List MapEntry) (clock : Nat) (M : MlG κ) : Prop where
  ents : EntsG key es M
  nodup : (es.map (·.born)).Nodup
  born : ∀ e ∈ es, e.born < clock
  keys : (M.map (·.1)).Nodup
def MpG (key : κ → Value) (σ : CSt) (m : Nat) (M : MlG κ) : Prop := ∃ es clock, σ.get m = some (.map es clock) ∧ EntsOk key es.toList clock M
theorem EntsG.length {κ : Type} {key : κ → Value} {es : List MapEntry} {M : MlG κ} (h : EntsG key es M) : es.length = M.length := by have := congrArg List.length h; simpa using this
theorem entsOk_nil {κ : Type} (key : κ → Value) (c : Nat) : EntsOk key [] c ([] : MlG κ) := ⟨rfl, by simp, by simp, by simp⟩
theorem setM_keys {k : κ} {v : Value} : ∀ {M : MlG κ}, (M.map (·.1)).Nodup → ((setM M k v).map (·.1)).Nodup ∧ ∀ q, q ∈ (setM M k v).map (·.1) ↔ q = k ∨ q ∈ M.map (·.1)
  | [], _ => by simp [setM]
  | p :: M, h => by
    rw [List.map_cons, List.nodup_cons] at h
    obtain ⟨h1, h2⟩ := setM_keys (k := k) (v := v) h.2
    unfold setM
    by_cases e : p.1 = k
    · rw [if_pos e, List.map_cons, List.nodup_cons]
      refine ⟨⟨by rw [← e]; exact h.1, h.2⟩, fun q => ?_⟩
      simp [e]
    · rw [if_neg e, List.map_cons, List.nodup_cons]
      refine ⟨⟨fun hm => ?_, h1⟩, fun q => ?_⟩
      · rcases (h2 p.1).1 hm with h3 | h3
        · exact e h3
        · exact h.1 h3
      · rw [List.mem_cons, h2, List.map_cons, List.mem_cons]
        exact or_left_comm
section
variable {P : Program} {σ : CSt} {t kt et : TypeId} {m : Nat} {M : MlG κ} {k : κ} {key : κ → Value} {kd : TypeDesc}
theorem lookup_mpG (ht : P.underlying t = some (.map kt et)) (hk : keyKind P kt = some kd) (hK : Keyed key kd) {z : Value} (hz : zeroOf? P et = some z) (h : MpG key σ m M) (ok : Bool) : lookupOp P σ t (.map (some m)) (key k) ok = some (if ok then .tuple #[(getM M k).getD z, .bool (getM M k).isSome] else (getM M k).getD z) := by
  obtain ⟨es, clock, hg, he⟩ := h
  have hf : findK P kt (key k) es = some (posM k M 0) := by unfold findK; rw [hk]; exact find_entsG hK k _ M 0 he.ents
  unfold lookupOp
  rw [ht]
  simp only [CSt.maps, hg, Option.map_some, hf, hK.flat, if_true]
  cases hp : posM k M 0 with
  | none => rw [(posM_none (v := z) hp).1]; simp [hz]
  | some jw => obtain ⟨j, w⟩ := jw; rw [(posM_some (v := z) hp).2.2.1]; simp
theorem update_mpG (ht : P.underlying t = some (.map kt et)) (hk : keyKind P kt = some kd) (hK : Keyed key kd) (h : MpG key σ m M) (v : Value) : ∃ o, updateOp P σ t (.map (some m)) (key k) v = some (σ.put m o) ∧ MpG key (σ.put m o) m (setM M k v) := by
  obtain ⟨es, clock, hg, he⟩ := h
  have hf : findK P kt (key k) es = some (posM k M 0) := by unfold findK; rw [hk]; exact find_entsG hK k _ M 0 he.ents
  unfold updateOp
  rw [ht]
  simp only [CSt.maps, hg, hf, hK.flat, if_true]
  have hkeys := (setM_keys (k := k) (v := v) he.keys).1
  cases hp : posM k M 0 with
  | none =>
    refine ⟨_, rfl, _, _, by rw [CSt.get_put, if_pos rfl], ?_⟩
    have hset := (posM_none (v := v) hp).2.1
    rw [hset] at hkeys
    rw [hset]
    have he1 := he.ents
    refine ⟨?_, ?_, fun e h => ?_, hkeys⟩
    · unfold EntsG at he1 ⊢
      simp [he1]
    · rw [Array.toList_push, List.map_append, List.nodup_append]
      refine ⟨he.nodup, by simp, fun a ha b hb => ?_⟩
      obtain ⟨e, h1, rfl⟩ := List.mem_map.1 ha
      simp at hb
      have := he.born e h1
      omega
    · rw [Array.toList_push] at h
      rcases List.mem_append.1 h with h | h
      · have := he.born e h; omega
      · rw [List.mem_singleton] at h; rw [h]; exact Nat.lt_succ_self _
  | some jw =>
    obtain ⟨j, w⟩ := jw
    obtain ⟨h1, h2, h3, h4, h5⟩ := posM_some (v := v) hp
    refine ⟨_, rfl, _, _, by rw [CSt.get_put, if_pos rfl], ?_⟩
    rw [h4] at hkeys
    rw [h4]
    have he1 := he.ents
    have hb : (es.modify j fun e => { e with key := key k, val := v }).toList.map (·.born) = es.toList.map (·.born) := by
      rw [Array.toList_modify]
      apply List.ext_getElem?
      intro n
      simp only [List.getElem?_map, List.getElem?_modify]
      by_cases e : j = n
      · subst e; simp [Option.map_map, Function.comp_def]
      · simp [e]
    refine ⟨?_, by rw [hb]; exact he.nodup, fun e h => ?_, hkeys⟩
    · unfold EntsG at he1 ⊢
      rw [Array.toList_modify, Nat.sub_zero]
      apply List.ext_getElem?
      intro n
      have hn := congrArg (·[n]?) he1
      simp only [List.getElem?_map, List.getElem?_modify, List.getElem?_set] at hn ⊢
      by_cases e : j = n
      · subst e
        rw [Nat.sub_zero] at h2
        have hl := EntsG.length he1
        simp [h2, List.getElem?_eq_getElem (show j < es.toList.length by omega)]
      · simp [e]
        simpa using hn
    · have h6 : e.born ∈ (es.modify j fun e => { e with key := key k, val := v }).toList.map (·.born) := List.mem_map_of_mem h
      rw [hb] at h6
      obtain ⟨e', h7, h8⟩ := List.mem_map.1 h6
      rw [← h8]
      exact he.born e' h7
end
end
abbrev Mp (σ : CSt) (m : Nat) (M : Ml) : Prop := MpG Value.string σ m M
section
variable {P : Program} {σ : CSt} {t kt et : TypeId} {m : Nat} {M : Ml} {k : ByteArray}
theorem lookup_mp (ht : P.underlying t = some (.map kt et)) (hk : keyKind P kt = some .string) {z : Value} (hz : zeroOf? P et = some z) (h : Mp σ m M) : lookupOp P σ t (.map (some m)) (.string k) false = some ((getM M k).getD z) := by
  have := lookup_mpG (k := k) ht hk keyed_str hz h false
  simpa using this
theorem update_mp (ht : P.underlying t = some (.map kt et)) (hk : keyKind P kt = some .string) (h : Mp σ m M) (v : Value) : ∃ o, updateOp P σ t (.map (some m)) (.string k) v = some (σ.put m o) ∧ Mp (σ.put m o) m (setM M k v) := update_mpG ht hk keyed_str h v
end
/-! ### Ranges -/
section
variable {κ : Type} [DecidableEq κ]
/-- A range over a map: what is yet to come. -/
def MIt (key : κ → Value) (σ : CSt) (r m : Nat) (M S : MlG κ) : Prop := ∃ es clock seen, σ.get m = some (.map es clock) ∧ EntsOk key es.toList clock M ∧ σ.get r = some (.miter (some m) clock seen clock) ∧ r ≠ m ∧ EntsG key (es.toList.filter fun e => !seen.contains e.born) S
theorem MIt.congr {κ : Type} {key : κ → Value} {σ σ' : CSt} {r m : Nat} {M S : MlG κ} (h : MIt key σ r m M S) (h1 : σ'.get r = σ.get r) (h2 : σ'.get m = σ.get m) : MIt key σ' r m M S := by
  obtain ⟨es, clock, seen, a, b, c, d⟩ := h
  exact ⟨es, clock, seen, by rw [h2]; exact a, b, by rw [h1]; exact c, d⟩
theorem MIt.mp {κ : Type} {key : κ → Value} {σ : CSt} {r m : Nat} {M S : MlG κ} (h : MIt key σ r m M S) : MpG key σ m M := by
  obtain ⟨es, clock, seen, a, b, c, d⟩ := h
  exact ⟨es, clock, a, b⟩
variable {P : Program} {σ : CSt} {ev : Operand → Value} {dst : Option Tmp} {ty : TypeId} {pos : String} {after : Array Edge} {g : Option (Nat × Bool)}
@[simp] theorem copE_range (t : TypeId) (x : Operand) : cop P σ ev ⟨dst, .range t x, ty, pos, after, g⟩ = OpR.ofP (rangeOp P σ t (ev x)) := (rfl)
@[simp] theorem copE_next (it : Operand) (s : Bool) : cop P σ ev ⟨dst, .next it s, ty, pos, after, g⟩ = nextOp σ (ev it) s := (rfl)
@[simp] theorem copE_entry (it : Operand) : cop P σ ev ⟨dst, .entry it, ty, pos, after, g⟩ = OpR.ofV σ (entryOp σ (ev it)) := (rfl)
end
end Go.Sm
/- append to a slice of one's own: what else stays. -/
set_option linter.unusedVariables false
namespace Go.Sm
open Go
section
variable {α : Type} {P : Program} {σ : CSt} {e : TypeId} {sz b : Nat} {enc : α → List Value} {v x : Value} {l m : List α} {f : TF} {ts : Array TypeId}

theorem appendF_only (hsz : ∀ x, (enc x).length = sz) (hc : ∀ x, cokL (enc x) = true) (hfs : f.size = sz) (h0 : 0 < sz) (h1 : 0 < f.bytes) (h2 : f.zero.map List.length = some sz) (hown : Own b σ e enc v l) (hb : b ≤ σ.n)
    (hbig : (l.length + m.length) * f.bytes ≤ 2 ^ 47) (hl : l.length < 2 ^ 62) : ∃ v' σ', appendF σ e f v m.length (m.flatMap enc) = some (v', σ') ∧ Own b σ' e enc v' (l ++ m) ∧ GrowB b σ σ' ∧ (∀ j, j < σ.n → (∀ i off n c, v = .slice (some ⟨i, off, none⟩) n c → j ≠ i) → σ'.get j = σ.get j) ∧ (m ≠ [] → ∃ n c, v' = .slice (some ⟨σ.n, 0, none⟩) n c) := by
  have hml := enc_length enc hsz m
  have hll := enc_length enc hsz l
  have hcond : (m.flatMap enc).length = m.length * f.size ∧ cokL (m.flatMap enc) = true ∧ 0 < f.size ∧ 0 < f.bytes ∧ f.zero.map List.length = some f.size := by
    rw [hfs]; exact ⟨hml, cokL_enc hc m, h0, h1, h2⟩
  unfold appendF
  rw [if_pos hcond]
  rcases hown with ⟨rfl, rfl⟩ | ⟨i, cap, rfl, hbi, hin, hg, hcap⟩
  · by_cases hm : m.length = 0
    · have : m = [] := List.eq_nil_of_length_eq_zero hm
      subst this
      exact ⟨.slice none 0 0, σ, by simp, Own.nil, GrowB.refl b σ, fun _ _ _ => rfl, fun h => absurd rfl h⟩
    · refine ⟨.slice (some ⟨σ.n, 0, none⟩) m.length openCap, σ.alloc (.cells (m.flatMap enc) e false), ?_, .inr ⟨σ.n, openCap, rfl, hb, by simp, by simp, .inl rfl⟩, (GrowB.refl b σ).alloc hb _, fun j hj _ => by rw [CSt.get_alloc, if_neg (by omega)], fun _ => ⟨_, _, rfl⟩⟩
      simp only [hm, if_false]
      rw [if_pos (by simpa using hbig)]
  · by_cases hm : m.length = 0
    · have : m = [] := List.eq_nil_of_length_eq_zero hm
      subst this
      refine ⟨.slice (some ⟨i, 0, none⟩) l.length cap, σ, ?_, ?_, GrowB.refl b σ, fun _ _ _ => rfl, fun h => absurd rfl h⟩
      · simp only [List.length_nil, if_true]
        rw [if_pos]
        rcases hcap with rfl | ⟨rfl, rfl⟩
        · simp only [openCap]; omega
        · simp
      · rw [List.append_nil]
        exact .inr ⟨i, cap, rfl, hbi, hin, hg, hcap⟩
    · simp only [hm, if_false, hg]
      rcases hcap with rfl | ⟨rfl, rfl⟩
      · refine ⟨.slice (some ⟨σ.n, 0, none⟩) (l ++ m).length openCap, (σ.put i .dead).alloc (.cells ((l ++ m).flatMap enc) e false), ?_, .inr ⟨σ.n, openCap, rfl, hb, by simp, by simp, .inl rfl⟩, ((GrowB.refl b σ).put hbi _).alloc hb _, fun j hj hne => by rw [CSt.get_alloc, if_neg (by simp; omega), CSt.get_put, if_neg (hne _ _ _ _ rfl)], fun _ => ⟨_, _, rfl⟩⟩
        simp only [if_true, and_self]
        rw [if_neg, if_pos hbig]
        · have : ld (l.flatMap enc) 0 (l.length * f.size) = some (l.flatMap enc) := by
            rw [hfs, ← hll]
            unfold ld
            rw [if_pos (by omega), List.drop_zero, List.take_of_length_le (Nat.le_refl _)]
          rw [this]
          simp
        · rw [hll, hfs, Nat.add_mul]
          have : 0 < m.length * sz := Nat.mul_pos (by omega) h0
          omega
      · refine ⟨.slice (some ⟨σ.n, 0, none⟩) m.length openCap, σ.alloc (.cells (m.flatMap enc) e false), ?_, .inr ⟨σ.n, openCap, by simp, hb, by simp, by simp, .inl rfl⟩, (GrowB.refl b σ).alloc hb _, fun j hj _ => by rw [CSt.get_alloc, if_neg (by omega)], fun _ => ⟨_, _, rfl⟩⟩
        rw [if_neg (by simp [openCap]), if_neg (by rw [List.length_nil]; omega)]
        simp only [List.length_nil, Nat.zero_add, Nat.zero_mul] at hbig ⊢
        rw [if_pos hbig]
        simp [ld]
/-- append(s, x...), s one's own. -/
theorem append_only (hf : ts[0]?.bind (elemF P) = some (e, f)) (hu : (ts[1]?.bind (elemT P)).isSome = true) (hsz : ∀ x, (enc x).length = sz) (hc : ∀ x, cokL (enc x) = true) (hfs : f.size = sz) (h0 : 0 < sz) (h1 : 0 < f.bytes) (h2 : f.zero.map List.length = some sz)
    (hown : Own b σ e enc v l) (hb : b ≤ σ.n) (hx : Sl σ e sz enc x m) (hbig : (l.length + m.length) * f.bytes ≤ 2 ^ 47) (hl : l.length < 2 ^ 62) :
    ∃ v' σ', appendOp P σ ts v x = some (v', σ') ∧ Own b σ' e enc v' (l ++ m) ∧ GrowB b σ σ' ∧ (∀ j, j < σ.n → (∀ i off n c, v = .slice (some ⟨i, off, none⟩) n c → j ≠ i) → σ'.get j = σ.get j) ∧ (m ≠ [] → ∃ n c, v' = .slice (some ⟨σ.n, 0, none⟩) n c) := by
  obtain ⟨g1, g2⟩ := first_sl hsz hx
  obtain ⟨v', σ', g3, g4, g5⟩ := appendF_only hsz hc hfs h0 h1 h2 hown hb hbig hl
  refine ⟨v', σ', ?_, g4, g5⟩
  rw [appendOp_K (by rw [hf]; rfl) hu, hf]
  simp only [appK, g1, hfs, g2, Option.bind_some]
  exact g3
end
section
variable {P : Program} {σ : CSt} {ev : Operand → Value} {dst : Option Tmp} {ty : TypeId} {pos : String} {after : Array Edge} {g : Option (Nat × Bool)}
@[simp] theorem copE_lookup (t : TypeId) (m k : Operand) (ok : Bool) : cop P σ ev ⟨dst, .lookup t m k ok, ty, pos, after, g⟩ = OpR.ofV σ (lookupOp P σ t (ev m) (ev k) ok) := (rfl)
@[simp] theorem copE_mapUpdate (t : TypeId) (m k x : Operand) : cop P σ ev ⟨dst, .mapUpdate t m k x, ty, pos, after, g⟩ = OpR.ofS (updateOp P σ t (ev m) (ev k) (ev x)) := (rfl)
theorem copE_makeMap {t kt et : TypeId} (h : P.underlying t = some (.map kt et)) : cop P σ ev ⟨dst, .makeMap t none, ty, pos, after, g⟩ = .val (.map (some σ.n)) (σ.alloc (.map #[] 0)) := by
  simp only [cop, h]
end
end Go.Sm
/- Slices of one's own that have more room behind them. -/
set_option linter.unusedVariables false
set_option linter.unusedSimpArgs false
namespace Go.Sm
open Go
/-- A slice that is one's own: the first part of an object that was made behind a point. -/
def OwnZ {α : Type} (b : Nat) (σ : CSt) (e : TypeId) (enc : α → List Value) (v : Value) (l : List α) : Prop :=
  (v = .slice none 0 0 ∧ l = []) ∨ ∃ i cap zs, v = .slice (some ⟨i, 0, none⟩) l.length cap ∧ b ≤ i ∧ i < σ.n ∧ σ.get i = some (.cells (l.flatMap enc ++ zs) e false) ∧ cokL zs = true ∧ (cap = openCap ∨ (l = [] ∧ cap = 0 ∧ zs = []))
section
variable {α : Type} {σ σ' : CSt} {e : TypeId} {sz : Nat} {enc : α → List Value} {v : Value} {l : List α} {b : Nat}
theorem OwnZ.nil : OwnZ b σ e enc (.slice none 0 0) ([] : List α) := .inl ⟨rfl, rfl⟩
theorem Own.z (h : Own b σ e enc v l) : OwnZ b σ e enc v l := by
  rcases h with h | ⟨i, cap, h1, hb, hi, h2, h3⟩
  · exact .inl h
  · refine .inr ⟨i, cap, [], h1, hb, hi, by rw [List.append_nil]; exact h2, rfl, ?_⟩
    rcases h3 with h3 | ⟨h3, h4⟩
    · exact .inl h3
    · exact .inr ⟨h3, h4, rfl⟩
theorem OwnZ.sl (hsz : ∀ x, (enc x).length = sz) (h : OwnZ b σ e enc v l) : Sl σ e sz enc v l := by
  rcases h with h | ⟨i, cap, zs, rfl, hb, hi, hg, hz, hc⟩
  · exact .inl h
  · have hl := enc_length enc hsz l
    refine .inr ⟨i, 0, cap, _, false, rfl, hg, hi, ?_, ?_, ?_⟩
    · rw [List.drop_zero, ← hl, List.take_left]
    · rw [List.length_append]; omega
    · rcases hc with rfl | ⟨rfl, rfl, _⟩
      · exact .inl rfl
      · exact .inr ⟨by simp, by simp [openCap]⟩
theorem OwnZ.grow (h : OwnZ b σ e enc v l) (hg : Grow σ σ') : OwnZ b σ' e enc v l := by
  rcases h with h | ⟨i, cap, zs, h1, hb, hi, h2, h3⟩
  · exact .inl h
  · exact .inr ⟨i, cap, zs, h1, hb, Nat.lt_of_lt_of_le hi hg.n, hg.get h2 hi, h3⟩
theorem OwnZ.keep (h : OwnZ b σ e enc v l) (hn : σ.n ≤ σ'.n) (hg : ∀ i, b ≤ i → i < σ.n → σ'.get i = σ.get i) : OwnZ b σ' e enc v l := by
  rcases h with h | ⟨i, cap, zs, h1, hb, hi, h2, h3⟩
  · exact .inl h
  · exact .inr ⟨i, cap, zs, h1, hb, Nat.lt_of_lt_of_le hi hn, by rw [hg i hb hi]; exact h2, h3⟩
theorem OwnZ.put (h : OwnZ b σ e enc v l) {i : Nat} (hi : i < b) (o : CObj) : OwnZ b (σ.put i o) e enc v l :=
  h.keep (Nat.le_refl _) fun j hj _ => by rw [CSt.get_put, if_neg (by omega)]
theorem OwnZ.weaken {b' : Nat} (h : OwnZ b σ e enc v l) (hb : b' ≤ b) : OwnZ b' σ e enc v l := by
  rcases h with h | ⟨i, cap, zs, h1, hb', h2⟩
  · exact .inl h
  · exact .inr ⟨i, cap, zs, h1, Nat.le_trans hb hb', h2⟩
theorem OwnZ.fr {T : TypeId → Prop} {b' : Nat} {s0 s1 : CSt} (h : OwnZ b' s0 e enc v l) (ht : ¬ T e) (hg : Fr T b s0 s1) : OwnZ b' s1 e enc v l := by
  rcases h with h | ⟨i, cap, zs, h1, hb, hi, h2, h3⟩
  · exact .inl h
  · exact .inr ⟨i, cap, zs, h1, hb, Nat.lt_of_lt_of_le hi hg.1, hg.get h2 hi (.inr fun row' e' ro' he => by cases he; exact ht), h3⟩
theorem insRow_encZ (hsz : ∀ x, (enc x).length = sz) (a : Nat) (ha : a ≤ l.length) (x : α) (zs : List Value) : insRow sz a l.length (l.flatMap enc ++ zs) (enc x) = (l.take a ++ x :: l.drop a).flatMap enc := by
  have hl := enc_length enc hsz l
  rw [← insRow_enc hsz a ha x]
  unfold insRow
  have h1 : a * sz ≤ (l.flatMap enc).length := by rw [hl]; exact Nat.mul_le_mul_right _ ha
  rw [List.take_append_of_le_length h1, List.take_append_of_le_length (Nat.le_of_eq hl.symm)]
end
end Go.Sm
namespace Go.Sm
open Go
def objOf : Value → Option Nat
  | .slice (some ⟨i, _, _⟩) _ _ => some i
  | _ => none
/-- All but a slice's object is as it was. -/
def ButV (v : Value) (s0 s1 : CSt) : Prop := s0.n ≤ s1.n ∧ ∀ j, j < s0.n → objOf v ≠ some j → s1.get j = s0.get j
theorem ButV.refl (v : Value) (s : CSt) : ButV v s s := ⟨Nat.le_refl _, fun _ _ _ => rfl⟩
theorem ButV.trans {v : Value} {s0 s1 s2 : CSt} (h : ButV v s0 s1) (h' : ButV v s1 s2) : ButV v s0 s2 := ⟨Nat.le_trans h.1 h'.1, fun j hj hne => by rw [h'.2 j (Nat.lt_of_lt_of_le hj h.1) hne, h.2 j hj hne]⟩
theorem ButV.put {v : Value} {i : Nat} {s0 s1 : CSt} (h : ButV v s0 s1) (hi : s0.n ≤ i) (o : CObj) : ButV v s0 (s1.put i o) := ⟨h.1, fun j hj hne => by rw [CSt.get_put, if_neg (by omega)]; exact h.2 j hj hne⟩
theorem ButV.alloc {v : Value} {s0 s1 : CSt} (h : ButV v s0 s1) (o : CObj) : ButV v s0 (s1.alloc o) := ⟨by have := h.1; simp; omega, fun j hj hne => by have := h.1; rw [CSt.get_alloc, if_neg (by omega)]; exact h.2 j hj hne⟩
/-! ### What is filtered in place -/
end Go.Sm
namespace Go.Sm
open Go
end Go.Sm
/- append to a slice of one's own that may have room behind it. -/
set_option linter.unusedVariables false
namespace Go.Sm
open Go
end Go.Sm
/- Strings put together; numbers as strings. -/
set_option linter.unusedVariables false
set_option linter.unusedSimpArgs false
namespace Go.Sm
open Go
end Go.Sm
/- Comparisons of truth values. -/
set_option linter.unusedVariables false
set_option linter.unusedSimpArgs false
namespace Go.Sm
open Go
variable {P : Program} {σ : CSt} {t : TypeId} {x y : Operand}
end Go.Sm
/- Operations under a condition in a drawn region. -/
set_option linter.unusedVariables false
set_option linter.unusedSimpArgs false
namespace Go.Sm
open Go
end Go.Sm
/- Rows that are sorted in place; operations under a condition in a calm region. -/
set_option linter.unusedVariables false
set_option linter.unusedSimpArgs false
namespace Go.Sm
open Go
/-- All but one object is as it was. -/
def But (L : Nat) (s0 s1 : CSt) : Prop := s0.n ≤ s1.n ∧ ∀ j, j < s0.n → j ≠ L → s1.get j = s0.get j
theorem But.refl (L : Nat) (s : CSt) : But L s s := ⟨Nat.le_refl _, fun _ _ _ => rfl⟩
theorem But.trans {L : Nat} {s0 s1 s2 : CSt} (h : But L s0 s1) (h' : But L s1 s2) : But L s0 s2 := ⟨Nat.le_trans h.1 h'.1, fun j hj hne => by rw [h'.2 j (Nat.lt_of_lt_of_le hj h.1) hne, h.2 j hj hne]⟩
theorem But.putL {L : Nat} {s0 s1 : CSt} (h : But L s0 s1) (o : CObj) : But L s0 (s1.put L o) := ⟨h.1, fun j hj hne => by rw [CSt.get_put, if_neg hne]; exact h.2 j hj hne⟩
theorem But.put {L i : Nat} {s0 s1 : CSt} (h : But L s0 s1) (hi : s0.n ≤ i) (o : CObj) : But L s0 (s1.put i o) := ⟨h.1, fun j hj hne => by rw [CSt.get_put, if_neg (by omega)]; exact h.2 j hj hne⟩
theorem But.alloc {L : Nat} {s0 s1 : CSt} (h : But L s0 s1) (o : CObj) : But L s0 (s1.alloc o) := ⟨by have := h.1; simp; omega, fun j hj hne => by have := h.1; rw [CSt.get_alloc, if_neg (by omega)]; exact h.2 j hj hne⟩
theorem But.back {L : Nat} {s0 s1 : CSt} {o : CObj} (h : But L s0 s1) (hL : s0.get L = some o) : Grow s0 (s1.put L o) := ⟨h.1, fun j hj => by
  by_cases e : j = L
  · subst e; simp [hL]
  · rw [CSt.get_put, if_neg e]; exact h.2 j hj e⟩
theorem But.get {L i : Nat} {s0 s1 : CSt} {o : CObj} (h : But L s0 s1) (hg : s0.get i = some o) (hi : i < s0.n) (hne : i ≠ L) : s1.get i = some o := by rw [h.2 i hi hne]; exact hg
/-- A loop, with what holds behind it. -/
theorem W_loop_J {E : Env} {x : Ctx} {c : Code} {Q : Out → CSt → Prop} (I : Nat → CAct → CSt → Prop) (J : Out → CSt → Prop) (hstep : ∀ n a σ, I n a σ → W E (.code x c a) σ (kinv I n J)) (n : Nat) (a : CAct) (σ : CSt) (h : I n a σ) (hJ : ∀ o s, J o s → Q o s) : W E (.code x (.loop c) a) σ Q :=
  W.weaken (W_loop_inv (Q := J) I hstep n a σ h) hJ
/-! ### Conditions one by one -/
theorem W_cut {E : Env} {t : Task} {σ : CSt} {Q : Out → CSt → Prop} (J : Out → CSt → Prop) (h1 : W E t σ J) (h2 : ∀ o s, J o s → Q o s) : W E t σ Q := W.weaken h1 h2
/-! ### Rows -/
section
def aset {α : Type} (d : Array α) (j : Nat) (x : α) : Array α := d.setIfInBounds j x
@[simp] theorem aset_size {α : Type} (d : Array α) (j : Nat) (x : α) : (aset d j x).size = d.size := by simp [aset]
def rowD {α : Type} (enc : α → List Value) (pre post : List Value) (d : Array α) : List Value := pre ++ d.toList.flatMap enc ++ post
variable {α : Type} [Inhabited α]
@[simp] theorem swp_sz (d : Array α) (i j : Nat) : (Sort.swp d i j).size = d.size := Sort.swp_size d i j
variable {enc : α → List Value} {sz : Nat} {pre post : List Value} {d : Array α}
end
end Go.Sm
/- Bits; a string's byte. -/
set_option linter.unusedVariables false
set_option linter.unusedSimpArgs false
namespace Go.Sm
open Go
section
variable {P : Program} {σ : CSt} {ev : Operand → Value} {dst : Option Tmp} {ty : TypeId} {pos : String} {after : Array Edge} {g : Option (Nat × Bool)}
variable {t : TypeId} {x y : Operand} {k k' : IntKind} {a b : Int} {s u : ByteArray}
def andI (k : IntKind) (a b : Int) : Int := k.wrap ((BitVec.ofInt k.bits a &&& BitVec.ofInt k.bits b).toNat)
def orI (k : IntKind) (a b : Int) : Int := k.wrap ((BitVec.ofInt k.bits a ||| BitVec.ofInt k.bits b).toNat)
def xorI (k : IntKind) (a b : Int) : Int := k.wrap ((BitVec.ofInt k.bits a ^^^ BitVec.ofInt k.bits b).toNat)
@[simp] theorem bin_and : binF P σ .and t x y (.int k a) (.int k b) = .val (.int k (andI k a b)) σ := by simp [binF, eqGuard, binOp, Op.intBits, andI]
@[simp] theorem bin_or : binF P σ .or t x y (.int k a) (.int k b) = .val (.int k (orI k a b)) σ := by simp [binF, eqGuard, binOp, Op.intBits, orI]
@[simp] theorem bin_xor : binF P σ .xor t x y (.int k a) (.int k b) = .val (.int k (xorI k a b)) σ := by simp [binF, eqGuard, binOp, Op.intBits, xorI]
/-- s[i], of a string. -/
def idxS (fl : OpR) (ok : Bool) (σ : CSt) : Value → Value → OpR
  | .string s, .int _ n => if ok = true ∧ 0 ≤ n then (match s[n.toNat]? with | some b => .val (.int .u8 b.toNat) σ | none => fl) else fl
  | _, _ => fl
@[simp] theorem copE_index (ix : Operand) : cop P σ ev ⟨dst, .index t x ix, ty, pos, after, g⟩ = idxS (flatOp P σ ev ⟨dst, .index t x ix, ty, pos, after, g⟩) (strT P t) σ (ev x) (ev ix) := by
  unfold idxS
  split
  · rename_i s k n hx hi
    split
    · rename_i h
      split
      · rename_i b hb
        have ht : P.underlying t = some .string := by
          have := h.1
          unfold strT at this
          split at this
          · assumption
          · cases this
        show flatOp P σ ev _ = _
        unfold flatOp
        simp [Op.operands, hx, hi, Sm.flat, flat0, execOp, pureRun_bind, Instr.index, asIntOf, pureRun_underlying, ht, h.2, hb]
      · rfl
    · rfl
  · rfl
/-- min, max of two. -/
def minK (fl : OpR) (σ : CSt) : Value → Value → OpR
  | .int k a, .int _ b => .val (.int k (if b < a then b else a)) σ
  | _, _ => fl
def maxK (fl : OpR) (σ : CSt) : Value → Value → OpR
  | .int k a, .int _ b => .val (.int k (if a < b then b else a)) σ
  | _, _ => fl
@[simp] theorem callOp_min {ts : Array TypeId} : callOp P σ ev ⟨dst, .call ⟨.builtin .min, #[x, y], ts⟩, ty, pos, after, g⟩ ⟨.builtin .min, #[x, y], ts⟩ = minK (flatOp P σ ev ⟨dst, .call ⟨.builtin .min, #[x, y], ts⟩, ty, pos, after, g⟩) σ (ev x) (ev y) := by
  unfold minK
  split
  · rename_i k a k' b hx hy
    show flatOp P σ ev _ = _
    unfold flatOp
    have ho : (⟨.builtin .min, #[x, y], ts⟩ : Call).operands = #[x, y] := by simp [Call.operands]
    simp [Op.operands, ho, hx, hy, Sm.flat, flat0, execOp, pureRun_bind, resolve, invoke, builtin, Builtin.min_, Builtin.min2]
  · rfl
@[simp] theorem callOp_max {ts : Array TypeId} : callOp P σ ev ⟨dst, .call ⟨.builtin .max, #[x, y], ts⟩, ty, pos, after, g⟩ ⟨.builtin .max, #[x, y], ts⟩ = maxK (flatOp P σ ev ⟨dst, .call ⟨.builtin .max, #[x, y], ts⟩, ty, pos, after, g⟩) σ (ev x) (ev y) := by
  unfold maxK
  split
  · rename_i k a k' b hx hy
    show flatOp P σ ev _ = _
    unfold flatOp
    have ho : (⟨.builtin .max, #[x, y], ts⟩ : Call).operands = #[x, y] := by simp [Call.operands]
    simp [Op.operands, ho, hx, hy, Sm.flat, flat0, execOp, pureRun_bind, resolve, invoke, builtin, Builtin.max_, Builtin.max2]
  · rfl
end
end Go.Sm
/- Bytes: slices of them; strings laid behind them. -/
set_option linter.unusedVariables false
set_option linter.unusedSimpArgs false
namespace Go.Sm
open Go
/-- A byte, as it lies. -/
def encY (x : UInt8) : List Value := [.int .u8 x.toNat]
theorem encY_len (x : UInt8) : (encY x).length = 1 := rfl
theorem encY_cok (x : UInt8) : cokL (encY x) = true := rfl
theorem flat_encY (l : List UInt8) : l.flatMap encY = l.map fun b => .int .u8 b.toNat := by
  induction l with
  | nil => rfl
  | cons x l ih => rw [List.flatMap_cons, ih]; rfl
section
variable {α : Type} {P : Program} {σ : CSt} {e : TypeId} {sz b : Nat} {enc : α → List Value} {v x : Value} {l m : List α} {f : TF} {ts : Array TypeId}
theorem appendOp_S {s : Value} (h : (ts[0]?.bind (elemF P)).isSome = true) (h' : ts[1]?.bind P.underlying = some .string) : appendOp P σ ts s x = appK (ts[0]?.bind (elemF P)) σ s x := by
  obtain ⟨⟨e, f⟩, hf⟩ := Option.isSome_iff_exists.1 h
  rw [hf]
  simp only [Option.bind_eq_some_iff] at hf h'
  obtain ⟨t, ht, hf⟩ := hf
  obtain ⟨u, hu, hund⟩ := h'
  obtain ⟨inf, g1, g2, g3, g4⟩ := elemOf_some hf
  simp only [appendOp, ht, hu, g1, hund, appK]
  cases lenOf? x with
  | none => rfl
  | some n =>
    simp only [g2]
    congr 1
    funext new
    exact appendTo_F g2 g3 g4 _ _ _
theorem first_str (m : List UInt8) : lenOf? (.string ⟨m.toArray⟩) = some m.length ∧ firstOf σ 1 m.length (.string ⟨m.toArray⟩) = some (m.flatMap encY) := by
  have hz : (⟨m.toArray⟩ : ByteArray).size = m.length := by simp [ByteArray.size]
  refine ⟨by rw [lenOf_string, hz], ?_⟩
  have : (⟨m.toArray⟩ : ByteArray).extract 0 m.length = ⟨m.toArray⟩ := by
    rw [← hz]
    apply ByteArray.ext
    rw [ByteArray.data_extract]
    simp [ByteArray.size]
  simp only [firstOf, this, flat_encY]
end
section
variable {α : Type} {P : Program} {σ : CSt} {e t : TypeId} {sz : Nat} {enc : α → List Value} {v : Value} {l : List α} {f : TF}
/-- s[lo:hi] -/
theorem Sl.mid (hf : elemF P t = some (e, f)) (hfs : f.size = sz) (h0 : 0 < sz) (hsz : ∀ x, (enc x).length = sz) (h : Sl σ e sz enc v l) (lo hi : Nat) (h1 : lo ≤ hi) (h2 : hi ≤ l.length) {bl bh : Option Value} (hl : bound? 0 bl = some lo) (hh : bound? l.length bh = some hi) :
    ∃ q c, sliceOp P σ t v bl bh none = some (.slice q (hi - lo) c) ∧ Sl σ e sz enc (.slice q (hi - lo) c) ((l.take hi).drop lo) := by
  have he : (elemF P t).isSome = true := by rw [hf]; rfl
  have hlen : ((l.take hi).drop lo).length = hi - lo := by rw [List.length_drop, List.length_take, Nat.min_eq_left h2]
  have hrw : ∀ {row : List Value} {off : Nat}, (row.drop off).take (l.length * sz) = l.flatMap enc → (row.drop (off + lo * sz)).take ((hi - lo) * sz) = ((l.take hi).drop lo).flatMap enc := by
    intro row off hrow
    have a1 := row_take hsz hrow hi h2
    have a2 := row_drop hsz a1 lo (by rw [List.length_take, Nat.min_eq_left h2]; exact h1)
    rw [hlen] at a2
    exact a2
  rcases h with ⟨rfl, rfl⟩ | ⟨i, off, cap, row, ro, rfl, hg, hin, hrow, hle, hcap⟩
  · have hhi : hi = 0 := by simpa using h2
    subst hhi
    have hlo : lo = 0 := by omega
    subst hlo
    refine ⟨none, 0, ?_, by simpa using Sl.nil⟩
    rw [sliceOp_nil he]
    simp only [List.length_nil] at hh
    rw [hl, hh]
    rfl
  · have hb : off + lo * sz + (hi - lo) * sz ≤ row.length := by
      have : lo * sz + (hi - lo) * sz = hi * sz := by rw [← Nat.add_mul]; congr 1; omega
      have : hi * sz ≤ l.length * sz := Nat.mul_le_mul_right _ h2
      omega
    by_cases hc : cap = openCap
    · subst hc
      refine ⟨some ⟨i, off + lo * sz, none⟩, openCap, ?_, .inr ⟨i, off + lo * sz, openCap, row, ro, by rw [hlen], hg, hin, by rw [hlen]; exact hrw hrow, by rw [hlen]; exact hb, .inl rfl⟩⟩
      rw [sliceOp_open he, hl, hh, hf, hg]
      simp only [sliceO, hfs]
      rw [if_pos ⟨trivial, h0, h1, .inl h2⟩]
    · rcases hcap with hcap | ⟨hc1, hc2⟩
      · exact absurd hcap hc
      · by_cases hm : cap = lo
        · refine ⟨some ⟨i, off, none⟩, cap - lo, ?_, .inr ⟨i, off, cap - lo, row, ro, by rw [hlen], hg, hin, ?_, ?_, .inr ⟨by rw [hlen]; omega, by omega⟩⟩⟩
          · rw [sliceOp_cap he _ _ _ _ hc, hl, hh, hf]
            simp only [sliceC]
            rw [if_pos ⟨h1, by omega, trivial, hc2⟩, if_pos hm]
          · have hz : hi - lo = 0 := by omega
            rw [hlen, hz, Nat.zero_mul, List.take_zero]
            have : (l.take hi).drop lo = [] := List.eq_nil_of_length_eq_zero (by rw [hlen, hz])
            rw [this]
            rfl
          · have hz : hi - lo = 0 := by omega
            rw [hlen, hz]
            omega
        · refine ⟨some ⟨i, off + lo * sz, none⟩, cap - lo, ?_, .inr ⟨i, off + lo * sz, cap - lo, row, ro, by rw [hlen], hg, hin, by rw [hlen]; exact hrw hrow, by rw [hlen]; exact hb, .inr ⟨by rw [hlen]; omega, by omega⟩⟩⟩
          rw [sliceOp_cap he _ _ _ _ hc, hl, hh, hf]
          simp only [sliceC, hfs]
          rw [if_pos ⟨h1, by omega, trivial, hc2⟩, if_neg hm]
end
section
/-! ### Seven bits a byte -/
set_option maxRecDepth 100000 in
theorem or_80 (n : Nat) (h : n < 256) : orI .u8 (n : Nat) 128 = ((n % 128 + 128 : Nat) : Int) := by
  have : ∀ n : Fin 256, orI .u8 ((n : Nat) : Int) 128 = ((n.val % 128 + 128 : Nat) : Int) := by decide
  exact this ⟨n, h⟩
end
end Go.Sm
/- Numbers as bytes: seven bits a byte, the lowest first (no program). -/
namespace Go.Sm
/-- A number's bytes. -/
def num (n : Nat) : List UInt8 := if h : n < 128 then [UInt8.ofNat n] else UInt8.ofNat (n % 128 + 128) :: num (n / 128)
termination_by n
decreasing_by omega
/-- The number whose bytes these are. -/
def valB : List UInt8 → Nat
  | [] => 0
  | c :: l => c.toNat % 128 + 128 * valB l
/-- More is to come behind each of them. -/
def Hi (l : List UInt8) : Prop := ∀ c ∈ l, 128 ≤ c.toNat
theorem num_lt {n : Nat} (h : n < 128) : num n = [UInt8.ofNat n] := by rw [num, dif_pos h]
theorem num_ge {n : Nat} (h : 128 ≤ n) : num n = UInt8.ofNat (n % 128 + 128) :: num (n / 128) := by rw [num, dif_neg (by omega)]
theorem ofNat_toNat {n : Nat} (h : n < 256) : (UInt8.ofNat n).toNat = n := by simp; omega
theorem u8_eq {a b : UInt8} (h : a.toNat = b.toNat) : a = b := UInt8.toNat_inj.1 h
theorem val_num (n : Nat) : valB (num n) = n := by
  induction n using Nat.strongRecOn with
  | _ n ih =>
    by_cases h : n < 128
    · rw [num_lt h]
      show (UInt8.ofNat n).toNat % 128 + 128 * 0 = n
      rw [ofNat_toNat (by omega)]
      omega
    · rw [num_ge (by omega)]
      show (UInt8.ofNat (n % 128 + 128)).toNat % 128 + 128 * valB (num (n / 128)) = n
      rw [ofNat_toNat (by omega), ih _ (by omega)]
      omega
theorem num_form (n : Nat) : ∃ l c, num n = l ++ [c] ∧ Hi l ∧ c.toNat < 128 ∧ (c.toNat ≠ 0 ∨ l = []) := by
  induction n using Nat.strongRecOn with
  | _ n ih =>
    by_cases h : n < 128
    · exact ⟨[], UInt8.ofNat n, num_lt h, (fun _ hc => absurd hc (by simp)), (by rw [ofNat_toNat (by omega)]; exact h), .inr rfl⟩
    · obtain ⟨l, c, h1, h2, h3, h4⟩ := ih (n / 128) (by omega)
      refine ⟨UInt8.ofNat (n % 128 + 128) :: l, c, ?_, ?_, h3, ?_⟩
      · rw [num_ge (by omega), h1]; rfl
      · intro x hx
        rcases List.mem_cons.1 hx with rfl | hx
        · rw [ofNat_toNat (by omega)]; omega
        · exact h2 x hx
      · refine .inl fun hc => ?_
        rcases h4 with h4 | rfl
        · exact h4 hc
        · have := val_num (n / 128)
          rw [h1] at this
          simp only [List.nil_append, valB, hc] at this
          omega
theorem val_app (l m : List UInt8) : valB (l ++ m) = valB l + 128 ^ l.length * valB m := by
  induction l with
  | nil => simp [valB]
  | cons x l ih =>
    simp only [List.cons_append, valB, ih, List.length_cons, Nat.pow_succ, Nat.mul_add]
    rw [Nat.mul_comm (128 ^ l.length) 128, Nat.mul_assoc, Nat.add_assoc]
theorem val_lt (l : List UInt8) : valB l < 128 ^ l.length := by
  induction l with
  | nil => simp [valB]
  | cons x l ih =>
    simp only [valB, List.length_cons, Nat.pow_succ]
    omega
theorem val_one (c : UInt8) (h : c.toNat < 128) : valB [c] = c.toNat := by
  simp only [valB]; omega
theorem num_pos (n : Nat) : 1 ≤ (num n).length := by
  obtain ⟨l, c, h, _⟩ := num_form n
  rw [h]; simp
/-- Which numbers have 64 bits. -/
theorem val_64 (l : List UInt8) (c : UInt8) (hc : c.toNat < 128) (h0 : c.toNat ≠ 0 ∨ l = []) : valB (l ++ [c]) < 2 ^ 64 ↔ l.length ≤ 9 ∧ (l.length = 9 → c.toNat ≤ 1) := by
  rw [val_app, val_one c hc]
  have hv := val_lt l
  by_cases h9 : l.length < 9
  · have h1 : 128 ^ l.length ≤ 128 ^ 8 := Nat.pow_le_pow_right (by omega) (by omega)
    have h2 : 128 ^ l.length * c.toNat ≤ 128 ^ 8 * 127 := Nat.mul_le_mul h1 (by omega)
    have h3 : (128 : Nat) ^ 8 = 72057594037927936 := by decide
    have h4 : (2 : Nat) ^ 64 = 18446744073709551616 := by decide
    rw [h3] at h1 h2
    rw [h4]
    constructor
    · intro _; omega
    · intro _; omega
  · by_cases h10 : l.length = 9
    · rw [h10] at hv ⊢
      have h3 : (128 : Nat) ^ 9 = 9223372036854775808 := by decide
      have h4 : (2 : Nat) ^ 64 = 18446744073709551616 := by decide
      rw [h3] at hv ⊢
      rw [h4]
      omega
    · have h1 : 128 ^ 10 ≤ 128 ^ l.length := Nat.pow_le_pow_right (by omega) (by omega)
      have h3 : (128 : Nat) ^ 10 = 1180591620717411303424 := by decide
      have h4 : (2 : Nat) ^ 64 = 18446744073709551616 := by decide
      have hc0 : 1 ≤ c.toNat := by
        rcases h0 with h0 | h0
        · omega
        · rw [h0] at h9; simp at h9
      have h2 : 128 ^ l.length * 1 ≤ 128 ^ l.length * c.toNat := Nat.mul_le_mul_left _ hc0
      rw [h3] at h1
      rw [h4]
      omega
theorem num_len10 {n : Nat} (h : n < 2 ^ 64) : (num n).length ≤ 10 := by
  obtain ⟨l, c, h1, h2, h3, h4⟩ := num_form n
  have hv := val_num n
  rw [h1] at hv
  have := ((val_64 l c h3 h4).1 (by rw [hv]; exact h)).1
  rw [h1, List.length_append]
  simp only [List.length_cons, List.length_nil]
  omega
/-- The number that bytes begin with, and what stands behind it. -/
def rd (b : List UInt8) : Option (Nat × List UInt8) :=
  match b.dropWhile (fun c => decide (128 ≤ c.toNat)) with
  | [] => none
  | c :: r => if (b.takeWhile fun c => decide (128 ≤ c.toNat)).length ≤ 9 ∧ (c.toNat ≠ 0 ∨ (b.takeWhile fun c => decide (128 ≤ c.toNat)) = []) ∧ ((b.takeWhile fun c => decide (128 ≤ c.toNat)).length = 9 → c.toNat ≤ 1) then some (valB ((b.takeWhile fun c => decide (128 ≤ c.toNat)) ++ [c]), r) else none
theorem tw_app {l : List UInt8} (hl : Hi l) (m : List UInt8) : (l ++ m).takeWhile (fun c => decide (128 ≤ c.toNat)) = l ++ m.takeWhile (fun c => decide (128 ≤ c.toNat)) := by
  rw [List.takeWhile_append_of_pos]
  intro x hx
  simpa using hl x hx
theorem dw_app {l : List UInt8} (hl : Hi l) (m : List UInt8) : (l ++ m).dropWhile (fun c => decide (128 ≤ c.toNat)) = m.dropWhile (fun c => decide (128 ≤ c.toNat)) := by
  rw [List.dropWhile_append_of_pos]
  intro x hx
  simpa using hl x hx
theorem rd_app {l : List UInt8} (hl : Hi l) (c : UInt8) (hc : c.toNat < 128) (r : List UInt8) : rd (l ++ c :: r) = if l.length ≤ 9 ∧ (c.toNat ≠ 0 ∨ l = []) ∧ (l.length = 9 → c.toNat ≤ 1) then some (valB (l ++ [c]), r) else none := by
  have hd : (decide (128 ≤ c.toNat)) = false := decide_eq_false (by omega)
  unfold rd
  rw [dw_app hl, tw_app hl, List.dropWhile_cons, List.takeWhile_cons, hd]
  simp
theorem rd_num {n : Nat} (h : n < 2 ^ 64) (r : List UInt8) : rd (num n ++ r) = some (n, r) := by
  obtain ⟨l, c, h1, h2, h3, h4⟩ := num_form n
  have hv := val_num n
  rw [h1] at hv
  have h5 := (val_64 l c h3 h4).1 (by rw [hv]; exact h)
  rw [h1, List.append_assoc]
  show rd (l ++ c :: r) = _
  rw [rd_app h2 c h3, if_pos ⟨h5.1, h4, h5.2⟩, hv]
end Go.Sm
/- Records as bytes (no program). -/
set_option linter.unusedVariables false
set_option linter.unusedSimpArgs false
namespace Go.Sm
def byt (s : ByteArray) : List UInt8 := s.data.toList
def str (l : List UInt8) : ByteArray := ⟨l.toArray⟩
theorem str_byt (s : ByteArray) : str (byt s) = s := by cases s; simp [byt, str]
theorem size_str (l : List UInt8) : (str l).size = l.length := by simp [str, ByteArray.size]
theorem len_byt (s : ByteArray) : (byt s).length = s.size := by simp [byt]
/-- A text that bytes begin with. -/
def rdText (most : Nat) (b : List UInt8) : Option (ByteArray × List UInt8) :=
  (rd b).bind fun p => if p.1 ≤ p.2.length ∧ p.1 ≤ most then some (str (p.2.take p.1), p.2.drop p.1) else none
/-- A version's value that bytes begin with. -/
def rdVer (at_ : Int) (b : List UInt8) : Option (Ver × List UInt8) :=
  (rd b).bind fun p => if p.1 = 0 then some (⟨at_, str [], true⟩, p.2) else if p.1 ≤ 201 ∧ p.1 - 1 ≤ p.2.length then some (⟨at_, str (p.2.take (p.1 - 1)), false⟩, p.2.drop (p.1 - 1)) else none
def serText (s : ByteArray) : List UInt8 := num s.size ++ byt s
def serVer (v : Ver) : List UInt8 := if v.gone then [0] else num (v.val.size + 1) ++ byt v.val
structure Wri where
  key : ByteArray
  ver : Ver
  deriving DecidableEq
structure Rcd where
  at_ : Nat
  ws : List Wri
  deriving DecidableEq
def GoodV (v : Ver) : Prop := (v.gone = true → v.val = str []) ∧ v.val.size ≤ 200
def GoodW (at_ : Int) (w : Wri) : Prop := 1 ≤ w.key.size ∧ w.key.size ≤ 32 ∧ GoodV w.ver ∧ w.ver.at_ = at_
/-- Keys rise. -/
def Rise (l : List Wri) : Prop := l.Pairwise fun a c => klt a.key c.key = true
structure GoodR (r : Rcd) : Prop where
  at1 : 1 ≤ r.at_
  at2 : r.at_ ≤ 2 ^ 40
  ws : ∀ w ∈ r.ws, GoodW r.at_ w
  rise : Rise r.ws
theorem rdText_ser {s : ByteArray} {most : Nat} (h : s.size ≤ most) (hm : most < 2 ^ 64) (r : List UInt8) : rdText most (serText s ++ r) = some (s, r) := by
  unfold rdText serText
  rw [List.append_assoc, rd_num (by omega)]
  have e : s.size ≤ (byt s ++ r).length ∧ s.size ≤ most := by
    rw [List.length_append, len_byt]; omega
  simp only [Option.bind_some, e, and_self, if_true]
  rw [← len_byt s, List.take_left, List.drop_left, str_byt]
theorem rdVer_ser {v : Ver} (h : GoodV v) (r : List UInt8) : rdVer v.at_ (serVer v ++ r) = some (v, r) := by
  obtain ⟨a, s, g⟩ := v
  unfold rdVer serVer
  cases g with
  | true =>
    have hv : s = str [] := h.1 rfl
    subst hv
    have e : num 0 = [0] := num_lt (by omega)
    show (rd ([0] ++ r)).bind _ = _
    rw [← e, rd_num (by decide)]
    rfl
  | false =>
    have hs : s.size ≤ 200 := h.2
    show (rd ((num (s.size + 1) ++ byt s) ++ r)).bind _ = _
    rw [List.append_assoc, rd_num (by omega)]
    have e : s.size + 1 ≤ 201 ∧ s.size + 1 - 1 ≤ (byt s ++ r).length := by
      rw [List.length_append, len_byt]; omega
    simp only [Option.bind_some, e, and_self, if_true]
    rw [if_neg (by omega), Nat.add_sub_cancel, ← len_byt s, List.take_left, List.drop_left, str_byt]
theorem klt_nil {s : ByteArray} (h : 1 ≤ s.size) : klt (str []) s = true := by
  unfold klt
  rw [ByteArray.toList_eq, ByteArray.toList_eq]
  have : s.data.toList ≠ [] := by
    intro e
    have := len_byt s
    unfold byt at this
    rw [e] at this
    simp at this
    omega
  cases hd : s.data.toList with
  | nil => exact absurd hd this
  | cons a l => rfl
end Go.Sm
/- code.Writer: numbers, texts; a version's value. -/
set_option linter.unusedVariables false
set_option linter.unusedSimpArgs false
namespace Go.Sm
open Go Go.Proofs
set_option maxRecDepth 100000
set_option maxHeartbeats 4000000
def encV (v : Ver) : List Value := [.int .u64 v.at_, .string v.val, .bool v.gone]
def TW : TypeId → Prop := fun t => t = 27 ∨ t = 5
instance : DecidablePred TW := fun t => inferInstanceAs (Decidable (t = 27 ∨ t = 5))
/-- A writer: its bytes so far. -/
def Wt (b p : Nat) (σ : CSt) (l : List UInt8) : Prop := ∃ v, σ.get p = some (.cells [v] 27 false) ∧ b ≤ p ∧ p < σ.n ∧ Own b σ 5 encY v l
theorem app_fr {b : Nat} {σ σ' : CSt} {v : Value} {l : List UInt8} (hown : Own b σ 5 encY v l) (hn : σ.n ≤ σ'.n) (hf : ∀ j, j < σ.n → (∀ i off n c, v = .slice (some ⟨i, off, none⟩) n c → j ≠ i) → σ'.get j = σ.get j) : Fr (fun t => t = 5) b σ σ' := by
  refine ⟨hn, fun j hj hc => hf j hj fun i off n c hv => ?_⟩
  rintro rfl
  rcases hown with ⟨h1, _⟩ | ⟨i', cap, h1, hb, hi, hg, _⟩
  · rw [h1] at hv; cases hv
  · rw [h1] at hv
    cases hv
    rcases hc with hc | hc
    · omega
    · exact hc _ _ _ hg rfl
theorem wapp_sl {b : Nat} {σ : CSt} {v x : Value} {l m : List UInt8} (hw : Own b σ 5 encY v l) (hb : b ≤ σ.n) (hx : Sl σ 5 1 encY x m) (hbig : l.length + m.length ≤ 2 ^ 47) :
    ∃ q c σ', appendOp Tryz.prog σ #[25, 25] v x = some (.slice q (l.length + m.length) c, σ') ∧ Own b σ' 5 encY (.slice q (l.length + m.length) c) (l ++ m) ∧ Fr (fun t => t = 5) b σ σ' := by
  obtain ⟨v', σ', a1, a2, a3, a4, _⟩ := append_only (P := Tryz.prog) (ts := #[25, 25]) (e := 5) (sz := 1) (enc := encY) (l := l) (m := m) (b := b) ef25 (by simp) encY_len encY_cok rfl (by decide) (by decide) rfl hw hb hx (by show _ * 1 ≤ _; omega) (by omega)
  obtain ⟨q, c, rfl⟩ := (a2.sl (sz := 1) encY_len).form
  rw [List.length_append] at a1 a2
  exact ⟨q, c, σ', a1, a2, app_fr hw a3.1 a4⟩
theorem Wt.fr {b p : Nat} {σ σ1 : CSt} {v : Value} {l : List UInt8} (hn : σ.n ≤ σ1.n) (hp : b ≤ p) (hpn : p < σ.n) (hown : Own b σ1 5 encY v l) (h1p : ∃ w, σ1.get p = some (.cells [w] 27 false)) : Wt b p (σ1.put p (.cells [v] 27 false)) l := by
  refine ⟨v, by simp, hp, by simp; omega, ?_⟩
  obtain ⟨w, h1p⟩ := h1p
  rcases hown with h | ⟨i, cap, h1, hb, hi, hg, h2⟩
  · exact .inl h
  · refine .inr ⟨i, cap, h1, hb, hi, ?_, h2⟩
    rw [CSt.get_put, if_neg]
    · exact hg
    · rintro rfl
      rw [h1p] at hg
      injection hg with e1
      injection e1 with e2 e3 e4
      exact absurd e3 (by decide)
theorem fr_TW {b : Nat} {σ σ' : CSt} (h : Fr (fun t => t = 5) b σ σ') : Fr TW b σ σ' := h.mono (fun _ => .inr) (Nat.le_refl _)
/-- What stands in it is written back. -/
theorem Wt.back {b p : Nat} {σ σ0 σ1 : CSt} {v v1 : Value} {l : List UInt8} (hgp : σ.get p = some (.cells [v] 27 false)) (hp : b ≤ p) (hpn : p < σ.n) (g : Grow σ σ0) (f : Fr (fun t => t = 5) b σ0 σ1) (hown : Own b σ1 5 encY v1 l) :
    σ1.get p = some (.cells [v] 27 false) ∧ Wt b p (σ1.put p (.cells [v1] 27 false)) l ∧ Fr TW b σ (σ1.put p (.cells [v1] 27 false)) := by
  have h0 := g.get hgp hpn
  have gn := g.n
  have h1 : σ1.get p = some (.cells [v] 27 false) := f.get h0 (by omega) (.inr fun row e ro he => by cases he; decide)
  have fn := f.1
  exact ⟨h1, Wt.fr (σ := σ) (by omega) hp hpn hown ⟨_, h1⟩, (g.fr.trans (fr_TW f)).put hp h1 (.inl rfl) _⟩
theorem u8_of (m : Nat) : IntKind.u8.wrap (m : Int) = ((m % 256 : Nat) : Int) := by
  have : IntKind.u8.wrap (m : Int) = (m : Int) % 2 ^ 8 := by simp [IntKind.wrap, IntKind.bits, IntKind.signed]
  rw [this]
  omega
theorem byte_of (n : Nat) (h : n < 256) : ∃ c : UInt8, c.toNat = n := ⟨UInt8.ofNat n, ofNat_toNat h⟩
theorem Wt.grow {b p : Nat} {σ σ' : CSt} {l : List UInt8} (h : Wt b p σ l) (g : Grow σ σ') : Wt b p σ' l := by
  obtain ⟨v, h1, h2, h3, h4⟩ := h
  have := g.n
  exact ⟨v, g.get h1 h3, h2, by omega, h4.grow g⟩
/-- A version's time and value. -/
def serV (x : Ver) : List UInt8 := num x.at_.toNat ++ serVer x
end Go.Sm
/- Loops by goto. -/
set_option linter.unusedVariables false
set_option linter.unusedSimpArgs false
namespace Go.Sm
open Go
section
variable {E : Env}
/-- What a round of such a loop ends with. -/
def kgo (E : Env) (x : Ctx) (B Z : Code) (I : Nat → CAct → CSt → Prop) (n : Nat) (Q : Out → CSt → Prop) : Out → CSt → Prop := fun o σ => match o with
  | .code (.goto 1) a => ∃ m, m < n ∧ I m a σ
  | .code (.goto 0) a => W E (.code x Z a) σ (kscope E x B Q)
  | o => kscope E x B Q o σ
@[simp] theorem kgo_goto1 {x : Ctx} {B Z : Code} {I : Nat → CAct → CSt → Prop} {n : Nat} {Q : Out → CSt → Prop} {a : CAct} {σ : CSt} : kgo E x B Z I n Q (.code (.goto 1) a) σ = ∃ m, m < n ∧ I m a σ := (rfl)
@[simp] theorem kgo_goto0 {x : Ctx} {B Z : Code} {I : Nat → CAct → CSt → Prop} {n : Nat} {Q : Out → CSt → Prop} {a : CAct} {σ : CSt} : kgo E x B Z I n Q (.code (.goto 0) a) σ = W E (.code x Z a) σ (kscope E x B Q) := (rfl)
@[simp] theorem kgo_normal {x : Ctx} {B Z : Code} {I : Nat → CAct → CSt → Prop} {n : Nat} {Q : Out → CSt → Prop} {a : CAct} {σ : CSt} : kgo E x B Z I n Q (.code .normal a) σ = Q (.code .normal a) σ := (rfl)
@[simp] theorem kgo_ret {x : Ctx} {B Z : Code} {I : Nat → CAct → CSt → Prop} {n : Nat} {Q : Out → CSt → Prop} {a : CAct} {σ : CSt} : kgo E x B Z I n Q (.code .ret a) σ = Q (.code .ret a) σ := (rfl)
@[simp] theorem kgo_exit {x : Ctx} {B Z : Code} {I : Nat → CAct → CSt → Prop} {n : Nat} {Q : Out → CSt → Prop} {i : Nat} {a : CAct} {σ : CSt} : kgo E x B Z I n Q (.code (.exit i) a) σ = Q (.code (.exit i) a) σ := (rfl)
@[simp] theorem kgo_panic {x : Ctx} {B Z : Code} {I : Nat → CAct → CSt → Prop} {n : Nat} {Q : Out → CSt → Prop} {v : Value} {a : CAct} {σ : CSt} : kgo E x B Z I n Q (.code (.panic v) a) σ = Q (.code (.panic v) a) σ := (rfl)
end
end Go.Sm
/- code.Reader: numbers. -/
set_option linter.unusedVariables false
set_option linter.unusedSimpArgs false
namespace Go.Sm
open Go Go.Proofs
set_option maxRecDepth 100000
set_option maxHeartbeats 4000000
def TR : TypeId → Prop := fun t => t = 41
instance : DecidablePred TR := fun t => inferInstanceAs (Decidable (t = 41))
/-- A reader: what is left; nothing, if something was none. -/
def Ro (b p : Nat) (σ : CSt) (o : Option (List UInt8)) : Prop := ∃ v l, σ.get p = some (.cells [v, .bool o.isNone] 41 false) ∧ b ≤ p ∧ p < σ.n ∧ Sl σ 5 1 encY v l ∧ (∀ m, o = some m → l = m) ∧ l.length < 2 ^ 40
theorem cell_y {l : List UInt8} {row : List Value} {off : Nat} (h : (row.drop off).take (l.length * 1) = l.flatMap encY) (k : Nat) (hk : k < l.length) : row[off + k]? = some (.int .u8 l[k].toNat) := by
  have := row_cell (enc := encY) encY_len h k 0 hk (by decide)
  rw [Nat.mul_one, Nat.add_zero] at this
  rw [this]
  rfl
end Go.Sm
/- code.Reader: texts; a version read; the end. -/
set_option linter.unusedVariables false
set_option linter.unusedSimpArgs false
namespace Go.Sm
open Go Go.Proofs
set_option maxRecDepth 100000
set_option maxHeartbeats 4000000
/-- The reader's cell is written anew. -/
theorem Ro.back {b p : Nat} {σ : CSt} {v0 v : Value} {bad0 : Bool} (hg : σ.get p = some (.cells [v0, .bool bad0] 41 false)) (hbp : b ≤ p) (hpn : p < σ.n) {l : List UInt8} (hsl : Sl σ 5 1 encY v l) (hbig : l.length < 2 ^ 40) (o : Option (List UInt8)) (ho : ∀ m, o = some m → l = m) :
    Ro b p (σ.put p (.cells [v, .bool o.isNone] 41 false)) o ∧ Fr TR b σ (σ.put p (.cells [v, .bool o.isNone] 41 false)) := by
  have hf : Fr TR b σ (σ.put p (.cells [v, .bool o.isNone] 41 false)) := (Fr.refl TR b σ).put hbp hg rfl _
  exact ⟨⟨v, l, by simp, hbp, by simpa using hpn, hsl.fr (by decide) hf, ho, hbig⟩, hf⟩
theorem Ro.grow {b p : Nat} {σ σ' : CSt} {o : Option (List UInt8)} (h : Ro b p σ o) (g : Grow σ σ') : Ro b p σ' o := by
  obtain ⟨v, l, hg, hbp, hpn, hsl, hol, hbig⟩ := h
  have := g.n
  exact ⟨v, l, g.get hg hpn, hbp, by omega, hsl.grow g, hol, hbig⟩
/-- A version, its time ahead of it. -/
def rdV (b : List UInt8) : Option (Ver × List UInt8) := (rd b).bind fun p => rdVer p.1 p.2
end Go.Sm
/- record.Encode. -/
set_option linter.unusedVariables false
set_option linter.unusedSimpArgs false
namespace Go.Sm
open Go Go.Proofs
set_option maxRecDepth 100000
set_option maxHeartbeats 4000000
theorem flat_take_le {α : Type} (f : α → List UInt8) (l : List α) (i : Nat) : ((l.take i).flatMap f).length ≤ (l.flatMap f).length := by
  conv => rhs; rw [← List.take_append_drop i l, List.flatMap_append, List.length_append]
  omega
theorem flat_mem_le {α : Type} (f : α → List UInt8) {l : List α} {x : α} (h : x ∈ l) : (f x).length ≤ (l.flatMap f).length := by
  induction l with
  | nil => cases h
  | cons y l ih =>
    rw [List.flatMap_cons, List.length_append]
    rcases List.mem_cons.1 h with rfl | h
    · omega
    · have := ih h
      omega
theorem i64s (k : Nat) (h : k < 2 ^ 62) : IntKind.i64.wrap ((k : Int) + 1) = (k : Int) + 1 := IntWalk.i64_in _ (by omega)
end Go.Sm
/- The laws' own numbers, texts, versions, records as bytes. -/
set_option linter.unusedVariables false
set_option linter.unusedSimpArgs false
namespace Go.Sm
open Go Go.Proofs
set_option maxRecDepth 100000
set_option maxHeartbeats 4000000
/-- Bytes of one's own: with room behind them, or without. -/
def Ow (b : Nat) (σ : CSt) (v : Value) (l : List UInt8) : Prop := Own b σ 5 encY v l ∨ ∃ i, v = .slice (some ⟨i, 0, none⟩) l.length l.length ∧ b ≤ i ∧ i < σ.n ∧ σ.get i = some (.cells (l.flatMap encY) 5 false) ∧ l.length < openCap
theorem Ow.sl {b : Nat} {σ : CSt} {v : Value} {l : List UInt8} (h : Ow b σ v l) : Sl σ 5 1 encY v l := by
  rcases h with h | ⟨i, rfl, hb, hi, hg, hl⟩
  · exact h.sl encY_len
  · exact Sl.all encY_len hg hi (.inr ⟨Nat.le_refl _, hl⟩)
theorem Ow.grow {b : Nat} {σ σ' : CSt} {v : Value} {l : List UInt8} (h : Ow b σ v l) (g : Grow σ σ') : Ow b σ' v l := by
  rcases h with h | ⟨i, rfl, hb, hi, hg, hl⟩
  · exact .inl (h.grow g)
  · exact .inr ⟨i, rfl, hb, Nat.lt_of_lt_of_le hi g.n, g.get hg hi, hl⟩
theorem Ow.weaken {b b' : Nat} {σ : CSt} {v : Value} {l : List UInt8} (h : Ow b σ v l) (hb : b' ≤ b) : Ow b' σ v l := by
  rcases h with h | ⟨i, rfl, h1, h2⟩
  · exact .inl (h.weaken hb)
  · exact .inr ⟨i, rfl, Nat.le_trans hb h1, h2⟩
theorem Ow.fr {T : TypeId → Prop} {b b' : Nat} {s0 s1 : CSt} {v : Value} {l : List UInt8} (h : Ow b' s0 v l) (ht : ¬ T 5) (hg : Fr T b s0 s1) : Ow b' s1 v l := by
  rcases h with (h | ⟨i, cap, h1, h2, h3, h4, h5⟩) | ⟨i, rfl, h2, h3, h4, h5⟩
  · exact .inl (.inl h)
  · exact .inl (.inr ⟨i, cap, h1, h2, Nat.lt_of_lt_of_le h3 hg.1, hg.get h4 h3 (.inr fun row e ro he => by cases he; exact ht), h5⟩)
  · exact .inr ⟨i, rfl, h2, Nat.lt_of_lt_of_le h3 hg.1, hg.get h4 h3 (.inr fun row e ro he => by cases he; exact ht), h5⟩
/-- A new slice of one byte. -/
theorem Ow.one {b : Nat} {σ : CSt} (hb : b ≤ σ.n) (c : UInt8) : Ow b (σ.alloc (.cells [.int .u8 c.toNat] 5 false)) (.slice (some ⟨σ.n, 0, none⟩) 1 1) [c] :=
  .inr ⟨σ.n, rfl, hb, by simp, by simp [encY], by simp [openCap]⟩
theorem yeq_spec (v w : Value) (l m : List UInt8) (σ : CSt) (hv : Sl σ 5 1 encY v l) (hw : Sl σ 5 1 encY w m) (hl : l.length < 2 ^ 60) (hm : m.length < 2 ^ 60) (Q : Out → CSt → Prop) (h : Q (.ret (.bool (decide (l = m))) false) σ) : W E1 (.fn 18 #[v, w] none) σ Q := by
  rw [W_fn (fn := Tryz.f18) Tryz.func18 rfl rfl rfl]
  obtain ⟨p1, c1, rfl⟩ := hv.form
  obtain ⟨p2, c2, rfl⟩ := hw.form
  by_cases hlen : l.length = m.length
  · have hlen' : ((l.length : Int) = m.length) := by omega
    simp [wops_cons, hlen, hlen']
    refine W_loop_inv (fun n a σ' => ∃ tm, ∃ k : Nat, a = ⟨tm, 26, [], false⟩ ∧ tm.get 0 = some (.slice p1 m.length c1) ∧ tm.get 1 = some (.slice p2 m.length c2) ∧ tm.get 12 = some (.int .i64 m.length) ∧ tm.get 13 = some (.int .i64 (k : Nat)) ∧ (k ≤ l.length ∧ n = l.length - k ∧ l.take k = m.take k ∧ σ' = σ)) ?_ l.length _ _ ?_
    · rintro n a σ' ⟨tm, k, rfl, h0, h1, h12, h13, hk, hn, htk, rfl⟩
      by_cases hlt : k < l.length
      · have hlt2 : k < m.length := by omega
        have hlt' : (k : Int) < l.length := by omega
        have hlt2' : (k : Int) < m.length := by omega
        obtain ⟨i, off, row, ro, rfl, hg, hin, hrow, hle⟩ := hv.at hlt
        obtain ⟨i2, off2, row2, ro2, rfl, hg2, hin2, hrow2, hle2⟩ := hw.at hlt2
        have hld := cell_y hrow k hlt
        have hl1 := row_le hle k hlt
        have hld2 := cell_y hrow2 k hlt2
        have hl2 := row_le hle2 k hlt2
        have hw := i64s k (by omega)
        simp [wops_cons, h0, h1, h12, h13, hlt2, hlt2']
        refine W_calm (by kernel_rfl) ?_
        simp [dops_cons, h0, h1, h12, h13, hlt, hlt', hlt2, hlt2', hg, hg2, hld, hld2, hl1, hl2]
        by_cases he : l[k] = m[k]
        · have he' : l[k].toNat = m[k].toNat := by rw [he]
          simp [wops_cons, he, he', h0, h1, h12, h13, hw]
          refine ⟨l.length - (k + 1), by omega, k + 1, rfl, by omega, rfl, ?_⟩
          rw [List.take_succ_eq_append_getElem hlt, List.take_succ_eq_append_getElem hlt2, htk, he]
        · have he' : ¬ (l[k].toNat = m[k].toNat) := fun e => he (u8_eq e)
          have he'' : ¬ ((l[k].toNat : Int) = m[k].toNat) := by omega
          have hne : l ≠ m := by rintro rfl; exact he rfl
          rw [decide_eq_false hne] at h
          simpa [wops_cons, he, he', he''] using h
      · have hkl : k = l.length := by omega
        have hlt' : ¬ ((k : Int) < l.length) := by omega
        have hlt2 : ¬ (k < m.length) := by omega
        have hlt2' : ¬ ((k : Int) < m.length) := by omega
        have he : l = m := by
          have := htk
          rwa [List.take_of_length_le (by omega), List.take_of_length_le (by omega)] at this
        rw [decide_eq_true he] at h
        simpa [wops_cons, h12, h13, hlt, hlt', hlt2, hlt2'] using h
    · refine ⟨_, 0, rfl, ?_⟩
      simp [hlen]
  · have hne : l ≠ m := by rintro rfl; exact hlen rfl
    have hi : ¬ ((l.length : Int) = m.length) := by omega
    rw [decide_eq_false hne] at h
    simpa [wops_cons, hi, hlen] using h
end Go.Sm
/- record.Decode. -/
set_option linter.unusedVariables false
set_option linter.unusedSimpArgs false
namespace Go.Sm
open Go Go.Proofs
set_option maxRecDepth 100000
set_option maxHeartbeats 4000000
theorem Ro.fr {T : TypeId → Prop} {b b' p : Nat} {σ σ' : CSt} {o : Option (List UInt8)} (h : Ro b p σ o) (h41 : ¬ T 41) (h5 : ¬ T 5) (f : Fr T b' σ σ') : Ro b p σ' o := by
  obtain ⟨v, l, hg, hbp, hpn, hsl, hol, hbig⟩ := h
  exact ⟨v, l, f.get hg hpn (.inr fun row e ro he => by cases he; exact h41), hbp, Nat.lt_of_lt_of_le hpn f.1, hsl.fr h5 f, hol, hbig⟩
end Go.Sm
/- Slices of slices are the same where the object is. -/
set_option linter.unusedVariables false
namespace Go.Sm
open Go
end Go.Sm
/- The law's own reader of numbers. -/
set_option linter.unusedVariables false
set_option linter.unusedSimpArgs false
namespace Go.Sm
open Go Go.Proofs
set_option maxRecDepth 100000
set_option maxHeartbeats 4000000
/-- The number and how many bytes it has; nought and nought. -/
def tk (l : List UInt8) : Nat × Nat := match rd l with
  | some (n, r) => (n, l.length - r.length)
  | none => (0, 0)
end Go.Sm
/- s[lo:hi] of a string. -/
set_option linter.unusedVariables false
set_option linter.unusedSimpArgs false
namespace Go.Sm
open Go
section
variable {P : Program} {σ : CSt} {ev : Operand → Value} {dst : Option Tmp} {ty : TypeId} {pos : String} {after : Array Edge} {g : Option (Nat × Bool)}
variable {t : TypeId} {x : Operand} {lo hi : Option Operand}
/-- The rest of the rule, not looked into. -/
def flatZ (P : Program) (σ : CSt) (ev : Operand → Value) (o : Oper) : OpR := flatOp P σ ev o
def slS (fl : OpR) (ok : Bool) (σ : CSt) : Value → Option Value → Option Value → OpR
  | .string s, lo, hi => match lo, hi with
    | none, none => if ok = true then .val (.string (s.extract 0 s.size)) σ else fl
    | none, some (.int _ b) => if ok = true ∧ 0 ≤ b ∧ b ≤ (s.size : Int) then .val (.string (s.extract 0 b.toNat)) σ else fl
    | some (.int _ a), none => if ok = true ∧ 0 ≤ a ∧ a ≤ (s.size : Int) then .val (.string (s.extract a.toNat s.size)) σ else fl
    | some (.int _ a), some (.int _ b) => if ok = true ∧ 0 ≤ a ∧ a ≤ b ∧ b ≤ (s.size : Int) then .val (.string (s.extract a.toNat b.toNat)) σ else fl
    | _, _ => fl
  | _, _, _ => fl
theorem strT_of (h : strT P t = true) : P.underlying t = some .string := by
  unfold strT at h
  split at h
  · assumption
  · cases h
@[simp] theorem flat_slice : flatOp P σ ev ⟨dst, .slice t x lo hi none, ty, pos, after, g⟩ = slS (flatZ P σ ev ⟨dst, .slice t x lo hi none, ty, pos, after, g⟩) (strT P t) σ (ev x) (lo.map ev) (hi.map ev) := by
  cases hx : ev x with
  | string s =>
    cases lo with
    | none =>
      cases hi with
      | none =>
        simp only [slS, Option.map_none]
        split
        · rename_i hok
          have ht := strT_of hok
          unfold flatOp
          simp [Op.operands, hx, Sm.flat, flat0, execOp, pureRun_bind, Instr.sliceAt, Instr.slice, pureRun_underlying, ht, Instr.sliceBounds]
        · rfl
      | some b =>
        simp only [Option.map_none, Option.map_some]
        cases hb : ev b with
        | int k b' =>
          simp only [slS]
          split
          · rename_i hok
            have ht := strT_of hok.1
            unfold flatOp
            have h1 := hok.2.1
            have h2 := hok.2.2
            simp [Op.operands, hx, hb, Sm.flat, flat0, execOp, pureRun_bind, Instr.sliceAt, Instr.slice, pureRun_underlying, ht, Instr.sliceBounds, Instr.sliceBound, asIntOf, h1, h2]
          · rfl
        | _ => rfl
    | some a =>
      cases hi with
      | none =>
        simp only [Option.map_none, Option.map_some]
        cases ha : ev a with
        | int k a' =>
          simp only [slS]
          split
          · rename_i hok
            have ht := strT_of hok.1
            unfold flatOp
            have h1 := hok.2.1
            have h2 := hok.2.2
            simp [Op.operands, hx, ha, Sm.flat, flat0, execOp, pureRun_bind, Instr.sliceAt, Instr.slice, pureRun_underlying, ht, Instr.sliceBounds, Instr.sliceBound, asIntOf, h1, h2]
          · rfl
        | _ => rfl
      | some b =>
        simp only [Option.map_none, Option.map_some]
        cases ha : ev a with
        | int k a' =>
          cases hb : ev b with
          | int k b' =>
            simp only [slS]
            split
            · rename_i hok
              have ht := strT_of hok.1
              unfold flatOp
              have h1 := hok.2.1
              have h2 := hok.2.2.1
              have h3 := hok.2.2.2
              have h4 : 0 ≤ b' := by omega
              have h5 : a' ≤ max b' 0 := by omega
              simp [Op.operands, hx, ha, hb, Sm.flat, flat0, execOp, pureRun_bind, Instr.sliceAt, Instr.slice, pureRun_underlying, ht, Instr.sliceBounds, Instr.sliceBound, asIntOf, h1, h3, h4, h5]
            · rfl
          | _ => rfl
        | _ => rfl
  | _ => rfl
@[simp] theorem sliceOp_str {s : ByteArray} {a b c : Option Value} : sliceOp P σ t (.string s) a b c = none := by
  unfold sliceOp
  cases elemOf? P t <;> rfl
end
end Go.Sm
/- The law's records: keys, Make; Encode by definition; Same. -/
set_option linter.unusedVariables false
set_option linter.unusedSimpArgs false
namespace Go.Sm
open Go Go.Proofs
set_option maxRecDepth 100000
set_option maxHeartbeats 4000000
theorem awake_spec {f : FuncId} (hf : E1.gam f = some awakeG) {σ : CSt} (hn : gnone σ) {Q : Out → CSt → Prop} : W E1 (.fn f #[] none) σ Q = Q (.ret (.bool true) false) σ :=
  W_gam hf rfl (by unfold awakeG; rw [if_pos ⟨rfl, hn⟩])
end Go.Sm
/- The law's records, plain: which keys, in which order. -/
set_option linter.unusedVariables false
set_option linter.unusedSimpArgs false
namespace Go.Sm
set_option maxRecDepth 100000
/-- A write, by small numbers. -/
structure LW where
  key : Nat
  v : ByteArray
  gone : Bool
  deriving DecidableEq
theorem serText_len (s : ByteArray) (h : s.size < 2 ^ 64) : (serText s).length ≤ s.size + 10 := by
  have := num_len10 h
  rw [serText, List.length_append, len_byt]
  omega
theorem serVer_len (v : Ver) (h : v.val.size < 2 ^ 63) : (serVer v).length ≤ v.val.size + 10 := by
  unfold serVer
  split
  · simp
  · have := num_len10 (n := v.val.size + 1) (by omega)
    rw [List.length_append, len_byt]
    omega
theorem flat_le {α : Type} (f : α → List UInt8) (c : Nat) (l : List α) (h : ∀ x ∈ l, (f x).length ≤ c) : (l.flatMap f).length ≤ c * l.length := by
  induction l with
  | nil => simp
  | cons x l ih =>
    have h1 := h x List.mem_cons_self
    have h2 := ih fun y hy => h y (List.mem_cons_of_mem _ hy)
    rw [List.flatMap_cons, List.length_append, List.length_cons, Nat.mul_succ]
    omega
end Go.Sm
/- Versions, writes, records compared. -/
set_option linter.unusedVariables false
set_option linter.unusedSimpArgs false
namespace Go.Sm
open Go Go.Proofs
set_option maxRecDepth 100000
set_option maxHeartbeats 4000000
end Go.Sm
/- The law's own record as bytes. -/
set_option linter.unusedVariables false
set_option linter.unusedSimpArgs false
namespace Go.Sm
open Go Go.Proofs
set_option maxRecDepth 100000
set_option maxHeartbeats 4000000
end Go.Sm
/- The law's Make of records. -/
set_option linter.unusedVariables false
set_option linter.unusedSimpArgs false
namespace Go.Sm
open Go Go.Proofs
set_option maxRecDepth 100000
set_option maxHeartbeats 40000000
def LW.ok (w : LW) : Prop := w.key < 256
end Go.Sm
/- The law's own Decode of records. -/
set_option linter.unusedVariables false
set_option linter.unusedSimpArgs false
namespace Go.Sm
open Go Go.Proofs
set_option maxRecDepth 100000
set_option maxHeartbeats 40000000
theorem Own.obj_lt {α : Type} {b : Nat} {s : CSt} {e : TypeId} {enc : α → List Value} {v : Value} {l : List α} (h : Own b s e enc v l) {i : Nat} (hi : objOf v = some i) : i < s.n := by
  rcases h with ⟨rfl, _⟩ | ⟨j, cap, rfl, hb', hj, hg, hc⟩
  · cases hi
  · cases hi; exact hj
end Go.Sm
/- RecordRaw, walked. -/
set_option linter.unusedVariables false
set_option linter.unusedSimpArgs false
namespace Go.Sm
open Go Go.Proofs
set_option maxRecDepth 100000
set_option maxHeartbeats 4000000
end Go.Sm
