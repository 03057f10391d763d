/- Part D of the proof. -/
import Derived.Test.YtlkoipbodffcnaaGreatDoorProg
import Derived.KernelRfl
import Derived.Sort.LotD5
import Derived.Test.YtlkoipbodffcnaaGreatDoorPartC
/- Printed by wip/facts.py: what is asked of the program's types; the environments. -/
namespace Go.Sm
open Go Go.Proofs
set_option linter.unusedVariables false
def extE : FuncId → Array Value → CSt → Option Value
  | 143 => apartX 155
  | 154 => apartX 124
  | _ => fun _ _ => none
def gamI : FuncId → Option (Array Value → CSt → Option (Value × CSt))
  | 126 => some (insG 155 2 40)
  | 142 => some (insG 124 3 32)
  | _ => none
def gnone : CSt → Prop := fun σ => σ.get 0 = some (.cells [.int .u64 1, .int .u64 0] 0 true)
open Classical in
noncomputable def awakeG (args : Array Value) (σ : CSt) : Option (Value × CSt) := if args = #[] ∧ gnone σ then some (.bool true, σ) else none
noncomputable def gamL : FuncId → Option (Array Value → CSt → Option (Value × CSt))
  | 126 => some (insG 155 2 40)
  | 142 => some (insG 124 3 32)
  | 13 => some awakeG
  | 35 => some awakeG
  | _ => none
/-- The code itself. -/
noncomputable def E0 : Env := ⟨Tryz.prog, fun _ => none, extE, fun _ => none⟩
/-- With slices.Insert as one step. -/
noncomputable def EV : Env := ⟨Tryz.prog, gamI, extE, fun _ => none⟩
/-- With the closed tests, too. -/
noncomputable def E1 : Env := ⟨Tryz.prog, gamL, extE, fun _ => none⟩
@[simp] theorem E0P : E0.P = Tryz.prog := rfl
@[simp] theorem E1P : E1.P = Tryz.prog := rfl
@[simp] theorem E0X : E0.ext = extE := rfl
@[simp] theorem E1X : E1.ext = extE := rfl
attribute [simp] extE
@[simp] theorem extOf_fn {E : Env} {g : FuncId} {args : Array Value} {σ : CSt} : extOf E (.func (.func g) #[] #[]) args σ = E.ext g args σ := rfl
@[simp] theorem extOf_cl {E : Env} {g : FuncId} {fs : Array Value} {c : Value} {l : List Value} {args : Array Value} {σ : CSt} : extOf E (.func (.func g) fs ⟨c :: l⟩) args σ = none := by
  unfold extOf
  split
  · rename_i g' he
    cases he
  · rfl
@[simp] theorem extOf_mv {E : Env} {g : FuncId} {cs : Array Value} {c : Value} {l : List Value} {args : Array Value} {σ : CSt} : extOf E (.func (.func g) ⟨c :: l⟩ cs) args σ = none := by
  unfold extOf
  split
  · rename_i g' he
    cases he
  · rfl

@[simp] theorem un0 : (Tryz.prog.underlying 0).isSome = true := by kernel_rfl
@[simp] theorem tf1 : tf Tryz.prog 1 = some ⟨1, 8, (some [.nilFunc]), false, true⟩ := by kernel_rfl
@[simp] theorem un1 : (Tryz.prog.underlying 1).isSome = true := by kernel_rfl
@[simp] theorem tf2 : tf Tryz.prog 2 = some ⟨1, 8, (some [.int .i64 0]), false, true⟩ := by kernel_rfl
@[simp] theorem it2 : intT Tryz.prog 2 = some .i64 := by kernel_rfl
@[simp] theorem un2 : (Tryz.prog.underlying 2).isSome = true := by kernel_rfl
@[simp] theorem tf3 : tf Tryz.prog 3 = some ⟨1, 8, (some [.int .i64 0]), false, true⟩ := by kernel_rfl
@[simp] theorem it3 : intT Tryz.prog 3 = some .i64 := by kernel_rfl
@[simp] theorem un3 : (Tryz.prog.underlying 3).isSome = true := by kernel_rfl
@[simp] theorem tf4 : tf Tryz.prog 4 = some ⟨1, 1, (some [.bool false]), false, true⟩ := by kernel_rfl
@[simp] theorem un4 : (Tryz.prog.underlying 4).isSome = true := by kernel_rfl
@[simp] theorem tf5 : tf Tryz.prog 5 = some ⟨1, 1, (some [.int .u8 0]), false, true⟩ := by kernel_rfl
@[simp] theorem it5 : intT Tryz.prog 5 = some .u8 := by kernel_rfl
@[simp] theorem un5 : (Tryz.prog.underlying 5).isSome = true := by kernel_rfl
@[simp] theorem tf6 : tf Tryz.prog 6 = some ⟨1, 1, (some [.int .u8 0]), false, true⟩ := by kernel_rfl
@[simp] theorem it6 : intT Tryz.prog 6 = some .u8 := by kernel_rfl
@[simp] theorem un6 : (Tryz.prog.underlying 6).isSome = true := by kernel_rfl
@[simp] theorem tf7 : tf Tryz.prog 7 = some ⟨4, 24, (some [.int .i64 0, .int .i64 0, .bool false, .int .u8 0]), true, true⟩ := by kernel_rfl
@[simp] theorem un7 : (Tryz.prog.underlying 7).isSome = true := by kernel_rfl
@[simp] theorem fo7_0 : fieldT Tryz.prog 7 0 = some 0 := by kernel_rfl
@[simp] theorem fo7_1 : fieldT Tryz.prog 7 1 = some 1 := by kernel_rfl
@[simp] theorem fo7_2 : fieldT Tryz.prog 7 2 = some 2 := by kernel_rfl
@[simp] theorem fo7_3 : fieldT Tryz.prog 7 3 = some 3 := by kernel_rfl
@[simp] theorem pa7 : partsT Tryz.prog 7 = some [(0, 1), (1, 1), (2, 1), (3, 1)] := by kernel_rfl
@[simp] theorem tf8 : tf Tryz.prog 8 = some ⟨4, 24, (some [.int .i64 0, .int .i64 0, .bool false, .int .u8 0]), true, true⟩ := by kernel_rfl
@[simp] theorem un8 : (Tryz.prog.underlying 8).isSome = true := by kernel_rfl
@[simp] theorem fo8_0 : fieldT Tryz.prog 8 0 = some 0 := by kernel_rfl
@[simp] theorem fo8_1 : fieldT Tryz.prog 8 1 = some 1 := by kernel_rfl
@[simp] theorem fo8_2 : fieldT Tryz.prog 8 2 = some 2 := by kernel_rfl
@[simp] theorem fo8_3 : fieldT Tryz.prog 8 3 = some 3 := by kernel_rfl
@[simp] theorem pa8 : partsT Tryz.prog 8 = some [(0, 1), (1, 1), (2, 1), (3, 1)] := by kernel_rfl
@[simp] theorem tf9 : tf Tryz.prog 9 = some ⟨1, 16, (some [.string ⟨#[]⟩]), false, true⟩ := by kernel_rfl
@[simp] theorem st9 : strT Tryz.prog 9 = true := by kernel_rfl
@[simp] theorem un9 : (Tryz.prog.underlying 9).isSome = true := by kernel_rfl
@[simp] theorem tf10 : tf Tryz.prog 10 = some ⟨1, 16, (some [.string ⟨#[]⟩]), false, true⟩ := by kernel_rfl
@[simp] theorem st10 : strT Tryz.prog 10 = true := by kernel_rfl
@[simp] theorem un10 : (Tryz.prog.underlying 10).isSome = true := by kernel_rfl
@[simp] theorem tf11 : tf Tryz.prog 11 = some ⟨1, 16, (some [.string ⟨#[]⟩]), false, true⟩ := by kernel_rfl
@[simp] theorem st11 : strT Tryz.prog 11 = true := by kernel_rfl
@[simp] theorem un11 : (Tryz.prog.underlying 11).isSome = true := by kernel_rfl
@[simp] theorem tf12 : tf Tryz.prog 12 = some ⟨1, 8, (some [.int .u64 0]), false, true⟩ := by kernel_rfl
@[simp] theorem it12 : intT Tryz.prog 12 = some .u64 := by kernel_rfl
@[simp] theorem un12 : (Tryz.prog.underlying 12).isSome = true := by kernel_rfl
@[simp] theorem tf13 : tf Tryz.prog 13 = some ⟨2, 24, (some [.string ⟨#[]⟩, .int .u64 0]), true, true⟩ := by kernel_rfl
@[simp] theorem un13 : (Tryz.prog.underlying 13).isSome = true := by kernel_rfl
@[simp] theorem fo13_0 : fieldT Tryz.prog 13 0 = some 0 := by kernel_rfl
@[simp] theorem fo13_1 : fieldT Tryz.prog 13 1 = some 1 := by kernel_rfl
@[simp] theorem pa13 : partsT Tryz.prog 13 = some [(0, 1), (1, 1)] := by kernel_rfl
@[simp] theorem tf14 : tf Tryz.prog 14 = some ⟨2, 24, (some [.string ⟨#[]⟩, .int .u64 0]), true, true⟩ := by kernel_rfl
@[simp] theorem un14 : (Tryz.prog.underlying 14).isSome = true := by kernel_rfl
@[simp] theorem fo14_0 : fieldT Tryz.prog 14 0 = some 0 := by kernel_rfl
@[simp] theorem fo14_1 : fieldT Tryz.prog 14 1 = some 1 := by kernel_rfl
@[simp] theorem pa14 : partsT Tryz.prog 14 = some [(0, 1), (1, 1)] := by kernel_rfl
@[simp] theorem tf15 : tf Tryz.prog 15 = some ⟨1, 8, (some [.pointer none]), false, true⟩ := by kernel_rfl
@[simp] theorem un15 : (Tryz.prog.underlying 15).isSome = true := by kernel_rfl
@[simp] theorem tf16 : tf Tryz.prog 16 = some ⟨1, 8, (some [.pointer none]), false, true⟩ := by kernel_rfl
@[simp] theorem un16 : (Tryz.prog.underlying 16).isSome = true := by kernel_rfl
@[simp] theorem tf17 : tf Tryz.prog 17 = some ⟨1, 8, (some [.pointer none]), false, true⟩ := by kernel_rfl
@[simp] theorem un17 : (Tryz.prog.underlying 17).isSome = true := by kernel_rfl
@[simp] theorem tf18 : tf Tryz.prog 18 = some ⟨1, 8, (some [.pointer none]), true, true⟩ := by kernel_rfl
@[simp] theorem un18 : (Tryz.prog.underlying 18).isSome = true := by kernel_rfl
@[simp] theorem fo18_0 : fieldT Tryz.prog 18 0 = some 0 := by kernel_rfl
@[simp] theorem pa18 : partsT Tryz.prog 18 = some [(0, 1)] := by kernel_rfl
@[simp] theorem tf19 : tf Tryz.prog 19 = some ⟨1, 8, (some [.pointer none]), true, true⟩ := by kernel_rfl
@[simp] theorem un19 : (Tryz.prog.underlying 19).isSome = true := by kernel_rfl
@[simp] theorem fo19_0 : fieldT Tryz.prog 19 0 = some 0 := by kernel_rfl
@[simp] theorem pa19 : partsT Tryz.prog 19 = some [(0, 1)] := by kernel_rfl
@[simp] theorem tf20 : tf Tryz.prog 20 = some ⟨1, 16, (some [.nilIface]), false, true⟩ := by kernel_rfl
@[simp] theorem un20 : (Tryz.prog.underlying 20).isSome = true := by kernel_rfl
@[simp] theorem tf21 : tf Tryz.prog 21 = some ⟨1, 4, (some [.int .i32 0]), false, true⟩ := by kernel_rfl
@[simp] theorem it21 : intT Tryz.prog 21 = some .i32 := by kernel_rfl
@[simp] theorem un21 : (Tryz.prog.underlying 21).isSome = true := by kernel_rfl
@[simp] theorem tf22 : tf Tryz.prog 22 = some ⟨1, 24, (some [.slice none 0 0]), false, true⟩ := by kernel_rfl
@[simp] theorem un22 : (Tryz.prog.underlying 22).isSome = true := by kernel_rfl
@[simp] theorem el22 : elemT Tryz.prog 22 = some 46 := by kernel_rfl
@[simp] theorem ef22 : elemF Tryz.prog 22 = some (46, ⟨6, 32, (some [.int .u8 0, .int .u8 0, .int .u8 0, .int .u64 0, .int .u64 0, .int .u8 0]), true, true⟩) := by kernel_rfl
@[simp] theorem tf23 : tf Tryz.prog 23 = some ⟨1, 8, (some [.nilFunc]), false, true⟩ := by kernel_rfl
@[simp] theorem un23 : (Tryz.prog.underlying 23).isSome = true := by kernel_rfl
@[simp] theorem tf24 : tf Tryz.prog 24 = some ⟨1, 8, (some [.pointer none]), false, true⟩ := by kernel_rfl
@[simp] theorem un24 : (Tryz.prog.underlying 24).isSome = true := by kernel_rfl
@[simp] theorem tf25 : tf Tryz.prog 25 = some ⟨1, 24, (some [.slice none 0 0]), false, true⟩ := by kernel_rfl
@[simp] theorem un25 : (Tryz.prog.underlying 25).isSome = true := by kernel_rfl
@[simp] theorem el25 : elemT Tryz.prog 25 = some 33 := by kernel_rfl
@[simp] theorem ef25 : elemF Tryz.prog 25 = some (33, ⟨5, 56, (some [.int .i64 0, .string ⟨#[]⟩, .string ⟨#[]⟩, .int .u64 0, .int .u64 0]), true, true⟩) := by kernel_rfl
@[simp] theorem un26 : (Tryz.prog.underlying 26).isSome = true := by kernel_rfl
@[simp] theorem tf27 : tf Tryz.prog 27 = some ⟨1, 8, (some [.nilFunc]), false, true⟩ := by kernel_rfl
@[simp] theorem un27 : (Tryz.prog.underlying 27).isSome = true := by kernel_rfl
@[simp] theorem tf28 : tf Tryz.prog 28 = some ⟨1, 8, (some [.nilFunc]), false, true⟩ := by kernel_rfl
@[simp] theorem un28 : (Tryz.prog.underlying 28).isSome = true := by kernel_rfl
@[simp] theorem tf29 : tf Tryz.prog 29 = some ⟨1, 8, (some [.int .u64 0]), false, true⟩ := by kernel_rfl
@[simp] theorem it29 : intT Tryz.prog 29 = some .u64 := by kernel_rfl
@[simp] theorem un29 : (Tryz.prog.underlying 29).isSome = true := by kernel_rfl
@[simp] theorem tf30 : tf Tryz.prog 30 = some ⟨2, 16, (some [.int .u64 0, .int .u64 0]), true, true⟩ := by kernel_rfl
@[simp] theorem un30 : (Tryz.prog.underlying 30).isSome = true := by kernel_rfl
@[simp] theorem fo30_0 : fieldT Tryz.prog 30 0 = some 0 := by kernel_rfl
@[simp] theorem fo30_1 : fieldT Tryz.prog 30 1 = some 1 := by kernel_rfl
@[simp] theorem pa30 : partsT Tryz.prog 30 = some [(0, 1), (1, 1)] := by kernel_rfl
@[simp] theorem tf31 : tf Tryz.prog 31 = some ⟨2, 16, (some [.int .u64 0, .int .u64 0]), true, true⟩ := by kernel_rfl
@[simp] theorem un31 : (Tryz.prog.underlying 31).isSome = true := by kernel_rfl
@[simp] theorem fo31_0 : fieldT Tryz.prog 31 0 = some 0 := by kernel_rfl
@[simp] theorem fo31_1 : fieldT Tryz.prog 31 1 = some 1 := by kernel_rfl
@[simp] theorem pa31 : partsT Tryz.prog 31 = some [(0, 1), (1, 1)] := by kernel_rfl
@[simp] theorem tf32 : tf Tryz.prog 32 = some ⟨5, 56, (some [.int .i64 0, .string ⟨#[]⟩, .string ⟨#[]⟩, .int .u64 0, .int .u64 0]), true, true⟩ := by kernel_rfl
@[simp] theorem un32 : (Tryz.prog.underlying 32).isSome = true := by kernel_rfl
@[simp] theorem fo32_0 : fieldT Tryz.prog 32 0 = some 0 := by kernel_rfl
@[simp] theorem fo32_1 : fieldT Tryz.prog 32 1 = some 1 := by kernel_rfl
@[simp] theorem fo32_2 : fieldT Tryz.prog 32 2 = some 2 := by kernel_rfl
@[simp] theorem fo32_3 : fieldT Tryz.prog 32 3 = some 3 := by kernel_rfl
@[simp] theorem pa32 : partsT Tryz.prog 32 = some [(0, 1), (1, 1), (2, 1), (3, 2)] := by kernel_rfl
@[simp] theorem tf33 : tf Tryz.prog 33 = some ⟨5, 56, (some [.int .i64 0, .string ⟨#[]⟩, .string ⟨#[]⟩, .int .u64 0, .int .u64 0]), true, true⟩ := by kernel_rfl
@[simp] theorem un33 : (Tryz.prog.underlying 33).isSome = true := by kernel_rfl
@[simp] theorem fo33_0 : fieldT Tryz.prog 33 0 = some 0 := by kernel_rfl
@[simp] theorem fo33_1 : fieldT Tryz.prog 33 1 = some 1 := by kernel_rfl
@[simp] theorem fo33_2 : fieldT Tryz.prog 33 2 = some 2 := by kernel_rfl
@[simp] theorem fo33_3 : fieldT Tryz.prog 33 3 = some 3 := by kernel_rfl
@[simp] theorem pa33 : partsT Tryz.prog 33 = some [(0, 1), (1, 1), (2, 1), (3, 2)] := by kernel_rfl
@[simp] theorem tf34 : tf Tryz.prog 34 = some ⟨1, 8, (some [.nilFunc]), false, true⟩ := by kernel_rfl
@[simp] theorem un34 : (Tryz.prog.underlying 34).isSome = true := by kernel_rfl
@[simp] theorem tf35 : tf Tryz.prog 35 = some ⟨1, 24, (some [.slice none 0 0]), false, true⟩ := by kernel_rfl
@[simp] theorem un35 : (Tryz.prog.underlying 35).isSome = true := by kernel_rfl
@[simp] theorem el35 : elemT Tryz.prog 35 = some 31 := by kernel_rfl
@[simp] theorem ef35 : elemF Tryz.prog 35 = some (31, ⟨2, 16, (some [.int .u64 0, .int .u64 0]), true, true⟩) := by kernel_rfl
@[simp] theorem tf36 : tf Tryz.prog 36 = some ⟨1, 8, (some [.nilFunc]), false, true⟩ := by kernel_rfl
@[simp] theorem un36 : (Tryz.prog.underlying 36).isSome = true := by kernel_rfl
@[simp] theorem tf37 : tf Tryz.prog 37 = some ⟨1, 8, (some [.nilFunc]), false, true⟩ := by kernel_rfl
@[simp] theorem un37 : (Tryz.prog.underlying 37).isSome = true := by kernel_rfl
@[simp] theorem tf38 : tf Tryz.prog 38 = some ⟨1, 24, (some [.slice none 0 0]), false, true⟩ := by kernel_rfl
@[simp] theorem un38 : (Tryz.prog.underlying 38).isSome = true := by kernel_rfl
@[simp] theorem el38 : elemT Tryz.prog 38 = some 31 := by kernel_rfl
@[simp] theorem ef38 : elemF Tryz.prog 38 = some (31, ⟨2, 16, (some [.int .u64 0, .int .u64 0]), true, true⟩) := by kernel_rfl
@[simp] theorem tf39 : tf Tryz.prog 39 = some ⟨1, 8, (some [.nilFunc]), false, true⟩ := by kernel_rfl
@[simp] theorem un39 : (Tryz.prog.underlying 39).isSome = true := by kernel_rfl
@[simp] theorem tf40 : tf Tryz.prog 40 = some ⟨1, 8, (some [.nilFunc]), false, true⟩ := by kernel_rfl
@[simp] theorem un40 : (Tryz.prog.underlying 40).isSome = true := by kernel_rfl
@[simp] theorem tf41 : tf Tryz.prog 41 = some ⟨1, 8, (some [.nilFunc]), false, true⟩ := by kernel_rfl
@[simp] theorem un41 : (Tryz.prog.underlying 41).isSome = true := by kernel_rfl
@[simp] theorem tf42 : tf Tryz.prog 42 = some ⟨1, 8, (some [.nilFunc]), false, true⟩ := by kernel_rfl
@[simp] theorem un42 : (Tryz.prog.underlying 42).isSome = true := by kernel_rfl
@[simp] theorem tf43 : tf Tryz.prog 43 = some ⟨3, 24, (some [.int .u64 0, .int .u64 0, .int .u8 0]), true, true⟩ := by kernel_rfl
@[simp] theorem un43 : (Tryz.prog.underlying 43).isSome = true := by kernel_rfl
@[simp] theorem fo43_0 : fieldT Tryz.prog 43 0 = some 0 := by kernel_rfl
@[simp] theorem fo43_1 : fieldT Tryz.prog 43 1 = some 1 := by kernel_rfl
@[simp] theorem fo43_2 : fieldT Tryz.prog 43 2 = some 2 := by kernel_rfl
@[simp] theorem pa43 : partsT Tryz.prog 43 = some [(0, 1), (1, 1), (2, 1)] := by kernel_rfl
@[simp] theorem tf44 : tf Tryz.prog 44 = some ⟨3, 24, (some [.int .u64 0, .int .u64 0, .int .u8 0]), true, true⟩ := by kernel_rfl
@[simp] theorem un44 : (Tryz.prog.underlying 44).isSome = true := by kernel_rfl
@[simp] theorem fo44_0 : fieldT Tryz.prog 44 0 = some 0 := by kernel_rfl
@[simp] theorem fo44_1 : fieldT Tryz.prog 44 1 = some 1 := by kernel_rfl
@[simp] theorem fo44_2 : fieldT Tryz.prog 44 2 = some 2 := by kernel_rfl
@[simp] theorem pa44 : partsT Tryz.prog 44 = some [(0, 1), (1, 1), (2, 1)] := by kernel_rfl
@[simp] theorem tf45 : tf Tryz.prog 45 = some ⟨6, 32, (some [.int .u8 0, .int .u8 0, .int .u8 0, .int .u64 0, .int .u64 0, .int .u8 0]), true, true⟩ := by kernel_rfl
@[simp] theorem un45 : (Tryz.prog.underlying 45).isSome = true := by kernel_rfl
@[simp] theorem fo45_0 : fieldT Tryz.prog 45 0 = some 0 := by kernel_rfl
@[simp] theorem fo45_1 : fieldT Tryz.prog 45 1 = some 1 := by kernel_rfl
@[simp] theorem fo45_2 : fieldT Tryz.prog 45 2 = some 2 := by kernel_rfl
@[simp] theorem fo45_3 : fieldT Tryz.prog 45 3 = some 3 := by kernel_rfl
@[simp] theorem pa45 : partsT Tryz.prog 45 = some [(0, 1), (1, 1), (2, 1), (3, 3)] := by kernel_rfl
@[simp] theorem tf46 : tf Tryz.prog 46 = some ⟨6, 32, (some [.int .u8 0, .int .u8 0, .int .u8 0, .int .u64 0, .int .u64 0, .int .u8 0]), true, true⟩ := by kernel_rfl
@[simp] theorem un46 : (Tryz.prog.underlying 46).isSome = true := by kernel_rfl
@[simp] theorem fo46_0 : fieldT Tryz.prog 46 0 = some 0 := by kernel_rfl
@[simp] theorem fo46_1 : fieldT Tryz.prog 46 1 = some 1 := by kernel_rfl
@[simp] theorem fo46_2 : fieldT Tryz.prog 46 2 = some 2 := by kernel_rfl
@[simp] theorem fo46_3 : fieldT Tryz.prog 46 3 = some 3 := by kernel_rfl
@[simp] theorem pa46 : partsT Tryz.prog 46 = some [(0, 1), (1, 1), (2, 1), (3, 3)] := by kernel_rfl
@[simp] theorem tf47 : tf Tryz.prog 47 = some ⟨1, 8, (some [.nilFunc]), false, true⟩ := by kernel_rfl
@[simp] theorem un47 : (Tryz.prog.underlying 47).isSome = true := by kernel_rfl
@[simp] theorem tf48 : tf Tryz.prog 48 = some ⟨1, 8, (some [.nilFunc]), false, true⟩ := by kernel_rfl
@[simp] theorem un48 : (Tryz.prog.underlying 48).isSome = true := by kernel_rfl
@[simp] theorem tf49 : tf Tryz.prog 49 = some ⟨1, 8, (some [.nilFunc]), false, true⟩ := by kernel_rfl
@[simp] theorem un49 : (Tryz.prog.underlying 49).isSome = true := by kernel_rfl
@[simp] theorem tf50 : tf Tryz.prog 50 = some ⟨1, 8, (some [.nilFunc]), false, true⟩ := by kernel_rfl
@[simp] theorem un50 : (Tryz.prog.underlying 50).isSome = true := by kernel_rfl
@[simp] theorem tf51 : tf Tryz.prog 51 = some ⟨1, 8, (some [.nilFunc]), false, true⟩ := by kernel_rfl
@[simp] theorem un51 : (Tryz.prog.underlying 51).isSome = true := by kernel_rfl
@[simp] theorem tf52 : tf Tryz.prog 52 = some ⟨1, 8, (some [.nilFunc]), false, true⟩ := by kernel_rfl
@[simp] theorem un52 : (Tryz.prog.underlying 52).isSome = true := by kernel_rfl
@[simp] theorem tf53 : tf Tryz.prog 53 = some ⟨1, 24, (some [.slice none 0 0]), false, true⟩ := by kernel_rfl
@[simp] theorem un53 : (Tryz.prog.underlying 53).isSome = true := by kernel_rfl
@[simp] theorem el53 : elemT Tryz.prog 53 = some 55 := by kernel_rfl
@[simp] theorem ef53 : elemF Tryz.prog 53 = some (55, ⟨9, 48, (some [.int .u8 0, .int .u8 0, .int .u64 0, .int .u8 0, .int .u8 0, .int .u8 0, .int .u64 0, .int .u64 0, .int .u8 0]), true, true⟩) := by kernel_rfl
@[simp] theorem tf54 : tf Tryz.prog 54 = some ⟨9, 48, (some [.int .u8 0, .int .u8 0, .int .u64 0, .int .u8 0, .int .u8 0, .int .u8 0, .int .u64 0, .int .u64 0, .int .u8 0]), true, true⟩ := by kernel_rfl
@[simp] theorem un54 : (Tryz.prog.underlying 54).isSome = true := by kernel_rfl
@[simp] theorem fo54_0 : fieldT Tryz.prog 54 0 = some 0 := by kernel_rfl
@[simp] theorem fo54_1 : fieldT Tryz.prog 54 1 = some 1 := by kernel_rfl
@[simp] theorem fo54_2 : fieldT Tryz.prog 54 2 = some 2 := by kernel_rfl
@[simp] theorem fo54_3 : fieldT Tryz.prog 54 3 = some 3 := by kernel_rfl
@[simp] theorem pa54 : partsT Tryz.prog 54 = some [(0, 1), (1, 1), (2, 1), (3, 6)] := by kernel_rfl
@[simp] theorem tf55 : tf Tryz.prog 55 = some ⟨9, 48, (some [.int .u8 0, .int .u8 0, .int .u64 0, .int .u8 0, .int .u8 0, .int .u8 0, .int .u64 0, .int .u64 0, .int .u8 0]), true, true⟩ := by kernel_rfl
@[simp] theorem un55 : (Tryz.prog.underlying 55).isSome = true := by kernel_rfl
@[simp] theorem fo55_0 : fieldT Tryz.prog 55 0 = some 0 := by kernel_rfl
@[simp] theorem fo55_1 : fieldT Tryz.prog 55 1 = some 1 := by kernel_rfl
@[simp] theorem fo55_2 : fieldT Tryz.prog 55 2 = some 2 := by kernel_rfl
@[simp] theorem fo55_3 : fieldT Tryz.prog 55 3 = some 3 := by kernel_rfl
@[simp] theorem pa55 : partsT Tryz.prog 55 = some [(0, 1), (1, 1), (2, 1), (3, 6)] := by kernel_rfl
@[simp] theorem tf56 : tf Tryz.prog 56 = some ⟨1, 8, (some [.nilFunc]), false, true⟩ := by kernel_rfl
@[simp] theorem un56 : (Tryz.prog.underlying 56).isSome = true := by kernel_rfl
@[simp] theorem tf57 : tf Tryz.prog 57 = some ⟨1, 8, (some [.nilFunc]), false, true⟩ := by kernel_rfl
@[simp] theorem un57 : (Tryz.prog.underlying 57).isSome = true := by kernel_rfl
@[simp] theorem tf58 : tf Tryz.prog 58 = some ⟨1, 8, (some [.nilFunc]), false, true⟩ := by kernel_rfl
@[simp] theorem un58 : (Tryz.prog.underlying 58).isSome = true := by kernel_rfl
@[simp] theorem tf59 : tf Tryz.prog 59 = some ⟨1, 8, (some [.nilFunc]), false, true⟩ := by kernel_rfl
@[simp] theorem un59 : (Tryz.prog.underlying 59).isSome = true := by kernel_rfl
@[simp] theorem tf60 : tf Tryz.prog 60 = some ⟨1, 8, (some [.nilFunc]), false, true⟩ := by kernel_rfl
@[simp] theorem un60 : (Tryz.prog.underlying 60).isSome = true := by kernel_rfl
@[simp] theorem tf61 : tf Tryz.prog 61 = some ⟨1, 8, (some [.nilFunc]), false, true⟩ := by kernel_rfl
@[simp] theorem un61 : (Tryz.prog.underlying 61).isSome = true := by kernel_rfl
@[simp] theorem tf62 : tf Tryz.prog 62 = some ⟨4, 4, (some [.int .u8 0, .int .u8 0, .int .u8 0, .int .u8 0]), true, true⟩ := by kernel_rfl
@[simp] theorem un62 : (Tryz.prog.underlying 62).isSome = true := by kernel_rfl
@[simp] theorem fo62_0 : fieldT Tryz.prog 62 0 = some 0 := by kernel_rfl
@[simp] theorem fo62_1 : fieldT Tryz.prog 62 1 = some 1 := by kernel_rfl
@[simp] theorem fo62_2 : fieldT Tryz.prog 62 2 = some 2 := by kernel_rfl
@[simp] theorem fo62_3 : fieldT Tryz.prog 62 3 = some 3 := by kernel_rfl
@[simp] theorem pa62 : partsT Tryz.prog 62 = some [(0, 1), (1, 1), (2, 1), (3, 1)] := by kernel_rfl
@[simp] theorem tf63 : tf Tryz.prog 63 = some ⟨4, 4, (some [.int .u8 0, .int .u8 0, .int .u8 0, .int .u8 0]), true, true⟩ := by kernel_rfl
@[simp] theorem un63 : (Tryz.prog.underlying 63).isSome = true := by kernel_rfl
@[simp] theorem fo63_0 : fieldT Tryz.prog 63 0 = some 0 := by kernel_rfl
@[simp] theorem fo63_1 : fieldT Tryz.prog 63 1 = some 1 := by kernel_rfl
@[simp] theorem fo63_2 : fieldT Tryz.prog 63 2 = some 2 := by kernel_rfl
@[simp] theorem fo63_3 : fieldT Tryz.prog 63 3 = some 3 := by kernel_rfl
@[simp] theorem pa63 : partsT Tryz.prog 63 = some [(0, 1), (1, 1), (2, 1), (3, 1)] := by kernel_rfl
@[simp] theorem tf64 : tf Tryz.prog 64 = some ⟨1, 1, (some [.int .i8 0]), false, true⟩ := by kernel_rfl
@[simp] theorem it64 : intT Tryz.prog 64 = some .i8 := by kernel_rfl
@[simp] theorem un64 : (Tryz.prog.underlying 64).isSome = true := by kernel_rfl
@[simp] theorem tf65 : tf Tryz.prog 65 = some ⟨1, 8, (some [.nilFunc]), false, true⟩ := by kernel_rfl
@[simp] theorem un65 : (Tryz.prog.underlying 65).isSome = true := by kernel_rfl
@[simp] theorem un66 : (Tryz.prog.underlying 66).isSome = true := by kernel_rfl
@[simp] theorem un67 : (Tryz.prog.underlying 67).isSome = true := by kernel_rfl
@[simp] theorem fo67_0 : fieldT Tryz.prog 67 0 = some 0 := by kernel_rfl
@[simp] theorem fo67_1 : fieldT Tryz.prog 67 1 = some 1 := by kernel_rfl
@[simp] theorem pa67 : partsT Tryz.prog 67 = some [(0, 1), (1, 1)] := by kernel_rfl
@[simp] theorem un68 : (Tryz.prog.underlying 68).isSome = true := by kernel_rfl
@[simp] theorem fo68_0 : fieldT Tryz.prog 68 0 = some 0 := by kernel_rfl
@[simp] theorem fo68_1 : fieldT Tryz.prog 68 1 = some 1 := by kernel_rfl
@[simp] theorem pa68 : partsT Tryz.prog 68 = some [(0, 1), (1, 1)] := by kernel_rfl
@[simp] theorem tf69 : tf Tryz.prog 69 = some ⟨1, 8, (some [.nilFunc]), false, true⟩ := by kernel_rfl
@[simp] theorem un69 : (Tryz.prog.underlying 69).isSome = true := by kernel_rfl
@[simp] theorem tf70 : tf Tryz.prog 70 = some ⟨1, 8, (some [.nilFunc]), false, true⟩ := by kernel_rfl
@[simp] theorem un70 : (Tryz.prog.underlying 70).isSome = true := by kernel_rfl
@[simp] theorem tf71 : tf Tryz.prog 71 = some ⟨1, 8, (some [.float .f64 0]), false, true⟩ := by kernel_rfl
@[simp] theorem un71 : (Tryz.prog.underlying 71).isSome = true := by kernel_rfl
@[simp] theorem tf72 : tf Tryz.prog 72 = some ⟨1, 8, (some [.nilFunc]), false, true⟩ := by kernel_rfl
@[simp] theorem un72 : (Tryz.prog.underlying 72).isSome = true := by kernel_rfl
@[simp] theorem tf73 : tf Tryz.prog 73 = some ⟨1, 8, (some [.nilFunc]), false, true⟩ := by kernel_rfl
@[simp] theorem un73 : (Tryz.prog.underlying 73).isSome = true := by kernel_rfl
@[simp] theorem tf74 : tf Tryz.prog 74 = some ⟨1, 24, (some [.slice none 0 0]), false, true⟩ := by kernel_rfl
@[simp] theorem un74 : (Tryz.prog.underlying 74).isSome = true := by kernel_rfl
@[simp] theorem el74 : elemT Tryz.prog 74 = some 63 := by kernel_rfl
@[simp] theorem ef74 : elemF Tryz.prog 74 = some (63, ⟨4, 4, (some [.int .u8 0, .int .u8 0, .int .u8 0, .int .u8 0]), true, true⟩) := by kernel_rfl
@[simp] theorem tf75 : tf Tryz.prog 75 = some ⟨1, 24, (some [.slice none 0 0]), false, true⟩ := by kernel_rfl
@[simp] theorem un75 : (Tryz.prog.underlying 75).isSome = true := by kernel_rfl
@[simp] theorem el75 : elemT Tryz.prog 75 = some 68 := by kernel_rfl
@[simp] theorem tf76 : tf Tryz.prog 76 = some ⟨1, 24, (some [.slice none 0 0]), false, true⟩ := by kernel_rfl
@[simp] theorem un76 : (Tryz.prog.underlying 76).isSome = true := by kernel_rfl
@[simp] theorem el76 : elemT Tryz.prog 76 = some 5 := by kernel_rfl
@[simp] theorem ef76 : elemF Tryz.prog 76 = some (5, ⟨1, 1, (some [.int .u8 0]), false, true⟩) := by kernel_rfl
@[simp] theorem tf77 : tf Tryz.prog 77 = some ⟨1, 8, (some [.nilFunc]), false, true⟩ := by kernel_rfl
@[simp] theorem un77 : (Tryz.prog.underlying 77).isSome = true := by kernel_rfl
@[simp] theorem tf78 : tf Tryz.prog 78 = some ⟨1, 8, (some [.nilFunc]), false, true⟩ := by kernel_rfl
@[simp] theorem un78 : (Tryz.prog.underlying 78).isSome = true := by kernel_rfl
@[simp] theorem un79 : (Tryz.prog.underlying 79).isSome = true := by kernel_rfl
@[simp] theorem tf80 : tf Tryz.prog 80 = some ⟨1, 8, (some [.nilFunc]), false, true⟩ := by kernel_rfl
@[simp] theorem un80 : (Tryz.prog.underlying 80).isSome = true := by kernel_rfl
@[simp] theorem tf81 : tf Tryz.prog 81 = some ⟨1, 8, (some [.nilFunc]), false, true⟩ := by kernel_rfl
@[simp] theorem un81 : (Tryz.prog.underlying 81).isSome = true := by kernel_rfl
@[simp] theorem tf82 : tf Tryz.prog 82 = some ⟨1, 24, (some [.slice none 0 0]), false, true⟩ := by kernel_rfl
@[simp] theorem un82 : (Tryz.prog.underlying 82).isSome = true := by kernel_rfl
@[simp] theorem el82 : elemT Tryz.prog 82 = some 9 := by kernel_rfl
@[simp] theorem ef82 : elemF Tryz.prog 82 = some (9, ⟨1, 16, (some [.string ⟨#[]⟩]), false, true⟩) := by kernel_rfl
@[simp] theorem tf83 : tf Tryz.prog 83 = some ⟨1, 8, (some [.nilFunc]), false, true⟩ := by kernel_rfl
@[simp] theorem un83 : (Tryz.prog.underlying 83).isSome = true := by kernel_rfl
@[simp] theorem tf84 : tf Tryz.prog 84 = some ⟨1, 8, (some [.nilFunc]), false, true⟩ := by kernel_rfl
@[simp] theorem un84 : (Tryz.prog.underlying 84).isSome = true := by kernel_rfl
@[simp] theorem tf85 : tf Tryz.prog 85 = some ⟨1, 8, (some [.nilFunc]), false, true⟩ := by kernel_rfl
@[simp] theorem un85 : (Tryz.prog.underlying 85).isSome = true := by kernel_rfl
@[simp] theorem tf86 : tf Tryz.prog 86 = some ⟨1, 8, (some [.nilFunc]), false, true⟩ := by kernel_rfl
@[simp] theorem un86 : (Tryz.prog.underlying 86).isSome = true := by kernel_rfl
@[simp] theorem tf87 : tf Tryz.prog 87 = some ⟨1, 8, (some [.nilFunc]), false, true⟩ := by kernel_rfl
@[simp] theorem un87 : (Tryz.prog.underlying 87).isSome = true := by kernel_rfl
@[simp] theorem tf88 : tf Tryz.prog 88 = some ⟨1, 24, (some [.slice none 0 0]), true, true⟩ := by kernel_rfl
@[simp] theorem un88 : (Tryz.prog.underlying 88).isSome = true := by kernel_rfl
@[simp] theorem fo88_0 : fieldT Tryz.prog 88 0 = some 0 := by kernel_rfl
@[simp] theorem pa88 : partsT Tryz.prog 88 = some [(0, 1)] := by kernel_rfl
@[simp] theorem tf89 : tf Tryz.prog 89 = some ⟨1, 24, (some [.slice none 0 0]), true, true⟩ := by kernel_rfl
@[simp] theorem un89 : (Tryz.prog.underlying 89).isSome = true := by kernel_rfl
@[simp] theorem fo89_0 : fieldT Tryz.prog 89 0 = some 0 := by kernel_rfl
@[simp] theorem pa89 : partsT Tryz.prog 89 = some [(0, 1)] := by kernel_rfl
@[simp] theorem tf90 : tf Tryz.prog 90 = some ⟨1, 8, (some [.nilFunc]), false, true⟩ := by kernel_rfl
@[simp] theorem un90 : (Tryz.prog.underlying 90).isSome = true := by kernel_rfl
@[simp] theorem tf91 : tf Tryz.prog 91 = some ⟨1, 8, (some [.nilFunc]), false, true⟩ := by kernel_rfl
@[simp] theorem un91 : (Tryz.prog.underlying 91).isSome = true := by kernel_rfl
@[simp] theorem tf92 : tf Tryz.prog 92 = some ⟨1, 8, (some [.nilFunc]), false, true⟩ := by kernel_rfl
@[simp] theorem un92 : (Tryz.prog.underlying 92).isSome = true := by kernel_rfl
@[simp] theorem tf93 : tf Tryz.prog 93 = some ⟨1, 8, (some [.nilFunc]), false, true⟩ := by kernel_rfl
@[simp] theorem un93 : (Tryz.prog.underlying 93).isSome = true := by kernel_rfl
@[simp] theorem tf94 : tf Tryz.prog 94 = some ⟨1, 8, (some [.nilFunc]), false, true⟩ := by kernel_rfl
@[simp] theorem un94 : (Tryz.prog.underlying 94).isSome = true := by kernel_rfl
@[simp] theorem tf95 : tf Tryz.prog 95 = some ⟨1, 8, (some [.nilFunc]), false, true⟩ := by kernel_rfl
@[simp] theorem un95 : (Tryz.prog.underlying 95).isSome = true := by kernel_rfl
@[simp] theorem tf96 : tf Tryz.prog 96 = some ⟨1, 8, (some [.nilFunc]), false, true⟩ := by kernel_rfl
@[simp] theorem un96 : (Tryz.prog.underlying 96).isSome = true := by kernel_rfl
@[simp] theorem tf97 : tf Tryz.prog 97 = some ⟨1, 8, (some [.nilFunc]), false, true⟩ := by kernel_rfl
@[simp] theorem un97 : (Tryz.prog.underlying 97).isSome = true := by kernel_rfl
@[simp] theorem un98 : (Tryz.prog.underlying 98).isSome = true := by kernel_rfl
@[simp] theorem tf99 : tf Tryz.prog 99 = some ⟨1, 8, (some [.nilFunc]), false, true⟩ := by kernel_rfl
@[simp] theorem un99 : (Tryz.prog.underlying 99).isSome = true := by kernel_rfl
@[simp] theorem tf100 : tf Tryz.prog 100 = some ⟨1, 8, (some [.nilFunc]), false, true⟩ := by kernel_rfl
@[simp] theorem un100 : (Tryz.prog.underlying 100).isSome = true := by kernel_rfl
@[simp] theorem tf101 : tf Tryz.prog 101 = some ⟨1, 8, (some [.nilFunc]), false, true⟩ := by kernel_rfl
@[simp] theorem un101 : (Tryz.prog.underlying 101).isSome = true := by kernel_rfl
@[simp] theorem tf102 : tf Tryz.prog 102 = some ⟨1, 8, (some [.nilFunc]), false, true⟩ := by kernel_rfl
@[simp] theorem un102 : (Tryz.prog.underlying 102).isSome = true := by kernel_rfl
@[simp] theorem tf103 : tf Tryz.prog 103 = some ⟨1, 8, (some [.nilFunc]), false, true⟩ := by kernel_rfl
@[simp] theorem un103 : (Tryz.prog.underlying 103).isSome = true := by kernel_rfl
@[simp] theorem tf104 : tf Tryz.prog 104 = some ⟨1, 8, (some [.nilFunc]), false, true⟩ := by kernel_rfl
@[simp] theorem un104 : (Tryz.prog.underlying 104).isSome = true := by kernel_rfl
@[simp] theorem tf105 : tf Tryz.prog 105 = some ⟨1, 8, (some [.nilFunc]), false, true⟩ := by kernel_rfl
@[simp] theorem un105 : (Tryz.prog.underlying 105).isSome = true := by kernel_rfl
@[simp] theorem tf106 : tf Tryz.prog 106 = some ⟨1, 8, (some [.int .u64 0]), false, true⟩ := by kernel_rfl
@[simp] theorem it106 : intT Tryz.prog 106 = some .u64 := by kernel_rfl
@[simp] theorem un106 : (Tryz.prog.underlying 106).isSome = true := by kernel_rfl
@[simp] theorem un107 : (Tryz.prog.underlying 107).isSome = true := by kernel_rfl
@[simp] theorem tf108 : tf Tryz.prog 108 = some ⟨1, 8, (some [.nilFunc]), false, true⟩ := by kernel_rfl
@[simp] theorem un108 : (Tryz.prog.underlying 108).isSome = true := by kernel_rfl
@[simp] theorem tf109 : tf Tryz.prog 109 = some ⟨1, 8, (some [.nilFunc]), false, true⟩ := by kernel_rfl
@[simp] theorem un109 : (Tryz.prog.underlying 109).isSome = true := by kernel_rfl
@[simp] theorem tf110 : tf Tryz.prog 110 = some ⟨1, 8, (some [.pointer none]), false, true⟩ := by kernel_rfl
@[simp] theorem un110 : (Tryz.prog.underlying 110).isSome = true := by kernel_rfl
@[simp] theorem tf111 : tf Tryz.prog 111 = some ⟨1, 8, (some [.map none]), false, true⟩ := by kernel_rfl
@[simp] theorem un111 : (Tryz.prog.underlying 111).isSome = true := by kernel_rfl
@[simp] theorem un112 : (Tryz.prog.underlying 112).isSome = true := by kernel_rfl
@[simp] theorem tf113 : tf Tryz.prog 113 = some ⟨1, 8, (some [.nilFunc]), false, true⟩ := by kernel_rfl
@[simp] theorem un113 : (Tryz.prog.underlying 113).isSome = true := by kernel_rfl
@[simp] theorem tf114 : tf Tryz.prog 114 = some ⟨3, 3, (some [.int .u8 0, .int .u8 0, .bool false]), true, true⟩ := by kernel_rfl
@[simp] theorem un114 : (Tryz.prog.underlying 114).isSome = true := by kernel_rfl
@[simp] theorem fo114_0 : fieldT Tryz.prog 114 0 = some 0 := by kernel_rfl
@[simp] theorem fo114_1 : fieldT Tryz.prog 114 1 = some 1 := by kernel_rfl
@[simp] theorem fo114_2 : fieldT Tryz.prog 114 2 = some 2 := by kernel_rfl
@[simp] theorem pa114 : partsT Tryz.prog 114 = some [(0, 1), (1, 1), (2, 1)] := by kernel_rfl
@[simp] theorem tf115 : tf Tryz.prog 115 = some ⟨3, 3, (some [.int .u8 0, .int .u8 0, .bool false]), true, true⟩ := by kernel_rfl
@[simp] theorem un115 : (Tryz.prog.underlying 115).isSome = true := by kernel_rfl
@[simp] theorem fo115_0 : fieldT Tryz.prog 115 0 = some 0 := by kernel_rfl
@[simp] theorem fo115_1 : fieldT Tryz.prog 115 1 = some 1 := by kernel_rfl
@[simp] theorem fo115_2 : fieldT Tryz.prog 115 2 = some 2 := by kernel_rfl
@[simp] theorem pa115 : partsT Tryz.prog 115 = some [(0, 1), (1, 1), (2, 1)] := by kernel_rfl
@[simp] theorem tf116 : tf Tryz.prog 116 = some ⟨4, 4, (some [.int .u8 0, .int .u8 0, .int .u8 0, .bool false]), true, true⟩ := by kernel_rfl
@[simp] theorem un116 : (Tryz.prog.underlying 116).isSome = true := by kernel_rfl
@[simp] theorem fo116_0 : fieldT Tryz.prog 116 0 = some 0 := by kernel_rfl
@[simp] theorem fo116_1 : fieldT Tryz.prog 116 1 = some 1 := by kernel_rfl
@[simp] theorem pa116 : partsT Tryz.prog 116 = some [(0, 1), (1, 3)] := by kernel_rfl
@[simp] theorem tf117 : tf Tryz.prog 117 = some ⟨4, 4, (some [.int .u8 0, .int .u8 0, .int .u8 0, .bool false]), true, true⟩ := by kernel_rfl
@[simp] theorem un117 : (Tryz.prog.underlying 117).isSome = true := by kernel_rfl
@[simp] theorem fo117_0 : fieldT Tryz.prog 117 0 = some 0 := by kernel_rfl
@[simp] theorem fo117_1 : fieldT Tryz.prog 117 1 = some 1 := by kernel_rfl
@[simp] theorem pa117 : partsT Tryz.prog 117 = some [(0, 1), (1, 3)] := by kernel_rfl
@[simp] theorem tf118 : tf Tryz.prog 118 = some ⟨1, 24, (some [.slice none 0 0]), false, true⟩ := by kernel_rfl
@[simp] theorem un118 : (Tryz.prog.underlying 118).isSome = true := by kernel_rfl
@[simp] theorem el118 : elemT Tryz.prog 118 = some 117 := by kernel_rfl
@[simp] theorem ef118 : elemF Tryz.prog 118 = some (117, ⟨4, 4, (some [.int .u8 0, .int .u8 0, .int .u8 0, .bool false]), true, true⟩) := by kernel_rfl
@[simp] theorem tf119 : tf Tryz.prog 119 = some ⟨1, 8, (some [.nilFunc]), false, true⟩ := by kernel_rfl
@[simp] theorem un119 : (Tryz.prog.underlying 119).isSome = true := by kernel_rfl
@[simp] theorem tf120 : tf Tryz.prog 120 = some ⟨1, 8, (some [.nilFunc]), false, true⟩ := by kernel_rfl
@[simp] theorem un120 : (Tryz.prog.underlying 120).isSome = true := by kernel_rfl
@[simp] theorem tf121 : tf Tryz.prog 121 = some ⟨1, 8, (some [.nilFunc]), false, true⟩ := by kernel_rfl
@[simp] theorem un121 : (Tryz.prog.underlying 121).isSome = true := by kernel_rfl
@[simp] theorem tf122 : tf Tryz.prog 122 = some ⟨1, 8, (some [.nilFunc]), false, true⟩ := by kernel_rfl
@[simp] theorem un122 : (Tryz.prog.underlying 122).isSome = true := by kernel_rfl
@[simp] theorem tf123 : tf Tryz.prog 123 = some ⟨3, 32, (some [.int .u64 0, .string ⟨#[]⟩, .bool false]), true, true⟩ := by kernel_rfl
@[simp] theorem un123 : (Tryz.prog.underlying 123).isSome = true := by kernel_rfl
@[simp] theorem fo123_0 : fieldT Tryz.prog 123 0 = some 0 := by kernel_rfl
@[simp] theorem fo123_1 : fieldT Tryz.prog 123 1 = some 1 := by kernel_rfl
@[simp] theorem fo123_2 : fieldT Tryz.prog 123 2 = some 2 := by kernel_rfl
@[simp] theorem pa123 : partsT Tryz.prog 123 = some [(0, 1), (1, 1), (2, 1)] := by kernel_rfl
@[simp] theorem tf124 : tf Tryz.prog 124 = some ⟨3, 32, (some [.int .u64 0, .string ⟨#[]⟩, .bool false]), true, true⟩ := by kernel_rfl
@[simp] theorem un124 : (Tryz.prog.underlying 124).isSome = true := by kernel_rfl
@[simp] theorem fo124_0 : fieldT Tryz.prog 124 0 = some 0 := by kernel_rfl
@[simp] theorem fo124_1 : fieldT Tryz.prog 124 1 = some 1 := by kernel_rfl
@[simp] theorem fo124_2 : fieldT Tryz.prog 124 2 = some 2 := by kernel_rfl
@[simp] theorem pa124 : partsT Tryz.prog 124 = some [(0, 1), (1, 1), (2, 1)] := by kernel_rfl
@[simp] theorem un125 : (Tryz.prog.underlying 125).isSome = true := by kernel_rfl
@[simp] theorem tf126 : tf Tryz.prog 126 = some ⟨1, 8, (some [.nilFunc]), false, true⟩ := by kernel_rfl
@[simp] theorem un126 : (Tryz.prog.underlying 126).isSome = true := by kernel_rfl
@[simp] theorem tf127 : tf Tryz.prog 127 = some ⟨1, 8, (some [.nilFunc]), false, true⟩ := by kernel_rfl
@[simp] theorem un127 : (Tryz.prog.underlying 127).isSome = true := by kernel_rfl
@[simp] theorem tf128 : tf Tryz.prog 128 = some ⟨1, 8, (some [.nilFunc]), false, true⟩ := by kernel_rfl
@[simp] theorem un128 : (Tryz.prog.underlying 128).isSome = true := by kernel_rfl
@[simp] theorem tf129 : tf Tryz.prog 129 = some ⟨1, 8, (some [.nilFunc]), false, true⟩ := by kernel_rfl
@[simp] theorem un129 : (Tryz.prog.underlying 129).isSome = true := by kernel_rfl
@[simp] theorem tf130 : tf Tryz.prog 130 = some ⟨1, 8, (some [.nilFunc]), false, true⟩ := by kernel_rfl
@[simp] theorem un130 : (Tryz.prog.underlying 130).isSome = true := by kernel_rfl
@[simp] theorem tf131 : tf Tryz.prog 131 = some ⟨1, 8, (some [.nilFunc]), false, true⟩ := by kernel_rfl
@[simp] theorem un131 : (Tryz.prog.underlying 131).isSome = true := by kernel_rfl
@[simp] theorem tf132 : tf Tryz.prog 132 = some ⟨1, 8, (some [.int .i64 0]), false, true⟩ := by kernel_rfl
@[simp] theorem it132 : intT Tryz.prog 132 = some .i64 := by kernel_rfl
@[simp] theorem un132 : (Tryz.prog.underlying 132).isSome = true := by kernel_rfl
@[simp] theorem un133 : (Tryz.prog.underlying 133).isSome = true := by kernel_rfl
@[simp] theorem tf134 : tf Tryz.prog 134 = some ⟨1, 8, (some [.nilFunc]), false, true⟩ := by kernel_rfl
@[simp] theorem un134 : (Tryz.prog.underlying 134).isSome = true := by kernel_rfl
@[simp] theorem tf135 : tf Tryz.prog 135 = some ⟨1, 8, (some [.nilFunc]), false, true⟩ := by kernel_rfl
@[simp] theorem un135 : (Tryz.prog.underlying 135).isSome = true := by kernel_rfl
@[simp] theorem tf136 : tf Tryz.prog 136 = some ⟨1, 8, (some [.nilFunc]), false, true⟩ := by kernel_rfl
@[simp] theorem un136 : (Tryz.prog.underlying 136).isSome = true := by kernel_rfl
@[simp] theorem tf137 : tf Tryz.prog 137 = some ⟨1, 8, (some [.nilFunc]), false, true⟩ := by kernel_rfl
@[simp] theorem un137 : (Tryz.prog.underlying 137).isSome = true := by kernel_rfl
@[simp] theorem tf138 : tf Tryz.prog 138 = some ⟨1, 8, (some [.nilFunc]), false, true⟩ := by kernel_rfl
@[simp] theorem un138 : (Tryz.prog.underlying 138).isSome = true := by kernel_rfl
@[simp] theorem tf139 : tf Tryz.prog 139 = some ⟨1, 8, (some [.nilFunc]), false, true⟩ := by kernel_rfl
@[simp] theorem un139 : (Tryz.prog.underlying 139).isSome = true := by kernel_rfl
@[simp] theorem tf140 : tf Tryz.prog 140 = some ⟨1, 4, (some [.int .u32 0]), false, true⟩ := by kernel_rfl
@[simp] theorem it140 : intT Tryz.prog 140 = some .u32 := by kernel_rfl
@[simp] theorem un140 : (Tryz.prog.underlying 140).isSome = true := by kernel_rfl
@[simp] theorem tf141 : tf Tryz.prog 141 = some ⟨1, 8, (some [.nilFunc]), false, true⟩ := by kernel_rfl
@[simp] theorem un141 : (Tryz.prog.underlying 141).isSome = true := by kernel_rfl
@[simp] theorem tf142 : tf Tryz.prog 142 = some ⟨1, 8, (some [.nilFunc]), false, true⟩ := by kernel_rfl
@[simp] theorem un142 : (Tryz.prog.underlying 142).isSome = true := by kernel_rfl
@[simp] theorem tf143 : tf Tryz.prog 143 = some ⟨1, 24, (some [.slice none 0 0]), false, true⟩ := by kernel_rfl
@[simp] theorem un143 : (Tryz.prog.underlying 143).isSome = true := by kernel_rfl
@[simp] theorem el143 : elemT Tryz.prog 143 = some 124 := by kernel_rfl
@[simp] theorem ef143 : elemF Tryz.prog 143 = some (124, ⟨3, 32, (some [.int .u64 0, .string ⟨#[]⟩, .bool false]), true, true⟩) := by kernel_rfl
@[simp] theorem tf144 : tf Tryz.prog 144 = some ⟨1, 24, (some [.slice none 0 0]), false, true⟩ := by kernel_rfl
@[simp] theorem un144 : (Tryz.prog.underlying 144).isSome = true := by kernel_rfl
@[simp] theorem el144 : elemT Tryz.prog 144 = some 124 := by kernel_rfl
@[simp] theorem ef144 : elemF Tryz.prog 144 = some (124, ⟨3, 32, (some [.int .u64 0, .string ⟨#[]⟩, .bool false]), true, true⟩) := by kernel_rfl
@[simp] theorem tf145 : tf Tryz.prog 145 = some ⟨1, 8, (some [.nilFunc]), false, true⟩ := by kernel_rfl
@[simp] theorem un145 : (Tryz.prog.underlying 145).isSome = true := by kernel_rfl
@[simp] theorem tf146 : tf Tryz.prog 146 = some ⟨1, 24, (some [.slice none 0 0]), false, true⟩ := by kernel_rfl
@[simp] theorem un146 : (Tryz.prog.underlying 146).isSome = true := by kernel_rfl
@[simp] theorem el146 : elemT Tryz.prog 146 = some 115 := by kernel_rfl
@[simp] theorem ef146 : elemF Tryz.prog 146 = some (115, ⟨3, 3, (some [.int .u8 0, .int .u8 0, .bool false]), true, true⟩) := by kernel_rfl
@[simp] theorem tf147 : tf Tryz.prog 147 = some ⟨1, 8, (some [.nilFunc]), false, true⟩ := by kernel_rfl
@[simp] theorem un147 : (Tryz.prog.underlying 147).isSome = true := by kernel_rfl
@[simp] theorem tf148 : tf Tryz.prog 148 = some ⟨1, 8, (some [.nilFunc]), false, true⟩ := by kernel_rfl
@[simp] theorem un148 : (Tryz.prog.underlying 148).isSome = true := by kernel_rfl
@[simp] theorem tf149 : tf Tryz.prog 149 = some ⟨1, 8, (some [.nilFunc]), false, true⟩ := by kernel_rfl
@[simp] theorem un149 : (Tryz.prog.underlying 149).isSome = true := by kernel_rfl
@[simp] theorem tf150 : tf Tryz.prog 150 = some ⟨1, 8, (some [.nilFunc]), false, true⟩ := by kernel_rfl
@[simp] theorem un150 : (Tryz.prog.underlying 150).isSome = true := by kernel_rfl
@[simp] theorem tf151 : tf Tryz.prog 151 = some ⟨1, 8, (some [.nilFunc]), false, true⟩ := by kernel_rfl
@[simp] theorem un151 : (Tryz.prog.underlying 151).isSome = true := by kernel_rfl
@[simp] theorem tf152 : tf Tryz.prog 152 = some ⟨1, 8, (some [.nilFunc]), false, true⟩ := by kernel_rfl
@[simp] theorem un152 : (Tryz.prog.underlying 152).isSome = true := by kernel_rfl
@[simp] theorem tf153 : tf Tryz.prog 153 = some ⟨1, 24, (some [.slice none 0 0]), false, true⟩ := by kernel_rfl
@[simp] theorem un153 : (Tryz.prog.underlying 153).isSome = true := by kernel_rfl
@[simp] theorem el153 : elemT Tryz.prog 153 = some 155 := by kernel_rfl
@[simp] theorem ef153 : elemF Tryz.prog 153 = some (155, ⟨2, 40, (some [.string ⟨#[]⟩, .slice none 0 0]), true, true⟩) := by kernel_rfl
@[simp] theorem tf154 : tf Tryz.prog 154 = some ⟨2, 40, (some [.string ⟨#[]⟩, .slice none 0 0]), true, true⟩ := by kernel_rfl
@[simp] theorem un154 : (Tryz.prog.underlying 154).isSome = true := by kernel_rfl
@[simp] theorem fo154_0 : fieldT Tryz.prog 154 0 = some 0 := by kernel_rfl
@[simp] theorem fo154_1 : fieldT Tryz.prog 154 1 = some 1 := by kernel_rfl
@[simp] theorem pa154 : partsT Tryz.prog 154 = some [(0, 1), (1, 1)] := by kernel_rfl
@[simp] theorem tf155 : tf Tryz.prog 155 = some ⟨2, 40, (some [.string ⟨#[]⟩, .slice none 0 0]), true, true⟩ := by kernel_rfl
@[simp] theorem un155 : (Tryz.prog.underlying 155).isSome = true := by kernel_rfl
@[simp] theorem fo155_0 : fieldT Tryz.prog 155 0 = some 0 := by kernel_rfl
@[simp] theorem fo155_1 : fieldT Tryz.prog 155 1 = some 1 := by kernel_rfl
@[simp] theorem pa155 : partsT Tryz.prog 155 = some [(0, 1), (1, 1)] := by kernel_rfl
@[simp] theorem tf156 : tf Tryz.prog 156 = some ⟨1, 24, (some [.slice none 0 0]), true, true⟩ := by kernel_rfl
@[simp] theorem un156 : (Tryz.prog.underlying 156).isSome = true := by kernel_rfl
@[simp] theorem fo156_0 : fieldT Tryz.prog 156 0 = some 0 := by kernel_rfl
@[simp] theorem pa156 : partsT Tryz.prog 156 = some [(0, 1)] := by kernel_rfl
@[simp] theorem tf157 : tf Tryz.prog 157 = some ⟨1, 24, (some [.slice none 0 0]), true, true⟩ := by kernel_rfl
@[simp] theorem un157 : (Tryz.prog.underlying 157).isSome = true := by kernel_rfl
@[simp] theorem fo157_0 : fieldT Tryz.prog 157 0 = some 0 := by kernel_rfl
@[simp] theorem pa157 : partsT Tryz.prog 157 = some [(0, 1)] := by kernel_rfl
@[simp] theorem tf158 : tf Tryz.prog 158 = some ⟨1, 8, (some [.nilFunc]), false, true⟩ := by kernel_rfl
@[simp] theorem un158 : (Tryz.prog.underlying 158).isSome = true := by kernel_rfl
@[simp] theorem tf159 : tf Tryz.prog 159 = some ⟨1, 8, (some [.nilFunc]), false, true⟩ := by kernel_rfl
@[simp] theorem un159 : (Tryz.prog.underlying 159).isSome = true := by kernel_rfl
@[simp] theorem tf160 : tf Tryz.prog 160 = some ⟨1, 8, (some [.nilFunc]), false, true⟩ := by kernel_rfl
@[simp] theorem un160 : (Tryz.prog.underlying 160).isSome = true := by kernel_rfl
@[simp] theorem tf161 : tf Tryz.prog 161 = some ⟨1, 8, (some [.nilFunc]), false, true⟩ := by kernel_rfl
@[simp] theorem un161 : (Tryz.prog.underlying 161).isSome = true := by kernel_rfl
@[simp] theorem tf162 : tf Tryz.prog 162 = some ⟨1, 8, (some [.nilFunc]), false, true⟩ := by kernel_rfl
@[simp] theorem un162 : (Tryz.prog.underlying 162).isSome = true := by kernel_rfl
@[simp] theorem tf163 : tf Tryz.prog 163 = some ⟨1, 8, (some [.nilFunc]), false, true⟩ := by kernel_rfl
@[simp] theorem un163 : (Tryz.prog.underlying 163).isSome = true := by kernel_rfl
@[simp] theorem tf164 : tf Tryz.prog 164 = some ⟨1, 8, (some [.nilFunc]), false, true⟩ := by kernel_rfl
@[simp] theorem un164 : (Tryz.prog.underlying 164).isSome = true := by kernel_rfl
@[simp] theorem tf165 : tf Tryz.prog 165 = some ⟨1, 8, (some [.nilFunc]), false, true⟩ := by kernel_rfl
@[simp] theorem un165 : (Tryz.prog.underlying 165).isSome = true := by kernel_rfl
@[simp] theorem tf166 : tf Tryz.prog 166 = some ⟨1, 8, (some [.int .u64 0]), false, true⟩ := by kernel_rfl
@[simp] theorem it166 : intT Tryz.prog 166 = some .u64 := by kernel_rfl
@[simp] theorem un166 : (Tryz.prog.underlying 166).isSome = true := by kernel_rfl
@[simp] theorem tf167 : tf Tryz.prog 167 = some ⟨1, 8, (some [.nilFunc]), false, true⟩ := by kernel_rfl
@[simp] theorem un167 : (Tryz.prog.underlying 167).isSome = true := by kernel_rfl
@[simp] theorem tf168 : tf Tryz.prog 168 = some ⟨1, 8, (some [.nilFunc]), false, true⟩ := by kernel_rfl
@[simp] theorem un168 : (Tryz.prog.underlying 168).isSome = true := by kernel_rfl
@[simp] theorem tf169 : tf Tryz.prog 169 = some ⟨1, 8, (some [.nilFunc]), false, true⟩ := by kernel_rfl
@[simp] theorem un169 : (Tryz.prog.underlying 169).isSome = true := by kernel_rfl
@[simp] theorem tf170 : tf Tryz.prog 170 = some ⟨1, 8, (some [.pointer none]), false, true⟩ := by kernel_rfl
@[simp] theorem un170 : (Tryz.prog.underlying 170).isSome = true := by kernel_rfl
@[simp] theorem tf171 : tf Tryz.prog 171 = some ⟨1, 8, (some [.nilFunc]), false, true⟩ := by kernel_rfl
@[simp] theorem un171 : (Tryz.prog.underlying 171).isSome = true := by kernel_rfl
@[simp] theorem tf172 : tf Tryz.prog 172 = some ⟨1, 8, (some [.pointer none]), false, true⟩ := by kernel_rfl
@[simp] theorem un172 : (Tryz.prog.underlying 172).isSome = true := by kernel_rfl
@[simp] theorem tf173 : tf Tryz.prog 173 = some ⟨1, 8, (some [.nilFunc]), false, true⟩ := by kernel_rfl
@[simp] theorem un173 : (Tryz.prog.underlying 173).isSome = true := by kernel_rfl
@[simp] theorem tf174 : tf Tryz.prog 174 = some ⟨1, 8, (some [.pointer none]), false, true⟩ := by kernel_rfl
@[simp] theorem un174 : (Tryz.prog.underlying 174).isSome = true := by kernel_rfl
@[simp] theorem tf175 : tf Tryz.prog 175 = some ⟨1, 24, (some [.slice none 0 0]), false, true⟩ := by kernel_rfl
@[simp] theorem un175 : (Tryz.prog.underlying 175).isSome = true := by kernel_rfl
@[simp] theorem el175 : elemT Tryz.prog 175 = some 76 := by kernel_rfl
@[simp] theorem ef175 : elemF Tryz.prog 175 = some (76, ⟨1, 24, (some [.slice none 0 0]), false, true⟩) := by kernel_rfl
@[simp] theorem tf176 : tf Tryz.prog 176 = some ⟨1, 8, (some [.int .i64 0]), false, true⟩ := by kernel_rfl
@[simp] theorem it176 : intT Tryz.prog 176 = some .i64 := by kernel_rfl
@[simp] theorem un176 : (Tryz.prog.underlying 176).isSome = true := by kernel_rfl
@[simp] theorem un177 : (Tryz.prog.underlying 177).isSome = true := by kernel_rfl
@[simp] theorem tf178 : tf Tryz.prog 178 = some ⟨1, 8, (some [.nilFunc]), false, true⟩ := by kernel_rfl
@[simp] theorem un178 : (Tryz.prog.underlying 178).isSome = true := by kernel_rfl
@[simp] theorem tf179 : tf Tryz.prog 179 = some ⟨1, 8, (some [.nilFunc]), false, true⟩ := by kernel_rfl
@[simp] theorem un179 : (Tryz.prog.underlying 179).isSome = true := by kernel_rfl
@[simp] theorem tf180 : tf Tryz.prog 180 = some ⟨1, 8, (some [.nilFunc]), false, true⟩ := by kernel_rfl
@[simp] theorem un180 : (Tryz.prog.underlying 180).isSome = true := by kernel_rfl
@[simp] theorem tf181 : tf Tryz.prog 181 = some ⟨1, 8, (some [.nilFunc]), false, true⟩ := by kernel_rfl
@[simp] theorem un181 : (Tryz.prog.underlying 181).isSome = true := by kernel_rfl
@[simp] theorem tf182 : tf Tryz.prog 182 = some ⟨1, 8, (some [.nilFunc]), false, true⟩ := by kernel_rfl
@[simp] theorem un182 : (Tryz.prog.underlying 182).isSome = true := by kernel_rfl
@[simp] theorem tf183 : tf Tryz.prog 183 = some ⟨1, 8, (some [.nilFunc]), false, true⟩ := by kernel_rfl
@[simp] theorem un183 : (Tryz.prog.underlying 183).isSome = true := by kernel_rfl
@[simp] theorem tf184 : tf Tryz.prog 184 = some ⟨1, 8, (some [.nilFunc]), false, true⟩ := by kernel_rfl
@[simp] theorem un184 : (Tryz.prog.underlying 184).isSome = true := by kernel_rfl
@[simp] theorem tf185 : tf Tryz.prog 185 = some ⟨1, 8, (some [.nilFunc]), false, true⟩ := by kernel_rfl
@[simp] theorem un185 : (Tryz.prog.underlying 185).isSome = true := by kernel_rfl
@[simp] theorem tf186 : tf Tryz.prog 186 = some ⟨1, 8, (some [.nilFunc]), false, true⟩ := by kernel_rfl
@[simp] theorem un186 : (Tryz.prog.underlying 186).isSome = true := by kernel_rfl
@[simp] theorem tf187 : tf Tryz.prog 187 = some ⟨1, 8, (some [.pointer none]), false, true⟩ := by kernel_rfl
@[simp] theorem un187 : (Tryz.prog.underlying 187).isSome = true := by kernel_rfl
@[simp] theorem un188 : (Tryz.prog.underlying 188).isSome = true := by kernel_rfl
@[simp] theorem tf189 : tf Tryz.prog 189 = some ⟨1, 8, (some [.nilFunc]), false, true⟩ := by kernel_rfl
@[simp] theorem un189 : (Tryz.prog.underlying 189).isSome = true := by kernel_rfl
@[simp] theorem tf190 : tf Tryz.prog 190 = some ⟨1, 8, (some [.nilFunc]), false, true⟩ := by kernel_rfl
@[simp] theorem un190 : (Tryz.prog.underlying 190).isSome = true := by kernel_rfl
@[simp] theorem tf191 : tf Tryz.prog 191 = some ⟨1, 8, (some [.nilFunc]), false, true⟩ := by kernel_rfl
@[simp] theorem un191 : (Tryz.prog.underlying 191).isSome = true := by kernel_rfl
@[simp] theorem tf192 : tf Tryz.prog 192 = some ⟨1, 8, (some [.nilFunc]), false, true⟩ := by kernel_rfl
@[simp] theorem un192 : (Tryz.prog.underlying 192).isSome = true := by kernel_rfl
@[simp] theorem tf193 : tf Tryz.prog 193 = some ⟨1, 8, (some [.pointer none]), false, true⟩ := by kernel_rfl
@[simp] theorem un193 : (Tryz.prog.underlying 193).isSome = true := by kernel_rfl
@[simp] theorem tf194 : tf Tryz.prog 194 = some ⟨1, 8, (some [.nilFunc]), false, true⟩ := by kernel_rfl
@[simp] theorem un194 : (Tryz.prog.underlying 194).isSome = true := by kernel_rfl
@[simp] theorem tf195 : tf Tryz.prog 195 = some ⟨2, 24, (some [.pointer none, .string ⟨#[]⟩]), true, true⟩ := by kernel_rfl
@[simp] theorem un195 : (Tryz.prog.underlying 195).isSome = true := by kernel_rfl
@[simp] theorem fo195_0 : fieldT Tryz.prog 195 0 = some 0 := by kernel_rfl
@[simp] theorem fo195_1 : fieldT Tryz.prog 195 1 = some 1 := by kernel_rfl
@[simp] theorem pa195 : partsT Tryz.prog 195 = some [(0, 1), (1, 1)] := by kernel_rfl
@[simp] theorem tf196 : tf Tryz.prog 196 = some ⟨2, 24, (some [.pointer none, .string ⟨#[]⟩]), true, true⟩ := by kernel_rfl
@[simp] theorem un196 : (Tryz.prog.underlying 196).isSome = true := by kernel_rfl
@[simp] theorem fo196_0 : fieldT Tryz.prog 196 0 = some 0 := by kernel_rfl
@[simp] theorem fo196_1 : fieldT Tryz.prog 196 1 = some 1 := by kernel_rfl
@[simp] theorem pa196 : partsT Tryz.prog 196 = some [(0, 1), (1, 1)] := by kernel_rfl
@[simp] theorem un197 : (Tryz.prog.underlying 197).isSome = true := by kernel_rfl
@[simp] theorem tf198 : tf Tryz.prog 198 = some ⟨1, 8, (some [.nilFunc]), false, true⟩ := by kernel_rfl
@[simp] theorem un198 : (Tryz.prog.underlying 198).isSome = true := by kernel_rfl
@[simp] theorem un199 : (Tryz.prog.underlying 199).isSome = true := by kernel_rfl
@[simp] theorem tf200 : tf Tryz.prog 200 = some ⟨1, 8, (some [.nilFunc]), false, true⟩ := by kernel_rfl
@[simp] theorem un200 : (Tryz.prog.underlying 200).isSome = true := by kernel_rfl
@[simp] theorem tf201 : tf Tryz.prog 201 = some ⟨1, 8, (some [.nilFunc]), false, true⟩ := by kernel_rfl
@[simp] theorem un201 : (Tryz.prog.underlying 201).isSome = true := by kernel_rfl
@[simp] theorem tf202 : tf Tryz.prog 202 = some ⟨1, 8, (some [.nilFunc]), false, true⟩ := by kernel_rfl
@[simp] theorem un202 : (Tryz.prog.underlying 202).isSome = true := by kernel_rfl
@[simp] theorem tf203 : tf Tryz.prog 203 = some ⟨1, 8, (some [.nilFunc]), false, true⟩ := by kernel_rfl
@[simp] theorem un203 : (Tryz.prog.underlying 203).isSome = true := by kernel_rfl
@[simp] theorem tf204 : tf Tryz.prog 204 = some ⟨1, 8, (some [.nilFunc]), false, true⟩ := by kernel_rfl
@[simp] theorem un204 : (Tryz.prog.underlying 204).isSome = true := by kernel_rfl
@[simp] theorem tf205 : tf Tryz.prog 205 = some ⟨1, 8, (some [.nilFunc]), false, true⟩ := by kernel_rfl
@[simp] theorem un205 : (Tryz.prog.underlying 205).isSome = true := by kernel_rfl
@[simp] theorem tf206 : tf Tryz.prog 206 = some ⟨1, 8, (some [.nilFunc]), false, true⟩ := by kernel_rfl
@[simp] theorem un206 : (Tryz.prog.underlying 206).isSome = true := by kernel_rfl
@[simp] theorem tf207 : tf Tryz.prog 207 = some ⟨1, 8, (some [.nilFunc]), false, true⟩ := by kernel_rfl
@[simp] theorem un207 : (Tryz.prog.underlying 207).isSome = true := by kernel_rfl
@[simp] theorem tf208 : tf Tryz.prog 208 = some ⟨1, 8, (some [.nilFunc]), false, true⟩ := by kernel_rfl
@[simp] theorem un208 : (Tryz.prog.underlying 208).isSome = true := by kernel_rfl
@[simp] theorem tf209 : tf Tryz.prog 209 = some ⟨1, 24, (some [.slice none 0 0]), true, true⟩ := by kernel_rfl
@[simp] theorem un209 : (Tryz.prog.underlying 209).isSome = true := by kernel_rfl
@[simp] theorem fo209_0 : fieldT Tryz.prog 209 0 = some 0 := by kernel_rfl
@[simp] theorem pa209 : partsT Tryz.prog 209 = some [(0, 1)] := by kernel_rfl
@[simp] theorem tf210 : tf Tryz.prog 210 = some ⟨1, 24, (some [.slice none 0 0]), true, true⟩ := by kernel_rfl
@[simp] theorem un210 : (Tryz.prog.underlying 210).isSome = true := by kernel_rfl
@[simp] theorem fo210_0 : fieldT Tryz.prog 210 0 = some 0 := by kernel_rfl
@[simp] theorem pa210 : partsT Tryz.prog 210 = some [(0, 1)] := by kernel_rfl
@[simp] theorem tf211 : tf Tryz.prog 211 = some ⟨1, 8, (some [.nilFunc]), false, true⟩ := by kernel_rfl
@[simp] theorem un211 : (Tryz.prog.underlying 211).isSome = true := by kernel_rfl
@[simp] theorem tf212 : tf Tryz.prog 212 = some ⟨1, 8, (some [.nilFunc]), false, true⟩ := by kernel_rfl
@[simp] theorem un212 : (Tryz.prog.underlying 212).isSome = true := by kernel_rfl
@[simp] theorem tf213 : tf Tryz.prog 213 = some ⟨1, 8, (some [.map none]), false, true⟩ := by kernel_rfl
@[simp] theorem un213 : (Tryz.prog.underlying 213).isSome = true := by kernel_rfl
@[simp] theorem tf214 : tf Tryz.prog 214 = some ⟨3, 24, (some [.pointer none, .map none, .int .i64 0]), true, true⟩ := by kernel_rfl
@[simp] theorem un214 : (Tryz.prog.underlying 214).isSome = true := by kernel_rfl
@[simp] theorem fo214_0 : fieldT Tryz.prog 214 0 = some 0 := by kernel_rfl
@[simp] theorem fo214_1 : fieldT Tryz.prog 214 1 = some 1 := by kernel_rfl
@[simp] theorem fo214_2 : fieldT Tryz.prog 214 2 = some 2 := by kernel_rfl
@[simp] theorem pa214 : partsT Tryz.prog 214 = some [(0, 1), (1, 1), (2, 1)] := by kernel_rfl
@[simp] theorem tf215 : tf Tryz.prog 215 = some ⟨3, 24, (some [.pointer none, .map none, .int .i64 0]), true, true⟩ := by kernel_rfl
@[simp] theorem un215 : (Tryz.prog.underlying 215).isSome = true := by kernel_rfl
@[simp] theorem fo215_0 : fieldT Tryz.prog 215 0 = some 0 := by kernel_rfl
@[simp] theorem fo215_1 : fieldT Tryz.prog 215 1 = some 1 := by kernel_rfl
@[simp] theorem fo215_2 : fieldT Tryz.prog 215 2 = some 2 := by kernel_rfl
@[simp] theorem pa215 : partsT Tryz.prog 215 = some [(0, 1), (1, 1), (2, 1)] := by kernel_rfl
@[simp] theorem tf216 : tf Tryz.prog 216 = some ⟨2, 16, (some [.int .i64 0, .int .i64 0]), true, true⟩ := by kernel_rfl
@[simp] theorem un216 : (Tryz.prog.underlying 216).isSome = true := by kernel_rfl
@[simp] theorem fo216_0 : fieldT Tryz.prog 216 0 = some 0 := by kernel_rfl
@[simp] theorem fo216_1 : fieldT Tryz.prog 216 1 = some 1 := by kernel_rfl
@[simp] theorem pa216 : partsT Tryz.prog 216 = some [(0, 1), (1, 1)] := by kernel_rfl
@[simp] theorem tf217 : tf Tryz.prog 217 = some ⟨2, 16, (some [.int .i64 0, .int .i64 0]), true, true⟩ := by kernel_rfl
@[simp] theorem un217 : (Tryz.prog.underlying 217).isSome = true := by kernel_rfl
@[simp] theorem fo217_0 : fieldT Tryz.prog 217 0 = some 0 := by kernel_rfl
@[simp] theorem fo217_1 : fieldT Tryz.prog 217 1 = some 1 := by kernel_rfl
@[simp] theorem pa217 : partsT Tryz.prog 217 = some [(0, 1), (1, 1)] := by kernel_rfl
@[simp] theorem tf218 : tf Tryz.prog 218 = some ⟨1, 8, (some [.pointer none]), false, true⟩ := by kernel_rfl
@[simp] theorem un218 : (Tryz.prog.underlying 218).isSome = true := by kernel_rfl
@[simp] theorem un219 : (Tryz.prog.underlying 219).isSome = true := by kernel_rfl
@[simp] theorem tf220 : tf Tryz.prog 220 = some ⟨2, 32, (some [.slice none 0 0, .int .i64 0]), true, true⟩ := by kernel_rfl
@[simp] theorem un220 : (Tryz.prog.underlying 220).isSome = true := by kernel_rfl
@[simp] theorem fo220_0 : fieldT Tryz.prog 220 0 = some 0 := by kernel_rfl
@[simp] theorem fo220_1 : fieldT Tryz.prog 220 1 = some 1 := by kernel_rfl
@[simp] theorem pa220 : partsT Tryz.prog 220 = some [(0, 1), (1, 1)] := by kernel_rfl
@[simp] theorem tf221 : tf Tryz.prog 221 = some ⟨2, 32, (some [.slice none 0 0, .int .i64 0]), true, true⟩ := by kernel_rfl
@[simp] theorem un221 : (Tryz.prog.underlying 221).isSome = true := by kernel_rfl
@[simp] theorem fo221_0 : fieldT Tryz.prog 221 0 = some 0 := by kernel_rfl
@[simp] theorem fo221_1 : fieldT Tryz.prog 221 1 = some 1 := by kernel_rfl
@[simp] theorem pa221 : partsT Tryz.prog 221 = some [(0, 1), (1, 1)] := by kernel_rfl
@[simp] theorem tf222 : tf Tryz.prog 222 = some ⟨1, 8, (some [.nilFunc]), false, true⟩ := by kernel_rfl
@[simp] theorem un222 : (Tryz.prog.underlying 222).isSome = true := by kernel_rfl
@[simp] theorem tf223 : tf Tryz.prog 223 = some ⟨1, 8, (some [.nilFunc]), false, true⟩ := by kernel_rfl
@[simp] theorem un223 : (Tryz.prog.underlying 223).isSome = true := by kernel_rfl
@[simp] theorem tf224 : tf Tryz.prog 224 = some ⟨1, 8, (some [.nilFunc]), false, true⟩ := by kernel_rfl
@[simp] theorem un224 : (Tryz.prog.underlying 224).isSome = true := by kernel_rfl
@[simp] theorem tf225 : tf Tryz.prog 225 = some ⟨1, 8, (some [.nilFunc]), false, true⟩ := by kernel_rfl
@[simp] theorem un225 : (Tryz.prog.underlying 225).isSome = true := by kernel_rfl
@[simp] theorem tf226 : tf Tryz.prog 226 = some ⟨1, 8, (some [.pointer none]), false, true⟩ := by kernel_rfl
@[simp] theorem un226 : (Tryz.prog.underlying 226).isSome = true := by kernel_rfl
@[simp] theorem tf227 : tf Tryz.prog 227 = some ⟨0, 0, (some []), true, true⟩ := by kernel_rfl
@[simp] theorem un227 : (Tryz.prog.underlying 227).isSome = true := by kernel_rfl
@[simp] theorem pa227 : partsT Tryz.prog 227 = some [] := by kernel_rfl
@[simp] theorem tf228 : tf Tryz.prog 228 = some ⟨0, 0, (some []), true, true⟩ := by kernel_rfl
@[simp] theorem un228 : (Tryz.prog.underlying 228).isSome = true := by kernel_rfl
@[simp] theorem pa228 : partsT Tryz.prog 228 = some [] := by kernel_rfl
@[simp] theorem tf229 : tf Tryz.prog 229 = some ⟨1, 8, (some [.nilFunc]), false, true⟩ := by kernel_rfl
@[simp] theorem un229 : (Tryz.prog.underlying 229).isSome = true := by kernel_rfl
@[simp] theorem tf230 : tf Tryz.prog 230 = some ⟨1, 8, (some [.nilFunc]), false, true⟩ := by kernel_rfl
@[simp] theorem un230 : (Tryz.prog.underlying 230).isSome = true := by kernel_rfl
@[simp] theorem tf231 : tf Tryz.prog 231 = some ⟨1, 8, (some [.nilFunc]), false, true⟩ := by kernel_rfl
@[simp] theorem un231 : (Tryz.prog.underlying 231).isSome = true := by kernel_rfl
@[simp] theorem tf232 : tf Tryz.prog 232 = some ⟨1, 8, (some [.nilFunc]), false, true⟩ := by kernel_rfl
@[simp] theorem un232 : (Tryz.prog.underlying 232).isSome = true := by kernel_rfl
@[simp] theorem un233 : (Tryz.prog.underlying 233).isSome = true := by kernel_rfl
@[simp] theorem tf234 : tf Tryz.prog 234 = some ⟨1, 8, (some [.nilFunc]), false, true⟩ := by kernel_rfl
@[simp] theorem un234 : (Tryz.prog.underlying 234).isSome = true := by kernel_rfl
@[simp] theorem tf235 : tf Tryz.prog 235 = some ⟨1, 8, (some [.nilFunc]), false, true⟩ := by kernel_rfl
@[simp] theorem un235 : (Tryz.prog.underlying 235).isSome = true := by kernel_rfl
@[simp] theorem tf236 : tf Tryz.prog 236 = some ⟨1, 8, (some [.nilFunc]), false, true⟩ := by kernel_rfl
@[simp] theorem un236 : (Tryz.prog.underlying 236).isSome = true := by kernel_rfl
@[simp] theorem tf237 : tf Tryz.prog 237 = some ⟨1, 8, (some [.nilFunc]), false, true⟩ := by kernel_rfl
@[simp] theorem un237 : (Tryz.prog.underlying 237).isSome = true := by kernel_rfl
@[simp] theorem tf238 : tf Tryz.prog 238 = some ⟨1, 8, (some [.nilFunc]), false, true⟩ := by kernel_rfl
@[simp] theorem un238 : (Tryz.prog.underlying 238).isSome = true := by kernel_rfl
@[simp] theorem tf239 : tf Tryz.prog 239 = some ⟨1, 8, (some [.nilFunc]), false, true⟩ := by kernel_rfl
@[simp] theorem un239 : (Tryz.prog.underlying 239).isSome = true := by kernel_rfl
@[simp] theorem tf240 : tf Tryz.prog 240 = some ⟨1, 8, (some [.nilFunc]), false, true⟩ := by kernel_rfl
@[simp] theorem un240 : (Tryz.prog.underlying 240).isSome = true := by kernel_rfl
@[simp] theorem tf241 : tf Tryz.prog 241 = some ⟨4, 40, (some [.pointer none, .pointer none, .pointer none, .string ⟨#[]⟩]), true, true⟩ := by kernel_rfl
@[simp] theorem un241 : (Tryz.prog.underlying 241).isSome = true := by kernel_rfl
@[simp] theorem fo241_0 : fieldT Tryz.prog 241 0 = some 0 := by kernel_rfl
@[simp] theorem fo241_1 : fieldT Tryz.prog 241 1 = some 1 := by kernel_rfl
@[simp] theorem fo241_2 : fieldT Tryz.prog 241 2 = some 2 := by kernel_rfl
@[simp] theorem fo241_3 : fieldT Tryz.prog 241 3 = some 3 := by kernel_rfl
@[simp] theorem pa241 : partsT Tryz.prog 241 = some [(0, 1), (1, 1), (2, 1), (3, 1)] := by kernel_rfl
@[simp] theorem tf242 : tf Tryz.prog 242 = some ⟨4, 40, (some [.pointer none, .pointer none, .pointer none, .string ⟨#[]⟩]), true, true⟩ := by kernel_rfl
@[simp] theorem un242 : (Tryz.prog.underlying 242).isSome = true := by kernel_rfl
@[simp] theorem fo242_0 : fieldT Tryz.prog 242 0 = some 0 := by kernel_rfl
@[simp] theorem fo242_1 : fieldT Tryz.prog 242 1 = some 1 := by kernel_rfl
@[simp] theorem fo242_2 : fieldT Tryz.prog 242 2 = some 2 := by kernel_rfl
@[simp] theorem fo242_3 : fieldT Tryz.prog 242 3 = some 3 := by kernel_rfl
@[simp] theorem pa242 : partsT Tryz.prog 242 = some [(0, 1), (1, 1), (2, 1), (3, 1)] := by kernel_rfl
@[simp] theorem tf243 : tf Tryz.prog 243 = some ⟨0, 0, (some []), true, true⟩ := by kernel_rfl
@[simp] theorem un243 : (Tryz.prog.underlying 243).isSome = true := by kernel_rfl
@[simp] theorem tf244 : tf Tryz.prog 244 = some ⟨0, 0, (some []), true, true⟩ := by kernel_rfl
@[simp] theorem un244 : (Tryz.prog.underlying 244).isSome = true := by kernel_rfl
@[simp] theorem pa244 : partsT Tryz.prog 244 = some [(0, 0)] := by kernel_rfl
@[simp] theorem tf245 : tf Tryz.prog 245 = some ⟨0, 0, (some []), true, true⟩ := by kernel_rfl
@[simp] theorem un245 : (Tryz.prog.underlying 245).isSome = true := by kernel_rfl
@[simp] theorem pa245 : partsT Tryz.prog 245 = some [(0, 0)] := by kernel_rfl
@[simp] theorem tf246 : tf Tryz.prog 246 = some ⟨1, 1, (some [.int .u8 0]), false, true⟩ := by kernel_rfl
@[simp] theorem it246 : intT Tryz.prog 246 = some .u8 := by kernel_rfl
@[simp] theorem un246 : (Tryz.prog.underlying 246).isSome = true := by kernel_rfl
@[simp] theorem tf247 : tf Tryz.prog 247 = some ⟨1, 1, (some [.int .u8 0]), false, true⟩ := by kernel_rfl
@[simp] theorem it247 : intT Tryz.prog 247 = some .u8 := by kernel_rfl
@[simp] theorem un247 : (Tryz.prog.underlying 247).isSome = true := by kernel_rfl
@[simp] theorem tf248 : tf Tryz.prog 248 = some ⟨1, 8, (some [.nilFunc]), false, true⟩ := by kernel_rfl
@[simp] theorem un248 : (Tryz.prog.underlying 248).isSome = true := by kernel_rfl
@[simp] theorem tf249 : tf Tryz.prog 249 = some ⟨1, 8, (some [.pointer none]), false, true⟩ := by kernel_rfl
@[simp] theorem un249 : (Tryz.prog.underlying 249).isSome = true := by kernel_rfl
@[simp] theorem tf250 : tf Tryz.prog 250 = some ⟨1, 4, (some [.int .i32 0]), false, true⟩ := by kernel_rfl
@[simp] theorem it250 : intT Tryz.prog 250 = some .i32 := by kernel_rfl
@[simp] theorem un250 : (Tryz.prog.underlying 250).isSome = true := by kernel_rfl
@[simp] theorem tf251 : tf Tryz.prog 251 = some ⟨1, 4, (some [.int .i32 0]), false, true⟩ := by kernel_rfl
@[simp] theorem it251 : intT Tryz.prog 251 = some .i32 := by kernel_rfl
@[simp] theorem un251 : (Tryz.prog.underlying 251).isSome = true := by kernel_rfl
@[simp] theorem tf252 : tf Tryz.prog 252 = some ⟨11, 48, (some [.int .u64 0, .int .u64 0, .int .u32 0, .int .u8 0, .int .u8 0, .int .u8 0, .int .u8 0, .nilFunc, .pointer none, .int .i32 0, .int .i32 0]), true, true⟩ := by kernel_rfl
@[simp] theorem un252 : (Tryz.prog.underlying 252).isSome = true := by kernel_rfl
@[simp] theorem fo252_0 : fieldT Tryz.prog 252 0 = some 0 := by kernel_rfl
@[simp] theorem fo252_1 : fieldT Tryz.prog 252 1 = some 1 := by kernel_rfl
@[simp] theorem fo252_2 : fieldT Tryz.prog 252 2 = some 2 := by kernel_rfl
@[simp] theorem fo252_3 : fieldT Tryz.prog 252 3 = some 3 := by kernel_rfl
@[simp] theorem fo252_4 : fieldT Tryz.prog 252 4 = some 4 := by kernel_rfl
@[simp] theorem fo252_5 : fieldT Tryz.prog 252 5 = some 5 := by kernel_rfl
@[simp] theorem fo252_6 : fieldT Tryz.prog 252 6 = some 6 := by kernel_rfl
@[simp] theorem fo252_7 : fieldT Tryz.prog 252 7 = some 7 := by kernel_rfl
@[simp] theorem fo252_8 : fieldT Tryz.prog 252 8 = some 8 := by kernel_rfl
@[simp] theorem fo252_9 : fieldT Tryz.prog 252 9 = some 9 := by kernel_rfl
@[simp] theorem fo252_10 : fieldT Tryz.prog 252 10 = some 10 := by kernel_rfl
@[simp] theorem pa252 : partsT Tryz.prog 252 = some [(0, 1), (1, 1), (2, 1), (3, 1), (4, 1), (5, 1), (6, 1), (7, 1), (8, 1), (9, 1), (10, 1)] := by kernel_rfl
@[simp] theorem tf253 : tf Tryz.prog 253 = some ⟨11, 48, (some [.int .u64 0, .int .u64 0, .int .u32 0, .int .u8 0, .int .u8 0, .int .u8 0, .int .u8 0, .nilFunc, .pointer none, .int .i32 0, .int .i32 0]), true, true⟩ := by kernel_rfl
@[simp] theorem un253 : (Tryz.prog.underlying 253).isSome = true := by kernel_rfl
@[simp] theorem fo253_0 : fieldT Tryz.prog 253 0 = some 0 := by kernel_rfl
@[simp] theorem fo253_1 : fieldT Tryz.prog 253 1 = some 1 := by kernel_rfl
@[simp] theorem fo253_2 : fieldT Tryz.prog 253 2 = some 2 := by kernel_rfl
@[simp] theorem fo253_3 : fieldT Tryz.prog 253 3 = some 3 := by kernel_rfl
@[simp] theorem fo253_4 : fieldT Tryz.prog 253 4 = some 4 := by kernel_rfl
@[simp] theorem fo253_5 : fieldT Tryz.prog 253 5 = some 5 := by kernel_rfl
@[simp] theorem fo253_6 : fieldT Tryz.prog 253 6 = some 6 := by kernel_rfl
@[simp] theorem fo253_7 : fieldT Tryz.prog 253 7 = some 7 := by kernel_rfl
@[simp] theorem fo253_8 : fieldT Tryz.prog 253 8 = some 8 := by kernel_rfl
@[simp] theorem fo253_9 : fieldT Tryz.prog 253 9 = some 9 := by kernel_rfl
@[simp] theorem fo253_10 : fieldT Tryz.prog 253 10 = some 10 := by kernel_rfl
@[simp] theorem pa253 : partsT Tryz.prog 253 = some [(0, 1), (1, 1), (2, 1), (3, 1), (4, 1), (5, 1), (6, 1), (7, 1), (8, 1), (9, 1), (10, 1)] := by kernel_rfl
@[simp] theorem tf254 : tf Tryz.prog 254 = some ⟨1, 8, (some [.nilFunc]), false, true⟩ := by kernel_rfl
@[simp] theorem un254 : (Tryz.prog.underlying 254).isSome = true := by kernel_rfl
@[simp] theorem tf255 : tf Tryz.prog 255 = some ⟨1, 8, (some [.pointer none]), false, true⟩ := by kernel_rfl
@[simp] theorem un255 : (Tryz.prog.underlying 255).isSome = true := by kernel_rfl
@[simp] theorem nt2 : Tryz.f2.ntmps = 1 := by kernel_rfl
@[simp] theorem rs2 : Tryz.f2.results.toList = [] := by kernel_rfl
@[simp] theorem nt3 : Tryz.f3.ntmps = 70 := by kernel_rfl
@[simp] theorem rs3 : Tryz.f3.results.toList = [.tmp 6] := by kernel_rfl
@[simp] theorem nt4 : Tryz.f4.ntmps = 64 := by kernel_rfl
@[simp] theorem rs4 : Tryz.f4.results.toList = [.tmp 6] := by kernel_rfl
@[simp] theorem nt5 : Tryz.f5.ntmps = 83 := by kernel_rfl
@[simp] theorem rs5 : Tryz.f5.results.toList = [.tmp 8] := by kernel_rfl
@[simp] theorem nt6 : Tryz.f6.ntmps = 154 := by kernel_rfl
@[simp] theorem rs6 : Tryz.f6.results.toList = [.tmp 4] := by kernel_rfl
@[simp] theorem nt7 : Tryz.f7.ntmps = 89 := by kernel_rfl
@[simp] theorem rs7 : Tryz.f7.results.toList = [.tmp 8] := by kernel_rfl
@[simp] theorem nt8 : Tryz.f8.ntmps = 49 := by kernel_rfl
@[simp] theorem rs8 : Tryz.f8.results.toList = [.tmp 6] := by kernel_rfl
@[simp] theorem nt9 : Tryz.f9.ntmps = 56 := by kernel_rfl
@[simp] theorem rs9 : Tryz.f9.results.toList = [.tmp 2] := by kernel_rfl
@[simp] theorem nt10 : Tryz.f10.ntmps = 77 := by kernel_rfl
@[simp] theorem rs10 : Tryz.f10.results.toList = [.tmp 4] := by kernel_rfl
@[simp] theorem nt11 : Tryz.f11.ntmps = 72 := by kernel_rfl
@[simp] theorem rs11 : Tryz.f11.results.toList = [.tmp 4] := by kernel_rfl
@[simp] theorem nt12 : Tryz.f12.ntmps = 139 := by kernel_rfl
@[simp] theorem rs12 : Tryz.f12.results.toList = [.tmp 4] := by kernel_rfl
@[simp] theorem nt13 : Tryz.f13.ntmps = 29 := by kernel_rfl
@[simp] theorem rs13 : Tryz.f13.results.toList = [.tmp 0] := by kernel_rfl
@[simp] theorem nt14 : Tryz.f14.ntmps = 31 := by kernel_rfl
@[simp] theorem rs14 : Tryz.f14.results.toList = [.tmp 2, .tmp 3] := by kernel_rfl
@[simp] theorem nt15 : Tryz.f15.ntmps = 26 := by kernel_rfl
@[simp] theorem rs15 : Tryz.f15.results.toList = [.tmp 4] := by kernel_rfl
@[simp] theorem nt16 : Tryz.f16.ntmps = 8 := by kernel_rfl
@[simp] theorem rs16 : Tryz.f16.results.toList = [.tmp 2] := by kernel_rfl
@[simp] theorem nt17 : Tryz.f17.ntmps = 8 := by kernel_rfl
@[simp] theorem rs17 : Tryz.f17.results.toList = [.tmp 2] := by kernel_rfl
@[simp] theorem nt18 : Tryz.f18.ntmps = 8 := by kernel_rfl
@[simp] theorem rs18 : Tryz.f18.results.toList = [.tmp 4] := by kernel_rfl
@[simp] theorem nt19 : Tryz.f19.ntmps = 43 := by kernel_rfl
@[simp] theorem rs19 : Tryz.f19.results.toList = [.tmp 6] := by kernel_rfl
@[simp] theorem nt20 : Tryz.f20.ntmps = 65 := by kernel_rfl
@[simp] theorem rs20 : Tryz.f20.results.toList = [.tmp 2] := by kernel_rfl
@[simp] theorem nt21 : Tryz.f21.ntmps = 42 := by kernel_rfl
@[simp] theorem rs21 : Tryz.f21.results.toList = [.tmp 4] := by kernel_rfl
@[simp] theorem nt22 : Tryz.f22.ntmps = 8 := by kernel_rfl
@[simp] theorem rs22 : Tryz.f22.results.toList = [.tmp 2] := by kernel_rfl
@[simp] theorem nt23 : Tryz.f23.ntmps = 10 := by kernel_rfl
@[simp] theorem rs23 : Tryz.f23.results.toList = [.tmp 3] := by kernel_rfl
@[simp] theorem nt24 : Tryz.f24.ntmps = 13 := by kernel_rfl
@[simp] theorem rs24 : Tryz.f24.results.toList = [] := by kernel_rfl
@[simp] theorem nt25 : Tryz.f25.ntmps = 44 := by kernel_rfl
@[simp] theorem rs25 : Tryz.f25.results.toList = [.tmp 4] := by kernel_rfl
@[simp] theorem nt26 : Tryz.f26.ntmps = 17 := by kernel_rfl
@[simp] theorem rs26 : Tryz.f26.results.toList = [.cell 2 33] := by kernel_rfl
@[simp] theorem nt27 : Tryz.f27.ntmps = 44 := by kernel_rfl
@[simp] theorem rs27 : Tryz.f27.results.toList = [] := by kernel_rfl
@[simp] theorem nt28 : Tryz.f28.ntmps = 33 := by kernel_rfl
@[simp] theorem rs28 : Tryz.f28.results.toList = [] := by kernel_rfl
@[simp] theorem nt29 : Tryz.f29.ntmps = 25 := by kernel_rfl
@[simp] theorem rs29 : Tryz.f29.results.toList = [] := by kernel_rfl
@[simp] theorem nt30 : Tryz.f30.ntmps = 17 := by kernel_rfl
@[simp] theorem rs30 : Tryz.f30.results.toList = [.tmp 2] := by kernel_rfl
@[simp] theorem nt31 : Tryz.f31.ntmps = 10 := by kernel_rfl
@[simp] theorem rs31 : Tryz.f31.results.toList = [.tmp 3] := by kernel_rfl
@[simp] theorem nt32 : Tryz.f32.ntmps = 10 := by kernel_rfl
@[simp] theorem rs32 : Tryz.f32.results.toList = [.tmp 3] := by kernel_rfl
@[simp] theorem nt33 : Tryz.f33.ntmps = 32 := by kernel_rfl
@[simp] theorem rs33 : Tryz.f33.results.toList = [.tmp 4] := by kernel_rfl
@[simp] theorem nt34 : Tryz.f34.ntmps = 10 := by kernel_rfl
@[simp] theorem rs34 : Tryz.f34.results.toList = [.tmp 4] := by kernel_rfl
@[simp] theorem nt35 : Tryz.f35.ntmps = 17 := by kernel_rfl
@[simp] theorem rs35 : Tryz.f35.results.toList = [.tmp 0] := by kernel_rfl
@[simp] theorem nt36 : Tryz.f36.ntmps = 47 := by kernel_rfl
@[simp] theorem rs36 : Tryz.f36.results.toList = [.tmp 6] := by kernel_rfl
@[simp] theorem nt37 : Tryz.f37.ntmps = 30 := by kernel_rfl
@[simp] theorem rs37 : Tryz.f37.results.toList = [.cell 2 68] := by kernel_rfl
@[simp] theorem nt38 : Tryz.f38.ntmps = 33 := by kernel_rfl
@[simp] theorem rs38 : Tryz.f38.results.toList = [.tmp 4] := by kernel_rfl
@[simp] theorem nt39 : Tryz.f39.ntmps = 15 := by kernel_rfl
@[simp] theorem rs39 : Tryz.f39.results.toList = [.tmp 2] := by kernel_rfl
@[simp] theorem nt40 : Tryz.f40.ntmps = 63 := by kernel_rfl
@[simp] theorem rs40 : Tryz.f40.results.toList = [.tmp 8] := by kernel_rfl
@[simp] theorem nt41 : Tryz.f41.ntmps = 54 := by kernel_rfl
@[simp] theorem rs41 : Tryz.f41.results.toList = [.cell 4 68, .tmp 5] := by kernel_rfl
@[simp] theorem nt42 : Tryz.f42.ntmps = 11 := by kernel_rfl
@[simp] theorem rs42 : Tryz.f42.results.toList = [] := by kernel_rfl
@[simp] theorem nt43 : Tryz.f43.ntmps = 61 := by kernel_rfl
@[simp] theorem rs43 : Tryz.f43.results.toList = [.tmp 2] := by kernel_rfl
@[simp] theorem nt44 : Tryz.f44.ntmps = 26 := by kernel_rfl
@[simp] theorem rs44 : Tryz.f44.results.toList = [.tmp 4] := by kernel_rfl
@[simp] theorem nt45 : Tryz.f45.ntmps = 49 := by kernel_rfl
@[simp] theorem rs45 : Tryz.f45.results.toList = [.tmp 4] := by kernel_rfl
@[simp] theorem nt46 : Tryz.f46.ntmps = 37 := by kernel_rfl
@[simp] theorem rs46 : Tryz.f46.results.toList = [.tmp 0] := by kernel_rfl
@[simp] theorem nt47 : Tryz.f47.ntmps = 8 := by kernel_rfl
@[simp] theorem rs47 : Tryz.f47.results.toList = [.tmp 2] := by kernel_rfl
@[simp] theorem nt48 : Tryz.f48.ntmps = 26 := by kernel_rfl
@[simp] theorem rs48 : Tryz.f48.results.toList = [.tmp 4] := by kernel_rfl
@[simp] theorem nt49 : Tryz.f49.ntmps = 42 := by kernel_rfl
@[simp] theorem rs49 : Tryz.f49.results.toList = [.tmp 4] := by kernel_rfl
@[simp] theorem nt50 : Tryz.f50.ntmps = 8 := by kernel_rfl
@[simp] theorem rs50 : Tryz.f50.results.toList = [.tmp 2] := by kernel_rfl
@[simp] theorem nt51 : Tryz.f51.ntmps = 8 := by kernel_rfl
@[simp] theorem rs51 : Tryz.f51.results.toList = [.tmp 2] := by kernel_rfl
@[simp] theorem nt52 : Tryz.f52.ntmps = 14 := by kernel_rfl
@[simp] theorem rs52 : Tryz.f52.results.toList = [] := by kernel_rfl
@[simp] theorem nt53 : Tryz.f53.ntmps = 17 := by kernel_rfl
@[simp] theorem rs53 : Tryz.f53.results.toList = [.tmp 4] := by kernel_rfl
@[simp] theorem nt54 : Tryz.f54.ntmps = 19 := by kernel_rfl
@[simp] theorem rs54 : Tryz.f54.results.toList = [.tmp 4] := by kernel_rfl
@[simp] theorem nt55 : Tryz.f55.ntmps = 42 := by kernel_rfl
@[simp] theorem rs55 : Tryz.f55.results.toList = [.tmp 4] := by kernel_rfl
@[simp] theorem nt56 : Tryz.f56.ntmps = 8 := by kernel_rfl
@[simp] theorem rs56 : Tryz.f56.results.toList = [.tmp 3] := by kernel_rfl
@[simp] theorem nt57 : Tryz.f57.ntmps = 8 := by kernel_rfl
@[simp] theorem rs57 : Tryz.f57.results.toList = [.tmp 2] := by kernel_rfl
@[simp] theorem nt58 : Tryz.f58.ntmps = 19 := by kernel_rfl
@[simp] theorem rs58 : Tryz.f58.results.toList = [.cell 4 31, .cell 5 31] := by kernel_rfl
@[simp] theorem nt59 : Tryz.f59.ntmps = 42 := by kernel_rfl
@[simp] theorem rs59 : Tryz.f59.results.toList = [.tmp 4] := by kernel_rfl
@[simp] theorem nt60 : Tryz.f60.ntmps = 31 := by kernel_rfl
@[simp] theorem rs60 : Tryz.f60.results.toList = [.cell 2 31] := by kernel_rfl
@[simp] theorem nt61 : Tryz.f61.ntmps = 19 := by kernel_rfl
@[simp] theorem rs61 : Tryz.f61.results.toList = [.cell 4 31] := by kernel_rfl
@[simp] theorem nt62 : Tryz.f62.ntmps = 10 := by kernel_rfl
@[simp] theorem rs62 : Tryz.f62.results.toList = [] := by kernel_rfl
@[simp] theorem nt63 : Tryz.f63.ntmps = 19 := by kernel_rfl
@[simp] theorem rs63 : Tryz.f63.results.toList = [.cell 4 31] := by kernel_rfl
@[simp] theorem nt64 : Tryz.f64.ntmps = 17 := by kernel_rfl
@[simp] theorem rs64 : Tryz.f64.results.toList = [.cell 4 31] := by kernel_rfl
@[simp] theorem nt65 : Tryz.f65.ntmps = 134 := by kernel_rfl
@[simp] theorem rs65 : Tryz.f65.results.toList = [] := by kernel_rfl
@[simp] theorem nt66 : Tryz.f66.ntmps = 8 := by kernel_rfl
@[simp] theorem rs66 : Tryz.f66.results.toList = [.tmp 2] := by kernel_rfl
@[simp] theorem nt67 : Tryz.f67.ntmps = 54 := by kernel_rfl
@[simp] theorem rs67 : Tryz.f67.results.toList = [.tmp 4, .tmp 5] := by kernel_rfl
@[simp] theorem nt68 : Tryz.f68.ntmps = 20 := by kernel_rfl
@[simp] theorem rs68 : Tryz.f68.results.toList = [.cell 6 68] := by kernel_rfl
@[simp] theorem nt69 : Tryz.f69.ntmps = 34 := by kernel_rfl
@[simp] theorem rs69 : Tryz.f69.results.toList = [.tmp 0] := by kernel_rfl
@[simp] theorem nt70 : Tryz.f70.ntmps = 42 := by kernel_rfl
@[simp] theorem rs70 : Tryz.f70.results.toList = [.tmp 2, .tmp 3] := by kernel_rfl
@[simp] theorem nt71 : Tryz.f71.ntmps = 8 := by kernel_rfl
@[simp] theorem rs71 : Tryz.f71.results.toList = [.tmp 6] := by kernel_rfl
@[simp] theorem nt72 : Tryz.f72.ntmps = 4 := by kernel_rfl
@[simp] theorem rs72 : Tryz.f72.results.toList = [.tmp 2] := by kernel_rfl
@[simp] theorem nt73 : Tryz.f73.ntmps = 34 := by kernel_rfl
@[simp] theorem rs73 : Tryz.f73.results.toList = [.cell 6 124, .tmp 7] := by kernel_rfl
@[simp] theorem nt74 : Tryz.f74.ntmps = 19 := by kernel_rfl
@[simp] theorem rs74 : Tryz.f74.results.toList = [.tmp 4] := by kernel_rfl
@[simp] theorem nt75 : Tryz.f75.ntmps = 148 := by kernel_rfl
@[simp] theorem rs75 : Tryz.f75.results.toList = [] := by kernel_rfl
@[simp] theorem nt76 : Tryz.f76.ntmps = 19 := by kernel_rfl
@[simp] theorem rs76 : Tryz.f76.results.toList = [.tmp 4] := by kernel_rfl
@[simp] theorem nt77 : Tryz.f77.ntmps = 7 := by kernel_rfl
@[simp] theorem rs77 : Tryz.f77.results.toList = [.cell 2 31] := by kernel_rfl
@[simp] theorem nt78 : Tryz.f78.ntmps = 19 := by kernel_rfl
@[simp] theorem rs78 : Tryz.f78.results.toList = [.tmp 4] := by kernel_rfl
@[simp] theorem nt79 : Tryz.f79.ntmps = 6 := by kernel_rfl
@[simp] theorem rs79 : Tryz.f79.results.toList = [.tmp 2] := by kernel_rfl
@[simp] theorem nt80 : Tryz.f80.ntmps = 49 := by kernel_rfl
@[simp] theorem rs80 : Tryz.f80.results.toList = [] := by kernel_rfl
@[simp] theorem nt81 : Tryz.f81.ntmps = 56 := by kernel_rfl
@[simp] theorem rs81 : Tryz.f81.results.toList = [] := by kernel_rfl
@[simp] theorem nt82 : Tryz.f82.ntmps = 65 := by kernel_rfl
@[simp] theorem rs82 : Tryz.f82.results.toList = [] := by kernel_rfl
@[simp] theorem nt83 : Tryz.f83.ntmps = 57 := by kernel_rfl
@[simp] theorem rs83 : Tryz.f83.results.toList = [.tmp 6, .tmp 7] := by kernel_rfl
@[simp] theorem nt84 : Tryz.f84.ntmps = 32 := by kernel_rfl
@[simp] theorem rs84 : Tryz.f84.results.toList = [] := by kernel_rfl
@[simp] theorem nt85 : Tryz.f85.ntmps = 133 := by kernel_rfl
@[simp] theorem rs85 : Tryz.f85.results.toList = [.tmp 6] := by kernel_rfl
@[simp] theorem nt86 : Tryz.f86.ntmps = 17 := by kernel_rfl
@[simp] theorem rs86 : Tryz.f86.results.toList = [.tmp 4] := by kernel_rfl
@[simp] theorem nt87 : Tryz.f87.ntmps = 84 := by kernel_rfl
@[simp] theorem rs87 : Tryz.f87.results.toList = [.tmp 8] := by kernel_rfl
@[simp] theorem nt88 : Tryz.f88.ntmps = 168 := by kernel_rfl
@[simp] theorem rs88 : Tryz.f88.results.toList = [.tmp 8, .tmp 9] := by kernel_rfl
@[simp] theorem nt89 : Tryz.f89.ntmps = 19 := by kernel_rfl
@[simp] theorem rs89 : Tryz.f89.results.toList = [.tmp 2] := by kernel_rfl
@[simp] theorem nt90 : Tryz.f90.ntmps = 25 := by kernel_rfl
@[simp] theorem rs90 : Tryz.f90.results.toList = [.tmp 2] := by kernel_rfl
@[simp] theorem nt91 : Tryz.f91.ntmps = 6 := by kernel_rfl
@[simp] theorem rs91 : Tryz.f91.results.toList = [.tmp 2] := by kernel_rfl
@[simp] theorem nt92 : Tryz.f92.ntmps = 36 := by kernel_rfl
@[simp] theorem rs92 : Tryz.f92.results.toList = [.tmp 0] := by kernel_rfl
@[simp] theorem nt93 : Tryz.f93.ntmps = 18 := by kernel_rfl
@[simp] theorem rs93 : Tryz.f93.results.toList = [.tmp 2] := by kernel_rfl
@[simp] theorem nt94 : Tryz.f94.ntmps = 32 := by kernel_rfl
@[simp] theorem rs94 : Tryz.f94.results.toList = [.tmp 4] := by kernel_rfl
@[simp] theorem nt95 : Tryz.f95.ntmps = 3 := by kernel_rfl
@[simp] theorem rs95 : Tryz.f95.results.toList = [.tmp 0] := by kernel_rfl
@[simp] theorem nt96 : Tryz.f96.ntmps = 48 := by kernel_rfl
@[simp] theorem rs96 : Tryz.f96.results.toList = [] := by kernel_rfl
@[simp] theorem nt97 : Tryz.f97.ntmps = 19 := by kernel_rfl
@[simp] theorem rs97 : Tryz.f97.results.toList = [.cell 2 124] := by kernel_rfl
@[simp] theorem nt98 : Tryz.f98.ntmps = 57 := by kernel_rfl
@[simp] theorem rs98 : Tryz.f98.results.toList = [] := by kernel_rfl
@[simp] theorem nt99 : Tryz.f99.ntmps = 49 := by kernel_rfl
@[simp] theorem rs99 : Tryz.f99.results.toList = [.tmp 6, .tmp 7] := by kernel_rfl
@[simp] theorem nt100 : Tryz.f100.ntmps = 15 := by kernel_rfl
@[simp] theorem rs100 : Tryz.f100.results.toList = [.tmp 4] := by kernel_rfl
@[simp] theorem nt101 : Tryz.f101.ntmps = 8 := by kernel_rfl
@[simp] theorem rs101 : Tryz.f101.results.toList = [.tmp 2] := by kernel_rfl
@[simp] theorem nt102 : Tryz.f102.ntmps = 23 := by kernel_rfl
@[simp] theorem rs102 : Tryz.f102.results.toList = [] := by kernel_rfl
@[simp] theorem nt103 : Tryz.f103.ntmps = 25 := by kernel_rfl
@[simp] theorem rs103 : Tryz.f103.results.toList = [.cell 4 124, .tmp 5] := by kernel_rfl
@[simp] theorem nt104 : Tryz.f104.ntmps = 53 := by kernel_rfl
@[simp] theorem rs104 : Tryz.f104.results.toList = [] := by kernel_rfl
@[simp] theorem nt105 : Tryz.f105.ntmps = 60 := by kernel_rfl
@[simp] theorem rs105 : Tryz.f105.results.toList = [] := by kernel_rfl
@[simp] theorem nt106 : Tryz.f106.ntmps = 67 := by kernel_rfl
@[simp] theorem rs106 : Tryz.f106.results.toList = [] := by kernel_rfl
@[simp] theorem nt107 : Tryz.f107.ntmps = 63 := by kernel_rfl
@[simp] theorem rs107 : Tryz.f107.results.toList = [.tmp 8, .tmp 9] := by kernel_rfl
@[simp] theorem nt108 : Tryz.f108.ntmps = 34 := by kernel_rfl
@[simp] theorem rs108 : Tryz.f108.results.toList = [] := by kernel_rfl
@[simp] theorem nt109 : Tryz.f109.ntmps = 141 := by kernel_rfl
@[simp] theorem rs109 : Tryz.f109.results.toList = [.tmp 8] := by kernel_rfl
@[simp] theorem nt110 : Tryz.f110.ntmps = 90 := by kernel_rfl
@[simp] theorem rs110 : Tryz.f110.results.toList = [.tmp 10] := by kernel_rfl
@[simp] theorem nt111 : Tryz.f111.ntmps = 178 := by kernel_rfl
@[simp] theorem rs111 : Tryz.f111.results.toList = [.tmp 10, .tmp 11] := by kernel_rfl
@[simp] theorem nt112 : Tryz.f112.ntmps = 76 := by kernel_rfl
@[simp] theorem rs112 : Tryz.f112.results.toList = [] := by kernel_rfl
@[simp] theorem nt113 : Tryz.f113.ntmps = 7 := by kernel_rfl
@[simp] theorem rs113 : Tryz.f113.results.toList = [.tmp 2] := by kernel_rfl
@[simp] theorem nt114 : Tryz.f114.ntmps = 33 := by kernel_rfl
@[simp] theorem rs114 : Tryz.f114.results.toList = [.tmp 2] := by kernel_rfl
@[simp] theorem nt115 : Tryz.f115.ntmps = 15 := by kernel_rfl
@[simp] theorem rs115 : Tryz.f115.results.toList = [.tmp 6] := by kernel_rfl
@[simp] theorem nt116 : Tryz.f116.ntmps = 36 := by kernel_rfl
@[simp] theorem rs116 : Tryz.f116.results.toList = [.tmp 10] := by kernel_rfl
@[simp] theorem nt117 : Tryz.f117.ntmps = 6 := by kernel_rfl
@[simp] theorem rs117 : Tryz.f117.results.toList = [.tmp 2] := by kernel_rfl
@[simp] theorem nt118 : Tryz.f118.ntmps = 13 := by kernel_rfl
@[simp] theorem rs118 : Tryz.f118.results.toList = [.tmp 0] := by kernel_rfl
@[simp] theorem nt119 : Tryz.f119.ntmps = 6 := by kernel_rfl
@[simp] theorem rs119 : Tryz.f119.results.toList = [.tmp 2] := by kernel_rfl
@[simp] theorem nt120 : Tryz.f120.ntmps = 51 := by kernel_rfl
@[simp] theorem rs120 : Tryz.f120.results.toList = [.tmp 4, .tmp 5, .tmp 6] := by kernel_rfl
@[simp] theorem nt121 : Tryz.f121.ntmps = 29 := by kernel_rfl
@[simp] theorem rs121 : Tryz.f121.results.toList = [.tmp 4] := by kernel_rfl
@[simp] theorem nt122 : Tryz.f122.ntmps = 19 := by kernel_rfl
@[simp] theorem rs122 : Tryz.f122.results.toList = [.tmp 2] := by kernel_rfl
@[simp] theorem nt123 : Tryz.f123.ntmps = 28 := by kernel_rfl
@[simp] theorem rs123 : Tryz.f123.results.toList = [.tmp 4] := by kernel_rfl
@[simp] theorem nt124 : Tryz.f124.ntmps = 49 := by kernel_rfl
@[simp] theorem rs124 : Tryz.f124.results.toList = [.tmp 6, .tmp 7] := by kernel_rfl
@[simp] theorem nt125 : Tryz.f125.ntmps = 15 := by kernel_rfl
@[simp] theorem rs125 : Tryz.f125.results.toList = [.tmp 4] := by kernel_rfl
@[simp] theorem nt126 : Tryz.f126.ntmps = 95 := by kernel_rfl
@[simp] theorem rs126 : Tryz.f126.results.toList = [.tmp 6] := by kernel_rfl
@[simp] theorem nt127 : Tryz.f127.ntmps = 82 := by kernel_rfl
@[simp] theorem rs127 : Tryz.f127.results.toList = [] := by kernel_rfl
@[simp] theorem nt128 : Tryz.f128.ntmps = 18 := by kernel_rfl
@[simp] theorem rs128 : Tryz.f128.results.toList = [.tmp 8] := by kernel_rfl
@[simp] theorem nt129 : Tryz.f129.ntmps = 41 := by kernel_rfl
@[simp] theorem rs129 : Tryz.f129.results.toList = [.tmp 12] := by kernel_rfl
@[simp] theorem nt130 : Tryz.f130.ntmps = 28 := by kernel_rfl
@[simp] theorem rs130 : Tryz.f130.results.toList = [.tmp 8, .tmp 9] := by kernel_rfl
@[simp] theorem nt131 : Tryz.f131.ntmps = 9 := by kernel_rfl
@[simp] theorem rs131 : Tryz.f131.results.toList = [.tmp 0] := by kernel_rfl
@[simp] theorem nt132 : Tryz.f132.ntmps = 30 := by kernel_rfl
@[simp] theorem rs132 : Tryz.f132.results.toList = [.tmp 2] := by kernel_rfl
@[simp] theorem nt133 : Tryz.f133.ntmps = 14 := by kernel_rfl
@[simp] theorem rs133 : Tryz.f133.results.toList = [.tmp 2] := by kernel_rfl
@[simp] theorem nt134 : Tryz.f134.ntmps = 10 := by kernel_rfl
@[simp] theorem rs134 : Tryz.f134.results.toList = [.tmp 4] := by kernel_rfl
@[simp] theorem nt135 : Tryz.f135.ntmps = 6 := by kernel_rfl
@[simp] theorem rs135 : Tryz.f135.results.toList = [.tmp 2] := by kernel_rfl
@[simp] theorem nt136 : Tryz.f136.ntmps = 24 := by kernel_rfl
@[simp] theorem rs136 : Tryz.f136.results.toList = [.tmp 4, .tmp 5] := by kernel_rfl
@[simp] theorem nt137 : Tryz.f137.ntmps = 55 := by kernel_rfl
@[simp] theorem rs137 : Tryz.f137.results.toList = [.tmp 2, .tmp 3] := by kernel_rfl
@[simp] theorem nt138 : Tryz.f138.ntmps = 21 := by kernel_rfl
@[simp] theorem rs138 : Tryz.f138.results.toList = [.tmp 4] := by kernel_rfl
@[simp] theorem nt139 : Tryz.f139.ntmps = 52 := by kernel_rfl
@[simp] theorem rs139 : Tryz.f139.results.toList = [.tmp 6] := by kernel_rfl
@[simp] theorem nt140 : Tryz.f140.ntmps = 52 := by kernel_rfl
@[simp] theorem rs140 : Tryz.f140.results.toList = [.tmp 6] := by kernel_rfl
@[simp] theorem nt141 : Tryz.f141.ntmps = 31 := by kernel_rfl
@[simp] theorem rs141 : Tryz.f141.results.toList = [.tmp 4] := by kernel_rfl
@[simp] theorem nt142 : Tryz.f142.ntmps = 95 := by kernel_rfl
@[simp] theorem rs142 : Tryz.f142.results.toList = [.tmp 6] := by kernel_rfl
@[simp] theorem nt144 : Tryz.f144.ntmps = 10 := by kernel_rfl
@[simp] theorem rs144 : Tryz.f144.results.toList = [] := by kernel_rfl
@[simp] theorem nt145 : Tryz.f145.ntmps = 32 := by kernel_rfl
@[simp] theorem rs145 : Tryz.f145.results.toList = [.tmp 10, .tmp 11] := by kernel_rfl
@[simp] theorem nt146 : Tryz.f146.ntmps = 36 := by kernel_rfl
@[simp] theorem rs146 : Tryz.f146.results.toList = [.tmp 0] := by kernel_rfl
@[simp] theorem nt147 : Tryz.f147.ntmps = 31 := by kernel_rfl
@[simp] theorem rs147 : Tryz.f147.results.toList = [] := by kernel_rfl
@[simp] theorem nt148 : Tryz.f148.ntmps = 26 := by kernel_rfl
@[simp] theorem rs148 : Tryz.f148.results.toList = [.tmp 4] := by kernel_rfl
@[simp] theorem nt149 : Tryz.f149.ntmps = 19 := by kernel_rfl
@[simp] theorem rs149 : Tryz.f149.results.toList = [.tmp 4] := by kernel_rfl
@[simp] theorem nt150 : Tryz.f150.ntmps = 8 := by kernel_rfl
@[simp] theorem rs150 : Tryz.f150.results.toList = [.tmp 2] := by kernel_rfl
@[simp] theorem nt151 : Tryz.f151.ntmps = 25 := by kernel_rfl
@[simp] theorem rs151 : Tryz.f151.results.toList = [.tmp 2] := by kernel_rfl
@[simp] theorem nt152 : Tryz.f152.ntmps = 27 := by kernel_rfl
@[simp] theorem rs152 : Tryz.f152.results.toList = [] := by kernel_rfl
@[simp] theorem nt153 : Tryz.f153.ntmps = 23 := by kernel_rfl
@[simp] theorem rs153 : Tryz.f153.results.toList = [.tmp 2] := by kernel_rfl
@[simp] theorem nt155 : Tryz.f155.ntmps = 10 := by kernel_rfl
@[simp] theorem rs155 : Tryz.f155.results.toList = [] := by kernel_rfl
@[simp] theorem nt156 : Tryz.f156.ntmps = 14 := by kernel_rfl
@[simp] theorem rs156 : Tryz.f156.results.toList = [] := by kernel_rfl
@[simp] theorem nt157 : Tryz.f157.ntmps = 20 := by kernel_rfl
@[simp] theorem rs157 : Tryz.f157.results.toList = [.tmp 0] := by kernel_rfl
@[simp] theorem nt158 : Tryz.f158.ntmps = 70 := by kernel_rfl
@[simp] theorem rs158 : Tryz.f158.results.toList = [] := by kernel_rfl
@[simp] theorem nt159 : Tryz.f159.ntmps = 5 := by kernel_rfl
@[simp] theorem rs159 : Tryz.f159.results.toList = [.tmp 4] := by kernel_rfl
@[simp] theorem nt160 : Tryz.f160.ntmps = 14 := by kernel_rfl
@[simp] theorem rs160 : Tryz.f160.results.toList = [] := by kernel_rfl
@[simp] theorem nt161 : Tryz.f161.ntmps = 28 := by kernel_rfl
@[simp] theorem rs161 : Tryz.f161.results.toList = [] := by kernel_rfl
@[simp] theorem nt162 : Tryz.f162.ntmps = 18 := by kernel_rfl
@[simp] theorem rs162 : Tryz.f162.results.toList = [.tmp 0] := by kernel_rfl
@[simp] theorem nt163 : Tryz.f163.ntmps = 6 := by kernel_rfl
@[simp] theorem rs163 : Tryz.f163.results.toList = [.cell 2 4] := by kernel_rfl
@[simp] theorem nt164 : Tryz.f164.ntmps = 5 := by kernel_rfl
@[simp] theorem rs164 : Tryz.f164.results.toList = [] := by kernel_rfl
@[simp] theorem nt165 : Tryz.f165.ntmps = 7 := by kernel_rfl
@[simp] theorem rs165 : Tryz.f165.results.toList = [.tmp 2] := by kernel_rfl
@[simp] theorem nt166 : Tryz.f166.ntmps = 0 := by kernel_rfl
@[simp] theorem rs166 : Tryz.f166.results.toList = [] := by kernel_rfl
@[simp] theorem nt167 : Tryz.f167.ntmps = 9 := by kernel_rfl
@[simp] theorem rs167 : Tryz.f167.results.toList = [.tmp 2] := by kernel_rfl
@[simp] theorem nt168 : Tryz.f168.ntmps = 28 := by kernel_rfl
@[simp] theorem rs168 : Tryz.f168.results.toList = [] := by kernel_rfl
@[simp] theorem nt169 : Tryz.f169.ntmps = 21 := by kernel_rfl
@[simp] theorem rs169 : Tryz.f169.results.toList = [.tmp 0] := by kernel_rfl
@[simp] theorem nt170 : Tryz.f170.ntmps = 15 := by kernel_rfl
@[simp] theorem rs170 : Tryz.f170.results.toList = [] := by kernel_rfl
@[simp] theorem nt171 : Tryz.f171.ntmps = 9 := by kernel_rfl
@[simp] theorem rs171 : Tryz.f171.results.toList = [.tmp 2] := by kernel_rfl
@[simp] theorem nt172 : Tryz.f172.ntmps = 4 := by kernel_rfl
@[simp] theorem rs172 : Tryz.f172.results.toList = [.tmp 2] := by kernel_rfl
@[simp] theorem nt173 : Tryz.f173.ntmps = 15 := by kernel_rfl
@[simp] theorem rs173 : Tryz.f173.results.toList = [.tmp 4] := by kernel_rfl
@[simp] theorem nt174 : Tryz.f174.ntmps = 5 := by kernel_rfl
@[simp] theorem rs174 : Tryz.f174.results.toList = [.tmp 2] := by kernel_rfl
@[simp] theorem nt175 : Tryz.f175.ntmps = 14 := by kernel_rfl
@[simp] theorem rs175 : Tryz.f175.results.toList = [] := by kernel_rfl
@[simp] theorem nt176 : Tryz.f176.ntmps = 13 := by kernel_rfl
@[simp] theorem rs176 : Tryz.f176.results.toList = [.tmp 4] := by kernel_rfl
@[simp] theorem nt199 : Tryz.f199.ntmps = 1 := by kernel_rfl
@[simp] theorem rs199 : Tryz.f199.results.toList = [] := by kernel_rfl
attribute [simp] Tryz.func2
attribute [simp] Tryz.func3
attribute [simp] Tryz.func4
attribute [simp] Tryz.func5
attribute [simp] Tryz.func6
attribute [simp] Tryz.func7
attribute [simp] Tryz.func8
attribute [simp] Tryz.func9
attribute [simp] Tryz.func10
attribute [simp] Tryz.func11
attribute [simp] Tryz.func12
attribute [simp] Tryz.func13
attribute [simp] Tryz.func14
attribute [simp] Tryz.func15
attribute [simp] Tryz.func16
attribute [simp] Tryz.func17
attribute [simp] Tryz.func18
attribute [simp] Tryz.func19
attribute [simp] Tryz.func20
attribute [simp] Tryz.func21
attribute [simp] Tryz.func22
attribute [simp] Tryz.func23
attribute [simp] Tryz.func24
attribute [simp] Tryz.func25
attribute [simp] Tryz.func26
attribute [simp] Tryz.func27
attribute [simp] Tryz.func28
attribute [simp] Tryz.func29
attribute [simp] Tryz.func30
attribute [simp] Tryz.func31
attribute [simp] Tryz.func32
attribute [simp] Tryz.func33
attribute [simp] Tryz.func34
attribute [simp] Tryz.func35
attribute [simp] Tryz.func36
attribute [simp] Tryz.func37
attribute [simp] Tryz.func38
attribute [simp] Tryz.func39
attribute [simp] Tryz.func40
attribute [simp] Tryz.func41
attribute [simp] Tryz.func42
attribute [simp] Tryz.func43
attribute [simp] Tryz.func44
attribute [simp] Tryz.func45
attribute [simp] Tryz.func46
attribute [simp] Tryz.func47
attribute [simp] Tryz.func48
attribute [simp] Tryz.func49
attribute [simp] Tryz.func50
attribute [simp] Tryz.func51
attribute [simp] Tryz.func52
attribute [simp] Tryz.func53
attribute [simp] Tryz.func54
attribute [simp] Tryz.func55
attribute [simp] Tryz.func56
attribute [simp] Tryz.func57
attribute [simp] Tryz.func58
attribute [simp] Tryz.func59
attribute [simp] Tryz.func60
attribute [simp] Tryz.func61
attribute [simp] Tryz.func62
attribute [simp] Tryz.func63
attribute [simp] Tryz.func64
attribute [simp] Tryz.func65
attribute [simp] Tryz.func66
attribute [simp] Tryz.func67
attribute [simp] Tryz.func68
attribute [simp] Tryz.func69
attribute [simp] Tryz.func70
attribute [simp] Tryz.func71
attribute [simp] Tryz.func72
attribute [simp] Tryz.func73
attribute [simp] Tryz.func74
attribute [simp] Tryz.func75
attribute [simp] Tryz.func76
attribute [simp] Tryz.func77
attribute [simp] Tryz.func78
attribute [simp] Tryz.func79
attribute [simp] Tryz.func80
attribute [simp] Tryz.func81
attribute [simp] Tryz.func82
attribute [simp] Tryz.func83
attribute [simp] Tryz.func84
attribute [simp] Tryz.func85
attribute [simp] Tryz.func86
attribute [simp] Tryz.func87
attribute [simp] Tryz.func88
attribute [simp] Tryz.func89
attribute [simp] Tryz.func90
attribute [simp] Tryz.func91
attribute [simp] Tryz.func92
attribute [simp] Tryz.func93
attribute [simp] Tryz.func94
attribute [simp] Tryz.func95
attribute [simp] Tryz.func96
attribute [simp] Tryz.func97
attribute [simp] Tryz.func98
attribute [simp] Tryz.func99
attribute [simp] Tryz.func100
attribute [simp] Tryz.func101
attribute [simp] Tryz.func102
attribute [simp] Tryz.func103
attribute [simp] Tryz.func104
attribute [simp] Tryz.func105
attribute [simp] Tryz.func106
attribute [simp] Tryz.func107
attribute [simp] Tryz.func108
attribute [simp] Tryz.func109
attribute [simp] Tryz.func110
attribute [simp] Tryz.func111
attribute [simp] Tryz.func112
attribute [simp] Tryz.func113
attribute [simp] Tryz.func114
attribute [simp] Tryz.func115
attribute [simp] Tryz.func116
attribute [simp] Tryz.func117
attribute [simp] Tryz.func118
attribute [simp] Tryz.func119
attribute [simp] Tryz.func120
attribute [simp] Tryz.func121
attribute [simp] Tryz.func122
attribute [simp] Tryz.func123
attribute [simp] Tryz.func124
attribute [simp] Tryz.func125
attribute [simp] Tryz.func126
attribute [simp] Tryz.func127
attribute [simp] Tryz.func128
attribute [simp] Tryz.func129
attribute [simp] Tryz.func130
attribute [simp] Tryz.func131
attribute [simp] Tryz.func132
attribute [simp] Tryz.func133
attribute [simp] Tryz.func134
attribute [simp] Tryz.func135
attribute [simp] Tryz.func136
attribute [simp] Tryz.func137
attribute [simp] Tryz.func138
attribute [simp] Tryz.func139
attribute [simp] Tryz.func140
attribute [simp] Tryz.func141
attribute [simp] Tryz.func142
attribute [simp] Tryz.func144
attribute [simp] Tryz.func145
attribute [simp] Tryz.func146
attribute [simp] Tryz.func147
attribute [simp] Tryz.func148
attribute [simp] Tryz.func149
attribute [simp] Tryz.func150
attribute [simp] Tryz.func151
attribute [simp] Tryz.func152
attribute [simp] Tryz.func153
attribute [simp] Tryz.func155
attribute [simp] Tryz.func156
attribute [simp] Tryz.func157
attribute [simp] Tryz.func158
attribute [simp] Tryz.func159
attribute [simp] Tryz.func160
attribute [simp] Tryz.func161
attribute [simp] Tryz.func162
attribute [simp] Tryz.func163
attribute [simp] Tryz.func164
attribute [simp] Tryz.func165
attribute [simp] Tryz.func166
attribute [simp] Tryz.func167
attribute [simp] Tryz.func168
attribute [simp] Tryz.func169
attribute [simp] Tryz.func170
attribute [simp] Tryz.func171
attribute [simp] Tryz.func172
attribute [simp] Tryz.func173
attribute [simp] Tryz.func174
attribute [simp] Tryz.func175
attribute [simp] Tryz.func176
attribute [simp] Tryz.func199
end Go.Sm
set_option linter.unusedVariables false
set_option linter.unusedSimpArgs false
namespace Go.Sm
open Go Go.Proofs
set_option maxRecDepth 100000
set_option maxHeartbeats 1000000
attribute [local simp] sliceOp_open3 sliceOp_cap sliceOp_open sliceOp_nil appendOp_K appendOp_N copyOp_K
theorem ins_nil_29 (σ : CSt) (j : Nat) (new : List Value) (hj : j < σ.n) (hg : σ.get j = some (.cells new 124 false)) (hl : new.length = 3) (hc : cokL new = true) :
    W E0 (.fn 142 #[.slice none 0 0, .int .i64 0, .slice (some ⟨j, 0, none⟩) 1 1] none) σ (InsPost σ none 0 124 new 1) := by
  rw [W_fn (fn := Tryz.f142) Tryz.func142 rfl rfl rfl]
  have ht : new.take 3 = new := List.take_of_length_le (by omega)
  simp [wops_cons, hg, hl, hc, ht, appK, appendF]
  refine ⟨σ.n, new, openCap, rfl, by simp, by simp, .inl ⟨by omega, rfl⟩, fun y hy _ => ?_⟩
  simp
  omega
theorem ins_zero_29 (σ : CSt) (i j : Nat) (row new : List Value) (hi : i < σ.n) (hj : j < σ.n) (hij : i ≠ j) (hgi : σ.get i = some (.cells row 124 false)) (hg : σ.get j = some (.cells new 124 false)) (hl : new.length = 3) (hc : cokL new = true) :
    W E0 (.fn 142 #[.slice (some ⟨i, 0, none⟩) 0 0, .int .i64 0, .slice (some ⟨j, 0, none⟩) 1 1] none) σ (InsPost σ none 0 124 new 1) := by
  rw [W_fn (fn := Tryz.f142) Tryz.func142 rfl rfl rfl]
  have ht : new.take 3 = new := List.take_of_length_le (by omega)
  have h0 : (0 : Nat) ≠ openCap := by simp [openCap]
  have h1 : 0 < openCap := by simp [openCap]
  simp [wops_cons, hg, hgi, hl, hc, ht, appK, appendF, sliceC, h0, h1]
  refine ⟨σ.n, new, openCap, rfl, by simp, by simp, .inl ⟨by omega, rfl⟩, fun y hy _ => ?_⟩
  simp
  omega
theorem ins_end_29 (σ : CSt) (i j n k : Nat) (row new : List Value) (hi : i < σ.n) (hj : j < σ.n) (hij : i ≠ j) (hgi : σ.get i = some (.cells row 124 false)) (hg : σ.get j = some (.cells new 124 false)) (hl : new.length = 3) (hc : cokL new = true)
    (hn : n * 3 ≤ row.length) (hk : k * 3 ≤ row.length) (hb : (n + 1) * 32 ≤ 140737488355328) (hnk : n ≤ k) (hko : k < openCap) :
    W E0 (.fn 142 #[.slice (some ⟨i, 0, none⟩) n k, .int .i64 n, .slice (some ⟨j, 0, none⟩) 1 1] none) σ (InsPost σ (some i) k 124 (insRow 3 n n row new) (n + 1)) := by
  rw [W_fn (fn := Tryz.f142) Tryz.func142 rfl rfl rfl]
  have ht : new.take 3 = new := List.take_of_length_le (by omega)
  have h0 : k ≠ openCap := by omega
  by_cases hr : n + 1 ≤ k
  · have hst : st row (n * 3) new = some (wr row (n * 3) new) := st_wr (by omega)
    simp [wops_cons, hg, hgi, hl, hc, ht, appK, appendF, sliceC, h0, hko, hnk, hr, hst, -st_eq]
    refine ⟨i, wr row (n * 3) new, k, rfl, by simp, insA hl (by omega), .inr ⟨rfl, rfl, hr⟩, fun y hy hne => ?_⟩
    rw [CSt.get_put, if_neg]
    rintro rfl
    exact hne rfl
  · simp [wops_cons, hg, hgi, hl, hc, ht, appK, appendF, sliceC, h0, hko, hnk, hr, hn, hb]
    refine ⟨σ.n, _, openCap, rfl, by simp, insB hl hn, .inl ⟨Nat.le_refl _, rfl⟩, fun y hy hne => ?_⟩
    rw [CSt.get_alloc, if_neg (by omega)]
theorem ins_mid_29 (σ : CSt) (i j n a k : Nat) (row new : List Value) (hi : i < σ.n) (hj : j < σ.n) (hij : i ≠ j) (hgi : σ.get i = some (.cells row 124 false)) (hg : σ.get j = some (.cells new 124 false)) (hl : new.length = 3) (hc : cokL new = true)
    (hn : n * 3 ≤ row.length) (hk : k * 3 ≤ row.length) (hrc : cokL (row.take (n * 3)) = true) (ha : a < n) (hb : (n + 1) * 32 ≤ 140737488355328) (hn40 : n < 2 ^ 40) (hnk : n ≤ k) (hko : k < openCap) :
    W E0 (.fn 142 #[.slice (some ⟨i, 0, none⟩) n k, .int .i64 a, .slice (some ⟨j, 0, none⟩) 1 1] none) σ (InsPost σ (some i) k 124 (insRow 3 a n row new) (n + 1)) := by
  rw [W_fn (fn := Tryz.f142) Tryz.func142 rfl rfl rfl]
  have ht : new.take 3 = new := List.take_of_length_le (by omega)
  have h0 : k ≠ openCap := by omega
  have hle : a ≤ n := by omega
  have hne : a ≠ n := by omega
  have hw1 := i64n1 n (by omega)
  have hw2 := i64n1 a (by omega)
  have hlt : ¬ k < n ∧ ¬ (a : Int) = n := by omega
  have hnew : ld new 0 3 = some new := by simp [ld, hl, ht]
  have hp1 : (0 : Int) ≤ (n : Int) + 1 ∧ (0 : Int) ≤ (a : Int) + 1 ∧ ((n : Int) + 1).toNat = n + 1 ∧ ((a : Int) + 1).toNat = a + 1 := by omega
  by_cases hr : n + 1 ≤ k
  · have hI : ¬ ((k : Int) < n + 1) := by omega
    have hq : a ≤ k ∧ a + 1 ≤ k ∧ a ≤ n + 1 := by omega
    simp [wops_cons, hg, hgi, hl, hc, ht, appK, appendF, sliceC, h0, hko, hnk, hr, hle, hne, hlt.2, hw1, hw2, hp1, hI, hq, ha, -st_eq]
    rw [wres_ext (E := E0) (v := .bool false)]
    rotate_left
    · simp only [extOf_fn, E0X, extE]
      exact apartX_ne (Ne.symm hij) hg hgi (by omega)
    have hmin : min (n + 1 - a) (n - a) = n - a := by omega
    have hmul : (n - a) * 3 = n * 3 - a * 3 := by omega
    have hmin2 : min 1 (n + 1 - a) = 1 := by omega
    obtain ⟨seg, hseg⟩ : ∃ seg, seg = (row.drop (a * 3)).take (n * 3 - a * 3) := ⟨_, rfl⟩
    have hs1 : ld row (a * 3) ((n - a) * 3) = some seg := by rw [hmul, hseg]; simp; omega
    have hs2 : seg.length = (n - a) * 3 := by rw [hseg]; simp; omega
    have hs3 : cokL seg = true := by rw [hseg, ← List.drop_take]; exact cokL_drop hrc _
    have hs4 : st row ((a + 1) * 3) seg = some (wr row (a * 3 + 3) seg) := by rw [show (a + 1) * 3 = a * 3 + 3 by omega]; exact st_wr (by omega)
    have hs5 : (wr row (a * 3 + 3) seg).length = row.length := wr_length (by omega)
    have hs6 : st (wr row (a * 3 + 3) seg) (a * 3) new = some (wr (wr row (a * 3 + 3) seg) (a * 3) new) := st_wr (by omega)
    have hq2 : ¬ (k = a) ∧ ¬ (k = a + 1) ∧ ¬ (n - a = 0) := by omega
    simp only [Bool.not_false, wops_cons]
    simp [wops_cons, hg, hgi, hl, hc, ht]
    refine W_calm (by kernel_rfl) ?_
    simp [dops_cons, wops_cons, hg, hgi, hl, hc, ht, appK, appendF, sliceC, copyK, copyIK, h0, hko, hnk, hr, hle, hne, hlt.2, hw1, hw2, hp1, hI, hq, hq2, ha, hmin, hmin2, hs1, hs2, hs3, hs4, hs6, hnew, Ne.symm hij, -st_eq, -ld_eq]
    refine ⟨i, _, k, rfl, by simp; rfl, ?_, .inr ⟨rfl, rfl, hr⟩, fun y hy hne => ?_⟩
    · rw [hseg]; exact insD hl ha (by omega)
    · have : y ≠ i := by rintro rfl; exact hne rfl
      simp [this]
  · have hkn : k = n := by omega
    subst hkn
    have hI : ((k : Int) < k + 1) := by omega
    have hw3 : IntKind.i64.wrap ((k : Int) + 1 - a) = ((k + 1 - a : Nat) : Int) := by rw [IntWalk.i64_in _ (by omega)]; omega
    have hz1 : ((k + 1 - a : Nat) : Int) * 32 ≤ 140737488355328 := by omega
    have hz2 : ¬ (k + 1 - a = 0) := by omega
    have hz3 : ¬ (a + (k + 1 - a) ≤ k) := by omega
    have hz4 : a + (k + 1 - a) = k + 1 := by omega
    have hz5 : a * 3 ≤ row.length := by omega
    have hq : a ≤ k + 1 ∧ a + 1 ≤ k + 1 := by omega
    have hmin : min (k + 1 - a) (k - a) = k - a ∧ min (k - a) (k - a) = k - a := by omega
    have hmin2 : min 1 (k + 1 - a) = 1 := by omega
    have hjn : ¬ (j = σ.n) ∧ ¬ (i = σ.n) := by omega
    obtain ⟨z, hz⟩ : ∃ z, z = (List.replicate (k + 1 - a) [Value.int IntKind.u64 0, Value.string ⟨#[]⟩, Value.bool false]).flatten := ⟨_, rfl⟩
    have hzl : z.length = (k + 1 - a) * 3 := by rw [hz]; simp
    have hzc : cokL z = true := by rw [hz]; exact rep_cok _ _ rfl
    have hta : (row.take (a * 3)).length = a * 3 := by simp; omega
    have hrw : (row.take (a * 3) ++ z).length = k * 3 + 3 := by rw [List.length_append, hta, hzl]; omega
    have hc1 : st (row.take (a * 3) ++ z) (a * 3) new = some (wr (row.take (a * 3) ++ z) (a * 3) new) := st_wr (by omega)
    have hc2 : (wr (row.take (a * 3) ++ z) (a * 3) new).length = k * 3 + 3 := by rw [wr_length (by omega)]; exact hrw
    obtain ⟨seg, hseg⟩ : ∃ seg, seg = (row.drop (a * 3)).take (k * 3 - a * 3) := ⟨_, rfl⟩
    have hs1 : ld row (a * 3) ((k - a) * 3) = some seg := by rw [show (k - a) * 3 = k * 3 - a * 3 by omega, hseg]; simp; omega
    have hs2 : seg.length = (k - a) * 3 := by rw [hseg]; simp; omega
    have hs3 : cokL seg = true := by rw [hseg, ← List.drop_take]; exact cokL_drop hrc _
    have hs4 : st (wr (row.take (a * 3) ++ z) (a * 3) new) ((a + 1) * 3) seg = some (wr (wr (row.take (a * 3) ++ z) (a * 3) new) (a * 3 + 3) seg) := by rw [show (a + 1) * 3 = a * 3 + 3 by omega]; exact st_wr (by omega)
    have hq2 : ¬ (k = a) ∧ ¬ (k - a = 0) ∧ k + 1 - (a + 1) = k - a := by omega
    have hld : ld row 0 (a * 3) = some (row.take (a * 3)) := by simp [ld]; omega
    simp [wops_cons, hg, hgi, hl, hc, ht, appK, appendF, sliceC, h0, hko, hnk, hr, hn, hb, hle, hne, hlt.2, hw1, hw2, hw3, hz1, hz2, hz3, hz4, hz5, hp1, hI, hq, hq2, ha, appNK, sliceO, copyK, copyIK, ← hz, hzl, hzc, hc1, hnew, hmin, hmin2, hjn, hld, -st_eq, -ld_eq, -List.append_assoc]
    refine W_calm (by kernel_rfl) ?_
    simp [dops_cons, wops_cons, hg, hgi, hl, hc, ht, sliceC, h0, hko, hnk, hr, hn, hb, hle, hne, hlt.2, hw1, hw2, hp1, hI, hq, hq2, ha, sliceO, copyK, copyIK, hzl, hzc, hs1, hs2, hs3, hs4, hmin, hmin2, hjn, -st_eq, -ld_eq, -List.append_assoc]
    refine ⟨σ.n, _, openCap, rfl, by simp; rfl, ?_, .inl ⟨Nat.le_refl _, rfl⟩, fun y hy hne => ?_⟩
    · rw [hseg]; exact insC hl ha hn (by omega)
    · have : y ≠ σ.n := by omega
      simp [this]
/-- slices.Insert of a chain's versions. -/
theorem insW_29 : InsW E0 142 124 3 32 where
  nil := fun σ j new hj hg hl hc _ => ins_nil_29 σ j new hj hg hl hc
  zero := fun σ i j row new hi hj hij hgi hg hl hc _ => ins_zero_29 σ i j row new hi hj hij hgi hg hl hc
  some_ := fun σ i j n a k row new hi hj hij hgi hg hl hc hn hk hrc ha hb hn40 hnk hko => by
    by_cases he : a = n
    · subst he
      exact ins_end_29 σ i j a k row new hi hj hij hgi hg hl hc hn hk (by omega) hnk hko
    · exact ins_mid_29 σ i j n a k row new hi hj hij hgi hg hl hc hn hk hrc (by omega) (by omega) hn40 hnk hko
end Go.Sm
set_option linter.unusedVariables false
set_option linter.unusedSimpArgs false
namespace Go.Sm
open Go Go.Proofs
set_option maxRecDepth 100000
set_option maxHeartbeats 1000000
attribute [local simp] sliceOp_open3 sliceOp_cap sliceOp_open sliceOp_nil appendOp_K appendOp_N copyOp_K
theorem ins_nil_95 (σ : CSt) (j : Nat) (new : List Value) (hj : j < σ.n) (hg : σ.get j = some (.cells new 155 false)) (hl : new.length = 2) (hc : cokL new = true) :
    W E0 (.fn 126 #[.slice none 0 0, .int .i64 0, .slice (some ⟨j, 0, none⟩) 1 1] none) σ (InsPost σ none 0 155 new 1) := by
  rw [W_fn (fn := Tryz.f126) Tryz.func126 rfl rfl rfl]
  have ht : new.take 2 = new := List.take_of_length_le (by omega)
  simp [wops_cons, hg, hl, hc, ht, appK, appendF]
  refine ⟨σ.n, new, openCap, rfl, by simp, by simp, .inl ⟨by omega, rfl⟩, fun y hy _ => ?_⟩
  simp
  omega
theorem ins_zero_95 (σ : CSt) (i j : Nat) (row new : List Value) (hi : i < σ.n) (hj : j < σ.n) (hij : i ≠ j) (hgi : σ.get i = some (.cells row 155 false)) (hg : σ.get j = some (.cells new 155 false)) (hl : new.length = 2) (hc : cokL new = true) :
    W E0 (.fn 126 #[.slice (some ⟨i, 0, none⟩) 0 0, .int .i64 0, .slice (some ⟨j, 0, none⟩) 1 1] none) σ (InsPost σ none 0 155 new 1) := by
  rw [W_fn (fn := Tryz.f126) Tryz.func126 rfl rfl rfl]
  have ht : new.take 2 = new := List.take_of_length_le (by omega)
  have h0 : (0 : Nat) ≠ openCap := by simp [openCap]
  have h1 : 0 < openCap := by simp [openCap]
  simp [wops_cons, hg, hgi, hl, hc, ht, appK, appendF, sliceC, h0, h1]
  refine ⟨σ.n, new, openCap, rfl, by simp, by simp, .inl ⟨by omega, rfl⟩, fun y hy _ => ?_⟩
  simp
  omega
theorem ins_end_95 (σ : CSt) (i j n k : Nat) (row new : List Value) (hi : i < σ.n) (hj : j < σ.n) (hij : i ≠ j) (hgi : σ.get i = some (.cells row 155 false)) (hg : σ.get j = some (.cells new 155 false)) (hl : new.length = 2) (hc : cokL new = true)
    (hn : n * 2 ≤ row.length) (hk : k * 2 ≤ row.length) (hb : (n + 1) * 40 ≤ 140737488355328) (hnk : n ≤ k) (hko : k < openCap) :
    W E0 (.fn 126 #[.slice (some ⟨i, 0, none⟩) n k, .int .i64 n, .slice (some ⟨j, 0, none⟩) 1 1] none) σ (InsPost σ (some i) k 155 (insRow 2 n n row new) (n + 1)) := by
  rw [W_fn (fn := Tryz.f126) Tryz.func126 rfl rfl rfl]
  have ht : new.take 2 = new := List.take_of_length_le (by omega)
  have h0 : k ≠ openCap := by omega
  by_cases hr : n + 1 ≤ k
  · have hst : st row (n * 2) new = some (wr row (n * 2) new) := st_wr (by omega)
    simp [wops_cons, hg, hgi, hl, hc, ht, appK, appendF, sliceC, h0, hko, hnk, hr, hst, -st_eq]
    refine ⟨i, wr row (n * 2) new, k, rfl, by simp, insA hl (by omega), .inr ⟨rfl, rfl, hr⟩, fun y hy hne => ?_⟩
    rw [CSt.get_put, if_neg]
    rintro rfl
    exact hne rfl
  · simp [wops_cons, hg, hgi, hl, hc, ht, appK, appendF, sliceC, h0, hko, hnk, hr, hn, hb]
    refine ⟨σ.n, _, openCap, rfl, by simp, insB hl hn, .inl ⟨Nat.le_refl _, rfl⟩, fun y hy hne => ?_⟩
    rw [CSt.get_alloc, if_neg (by omega)]
theorem ins_mid_95 (σ : CSt) (i j n a k : Nat) (row new : List Value) (hi : i < σ.n) (hj : j < σ.n) (hij : i ≠ j) (hgi : σ.get i = some (.cells row 155 false)) (hg : σ.get j = some (.cells new 155 false)) (hl : new.length = 2) (hc : cokL new = true)
    (hn : n * 2 ≤ row.length) (hk : k * 2 ≤ row.length) (hrc : cokL (row.take (n * 2)) = true) (ha : a < n) (hb : (n + 1) * 40 ≤ 140737488355328) (hn40 : n < 2 ^ 40) (hnk : n ≤ k) (hko : k < openCap) :
    W E0 (.fn 126 #[.slice (some ⟨i, 0, none⟩) n k, .int .i64 a, .slice (some ⟨j, 0, none⟩) 1 1] none) σ (InsPost σ (some i) k 155 (insRow 2 a n row new) (n + 1)) := by
  rw [W_fn (fn := Tryz.f126) Tryz.func126 rfl rfl rfl]
  have ht : new.take 2 = new := List.take_of_length_le (by omega)
  have h0 : k ≠ openCap := by omega
  have hle : a ≤ n := by omega
  have hne : a ≠ n := by omega
  have hw1 := i64n1 n (by omega)
  have hw2 := i64n1 a (by omega)
  have hlt : ¬ k < n ∧ ¬ (a : Int) = n := by omega
  have hnew : ld new 0 2 = some new := by simp [ld, hl, ht]
  have hp1 : (0 : Int) ≤ (n : Int) + 1 ∧ (0 : Int) ≤ (a : Int) + 1 ∧ ((n : Int) + 1).toNat = n + 1 ∧ ((a : Int) + 1).toNat = a + 1 := by omega
  by_cases hr : n + 1 ≤ k
  · have hI : ¬ ((k : Int) < n + 1) := by omega
    have hq : a ≤ k ∧ a + 1 ≤ k ∧ a ≤ n + 1 := by omega
    simp [wops_cons, hg, hgi, hl, hc, ht, appK, appendF, sliceC, h0, hko, hnk, hr, hle, hne, hlt.2, hw1, hw2, hp1, hI, hq, ha, -st_eq]
    rw [wres_ext (E := E0) (v := .bool false)]
    rotate_left
    · simp only [extOf_fn, E0X, extE]
      exact apartX_ne (Ne.symm hij) hg hgi (by omega)
    have hmin : min (n + 1 - a) (n - a) = n - a := by omega
    have hmul : (n - a) * 2 = n * 2 - a * 2 := by omega
    have hmin2 : min 1 (n + 1 - a) = 1 := by omega
    obtain ⟨seg, hseg⟩ : ∃ seg, seg = (row.drop (a * 2)).take (n * 2 - a * 2) := ⟨_, rfl⟩
    have hs1 : ld row (a * 2) ((n - a) * 2) = some seg := by rw [hmul, hseg]; simp; omega
    have hs2 : seg.length = (n - a) * 2 := by rw [hseg]; simp; omega
    have hs3 : cokL seg = true := by rw [hseg, ← List.drop_take]; exact cokL_drop hrc _
    have hs4 : st row ((a + 1) * 2) seg = some (wr row (a * 2 + 2) seg) := by rw [show (a + 1) * 2 = a * 2 + 2 by omega]; exact st_wr (by omega)
    have hs5 : (wr row (a * 2 + 2) seg).length = row.length := wr_length (by omega)
    have hs6 : st (wr row (a * 2 + 2) seg) (a * 2) new = some (wr (wr row (a * 2 + 2) seg) (a * 2) new) := st_wr (by omega)
    have hq2 : ¬ (k = a) ∧ ¬ (k = a + 1) ∧ ¬ (n - a = 0) := by omega
    simp only [Bool.not_false, wops_cons]
    simp [wops_cons, hg, hgi, hl, hc, ht]
    refine W_calm (by kernel_rfl) ?_
    simp [dops_cons, wops_cons, hg, hgi, hl, hc, ht, appK, appendF, sliceC, copyK, copyIK, h0, hko, hnk, hr, hle, hne, hlt.2, hw1, hw2, hp1, hI, hq, hq2, ha, hmin, hmin2, hs1, hs2, hs3, hs4, hs6, hnew, Ne.symm hij, -st_eq, -ld_eq]
    refine ⟨i, _, k, rfl, by simp; rfl, ?_, .inr ⟨rfl, rfl, hr⟩, fun y hy hne => ?_⟩
    · rw [hseg]; exact insD hl ha (by omega)
    · have : y ≠ i := by rintro rfl; exact hne rfl
      simp [this]
  · have hkn : k = n := by omega
    subst hkn
    have hI : ((k : Int) < k + 1) := by omega
    have hw3 : IntKind.i64.wrap ((k : Int) + 1 - a) = ((k + 1 - a : Nat) : Int) := by rw [IntWalk.i64_in _ (by omega)]; omega
    have hz1 : ((k + 1 - a : Nat) : Int) * 40 ≤ 140737488355328 := by omega
    have hz2 : ¬ (k + 1 - a = 0) := by omega
    have hz3 : ¬ (a + (k + 1 - a) ≤ k) := by omega
    have hz4 : a + (k + 1 - a) = k + 1 := by omega
    have hz5 : a * 2 ≤ row.length := by omega
    have hq : a ≤ k + 1 ∧ a + 1 ≤ k + 1 := by omega
    have hmin : min (k + 1 - a) (k - a) = k - a ∧ min (k - a) (k - a) = k - a := by omega
    have hmin2 : min 1 (k + 1 - a) = 1 := by omega
    have hjn : ¬ (j = σ.n) ∧ ¬ (i = σ.n) := by omega
    obtain ⟨z, hz⟩ : ∃ z, z = (List.replicate (k + 1 - a) [Value.string ⟨#[]⟩, Value.slice none 0 0]).flatten := ⟨_, rfl⟩
    have hzl : z.length = (k + 1 - a) * 2 := by rw [hz]; simp
    have hzc : cokL z = true := by rw [hz]; exact rep_cok _ _ rfl
    have hta : (row.take (a * 2)).length = a * 2 := by simp; omega
    have hrw : (row.take (a * 2) ++ z).length = k * 2 + 2 := by rw [List.length_append, hta, hzl]; omega
    have hc1 : st (row.take (a * 2) ++ z) (a * 2) new = some (wr (row.take (a * 2) ++ z) (a * 2) new) := st_wr (by omega)
    have hc2 : (wr (row.take (a * 2) ++ z) (a * 2) new).length = k * 2 + 2 := by rw [wr_length (by omega)]; exact hrw
    obtain ⟨seg, hseg⟩ : ∃ seg, seg = (row.drop (a * 2)).take (k * 2 - a * 2) := ⟨_, rfl⟩
    have hs1 : ld row (a * 2) ((k - a) * 2) = some seg := by rw [show (k - a) * 2 = k * 2 - a * 2 by omega, hseg]; simp; omega
    have hs2 : seg.length = (k - a) * 2 := by rw [hseg]; simp; omega
    have hs3 : cokL seg = true := by rw [hseg, ← List.drop_take]; exact cokL_drop hrc _
    have hs4 : st (wr (row.take (a * 2) ++ z) (a * 2) new) ((a + 1) * 2) seg = some (wr (wr (row.take (a * 2) ++ z) (a * 2) new) (a * 2 + 2) seg) := by rw [show (a + 1) * 2 = a * 2 + 2 by omega]; exact st_wr (by omega)
    have hq2 : ¬ (k = a) ∧ ¬ (k - a = 0) ∧ k + 1 - (a + 1) = k - a := by omega
    have hld : ld row 0 (a * 2) = some (row.take (a * 2)) := by simp [ld]; omega
    simp [wops_cons, hg, hgi, hl, hc, ht, appK, appendF, sliceC, h0, hko, hnk, hr, hn, hb, hle, hne, hlt.2, hw1, hw2, hw3, hz1, hz2, hz3, hz4, hz5, hp1, hI, hq, hq2, ha, appNK, sliceO, copyK, copyIK, ← hz, hzl, hzc, hc1, hnew, hmin, hmin2, hjn, hld, -st_eq, -ld_eq, -List.append_assoc]
    refine W_calm (by kernel_rfl) ?_
    simp [dops_cons, wops_cons, hg, hgi, hl, hc, ht, sliceC, h0, hko, hnk, hr, hn, hb, hle, hne, hlt.2, hw1, hw2, hp1, hI, hq, hq2, ha, sliceO, copyK, copyIK, hzl, hzc, hs1, hs2, hs3, hs4, hmin, hmin2, hjn, -st_eq, -ld_eq, -List.append_assoc]
    refine ⟨σ.n, _, openCap, rfl, by simp; rfl, ?_, .inl ⟨Nat.le_refl _, rfl⟩, fun y hy hne => ?_⟩
    · rw [hseg]; exact insC hl ha hn (by omega)
    · have : y ≠ σ.n := by omega
      simp [this]
/-- slices.Insert of a chain's versions. -/
theorem insW_95 : InsW E0 126 155 2 40 where
  nil := fun σ j new hj hg hl hc _ => ins_nil_95 σ j new hj hg hl hc
  zero := fun σ i j row new hi hj hij hgi hg hl hc _ => ins_zero_95 σ i j row new hi hj hij hgi hg hl hc
  some_ := fun σ i j n a k row new hi hj hij hgi hg hl hc hn hk hrc ha hb hn40 hnk hko => by
    by_cases he : a = n
    · subst he
      exact ins_end_95 σ i j a k row new hi hj hij hgi hg hl hc hn hk (by omega) hnk hko
    · exact ins_mid_95 σ i j n a k row new hi hj hij hgi hg hl hc hn hk hrc (by omega) (by omega) hn40 hnk hko
end Go.Sm
/- The closed tests, reckoned. -/
namespace Go.Sm
open Go Go.Proofs
def isTrue : Out → CSt → Bool := fun o _ => match o with | .ret (.bool true) false => true | _ => false
def st0 : CSt := { h := ((Tr.nil : Tr CObj).set 0 (.cells [.int .u64 1, .int .u64 0] 0 true)), n := 256 }
set_option maxRecDepth 1000000
theorem aw35 : runB EV 80000 (.fn 35 #[] none) st0 isTrue = true := by kernel_rfl
theorem aw13 : runB EV 40000 (.fn 13 #[] none) st0 isTrue = true := by kernel_rfl
end Go.Sm
/- The environments are sound: what is taken as one step is so. -/
set_option linter.unusedVariables false
namespace Go.Sm
open Go Go.Proofs
set_option maxRecDepth 100000
theorem good_all : (Tryz.prog.funcs.toList.all fun fn => !(fn.name == "runtime.NumGoroutine")) = true := by kernel_rfl
theorem good_mixed : Tryz.prog.follows .mixedOrders = true := by kernel_rfl
theorem good : Good Tryz.prog := by
  refine ⟨fun f fn h _ => ?_, good_mixed⟩
  have := List.all_eq_true.1 good_all fn (by rw [Array.mem_toList_iff]; exact Array.mem_of_getElem? h)
  simpa using this
def isU8 (P : Program) (e : TypeId) : Bool := match P.underlying e with | some (.int .u8) => true | _ => false
theorem not_u8 {P : Program} {e : TypeId} (h : isU8 P e = false) : P.underlying e ≠ some (.int .u8) := by
  intro hh
  unfold isU8 at h
  rw [hh] at h
  cases h
theorem ext_ok {E : Env} (hP : E.P = Tryz.prog) (hx : E.ext = extE) : ExtOk E := by
  intro g args σ v h ρ w args' hR ha
  rw [hx] at h
  rw [hP] at hR ⊢
  unfold extE at h
  split at h
  · exact apart_ok (tS := 153) (tR := 4) (size := 2) Tryz.func143 (by kernel_rfl) (by kernel_rfl) (by kernel_rfl) (by kernel_rfl) (by kernel_rfl) (fun w => by kernel_rfl) (not_u8 (by kernel_rfl)) h hR ha
  · exact apart_ok (tS := 143) (tR := 4) (size := 3) Tryz.func154 (by kernel_rfl) (by kernel_rfl) (by kernel_rfl) (by kernel_rfl) (by kernel_rfl) (fun w => by kernel_rfl) (not_u8 (by kernel_rfl)) h hR ha
  · cases h
theorem gam0 : GamOk E0 := by
  intro f g h
  cases h
theorem gamV : GamOk EV := by
  intro f g h args σ v σ' hg Q hq
  change gamI f = some g at h
  unfold gamI at h
  split at h
  · cases h
    exact ins_gam (E := E0) good (ext_ok rfl rfl) gam0 (by exact ⟨_, Tryz.func126, rfl⟩) (by kernel_rfl) (by decide) insW_95 hg hq
  · cases h
    exact ins_gam (E := E0) good (ext_ok rfl rfl) gam0 (by exact ⟨_, Tryz.func142, rfl⟩) (by kernel_rfl) (by decide) insW_29 hg hq
  · cases h
theorem base0 : Base st0 := by
  refine ⟨rfl, fun i o h => ?_⟩
  simp only [st0, CSt.get, Tr.get_set] at h
  split at h
  · cases h
    rename_i hi
    subst hi
    exact ⟨by decide, _, _, rfl, by simp⟩
  · simp [Tr.get_nil] at h
theorem ext0 {σ : CSt} (h : gnone σ) : Ext st0 σ := by
  intro i o ho
  simp only [st0, CSt.get, Tr.get_set] at ho
  split at ho
  · rename_i hi
    subst hi
    cases ho
    exact h
  · simp [Tr.get_nil] at ho
theorem aw_ok {f : FuncId} {n : Nat} (h : runB EV n (.fn f #[] none) st0 isTrue = true) {args : Array Value} {σ σ' : CSt} {v : Value} (hg : awakeG args σ = some (v, σ')) {Q : Out → CSt → Prop} (hq : Q (.ret v false) σ') : SimFn Tryz.prog f args none σ Q := by
  unfold awakeG at hg
  split at hg
  · rename_i hc
    cases hg
    obtain ⟨rfl, hn⟩ := hc
    refine base_fn (E := EV) good (ext_ok rfl rfl) gamV base0 ((runB_W _ h).weaken fun o s ho => ?_) (by simp) rfl (ext0 hn) hq
    unfold isTrue at ho
    split at ho
    · rfl
    · cases ho
  · cases hg
theorem gam1 : GamOk E1 := by
  intro f g h args σ v σ' hg Q hq
  change gamL f = some g at h
  unfold gamL at h
  split at h
  · cases h
    exact ins_gam (E := E0) good (ext_ok rfl rfl) gam0 (by exact ⟨_, Tryz.func126, rfl⟩) (by kernel_rfl) (by decide) insW_95 hg hq
  · cases h
    exact ins_gam (E := E0) good (ext_ok rfl rfl) gam0 (by exact ⟨_, Tryz.func142, rfl⟩) (by kernel_rfl) (by decide) insW_29 hg hq
  · cases h; exact aw_ok aw13 hg hq
  · cases h; exact aw_ok aw35 hg hq
  · cases h
end Go.Sm
/- Sets of times as rows of spans: plain facts. -/
namespace Go.Sm
structure Sn where
  lo : Int
  hi : Int
  deriving DecidableEq
def inS (t : Int) (s : Sn) : Prop := s.lo ≤ t ∧ t ≤ s.hi
instance (t : Int) (s : Sn) : Decidable (inS t s) := by unfold inS; exact inferInstance
def mem (l : List Sn) (t : Int) : Prop := ∃ s ∈ l, inS t s
@[simp] theorem mem_nil (t : Int) : ¬ mem [] t := fun ⟨s, h, _⟩ => by simp at h
theorem mem_cons {s : Sn} {l : List Sn} {t : Int} : mem (s :: l) t ↔ inS t s ∨ mem l t := by
  unfold mem
  simp
theorem mem_append {l m : List Sn} {t : Int} : mem (l ++ m) t ↔ mem l t ∨ mem m t := by
  unfold mem
  constructor
  · rintro ⟨s, h, k⟩
    rcases List.mem_append.1 h with h | h
    · exact .inl ⟨s, h, k⟩
    · exact .inr ⟨s, h, k⟩
  · rintro (⟨s, h, k⟩ | ⟨s, h, k⟩)
    · exact ⟨s, List.mem_append.2 (.inl h), k⟩
    · exact ⟨s, List.mem_append.2 (.inr h), k⟩
def full (s : Sn) : Bool := decide (s.lo ≤ s.hi)
/-- Spans that have times, rising, apart. -/
structure Canon (l : List Sn) : Prop where
  full : ∀ s ∈ l, s.lo ≤ s.hi
  apart : l.Pairwise fun a b => a.hi + 1 < b.lo
theorem Canon.nil : Canon [] := ⟨by simp, List.Pairwise.nil⟩
theorem Canon.tail {s : Sn} {l : List Sn} (h : Canon (s :: l)) : Canon l := ⟨fun a ha => h.full a (by simp [ha]), (List.pairwise_cons.1 h.apart).2⟩
theorem Canon.above {s : Sn} {l : List Sn} (h : Canon (s :: l)) {t : Int} (ht : mem l t) : s.hi + 1 < t := by
  obtain ⟨a, ha, h1, h2⟩ := ht
  have := (List.pairwise_cons.1 h.apart).1 a ha
  omega
theorem Canon.ext : ∀ {l m : List Sn}, Canon l → Canon m → (∀ t, mem l t ↔ mem m t) → l = m
  | [], [], _, _, _ => rfl
  | [], b :: m, _, hm, h => by
    have h1 := hm.full b (by simp)
    exact absurd ((h b.lo).2 (mem_cons.2 (.inl ⟨Int.le_refl _, h1⟩))) (mem_nil _)
  | a :: l, [], hl, _, h => by
    have h1 := hl.full a (by simp)
    exact absurd ((h a.lo).1 (mem_cons.2 (.inl ⟨Int.le_refl _, h1⟩))) (mem_nil _)
  | a :: l, b :: m, hl, hm, h => by
    have a1 := hl.full a (by simp)
    have b1 := hm.full b (by simp)
    have ha := (h a.lo).1 (mem_cons.2 (.inl ⟨Int.le_refl _, a1⟩))
    have hb := (h b.lo).2 (mem_cons.2 (.inl ⟨Int.le_refl _, b1⟩))
    have hlo1 : b.lo ≤ a.lo := by
      rcases mem_cons.1 ha with h2 | h2
      · exact h2.1
      · have := hm.above h2; omega
    have hlo2 : a.lo ≤ b.lo := by
      rcases mem_cons.1 hb with h2 | h2
      · exact h2.1
      · have := hl.above h2; omega
    have hhi1 : ¬ a.hi < b.hi := fun hlt => by
      have := (h (a.hi + 1)).2 (mem_cons.2 (.inl ⟨by omega, by omega⟩))
      rcases mem_cons.1 this with h2 | h2
      · have := h2.2; omega
      · have := hl.above h2; omega
    have hhi2 : ¬ b.hi < a.hi := fun hlt => by
      have := (h (b.hi + 1)).1 (mem_cons.2 (.inl ⟨by omega, by omega⟩))
      rcases mem_cons.1 this with h2 | h2
      · have := h2.2; omega
      · have := hm.above h2; omega
    have e : a = b := by
      cases a; cases b
      simp only [Sn.mk.injEq]
      simp only at hlo1 hlo2 hhi1 hhi2
      omega
    subst e
    refine congrArg (a :: ·) (Canon.ext hl.tail hm.tail fun t => ?_)
    constructor
    · intro ht
      have h3 := hl.above ht
      rcases mem_cons.1 ((h t).1 (mem_cons.2 (.inr ht))) with h2 | h2
      · have := h2.2; omega
      · exact h2
    · intro ht
      have h3 := hm.above ht
      rcases mem_cons.1 ((h t).2 (mem_cons.2 (.inr ht))) with h2 | h2
      · have := h2.2; omega
      · exact h2
/-- One span more, at the row's end. -/
def pushS (out : List Sn) (s : Sn) : List Sn :=
  match out.getLast? with
  | some z => if s.lo ≤ z.hi ∨ s.lo - 1 = z.hi then out.dropLast ++ [⟨z.lo, max z.hi s.hi⟩] else out ++ [s]
  | none => [s]
/-- What one knows of the row underway. -/
structure JInv (out l : List Sn) : Prop where
  can : Canon out
  mem : ∀ t, mem out t ↔ mem l t
  low : ∀ s ∈ out, ∃ u ∈ l, s.lo = u.lo
  hig : ∀ s ∈ out, ∃ u ∈ l, s.hi = u.hi
theorem JInv.push {out l : List Sn} {s : Sn} (h : JInv out l) (hs : s.lo ≤ s.hi) (hle : ∀ u ∈ l, u.lo ≤ s.lo) : JInv (pushS out s) (l ++ [s]) := by
  unfold pushS
  cases hz : out.getLast? with
  | none =>
    have : out = [] := by simpa using hz
    subst this
    refine ⟨⟨by simpa using hs, by simp⟩, fun t => ?_, fun a ha => ⟨s, by simp, by simp at ha; rw [ha]⟩, fun a ha => ⟨s, by simp, by simp at ha; rw [ha]⟩⟩
    rw [mem_append, ← h.mem t]
    simp
  | some z =>
    obtain ⟨out', rfl⟩ : ∃ o', out = o' ++ [z] := by
      obtain ⟨ys, h1⟩ := List.getLast?_eq_some_iff.1 hz
      exact ⟨ys, h1⟩
    have hzm : z ∈ out' ++ [z] := by simp
    have hz1 := h.can.full z hzm
    obtain ⟨w, hw, ew⟩ := h.low z hzm
    have hzs : z.lo ≤ s.lo := by rw [ew]; exact hle w hw
    have hap := List.pairwise_append.1 h.can.apart
    have hpz : ∀ a ∈ out', a.hi + 1 < z.lo := fun a ha => hap.2.2 a ha z (by simp)
    simp only
    split
    · rename_i hc
      have hc' : s.lo ≤ z.hi + 1 := by omega
      rw [List.dropLast_concat]
      refine ⟨⟨fun a ha => ?_, ?_⟩, fun t => ?_, fun a ha => ?_, fun a ha => ?_⟩
      · rcases List.mem_append.1 ha with ha | ha
        · exact h.can.full a (by simp [ha])
        · simp at ha; subst ha; show z.lo ≤ max z.hi s.hi; omega
      · refine List.pairwise_append.2 ⟨hap.1, by simp, fun a ha b hb => ?_⟩
        simp at hb; subst hb
        exact hpz a ha
      · rw [mem_append, mem_append, ← h.mem t, mem_append, mem_cons, mem_cons, mem_cons]
        have : inS t ⟨z.lo, max z.hi s.hi⟩ ↔ inS t z ∨ inS t s := by
          unfold inS
          show z.lo ≤ t ∧ t ≤ max z.hi s.hi ↔ _
          omega
        rw [this]
        simp [or_assoc]
      · rcases List.mem_append.1 ha with ha | ha
        · obtain ⟨u, hu, e⟩ := h.low a (by simp [ha])
          exact ⟨u, by simp [hu], e⟩
        · simp at ha; subst ha
          exact ⟨w, by simp [hw], ew⟩
      · rcases List.mem_append.1 ha with ha | ha
        · obtain ⟨u, hu, e⟩ := h.hig a (by simp [ha])
          exact ⟨u, by simp [hu], e⟩
        · simp at ha; subst ha
          by_cases hm : z.hi ≤ s.hi
          · exact ⟨s, by simp, by show max z.hi s.hi = s.hi; omega⟩
          · obtain ⟨u, hu, e⟩ := h.hig z hzm
            exact ⟨u, by simp [hu], by show max z.hi s.hi = u.hi; omega⟩
    · rename_i hc
      have hc' : z.hi + 1 < s.lo := by omega
      refine ⟨⟨fun a ha => ?_, ?_⟩, fun t => ?_, fun a ha => ?_, fun a ha => ?_⟩
      · rcases List.mem_append.1 ha with ha | ha
        · exact h.can.full a ha
        · simp at ha; subst ha; exact hs
      · refine List.pairwise_append.2 ⟨h.can.apart, by simp, fun a ha b hb => ?_⟩
        simp at hb; subst hb
        rcases List.mem_append.1 ha with ha | ha
        · have := hpz a ha; omega
        · simp at ha; subst ha; exact hc'
      · rw [mem_append (l := out' ++ [z]) (m := [s]), h.mem t, mem_append]
      · rcases List.mem_append.1 ha with ha | ha
        · obtain ⟨u, hu, e⟩ := h.low a ha
          exact ⟨u, by simp [hu], e⟩
        · simp at ha; subst ha; exact ⟨a, by simp, rfl⟩
      · rcases List.mem_append.1 ha with ha | ha
        · obtain ⟨u, hu, e⟩ := h.hig a ha
          exact ⟨u, by simp [hu], e⟩
        · simp at ha; subst ha; exact ⟨a, by simp, rfl⟩
/-- The set of a row of spans: the one row that is rising, apart, and has the same times. -/
def IsOf (l r : List Sn) : Prop := Canon r ∧ ∀ t, mem r t ↔ mem l t
theorem IsOf.eq {l m r s : List Sn} (h : IsOf l r) (k : IsOf m s) (e : ∀ t, mem l t ↔ mem m t) : r = s :=
  Canon.ext h.1 k.1 fun t => by rw [h.2, k.2, e]
end Go.Sm
/- Spans: what two have, what one has without the other; rows of them. -/
namespace Go.Sm
def noneS : Sn := ⟨1, 0⟩
@[simp] theorem in_none (t : Int) : ¬ inS t noneS := fun h => by have h1 := h.1; have h2 := h.2; simp only [noneS] at h1 h2; omega
/-- Within 64 bits. -/
def Sn.ok (s : Sn) : Prop := (0 ≤ s.lo ∧ s.lo < 18446744073709551616) ∧ 0 ≤ s.hi ∧ s.hi < 18446744073709551616
theorem JInv.ok {out l : List Sn} (h : JInv out l) (k : ∀ s ∈ l, s.ok) : ∀ s ∈ out, s.ok := fun s hs => by
  obtain ⟨u, hu, e⟩ := h.low s hs
  obtain ⟨w, hw, e2⟩ := h.hig s hs
  exact ⟨by rw [e]; exact (k u hu).1, by rw [e2]; exact (k w hw).2⟩
end Go.Sm
/- Bits; a string's byte. -/
set_option linter.unusedVariables false
set_option linter.unusedSimpArgs false
namespace Go.Sm
open Go
section
variable {P : Program} {σ : CSt} {ev : Operand → Value} {dst : Option Tmp} {ty : TypeId} {pos : String} {after : Array Edge} {g : Option (Nat × Bool)}
variable {t : TypeId} {x y : Operand} {k k' : IntKind} {a b : Int} {s u : ByteArray}
def andI (k : IntKind) (a b : Int) : Int := k.wrap ((BitVec.ofInt k.bits a &&& BitVec.ofInt k.bits b).toNat)
def orI (k : IntKind) (a b : Int) : Int := k.wrap ((BitVec.ofInt k.bits a ||| BitVec.ofInt k.bits b).toNat)
def xorI (k : IntKind) (a b : Int) : Int := k.wrap ((BitVec.ofInt k.bits a ^^^ BitVec.ofInt k.bits b).toNat)
@[simp] theorem bin_and : binF P σ .and t x y (.int k a) (.int k b) = .val (.int k (andI k a b)) σ := by simp [binF, eqGuard, binOp, Op.intBits, andI]
@[simp] theorem bin_or : binF P σ .or t x y (.int k a) (.int k b) = .val (.int k (orI k a b)) σ := by simp [binF, eqGuard, binOp, Op.intBits, orI]
@[simp] theorem bin_xor : binF P σ .xor t x y (.int k a) (.int k b) = .val (.int k (xorI k a b)) σ := by simp [binF, eqGuard, binOp, Op.intBits, xorI]
theorem u64_rng (n : Int) : 0 ≤ IntKind.u64.wrap n ∧ IntKind.u64.wrap n < 2 ^ 64 := by
  have h : IntKind.u64.wrap n = n % 2 ^ 64 := by simp [IntKind.wrap, IntKind.bits, IntKind.signed]
  rw [h]
  omega
/-- s[i], of a string. -/
def idxS (fl : OpR) (ok : Bool) (σ : CSt) : Value → Value → OpR
  | .string s, .int _ n => if ok = true ∧ 0 ≤ n then (match s[n.toNat]? with | some b => .val (.int .u8 b.toNat) σ | none => fl) else fl
  | _, _ => fl
@[simp] theorem copE_index (ix : Operand) : cop P σ ev ⟨dst, .index t x ix, ty, pos, after, g⟩ = idxS (flatOp P σ ev ⟨dst, .index t x ix, ty, pos, after, g⟩) (strT P t) σ (ev x) (ev ix) := by
  unfold idxS
  split
  · rename_i s k n hx hi
    split
    · rename_i h
      split
      · rename_i b hb
        have ht : P.underlying t = some .string := by
          have := h.1
          unfold strT at this
          split at this
          · assumption
          · cases this
        show flatOp P σ ev _ = _
        unfold flatOp
        simp [Op.operands, hx, hi, Sm.flat, flat0, execOp, pureRun_bind, Instr.index, asIntOf, pureRun_underlying, ht, h.2, hb]
      · rfl
    · rfl
  · rfl
/-- min, max of two. -/
def minK (fl : OpR) (σ : CSt) : Value → Value → OpR
  | .int k a, .int _ b => .val (.int k (if b < a then b else a)) σ
  | _, _ => fl
def maxK (fl : OpR) (σ : CSt) : Value → Value → OpR
  | .int k a, .int _ b => .val (.int k (if a < b then b else a)) σ
  | _, _ => fl
@[simp] theorem callOp_min {ts : Array TypeId} : callOp P σ ev ⟨dst, .call ⟨.builtin .min, #[x, y], ts⟩, ty, pos, after, g⟩ ⟨.builtin .min, #[x, y], ts⟩ = minK (flatOp P σ ev ⟨dst, .call ⟨.builtin .min, #[x, y], ts⟩, ty, pos, after, g⟩) σ (ev x) (ev y) := by
  unfold minK
  split
  · rename_i k a k' b hx hy
    show flatOp P σ ev _ = _
    unfold flatOp
    have ho : (⟨.builtin .min, #[x, y], ts⟩ : Call).operands = #[x, y] := by simp [Call.operands]
    simp [Op.operands, ho, hx, hy, Sm.flat, flat0, execOp, pureRun_bind, resolve, invoke, builtin, Builtin.min_, Builtin.min2]
  · rfl
@[simp] theorem callOp_max {ts : Array TypeId} : callOp P σ ev ⟨dst, .call ⟨.builtin .max, #[x, y], ts⟩, ty, pos, after, g⟩ ⟨.builtin .max, #[x, y], ts⟩ = maxK (flatOp P σ ev ⟨dst, .call ⟨.builtin .max, #[x, y], ts⟩, ty, pos, after, g⟩) σ (ev x) (ev y) := by
  unfold maxK
  split
  · rename_i k a k' b hx hy
    show flatOp P σ ev _ = _
    unfold flatOp
    have ho : (⟨.builtin .max, #[x, y], ts⟩ : Call).operands = #[x, y] := by simp [Call.operands]
    simp [Op.operands, ho, hx, hy, Sm.flat, flat0, execOp, pureRun_bind, resolve, invoke, builtin, Builtin.max_, Builtin.max2]
  · rfl
end
end Go.Sm
/- Spans: their functions. -/
set_option linter.unusedVariables false
set_option linter.unusedSimpArgs false
namespace Go.Sm
open Go Go.Proofs
set_option maxRecDepth 100000
set_option maxHeartbeats 4000000
def encS (s : Sn) : List Value := [.int .u64 s.lo, .int .u64 s.hi]
theorem lenS (s : Sn) : (encS s).length = 2 := rfl
theorem cokS (s : Sn) : cokL (encS s) = true := rfl
theorem empty_spec (s : Sn) (σ : CSt) (Q : Out → CSt → Prop) (h : ∀ σ', Grow σ σ' → Q (.ret (.bool (!full s)) false) σ') : W E1 (.fn 51 #[.agg (encS s).toArray] none) σ Q := by
  rw [W_fn (fn := Tryz.f51) Tryz.func51 rfl rfl rfl]
  have := h _ ((Grow.refl σ).alloc (.cells (encS s) 31 false))
  by_cases e : s.lo ≤ s.hi
  · have e2 : ¬ s.hi < s.lo := by omega
    simpa [wops_cons, encS, full, e, e2] using this
  · have e2 : s.hi < s.lo := by omega
    simpa [wops_cons, encS, full, e, e2] using this
end Go.Sm
/- Sorting strings: the comparison, insertion sort. -/
set_option linter.unusedVariables false
set_option linter.unusedSimpArgs false
namespace Go.Sm.Str
open Go Go.Proofs Go.Sm
set_option maxRecDepth 100000
set_option maxHeartbeats 2000000
def encS (s : ByteArray) : List Value := [.string s]
theorem lenS (s : ByteArray) : (encS s).length = 1 := rfl
theorem cokS (s : ByteArray) : cokL (encS s) = true := rfl
/-- A row of strings that is sorted in place. -/
def SV (σ : CSt) (i : Nat) (pre post : List Value) (d : Array ByteArray) : Prop := σ.get i = some (.cells (rowD encS pre post d) 9 false) ∧ i < σ.n
theorem SV.put {σ : CSt} {i : Nat} {pre post : List Value} {d : Array ByteArray} (h : SV σ i pre post d) (d' : Array ByteArray) : SV (σ.put i (.cells (rowD encS pre post d') 9 false)) i pre post d' := ⟨by simp, h.2⟩
theorem rowS_get {pre post : List Value} {d : Array ByteArray} {j : Nat} (hj : j < d.size) : (rowD encS pre post d)[pre.length + j]? = some (.string (aget d j)) := rowD_get (v := Value.string) (fun _ => rfl) hj
theorem rowS_st {pre post : List Value} {d : Array ByteArray} {j : Nat} (hj : j < d.size) (x : ByteArray) : st (rowD encS pre post d) (pre.length + j) [.string x] = some (rowD encS pre post (aset d j x)) := rowD_st1 (v := Value.string) (fun _ => rfl) hj x
theorem isNaN_s (x : ByteArray) (σ : CSt) (Q : Out → CSt → Prop) (h : Q (.ret (.bool false) false) σ) : W E1 (.fn 117 #[.string x] none) σ Q := by
  rw [W_fn (fn := Tryz.f117) Tryz.func117 rfl rfl rfl]
  simpa [wops_cons] using h
theorem less_s (x y : ByteArray) (σ : CSt) (Q : Out → CSt → Prop) (h : Q (.ret (.bool (klt x y)) false) σ) : W E1 (.fn 86 #[.string x, .string y] none) σ Q := by
  rw [W_fn (fn := Tryz.f86) Tryz.func86 rfl rfl rfl]
  simp [wops_cons]
  refine isNaN_s _ _ _ ?_
  simpa [wops_cons, wops_if', dstOf] using h
theorem insSort_s (d : Array ByteArray) (i cap : Nat) (pre post : List Value) (a b : Nat) (σ : CSt) (hv : SV σ i pre post d) (hb : b ≤ d.size) (hbig : d.size < 2 ^ 40) (ha : a ≤ b) (Q : Out → CSt → Prop)
    (h : ∀ σ', SV σ' i pre post (Sort.insertionSort klt d a b) → But i σ σ' → Q (.ret (.tuple #[]) false) σ') :
    W E1 (.fn 80 #[.slice (some ⟨i, pre.length, none⟩) d.size cap, .int .i64 a, .int .i64 b] none) σ Q := by
  rw [W_fn (fn := Tryz.f80) Tryz.func80 rfl rfl rfl]
  have hwa := i64n1 a (by omega)
  simp [wops_cons, hwa]
  refine W_loop_inv (fun n A σ' => ∃ tm k d', A = ⟨tm, 49, [], false⟩ ∧ tm.get 0 = some (.slice (some ⟨i, pre.length, none⟩) d.size cap) ∧ tm.get 1 = some (.int .i64 a) ∧ tm.get 2 = some (.int .i64 b) ∧ tm.get 6 = some (.int .i64 (k : Nat)) ∧ a ≤ k ∧ n = b - k ∧ d'.size = d.size ∧ Sort.insOuter klt a b k d' = Sort.insertionSort klt d a b ∧ SV σ' i pre post d' ∧ But i σ σ') ?_ (b - (a + 1)) _ _ ?_
  · rintro n A σ1 ⟨tm, k, d1, rfl, e0, e1, e2, e6, hak, hn, hsz, hfin, hv1, hg1⟩
    by_cases hkb : k < b
    · have hout : Sort.insOuter klt a b (k + 1) (Sort.insInner klt a k d1) = Sort.insertionSort klt d a b := by
        rw [← hfin]
        conv => rhs; rw [Sort.insOuter]
        rw [if_pos hkb]
      simp [wops_cons, e0, e1, e2, e6, hkb]
      refine W_loop_inv (fun n' A σ' => ∃ tm j d', A = ⟨tm, 49, [], false⟩ ∧ tm.get 0 = some (.slice (some ⟨i, pre.length, none⟩) d.size cap) ∧ tm.get 1 = some (.int .i64 a) ∧ tm.get 2 = some (.int .i64 b) ∧ tm.get 6 = some (.int .i64 (k : Nat)) ∧ tm.get 7 = some (.int .i64 (j : Nat)) ∧ a ≤ j ∧ j ≤ k ∧ n' = j ∧ d'.size = d.size ∧ Sort.insInner klt a j d' = Sort.insInner klt a k d1 ∧ SV σ' i pre post d' ∧ But i σ σ') ?_ k _ _ ?_
      · rintro n' A σ2 ⟨tm, j, d2, rfl, e0, e1, e2, e6, e7, haj, hjk, hn', hsz2, hin, hv2, hg2⟩
        have hwk := i64n1 k (by omega)
        have hstop : (¬ a < j ∨ ∃ j', j = j' + 1 ∧ klt (aget d2 j) (aget d2 j') = false) → d2 = Sort.insInner klt a k d1 := by
          intro hh
          rw [← hin]
          cases j with
          | zero => rfl
          | succ j =>
            rw [Sort.insInner, if_neg]
            rcases hh with h1 | ⟨j', h1, h2⟩
            · simp; omega
            · cases h1
              unfold aget at h2
              simp [h2]
        by_cases hja : a < j
        · obtain ⟨j, rfl⟩ : ∃ j', j = j' + 1 := ⟨j - 1, by omega⟩
          have hj1 : j + 1 < d2.size := by omega
          have hj0 : j < d2.size := by omega
          have hj1' : j + 1 < d.size := by omega
          have hj0' : j < d.size := by omega
          have hwj := i64n j (by omega)
          have hr1 := rowS_get (pre := pre) (post := post) hj1
          have hr0 := rowS_get (pre := pre) (post := post) hj0
          have hja' : (a : Int) < (j : Int) + 1 := by omega
          have hi1 : (j : Int) + 1 < d.size := by omega
          have hi0 : (0 : Int) ≤ (j : Int) + 1 := by omega
          have hgi := hv2.1
          simp [wops_cons, e0, e1, e2, e6, e7, hja, hja', -Nat.not_lt]
          refine W_calm (by kernel_rfl) ?_
          simp [dops_cons, dops_if, dstOf, e0, e1, e2, e6, e7, hja, hja', hj1', hj0', hi1, hi0, hwj, hgi, hr1, hr0]
          refine less_s _ _ _ _ ?_
          cases hlt : klt (aget d2 (j + 1)) (aget d2 j)
          · have := hstop (.inr ⟨j, rfl, hlt⟩)
            subst this
            simp [wops_cons, dops_cons, dops_if, dstOf, e0, e1, e2, e6, e7, hlt, hwk]
            exact ⟨_, by omega, k + 1, rfl, by omega, rfl, _, hsz2, hout, hv2, hg2⟩
          · have hst1 := rowS_st (pre := pre) (post := post) hj1 (aget d2 j)
            have hst0 := rowS_st (pre := pre) (post := post) (d := aset d2 (j + 1) (aget d2 j)) (j := j) (by simpa using hj0) (aget d2 (j + 1))
            simp [wops_cons, dops_cons, dops_if, dstOf, e0, e1, e2, e6, e7, hlt, -st_eq, -ld_eq]
            refine W_calm (by kernel_rfl) ?_
            simp [wops_cons, dops_cons, dops_if, dstOf, e0, e1, e2, e6, e7, hj1', hj0', hi1, hi0, hwj, hgi, hr1, hr0, hst1, hst0, -st_eq, -ld_eq]
            rw [← swp_aset]
            refine ⟨_, ?_, j, rfl, by omega, by omega, rfl, _, ?_, ?_, (hv2.put _).put _, (hg2.putL _).putL _⟩
            · omega
            · simpa using hsz2
            · rw [← hin, Sort.insInner, if_pos]
              unfold aget at hlt
              simp [hlt]; omega
        · have := hstop (.inl hja)
          subst this
          have hja' : ¬ (a : Int) < j := by omega
          simp [wops_cons, e0, e1, e2, e6, e7, hja, hja', -Nat.not_lt]
          refine W_calm (by kernel_rfl) ?_
          simp [wops_cons, dops_cons, dops_if, dstOf, e0, e1, e2, e6, e7, hja, hja', hwk, -Nat.not_lt]
          exact ⟨_, by omega, k + 1, rfl, by omega, rfl, _, hsz2, hout, hv2, hg2⟩
      · refine ⟨_, k, d1, rfl, ?_⟩
        simp [e0, e1, e2, e6]
        exact ⟨hak, hsz, hv1, hg1⟩
    · have : Sort.insOuter klt a b k d1 = d1 := by rw [Sort.insOuter, if_neg hkb]
      rw [this] at hfin
      subst hfin
      have hkb' : ¬ (k : Int) < b := by omega
      simp [wops_cons, e0, e1, e2, e6, hkb, -Nat.not_lt]
      exact h σ1 hv1 hg1
  · refine ⟨_, a + 1, d, rfl, ?_⟩
    simp
    exact ⟨rfl, hv, But.refl i σ⟩
theorem insSort_n (n0 : Nat) (d : Array ByteArray) (hn0 : d.size = n0) (i cap : Nat) (pre post : List Value) (a b : Nat) (σ : CSt) (hv : SV σ i pre post d) (hb : b ≤ n0) (hbig : n0 < 2 ^ 40) (ha : a ≤ b) (Q : Out → CSt → Prop)
    (h : ∀ σ', SV σ' i pre post (Sort.insertionSort klt d a b) → But i σ σ' → Q (.ret (.tuple #[]) false) σ') :
    W E1 (.fn 80 #[.slice (some ⟨i, pre.length, none⟩) n0 cap, .int .i64 a, .int .i64 b] none) σ Q := by
  subst hn0
  exact insSort_s d i cap pre post a b σ hv hb hbig ha Q h
end Go.Sm.Str
/- Floats that are small whole numbers. -/
set_option linter.unusedVariables false
set_option linter.unusedSimpArgs false
set_option maxRecDepth 100000
namespace Go.Sm
open Go Ieee
def fl (n : Int) : Nat := FloatKind.f64.nearest n
theorem cut_exact (neg : Bool) (k d : Nat) (hk : 0 < k) : Toward.even.cut neg (k * 2 ^ d) d = k := by
  have hp : 0 < 2 ^ d := Nat.two_pow_pos d
  have hl : d ≤ (k * 2 ^ d).log2 := by
    have h0 : k * 2 ^ d ≠ 0 := Nat.pos_iff_ne_zero.1 (Nat.mul_pos hk hp)
    have := (Nat.le_log2 h0 (k := d)).2 (Nat.le_mul_of_pos_left _ hk)
    exact this
  unfold Toward.cut
  simp only [Nat.one_shiftLeft, Nat.min_eq_left (show d ≤ (k * 2 ^ d).log2 + 2 by omega), Nat.mul_div_cancel _ hp, Nat.mul_mod_left]
  have h1 : ¬ (2 ^ d < 2 * 0) := by omega
  have h2 : (2 ^ d == 2 * 0) = false := by simp
  simp [h2]
theorem log2_scale (m e : Nat) (hm : 0 < m) : (m * 2 ^ e).log2 = m.log2 + e := by
  have h0 : m * 2 ^ e ≠ 0 := Nat.pos_iff_ne_zero.1 (Nat.mul_pos hm (Nat.two_pow_pos e))
  have hm0 : m ≠ 0 := by omega
  rw [Nat.log2_eq_iff h0]
  have h1 := Nat.log2_self_le hm0
  have h2 := Nat.lt_log2_self (n := m)
  constructor
  · rw [Nat.pow_add]
    exact Nat.mul_le_mul_right _ h1
  · rw [show m.log2 + e + 1 = m.log2 + 1 + e by omega, Nat.pow_add]
    exact Nat.mul_lt_mul_of_pos_right h2 (Nat.two_pow_pos e)
/-- The word of a whole number, at any scale. -/
def wd (neg : Bool) (m : Nat) : Nat := double.word neg ((m.log2 + 1022) * 2 ^ 52 + m * 2 ^ (52 - m.log2))
theorem log2_lt53 {m : Nat} (hm : 0 < m) (h : m < 2 ^ 53) : m.log2 ≤ 52 := by
  have := (Nat.log2_lt (n := m) (k := 53) (by omega)).2 h
  omega
theorem kept_rng {m : Nat} (hm : 0 < m) (h : m < 2 ^ 53) : 2 ^ 52 ≤ m * 2 ^ (52 - m.log2) ∧ m * 2 ^ (52 - m.log2) < 2 ^ 53 := by
  have hl := log2_lt53 hm h
  have h1 := Nat.log2_self_le (n := m) (by omega)
  have h2 := Nat.lt_log2_self (n := m)
  constructor
  · calc 2 ^ 52 = 2 ^ m.log2 * 2 ^ (52 - m.log2) := by rw [← Nat.pow_add]; congr 1; omega
      _ ≤ _ := Nat.mul_le_mul_right _ h1
  · calc m * 2 ^ (52 - m.log2) < 2 ^ (m.log2 + 1) * 2 ^ (52 - m.log2) := Nat.mul_lt_mul_of_pos_right h2 (Nat.two_pow_pos _)
      _ = 2 ^ 53 := by rw [← Nat.pow_add]; congr 1; omega
theorem nearest_scale (neg : Bool) (m e : Nat) (hm : 0 < m) (h53 : m < 2 ^ 53) : double.nearest neg (m * 2 ^ e) (-(e : Int)) = wd neg m := by
  have hl := log2_lt53 hm h53
  have hp : 0 < m * 2 ^ e := Nat.mul_pos hm (Nat.two_pow_pos e)
  have hk := kept_rng hm h53
  unfold Format.nearest wd
  rw [if_neg (by omega), log2_scale m e hm]
  have hlp : double.leastPlace = -1074 := by decide
  have hf : (double.fractionBits : Int) = 52 := rfl
  have hlast : max (-(e : Int) + ((m.log2 + e : Nat) : Int) - (double.fractionBits : Int)) double.leastPlace = (m.log2 : Int) - 52 := by
    rw [hlp, hf]; omega
  simp only [hlast]
  obtain ⟨d, hd⟩ : ∃ d, d = ((m.log2 : Int) - 52 - -(e : Int)).toNat := ⟨_, rfl⟩
  rw [← hd, Nat.shiftLeft_eq]
  have hsh : m * 2 ^ e * 2 ^ (-(e : Int) - ((m.log2 : Int) - 52)).toNat = (m * 2 ^ (52 - m.log2)) * 2 ^ d := by
    rw [Nat.mul_assoc, Nat.mul_assoc, ← Nat.pow_add, ← Nat.pow_add]
    congr 2
    omega
  rw [hsh, cut_exact _ _ _ (by omega)]
  have h1 : ((m.log2 : Int) - 52 - double.leastPlace).toNat = m.log2 + 1022 := by rw [hlp]; omega
  have h2 : double.binade = 2 ^ 52 := rfl
  have h3 : double.infRung = 2047 * 2 ^ 52 := rfl
  rw [h1, h2, h3, Nat.min_eq_left]
  omega
theorem fl_eq (n : Int) (h : n ≠ 0) (h53 : n.natAbs < 2 ^ 53) : fl n = wd (decide (n < 0)) n.natAbs := by
  have := nearest_scale (decide (n < 0)) n.natAbs 0 (by omega) h53
  rw [Nat.pow_zero, Nat.mul_one] at this
  exact this
theorem fl_zero : fl 0 = 0 := by decide
theorem read_wd (neg : Bool) (m : Nat) (hm : 0 < m) (h53 : m < 2 ^ 53) : double.read (wd neg m) = .number neg (m * 2 ^ (52 - m.log2)) ((m.log2 : Int) - 52) := by
  have hl := log2_lt53 hm h53
  have hk := kept_rng hm h53
  unfold wd
  generalize hK : m * 2 ^ (52 - m.log2) = K at *
  generalize hL : m.log2 = L at *
  have hsw : double.signWeight = 9223372036854775808 := by decide
  have h2 : double.binade = 4503599627370496 := by decide
  have h3 : double.infRung = 2047 * 4503599627370496 := by decide
  have hlp : double.leastPlace = -1074 := by decide
  have hw : double.word neg ((L + 1022) * 2 ^ 52 + K) = (if neg then 9223372036854775808 else 0) + ((L + 1022) * 4503599627370496 + K) := by
    unfold Format.word
    rw [hsw]
    cases neg <;> simp
  rw [hw]
  unfold Format.read
  simp only [hsw, h2, h3, hlp]
  have hk1 : 4503599627370496 ≤ K := hk.1
  have hk2 : K < 9007199254740992 := hk.2
  have e1 : ((if neg = true then 9223372036854775808 else 0) + ((L + 1022) * 4503599627370496 + K)) % 9223372036854775808 = (L + 1022) * 4503599627370496 + K := by
    cases neg <;> simp <;> omega
  have e2 : (((if neg = true then 9223372036854775808 else 0) + ((L + 1022) * 4503599627370496 + K)) / 9223372036854775808 % 2 == 1) = neg := by
    cases neg
    · simp; omega
    · simp; omega
  rw [e1, e2, if_neg (by omega), if_pos (by omega)]
  have e3 : ((L + 1022) * 4503599627370496 + K) % 4503599627370496 = K - 4503599627370496 := by omega
  have e4 : ((L + 1022) * 4503599627370496 + K) / 4503599627370496 = L + 1023 := by omega
  have e5 : 4503599627370496 + (K - 4503599627370496) = K := by omega
  have e6 : (-1074 : Int) + ((L + 1023 - 1 : Nat) : Int) = (L : Int) - 52 := by omega
  rw [e3, e4, e5, e6]
/-- What a whole number's datum looks like. -/
theorem read_fl (n : Int) (h53 : n.natAbs < 2 ^ 53) : ∃ m p, p ≤ (0 : Int) ∧ m = n.natAbs * 2 ^ (-p).toNat ∧ double.read (fl n) = .number (decide (n < 0)) m p := by
  by_cases h : n = 0
  · subst h
    exact ⟨0, -1074, by decide, (Nat.zero_mul _).symm, by rw [fl_zero]; decide⟩
  · have hm : 0 < n.natAbs := by omega
    have hl := log2_lt53 hm h53
    refine ⟨_, _, ?_, ?_, by rw [fl_eq n h h53]; exact read_wd _ _ hm h53⟩
    · omega
    · congr 2; omega
theorem signed_eq (n : Int) (a b : Nat) (s : Bool) (hs : n ≠ 0 → s = decide (n < 0)) : signed s (n.natAbs * 2 ^ a) b = n * 2 ^ (a + b) := by
  unfold signed
  rw [Nat.shiftLeft_eq, Nat.mul_assoc, ← Nat.pow_add]
  by_cases h : n = 0
  · subst h; simp
  · rw [hs h]
    have hc : ((n.natAbs * 2 ^ (a + b) : Nat) : Int) = n.natAbs * 2 ^ (a + b) := by push_cast; rfl
    rw [hc]
    by_cases h0 : n < 0
    · rw [if_pos (by simpa using h0), ← Int.neg_mul]
      congr 1; omega
    · rw [if_neg (by simpa using h0)]
      congr 1; omega
theorem forder (a b : Int) (ha : a.natAbs < 2 ^ 53) (hb : b.natAbs < 2 ^ 53) : FloatKind.f64.format.order (fl a) (fl b) = some (if a < b then .lt else if a = b then .eq else .gt) := by
  obtain ⟨m, i, h1, h2, h3⟩ := read_fl a ha
  obtain ⟨n, j, k1, k2, k3⟩ := read_fl b hb
  show (double.read (fl a)).order (double.read (fl b)) = _
  rw [h3, k3]
  subst h2; subst k2
  obtain ⟨B, hB⟩ : ∃ B : Nat, B = (-(min i j)).toNat := ⟨_, rfl⟩
  have e1 : signed (decide (a < 0)) (a.natAbs * 2 ^ (-i).toNat) (i - min i j).toNat = a * 2 ^ B := by
    rw [signed_eq a _ _ _ (fun _ => rfl)]
    congr 2; omega
  have e2 : signed (decide (b < 0)) (b.natAbs * 2 ^ (-j).toNat) (j - min i j).toNat = b * 2 ^ B := by
    rw [signed_eq b _ _ _ (fun _ => rfl)]
    congr 2; omega
  have hpos : (0 : Int) < 2 ^ B := by
    have := Nat.two_pow_pos B
    have h2 : ((2 ^ B : Nat) : Int) = 2 ^ B := by push_cast; rfl
    omega
  simp only [Datum.order, e1, e2]
  congr 1
  show compareOfLessAndEq (a * 2 ^ B) (b * 2 ^ B) = _
  unfold compareOfLessAndEq
  by_cases hlt : a < b
  · rw [if_pos hlt, if_pos (Int.mul_lt_mul_of_pos_right hlt hpos)]
  · rw [if_neg hlt, if_neg (by have := Int.mul_le_mul_of_nonneg_right (show b ≤ a by omega) (Int.le_of_lt hpos); omega)]
    by_cases he : a = b
    · rw [if_pos he, if_pos (by rw [he])]
    · rw [if_neg he, if_neg (fun h => he (Int.eq_of_mul_eq_mul_right (by omega) h))]
end Go.Sm
/- Operations on floats and complex numbers that are small and whole. -/
set_option linter.unusedVariables false
set_option linter.unusedSimpArgs false
namespace Go.Sm
open Go
section
variable {P : Program} {σ : CSt} {ev : Operand → Value} {t : TypeId} {x y : Operand} {a b c d : Int}
@[simp] theorem isNil_float (op : BinOp) (t : TypeId) (k : FloatKind) (n : Nat) (y : Value) : isNilCmp P op t (.float k n) y = none := by simp [isNilCmp, nilPair_of]
@[simp] theorem isNil_complex (op : BinOp) (t : TypeId) (k : FloatKind) (n m : Nat) (y : Value) : isNilCmp P op t (.complex k n m) y = none := by
  have h : nilPair P t (.complex k n m) y = false := by
    unfold nilPair
    split <;> simp_all
  simp [isNilCmp, h]
variable {dst : Option Tmp} {ty : TypeId} {pos : String} {after : Array Edge} {g : Option (Nat × Bool)} {ts : Array TypeId}
def realK (f : OpR) (σ : CSt) : Value → OpR
  | .complex k re _ => .val (.float k re) σ
  | _ => f
def imagK (f : OpR) (σ : CSt) : Value → OpR
  | .complex k _ im => .val (.float k im) σ
  | _ => f
def cplxK (f : OpR) (σ : CSt) : Value → Value → OpR
  | .float .f64 re, .float .f64 im => .val (.complex .f64 re im) σ
  | _, _ => f
@[simp] theorem callOp_real : callOp P σ ev ⟨dst, .call ⟨.builtin .real, #[x], ts⟩, ty, pos, after, g⟩ ⟨.builtin .real, #[x], ts⟩ = realK (flatOp P σ ev ⟨dst, .call ⟨.builtin .real, #[x], ts⟩, ty, pos, after, g⟩) σ (ev x) := by
  unfold realK
  split
  · rename_i k re im hx
    show flatOp P σ ev _ = _
    unfold flatOp
    have ho : (⟨.builtin .real, #[x], ts⟩ : Call).operands = #[x] := by simp [Call.operands]
    simp [Op.operands, ho, hx, Sm.flat, flat0, execOp, pureRun_bind, resolve, invoke, builtin, show ∀ ta tt, Builtin.real_ ta tt #[.complex k re im] = pure (.float k re) from fun _ _ => rfl]
  · rfl
@[simp] theorem callOp_imag : callOp P σ ev ⟨dst, .call ⟨.builtin .imag, #[x], ts⟩, ty, pos, after, g⟩ ⟨.builtin .imag, #[x], ts⟩ = imagK (flatOp P σ ev ⟨dst, .call ⟨.builtin .imag, #[x], ts⟩, ty, pos, after, g⟩) σ (ev x) := by
  unfold imagK
  split
  · rename_i k re im hx
    show flatOp P σ ev _ = _
    unfold flatOp
    have ho : (⟨.builtin .imag, #[x], ts⟩ : Call).operands = #[x] := by simp [Call.operands]
    simp [Op.operands, ho, hx, Sm.flat, flat0, execOp, pureRun_bind, resolve, invoke, builtin, show ∀ ta tt, Builtin.imag_ ta tt #[.complex k re im] = pure (.float k im) from fun _ _ => rfl]
  · rfl
@[simp] theorem callOp_cplx : callOp P σ ev ⟨dst, .call ⟨.builtin .complex, #[x, y], ts⟩, ty, pos, after, g⟩ ⟨.builtin .complex, #[x, y], ts⟩ = cplxK (flatOp P σ ev ⟨dst, .call ⟨.builtin .complex, #[x, y], ts⟩, ty, pos, after, g⟩) σ (ev x) (ev y) := by
  unfold cplxK
  split
  · rename_i re im hx hy
    show flatOp P σ ev _ = _
    unfold flatOp
    have ho : (⟨.builtin .complex, #[x, y], ts⟩ : Call).operands = #[x, y] := by simp [Call.operands]
    simp [Op.operands, ho, hx, hy, Sm.flat, flat0, execOp, pureRun_bind, resolve, invoke, builtin, show ∀ ta tt, Builtin.complex_ ta tt #[.float .f64 re, .float .f64 im] = pure (.complex .f64 re im) from fun _ _ => rfl]
  · rfl
theorem convF_float {s d : TypeId} (hs : (P.underlying s).isSome = true) (hd : P.underlying d = some (.float .f64)) (k : IntKind) (n : Int) : convF P σ s d (.int k n) = .val (.float .f64 (fl n)) σ := by
  obtain ⟨us, hs⟩ := Option.isSome_iff_exists.1 hs
  have h1 : convertOp P σ s d (.int k n) = .fail := by
    unfold convertOp
    rw [hs, hd]
    cases us <;> rfl
  simp only [convF, h1, or_fail, Sm.flat, flat0, if_true, convert, pureRun_bind, pureRun_underlying, hs, hd, Option.bind_some]
  rfl
end
end Go.Sm
/- Spans: one without another; the order. -/
set_option linter.unusedVariables false
set_option linter.unusedSimpArgs false
namespace Go.Sm
open Go Go.Proofs
set_option maxRecDepth 100000
set_option maxHeartbeats 4000000
theorem ga_top {σ : CSt} {o : CObj} {i : Nat} (h : i = σ.n) : (σ.alloc o).get i = some o := by rw [CSt.get_alloc, if_pos h]
theorem ga_old {σ : CSt} {o : CObj} {i : Nat} (h : i < σ.n) : (σ.alloc o).get i = σ.get i := by rw [CSt.get_alloc, if_neg (by omega)]
end Go.Sm
/- Boxes: made, points in them, cells. -/
set_option linter.unusedVariables false
set_option linter.unusedSimpArgs false
namespace Go.Sm
open Go Go.Proofs
set_option maxRecDepth 100000
set_option maxHeartbeats 4000000
structure BB where
  x : Int
  y : Int
  w : Int
  h : Int
def BB.ok (b : BB) : Prop := (0 ≤ b.x ∧ b.x < 256) ∧ (0 ≤ b.y ∧ b.y < 256) ∧ (0 ≤ b.w ∧ b.w < 256) ∧ 0 ≤ b.h ∧ b.h < 256
structure Bx where
  x0 : Int
  y0 : Int
  x1 : Int
  y1 : Int
  deriving DecidableEq
def Bx.ok (b : Bx) : Prop := (-1000 < b.x0 ∧ b.x0 < 1000) ∧ (-1000 < b.y0 ∧ b.y0 < 1000) ∧ (-1000 < b.x1 ∧ b.x1 < 1000) ∧ -1000 < b.y1 ∧ b.y1 < 1000
def encX (b : Bx) : List Value := [.complex .f64 (fl b.x0) (fl b.y0), .complex .f64 (fl b.x1) (fl b.y1)]
theorem lenX (b : Bx) : (encX b).length = 2 := rfl
theorem cokX (b : Bx) : cokL (encX b) = true := rfl
@[simp] theorem tf66 : tf Tryz.prog 66 = some ⟨1, 16, (some [.complex .f64 0 0]), false, true⟩ := by kernel_rfl
@[simp] theorem clist_cx (k : FloatKind) (n m : Nat) : clist (.complex k n m) = [.complex k n m] := rfl
@[simp] theorem cok_cx (k : FloatKind) (n m : Nat) : cok (.complex k n m) = true := rfl
@[simp] theorem tf68 : tf Tryz.prog 68 = some ⟨2, 32, (some [.complex .f64 0 0, .complex .f64 0 0]), true, true⟩ := by kernel_rfl
@[simp] theorem ef75 : elemF Tryz.prog 75 = some (68, ⟨2, 32, (some [.complex .f64 0 0, .complex .f64 0 0]), true, true⟩) := by kernel_rfl
theorem u71 : Tryz.prog.underlying 71 = some (.float .f64) := by kernel_rfl
theorem cv71 {σ : CSt} {s : TypeId} (hs : (Tryz.prog.underlying s).isSome = true) (k : IntKind) (n : Int) : convF Tryz.prog σ s 71 (.int k n) = .val (.float .f64 (fl n)) σ := convF_float hs u71 k n
end Go.Sm
/- Boxes: what two have. -/
set_option linter.unusedVariables false
set_option linter.unusedSimpArgs false
namespace Go.Sm
open Go Go.Proofs
set_option maxRecDepth 100000
set_option maxHeartbeats 4000000
end Go.Sm
/- Boxes: are two the same? -/
set_option linter.unusedVariables false
set_option linter.unusedSimpArgs false
namespace Go.Sm
open Go Go.Proofs
set_option maxRecDepth 100000
set_option maxHeartbeats 4000000
theorem u66 : Tryz.prog.underlying 66 = some (.complex .f64) := by kernel_rfl
theorem eq_cx (d m n m' n' : Nat) : pureRun Tryz.prog (Op.equalIn (d + 1) 66 (.complex .f64 m n) (.complex .f64 m' n')) = some (Op.floatEq .f64 m m' && Op.floatEq .f64 n n') := by
  rw [Op.equalIn, pureRun_bind, pureRun_underlying, u66]
  simp
theorem part66 (x y : Value) : pureRun Tryz.prog (part 66 #[x, y] 0) = some x ∧ pureRun Tryz.prog (part 66 #[x, y] 1) = some y := by
  have hu : isAggT Tryz.prog 66 = false := by kernel_rfl
  constructor
  · unfold part
    rw [pureRun_bind, pureRun_isAgg u66, Option.bind_some, hu]
    rfl
  · unfold part
    rw [pureRun_bind, pureRun_isAgg u66, Option.bind_some, hu]
    rfl
theorem fs68 : ∃ f0 f1 : Field, Tryz.prog.underlying 68 = some (.struct #[f0, f1]) ∧ f0.name ≠ "_" ∧ f1.name ≠ "_" ∧ f0.type = 66 ∧ f1.type = 66 ∧ f0.offset = 0 ∧ f1.offset = 1 := ⟨_, _, rfl, by decide, by decide, rfl, rfl, rfl, rfl⟩
theorem sih68 : Tryz.prog.stoodInHeld 68 = false := by kernel_rfl
theorem eq_box (d a b c e a' b' c' e' : Nat) : pureRun Tryz.prog (Op.equalIn (d + 1 + 1) 68 (.agg #[.complex .f64 a b, .complex .f64 c e]) (.agg #[.complex .f64 a' b', .complex .f64 c' e'])) = some ((Op.floatEq .f64 a a' && Op.floatEq .f64 b b') && (Op.floatEq .f64 c c' && Op.floatEq .f64 e e')) := by
  obtain ⟨f0, f1, hu, n0, n1, t0, t1, o0, o1⟩ := fs68
  have p1 := part66 (.complex .f64 a b) (.complex .f64 c e)
  have p2 := part66 (.complex .f64 a' b') (.complex .f64 c' e')
  have q1 := eq_cx d a b a' b'
  have q2 := eq_cx d c e c' e'
  rw [Op.equalIn, pureRun_bind, pureRun_underlying, hu, Option.bind_some]
  simp only [pureRun_bind, pureRun_program, Option.bind_some, sih68, Bool.false_eq_true, if_false]
  rw [← Array.forIn_toList]
  simp only [List.forIn_cons, List.forIn_nil, pureRun_bind, if_pos n0, if_pos n1, n0, n1, t0, t1, o0, o1, p1.1, p1.2, p2.1, p2.2, q1, q2, Option.bind_some]
  cases h1 : (Op.floatEq .f64 a a' && Op.floatEq .f64 b b') with
  | false => rfl
  | true =>
    simp only [Bool.not_true, Bool.false_eq_true, if_false, pureRun_pure, Option.bind_some, pureRun_bind, p1.2, p2.2, q2, Bool.true_and]
    cases h2 : (Op.floatEq .f64 c c' && Op.floatEq .f64 e e') with
    | false => rfl
    | true => rfl
theorem floatEq_fl (a b : Int) (ha : a.natAbs < 2 ^ 53) (hb : b.natAbs < 2 ^ 53) : Op.floatEq .f64 (fl a) (fl b) = decide (a = b) := by
  unfold Op.floatEq
  rw [forder a b ha hb]
  by_cases h : a < b
  · have : ¬ a = b := by omega
    simp [h, this]
  · by_cases h2 : a = b
    · simp [h2]
    · simp [h, h2]
theorem bin_box (a b : Bx) (ha : a.ok) (hb : b.ok) (σ : CSt) (x y : Operand) : binF Tryz.prog σ .eql 68 x y (.agg (encX a).toArray) (.agg (encX b).toArray) = .val (.bool (decide (a = b))) σ ∧ binF Tryz.prog σ .neq 68 x y (.agg (encX a).toArray) (.agg (encX b).toArray) = .val (.bool (!decide (a = b))) σ := by
  have he := eq_box 9998 (fl a.x0) (fl a.y0) (fl a.x1) (fl a.y1) (fl b.x0) (fl b.y0) (fl b.x1) (fl b.y1)
  obtain ⟨a1, a2, a3, a4⟩ := ha
  obtain ⟨b1, b2, b3, b4⟩ := hb
  rw [floatEq_fl _ _ (by omega) (by omega), floatEq_fl _ _ (by omega) (by omega), floatEq_fl _ _ (by omega) (by omega), floatEq_fl _ _ (by omega) (by omega)] at he
  have hd : ((decide (a.x0 = b.x0) && decide (a.y0 = b.y0)) && (decide (a.x1 = b.x1) && decide (a.y1 = b.y1))) = decide (a = b) := by
    cases a; cases b
    simp [Bool.and_assoc]
  rw [hd] at he
  have he' : pureRun Tryz.prog (Op.equal 68 (.agg (encX a).toArray) (.agg (encX b).toArray)) = some (decide (a = b)) := he
  have hgt : Tryz.prog.eqGuardType Tryz.prog.depth 68 = false := by kernel_rfl
  have hgd : ∀ op, pureRun Tryz.prog (eqGuard op 68 x y (.agg (encX a).toArray) (.agg (encX b).toArray)) = some () := by
    intro op
    unfold eqGuard
    cases op <;> simp [pureRun_bind, pureRun_program, hgt]
  have e1 : pureRun Tryz.prog (binOp .eql 68 (.agg (encX a).toArray) (.agg (encX b).toArray)) = some (.bool (decide (a = b))) := by
    have : binOp .eql 68 (.agg (encX a).toArray) (.agg (encX b).toArray) = (do pure (.bool (← Op.equal 68 (.agg (encX a).toArray) (.agg (encX b).toArray))) : Sem Value) := rfl
    rw [this, pureRun_bind, he']
    rfl
  have e2 : pureRun Tryz.prog (binOp .neq 68 (.agg (encX a).toArray) (.agg (encX b).toArray)) = some (.bool (!decide (a = b))) := by
    have : binOp .neq 68 (.agg (encX a).toArray) (.agg (encX b).toArray) = (do pure (.bool (!(← Op.equal 68 (.agg (encX a).toArray) (.agg (encX b).toArray)))) : Sem Value) := rfl
    rw [this, pureRun_bind, he']
    rfl
  have hfl : (flat (.agg (encX a).toArray) && flat (.agg (encX b).toArray)) = true := rfl
  constructor
  · unfold binF
    rw [if_pos hfl, pureRun_bind, hgd, Option.bind_some, e1]
    rfl
  · unfold binF
    rw [if_pos hfl, pureRun_bind, hgd, Option.bind_some, e2]
    rfl
end Go.Sm
/- Locks out of small numbers. -/
set_option linter.unusedVariables false
set_option linter.unusedSimpArgs false
namespace Go.Sm
open Go Go.Proofs
set_option maxRecDepth 100000
set_option maxHeartbeats 4000000
/-- A key, by a number. -/
def keyOf (n : Int) : ByteArray := match n.toNat with
  | 0 => ⟨#[97]⟩ | 1 => ⟨#[98]⟩ | 2 => ⟨#[98, 97]⟩ | 3 => ⟨#[98, 98]⟩ | 4 => ⟨#[99]⟩ | 5 => ⟨#[122, 122]⟩ | 6 => ⟨#[]⟩ | _ => ⟨#[255]⟩
theorem key_spec (n : Int) (h0 : 0 ≤ n) (h1 : n < 256) (σ : CSt) (Q : Out → CSt → Prop) (h : ∀ σ', Grow σ σ' → Q (.ret (.string (keyOf (n.tmod 8))) false) σ') : W E1 (.fn 17 #[.int .u8 n] none) σ Q := by
  rw [W_fn (fn := Tryz.f17) Tryz.func17 rfl rfl rfl]
  have h2 : 0 ≤ n.tmod 8 := Int.tmod_nonneg 8 h0
  have h3 : n.tmod 8 < 8 := Int.tmod_lt_of_pos n (by decide)
  obtain ⟨k, hk⟩ : ∃ k : Nat, n.tmod 8 = k := ⟨(n.tmod 8).toNat, by omega⟩
  have h4 : k < 8 := by omega
  rw [hk] at h
  have hg := fun o => h _ ((Grow.refl σ).alloc o)
  match k, hk, h4, hg with
  | 0, hk, _, hg => have := hg (.cells [.string ⟨#[97]⟩, .string ⟨#[98]⟩, .string ⟨#[98, 97]⟩, .string ⟨#[98, 98]⟩, .string ⟨#[99]⟩, .string ⟨#[122, 122]⟩, .string ⟨#[]⟩, .string ⟨#[255]⟩] 9 false); simpa [wops_cons, hk, keyOf] using this
  | 1, hk, _, hg => have := hg (.cells [.string ⟨#[97]⟩, .string ⟨#[98]⟩, .string ⟨#[98, 97]⟩, .string ⟨#[98, 98]⟩, .string ⟨#[99]⟩, .string ⟨#[122, 122]⟩, .string ⟨#[]⟩, .string ⟨#[255]⟩] 9 false); simpa [wops_cons, hk, keyOf] using this
  | 2, hk, _, hg => have := hg (.cells [.string ⟨#[97]⟩, .string ⟨#[98]⟩, .string ⟨#[98, 97]⟩, .string ⟨#[98, 98]⟩, .string ⟨#[99]⟩, .string ⟨#[122, 122]⟩, .string ⟨#[]⟩, .string ⟨#[255]⟩] 9 false); simpa [wops_cons, hk, keyOf] using this
  | 3, hk, _, hg => have := hg (.cells [.string ⟨#[97]⟩, .string ⟨#[98]⟩, .string ⟨#[98, 97]⟩, .string ⟨#[98, 98]⟩, .string ⟨#[99]⟩, .string ⟨#[122, 122]⟩, .string ⟨#[]⟩, .string ⟨#[255]⟩] 9 false); simpa [wops_cons, hk, keyOf] using this
  | 4, hk, _, hg => have := hg (.cells [.string ⟨#[97]⟩, .string ⟨#[98]⟩, .string ⟨#[98, 97]⟩, .string ⟨#[98, 98]⟩, .string ⟨#[99]⟩, .string ⟨#[122, 122]⟩, .string ⟨#[]⟩, .string ⟨#[255]⟩] 9 false); simpa [wops_cons, hk, keyOf] using this
  | 5, hk, _, hg => have := hg (.cells [.string ⟨#[97]⟩, .string ⟨#[98]⟩, .string ⟨#[98, 97]⟩, .string ⟨#[98, 98]⟩, .string ⟨#[99]⟩, .string ⟨#[122, 122]⟩, .string ⟨#[]⟩, .string ⟨#[255]⟩] 9 false); simpa [wops_cons, hk, keyOf] using this
  | 6, hk, _, hg => have := hg (.cells [.string ⟨#[97]⟩, .string ⟨#[98]⟩, .string ⟨#[98, 97]⟩, .string ⟨#[98, 98]⟩, .string ⟨#[99]⟩, .string ⟨#[122, 122]⟩, .string ⟨#[]⟩, .string ⟨#[255]⟩] 9 false); simpa [wops_cons, hk, keyOf] using this
  | 7, hk, _, hg => have := hg (.cells [.string ⟨#[97]⟩, .string ⟨#[98]⟩, .string ⟨#[98, 97]⟩, .string ⟨#[98, 98]⟩, .string ⟨#[99]⟩, .string ⟨#[122, 122]⟩, .string ⟨#[]⟩, .string ⟨#[255]⟩] 9 false); simpa [wops_cons, hk, keyOf] using this
structure S3 where
  lo : Int
  hi : Int
  near : Int
def S3.ok (s : S3) : Prop := ((0 ≤ s.lo ∧ s.lo < 18446744073709551616) ∧ 0 ≤ s.hi ∧ s.hi < 18446744073709551616) ∧ 0 ≤ s.near ∧ s.near < 256
def encT (s : S3) : List Value := [.int .u64 s.lo, .int .u64 s.hi, .int .u8 s.near]
def makeS (s : S3) : Sn :=
  if s.near.tmod 4 = 0 then ⟨s.lo, s.hi⟩
  else if s.near.tmod 4 = 1 then ⟨IntKind.u64.wrap (-(s.lo.tmod 20)), IntKind.u64.wrap (-(s.hi.tmod 20))⟩
  else ⟨s.lo.tmod 30, s.hi.tmod 30⟩
theorem wrap64 (n : Int) : 0 ≤ IntKind.u64.wrap n ∧ IntKind.u64.wrap n < 18446744073709551616 := by
  have h : IntKind.u64.wrap n = n % 18446744073709551616 := by simp [IntKind.wrap, IntKind.bits, IntKind.signed]
  rw [h]
  omega
theorem makeS_ok {s : S3} (h : s.ok) : (makeS s).ok := by
  obtain ⟨⟨⟨h1, h2⟩, h3, h4⟩, h5, h6⟩ := h
  have a1 := Int.tmod_nonneg 30 h1
  have a2 := Int.tmod_nonneg 30 h3
  have a3 := Int.tmod_lt_of_pos s.lo (show (0 : Int) < 30 by decide)
  have a4 := Int.tmod_lt_of_pos s.hi (show (0 : Int) < 30 by decide)
  unfold makeS
  split
  · exact ⟨⟨h1, h2⟩, h3, h4⟩
  · split
    · exact ⟨wrap64 _, wrap64 _⟩
    · exact ⟨⟨a1, by show s.lo.tmod 30 < _; omega⟩, a2, by show s.hi.tmod 30 < _; omega⟩
theorem makeS_spec (s : S3) (hs : s.ok) (σ : CSt) (Q : Out → CSt → Prop) (h : ∀ σ', Grow σ σ' → Q (.ret (.agg (encS (makeS s)).toArray) false) σ') : W E1 (.fn 60 #[.agg (encT s).toArray] none) σ Q := by
  rw [W_fn (fn := Tryz.f60) Tryz.func60 rfl rfl rfl]
  obtain ⟨⟨⟨h1, h2⟩, h3, h4⟩, h5, h6⟩ := hs
  have hne : ¬ σ.n = σ.n + 1 := by omega
  have hG := fun l => h (((σ.alloc (.cells (encT s) 44 false)).alloc (.cells [.int .u64 0, .int .u64 0] 31 false)).put (σ.n + 1) (.cells l 31 false)) ((((Grow.refl σ).alloc _).alloc _).put (by omega) _)
  simp only [encT] at hG
  by_cases e0 : s.near.tmod 4 = 0
  · have := hG (encS (makeS s))
    simp only [makeS, e0, if_true, encS] at this
    simpa [wops_cons, encT, encS, e0, hne] using this
  · by_cases e1 : s.near.tmod 4 = 1
    · have := hG (encS (makeS s))
      simp only [makeS, e1, if_true, encS] at this
      simpa [wops_cons, encT, encS, e0, e1, hne] using this
    · have := hG (encS (makeS s))
      simp only [makeS, e0, e1, if_false, encS] at this
      simpa [wops_cons, encT, encS, e0, e1, hne] using this
end Go.Sm
/- Locks: made, good or not, added; the spans' order. -/
set_option linter.unusedVariables false
set_option linter.unusedSimpArgs false
namespace Go.Sm
open Go Go.Proofs
set_option maxRecDepth 100000
set_option maxHeartbeats 4000000
theorem klt_irrefl (k : ByteArray) : klt k k = false := bl_irrefl _
theorem klt_trans {a b c : ByteArray} (h : klt a b = true) (h' : klt b c = true) : klt a c = true := bl_trans h h'
theorem klt_tri {a b : ByteArray} (h : klt a b = false) (h' : klt b a = false) : a = b := ba_list_inj (bl_tri h h')
theorem kle_eq (s u : ByteArray) : (klt s u || s.toList == u.toList) = !klt u s := by
  cases h : klt s u with
  | true =>
    have := bl_asymm h
    unfold klt; rw [this]; rfl
  | false =>
    by_cases e : s.toList = u.toList
    · have e2 := ba_list_inj e
      subst e2
      simp [klt_irrefl]
    · cases h2 : klt u s with
      | true => simp [e]
      | false => exact absurd (bl_tri h h2) e
structure LL where
  owner : Int
  frm : Int
  to : Int
  s : S3
def LL.ok (l : LL) : Prop := (0 ≤ l.owner ∧ l.owner < 256) ∧ (0 ≤ l.frm ∧ l.frm < 256) ∧ (0 ≤ l.to ∧ l.to < 256) ∧ l.s.ok
def encL (l : LL) : List Value := [.int .u8 l.owner, .int .u8 l.frm, .int .u8 l.to, .int .u64 l.s.lo, .int .u64 l.s.hi, .int .u8 l.s.near]
theorem lenL (l : LL) : (encL l).length = 6 := rfl
structure Lk where
  owner : Int
  frm : ByteArray
  to : ByteArray
  sp : Sn
  deriving DecidableEq
def encK (k : Lk) : List Value := [.int .i64 k.owner, .string k.frm, .string k.to, .int .u64 k.sp.lo, .int .u64 k.sp.hi]
theorem lenK (k : Lk) : (encK k).length = 5 := rfl
theorem cokK (k : Lk) : cokL (encK k) = true := rfl
def lkOf (l : LL) : Lk := ⟨l.owner.tmod 5, keyOf (l.frm.tmod 8), keyOf (l.to.tmod 8), makeS l.s⟩
def goodK (k : Lk) : Bool := !klt k.to k.frm && full k.sp
theorem lmake_spec (l : LL) (hl : l.ok) (σ : CSt) (Q : Out → CSt → Prop) (h : ∀ σ', Grow σ σ' → Q (.ret (.agg (encK (lkOf l)).toArray) false) σ') : W E1 (.fn 26 #[.agg (encL l).toArray] none) σ Q := by
  rw [W_fn (fn := Tryz.f26) Tryz.func26 rfl rfl rfl]
  obtain ⟨⟨ho0, ho1⟩, ⟨hf0, hf1⟩, ⟨ht0, ht1⟩, hs⟩ := hl
  have g1 : Grow σ ((σ.alloc (.cells (encL l) 46 false)).alloc (.cells [.int .i64 0, .string ⟨#[]⟩, .string ⟨#[]⟩, .int .u64 0, .int .u64 0] 33 false)) := ((Grow.refl σ).alloc _).alloc _
  have hc1 : ((σ.alloc (.cells (encL l) 46 false)).alloc (.cells [.int .i64 0, .string ⟨#[]⟩, .string ⟨#[]⟩, .int .u64 0, .int .u64 0] 33 false)).get σ.n = some (.cells (encL l) 46 false) := by rw [ga_old (by simp only [CSt.n_alloc]; omega), ga_top (by simp only [CSt.n_alloc])]
  have hc2 : ((σ.alloc (.cells (encL l) 46 false)).alloc (.cells [.int .i64 0, .string ⟨#[]⟩, .string ⟨#[]⟩, .int .u64 0, .int .u64 0] 33 false)).get (σ.n + 1) = some (.cells [.int .i64 0, .string ⟨#[]⟩, .string ⟨#[]⟩, .int .u64 0, .int .u64 0] 33 false) := by rw [ga_top (by simp only [CSt.n_alloc])]
  have hn1 : ((σ.alloc (.cells (encL l) 46 false)).alloc (.cells [.int .i64 0, .string ⟨#[]⟩, .string ⟨#[]⟩, .int .u64 0, .int .u64 0] 33 false)).n = σ.n + 2 := by simp
  simp only [encL] at hn1 g1 hc1 hc2
  simp [wops_cons, encL, Nat.add_assoc]
  generalize (σ.alloc (.cells [.int .u8 l.owner, .int .u8 l.frm, .int .u8 l.to, .int .u64 l.s.lo, .int .u64 l.s.hi, .int .u8 l.s.near] 46 false)).alloc (.cells [.int .i64 0, .string ⟨#[]⟩, .string ⟨#[]⟩, .int .u64 0, .int .u64 0] 33 false) = σ1 at g1 hc1 hc2 hn1 ⊢
  have hw : IntKind.i64.wrap (l.owner.tmod 5) = l.owner.tmod 5 := by
    have := Int.tmod_nonneg 5 ho0
    have := Int.tmod_lt_of_pos l.owner (show (0 : Int) < 5 by decide)
    exact IntWalk.i64_in _ (by omega)
  refine W_drawn (l := [0, 1, 2, 3, 4, 5, 7, 8, 10, 11, 6, 9, 12, 13, 14]) (b := #[0, 1, 3, 7, 0, 16, 48, 0, 128, 496, 0, 1024, 4080, 8191, 16383]) (by kernel_rfl) (by kernel_rfl) (by kernel_rfl) ?_
  simp [dopsR_cons, opAt, isEff, again, befBits, isRead, Nat.add_assoc, hc1, hw]
  refine key_spec l.frm hf0 hf1 σ1 _ fun σ2 g2 => ?_
  have hc12 := g2.get hc1 (by omega)
  have hc22 := g2.get hc2 (by omega)
  have gn2 := g2.n
  simp [dopsR_cons, opAt, isEff, again, befBits, isRead, Nat.add_assoc, hc12, hw]
  refine key_spec l.to ht0 ht1 σ2 _ fun σ3 g3 => ?_
  have hc13 := g3.get hc12 (by omega)
  have hc23 := g3.get hc22 (by omega)
  have gn3 := g3.n
  simp [dopsR_cons, opAt, isEff, again, befBits, isRead, Nat.add_assoc, hc13, hw]
  have hm := makeS_spec l.s hs σ3
  simp only [encT] at hm
  refine hm _ fun σ4 g4 => ?_
  have hc14 := g4.get hc13 (by omega)
  have hc24 := g4.get hc23 (by omega)
  have gn4 := g4.n
  have hfin := h _ ((((g1.trans g2).trans g3).trans g4).put (i := σ.n + 1) (by omega) (.cells (encK (lkOf l)) 33 false))
  simp only [encK, lkOf] at hfin
  simpa [dopsR_cons, wops_cons, opAt, isEff, again, befBits, isRead, Nat.add_assoc, encS, hc14, hc24, hw] using hfin
theorem good_spec (k : Lk) (σ : CSt) (Q : Out → CSt → Prop) (h : ∀ σ', Grow σ σ' → Q (.ret (.bool (goodK k)) false) σ') : W E1 (.fn 30 #[.agg (encK k).toArray] none) σ Q := by
  rw [W_fn (fn := Tryz.f30) Tryz.func30 rfl rfl rfl]
  have := h _ ((Grow.refl σ).alloc (.cells (encK k) 33 false))
  have hk : (klt k.frm k.to || k.frm.toList == k.to.toList) = !klt k.to k.frm := kle_eq _ _
  simp only [goodK, full] at this
  cases hk2 : klt k.to k.frm with
  | true =>
    rw [hk2] at this hk
    simpa [wops_cons, wops_if', dstOf, encK, hk] using this
  | false =>
    rw [hk2] at this hk
    by_cases e : k.sp.lo ≤ k.sp.hi
    · simpa [wops_cons, wops_if', dstOf, encK, hk, e] using this
    · simpa [wops_cons, wops_if', dstOf, encK, hk, e] using this
end Go.Sm
/- Boxes of locks: a key found among keys; a box made; are two rows of boxes the same? -/
set_option linter.unusedVariables false
set_option linter.unusedSimpArgs false
namespace Go.Sm
open Go Go.Proofs
set_option maxRecDepth 100000
set_option maxHeartbeats 4000000
theorem mid_eq (lo hi : Int) (h1 : 0 ≤ lo) (h2 : lo < hi) (h3 : hi < 2 ^ 62) : IntKind.i64.wrap ((IntKind.u64.wrap (IntKind.i64.wrap (lo + hi))).fdiv (2 ^ min 1 IntKind.u64.bits)) = (lo + hi) / 2 := by
  rw [IntWalk.i64_in (lo + hi) (by omega), IntWalk.u64_in _ (by omega)]
  have : (2 ^ min 1 IntKind.u64.bits : Int) = 2 := by decide
  rw [this, Int.fdiv_eq_ediv_of_nonneg _ (by omega), IntWalk.i64_in _ (by omega)]
theorem isNaN_91 (x : ByteArray) (σ : CSt) (Q : Out → CSt → Prop) (h : Q (.ret (.bool false) false) σ) : W E1 (.fn 91 #[.string x] none) σ Q := by
  rw [W_fn (fn := Tryz.f91) Tryz.func91 rfl rfl rfl]
  simpa [wops_cons] using h
/-- So many are below. -/
structure Below (l : List ByteArray) (x : ByteArray) (k : Nat) : Prop where
  le : k ≤ l.length
  lo : ∀ j (h : j < l.length), j < k → klt l[j] x = true
  hi : ∀ j (h : j < l.length), k ≤ j → klt l[j] x = false
theorem cell_s {l : List ByteArray} {row : List Value} {off : Nat} (h : (row.drop off).take (l.length * 1) = l.flatMap Str.encS) (k : Nat) (hk : k < l.length) : row[off + k]? = some (.string l[k]) := by
  have := row_cell (enc := Str.encS) Str.lenS h k 0 hk (by decide)
  rw [Nat.mul_one, Nat.add_zero] at this
  rw [this]
  rfl
theorem bsearch_spec (l : List ByteArray) (hs : l.Pairwise fun a b => klt a b = true) (x : ByteArray) (v : Value) (σ : CSt) (hsl : Sl σ 9 1 Str.encS v l) (hbig : l.length < 2 ^ 40) (Q : Out → CSt → Prop)
    (h : ∀ (k : Nat) (f : Bool), Below l x k → (f = true ↔ x ∈ l) → Q (.ret (.tuple #[.int .i64 k, .bool f]) false) σ) : W E1 (.fn 67 #[v, .string x] none) σ Q := by
  rw [W_fn (fn := Tryz.f67) Tryz.func67 rfl rfl rfl]
  have hmono : ∀ j k (hj : j < l.length) (hk : k < l.length), j < k → klt l[j] l[k] = true := fun j k hj hk hjk => List.pairwise_iff_getElem.1 hs j k hj hk hjk
  obtain ⟨p, c, rfl⟩ := hsl.form
  simp [wops_cons]
  refine W_loop_J (fun n a s => ∃ tm, ∃ lo hi : Nat, a = ⟨tm, 54, [], false⟩ ∧ tm.get 0 = some (.slice p l.length c) ∧ tm.get 1 = some (.string x) ∧ tm.get 6 = some (.int .i64 l.length) ∧ tm.get 7 = some (.int .i64 (lo : Nat)) ∧ tm.get 8 = some (.int .i64 (hi : Nat)) ∧ lo ≤ hi ∧ hi ≤ l.length ∧ n = hi - lo ∧ (∀ j (h : j < l.length), j < lo → klt l[j] x = true) ∧ (∀ j (h : j < l.length), hi ≤ j → klt l[j] x = false) ∧ s = σ)
    (fun out s => ∃ tm, ∃ k : Nat, out = .code (.exit 0) ⟨tm, 54, [], false⟩ ∧ tm.get 0 = some (.slice p l.length c) ∧ tm.get 1 = some (.string x) ∧ tm.get 6 = some (.int .i64 l.length) ∧ tm.get 7 = some (.int .i64 (k : Nat)) ∧ Below l x k ∧ s = σ) ?_ l.length _ _ ?_ ?_
  · rintro n a s ⟨tm, lo, hi, rfl, e0, e1, e6, e7, e8, hlh, hhl, hn, hlo, hhi, rfl⟩
    by_cases hlt : lo < hi
    · have hlt' : (lo : Int) < hi := by omega
      have hm := mid_eq lo hi (by omega) hlt' (by omega)
      obtain ⟨m, hmm⟩ : ∃ m : Nat, ((lo : Int) + hi) / 2 = m := ⟨(((lo : Int) + hi) / 2).toNat, by omega⟩
      have hm1 : m < l.length := by omega
      have hm2 : lo ≤ m ∧ m < hi := by omega
      have hm1' : (m : Int) < l.length := by omega
      rw [hmm] at hm
      obtain ⟨i, off, row, ro, rfl, hg, hin, hrow, hle⟩ := hsl.at hm1
      have hld := cell_s hrow m hm1
      have hl1 := row_le hle m hm1
      have hw := i64n1 m (by omega)
      simp [wops_cons, e0, e1, e6, e7, e8, hlt, hlt', hm, hm1, hm1', hg, hld, hl1]
      refine Str.less_s _ _ _ _ ?_
      cases hc : klt l[m] x with
      | true =>
        simp [wops_cons, hc, e0, e1, e6, e7, e8, hw]
        refine ⟨hi - (m + 1), by omega, m + 1, rfl, hi, rfl, by omega, by omega, rfl, fun j hj h1 => ?_, hhi⟩
        by_cases hjm : j = m
        · subst hjm; exact hc
        · exact klt_trans (hmono j m hj hm1 (by omega)) hc
      | false =>
        simp [wops_cons, hc, e0, e1, e6, e7, e8]
        refine ⟨m - lo, by omega, lo, rfl, m, rfl, by omega, by omega, rfl, hlo, fun j hj h1 => ?_⟩
        by_cases hjm : j = m
        · subst hjm; exact hc
        · cases hc2 : klt l[j] x with
          | false => rfl
          | true =>
            have := klt_trans (hmono m j hm1 hj (by omega)) hc2
            rw [hc] at this
            cases this
    · have hk : hi = lo := by omega
      have hlt' : ¬ (lo : Int) < hi := by omega
      subst hk
      simp [wops_cons, e0, e1, e6, e7, e8]
      exact ⟨hi, rfl, hhl, hlo, hhi⟩
  · refine ⟨_, 0, l.length, rfl, ?_⟩
    simp
    exact fun j h1 h2 => by omega
  · rintro out s ⟨tm, k, rfl, e0, e1, e6, e7, hb, rfl⟩
    have hmem : x ∈ l ↔ ∃ h : k < l.length, l[k] = x := by
      constructor
      · intro hx
        obtain ⟨i, hi, rfl⟩ := List.mem_iff_getElem.1 hx
        have h1 : k ≤ i := by
          by_cases hik : i < k
          · have := hb.lo i hi hik
            rw [klt_irrefl] at this
            cases this
          · omega
        by_cases h2 : k = i
        · subst h2; exact ⟨hi, rfl⟩
        · have h3 := hb.hi k (by omega) (Nat.le_refl _)
          rw [hmono k i (by omega) hi (by omega)] at h3
          cases h3
      · rintro ⟨hk, rfl⟩
        exact List.getElem_mem hk
    by_cases hkl : k < l.length
    · have hkl' : (k : Int) < l.length := by omega
      obtain ⟨i, off, row, ro, rfl, hg, hin, hrow, hle⟩ := hsl.at hkl
      have hld := cell_s hrow k hkl
      have hl1 := row_le hle k hkl
      by_cases heq : l[k] = x
      · have hx : x ∈ l := hmem.2 ⟨hkl, heq⟩
        have hts : (l[k].toList == x.toList) = true := by rw [heq]; simp
        have hfin := h k true hb ⟨fun _ => hx, fun _ => rfl⟩
        rw [heq] at hld
        simpa [wops_cons, wops_if', dstOf, e0, e1, e6, e7, hkl, hkl', hg, hld, hl1] using hfin
      · have hx : ¬ x ∈ l := fun hc => heq (hmem.1 hc).2
        have hts : ¬ l[k].toList = x.toList := fun hc => heq (ba_list_inj hc)
        have hfin := h k false hb ⟨fun hc => Bool.noConfusion hc, fun hc => absurd hc hx⟩
        simp [wops_cons, wops_if', dstOf, e0, e1, e6, e7, hkl, hkl', hg, hld, hl1, hts]
        refine isNaN_91 _ _ _ ?_
        simpa [wops_cons, wops_if', dstOf, e0, e1, e6, e7, hkl, hkl', hg, hld, hl1, hts] using hfin
    · have hx : ¬ x ∈ l := fun hc => hkl (hmem.1 hc).1
      have hkl' : ¬ (k : Int) < l.length := by omega
      have hfin := h k false hb ⟨fun hc => Bool.noConfusion hc, fun hc => absurd hc hx⟩
      simpa [wops_cons, wops_if', dstOf, e0, e1, e6, e7, hkl, hkl'] using hfin
end Go.Sm
/- Strings put together; numbers as strings. -/
set_option linter.unusedVariables false
set_option linter.unusedSimpArgs false
namespace Go.Sm
open Go
end Go.Sm
/- Boxes, drawn. -/
set_option linter.unusedVariables false
set_option linter.unusedSimpArgs false
namespace Go.Sm
open Go Go.Proofs
set_option maxRecDepth 100000
set_option maxHeartbeats 4000000
def sv (l : List UInt8) : Value := .string ⟨l.toArray⟩
@[simp] theorem isNil_sv {P : Program} (op : BinOp) (t : TypeId) (l : List UInt8) (y : Value) : isNilCmp P op t (sv l) y = none := isNil_string op t _ y
end Go.Sm
/- Ranges over functions, as equations. -/
set_option linter.unusedVariables false
set_option linter.unusedSimpArgs false
namespace Go.Sm
open Go
variable {E : Env} {σ : CSt}
@[simp] theorem wres_yield (x : Ctx) (a : CAct) (d : Option Tmp) (K : CAct → CSt → Prop) (Q : Out → CSt → Prop) (L : Nat) (fs cs args : Array Value) (h : extOf E (.func (.yield L) fs cs) args σ = none) :
    wres E x a d K Q σ (.call (.func (.yield L) fs cs) args) = W E (.round L (fs ++ args)) σ (kret a d K Q) := by
  simp only [wres, h, callv]
  rfl
@[simp] theorem dres_yield (ops : Array Oper) (a0 a : CAct) (d : Option Tmp) (K : CAct → CSt → Prop) (Q : Out → CSt → Prop) (L : Nat) (fs cs args : Array Value) (h : extOf E (.func (.yield L) fs cs) args σ = none) :
    dres E ops a0 a d K Q σ (.call (.func (.yield L) fs cs) args) = W E (.round L (fs ++ args)) σ (kretd ops a0 a d K Q) := by
  simp only [dres, h, callv]
  rfl
@[simp] theorem ext_yield (L : Nat) (fs cs args : Array Value) (σ : CSt) : extOf E (.func (.yield L) fs cs) args σ = none := (rfl)
end Go.Sm
/- Maps: their entries as a list; ranges over them. -/
set_option linter.unusedVariables false
set_option linter.unusedSimpArgs false
namespace Go.Sm
open Go
/-- A map's entries. -/
abbrev MlG (κ : Type) := List (κ × Value)
abbrev Ml := MlG ByteArray
section
variable {κ : Type} [DecidableEq κ]
def EntsG (key : κ → Value) (es : List MapEntry) (M : MlG κ) : Prop := es.map (fun e => (e.key, e.val)) = M.map fun p => (key p.1, p.2)
/-- Keys of a kind: the model finds them. -/
structure Keyed (key : κ → Value) (kd : TypeDesc) : Prop where
  flat : ∀ k, flat0 (key k) = true
  same : ∀ k k', Instr.sameNow kd (key k) (key k') = some (decide (k' = k))
  inj : ∀ k k', key k = key k' → k = k'
/-- The entries; their births are of their own, before the clock; no key twice. -/
structure EntsOk (key : κ → Value) (es : List MapEntry) (clock : Nat) (M : MlG κ) : Prop where
  ents : EntsG key es M
  nodup : (es.map (·.born)).Nodup
  born : ∀ e ∈ es, e.born < clock
  keys : (M.map (·.1)).Nodup
def MpG (key : κ → Value) (σ : CSt) (m : Nat) (M : MlG κ) : Prop := ∃ es clock, σ.get m = some (.map es clock) ∧ EntsOk key es.toList clock M
theorem EntsG.length {κ : Type} {key : κ → Value} {es : List MapEntry} {M : MlG κ} (h : EntsG key es M) : es.length = M.length := by have := congrArg List.length h; simpa using this
end
/-! ### Ranges -/
section
variable {κ : Type} [DecidableEq κ]
/-- A range over a map: what is yet to come. -/
def MIt (key : κ → Value) (σ : CSt) (r m : Nat) (M S : MlG κ) : Prop := ∃ es clock seen, σ.get m = some (.map es clock) ∧ EntsOk key es.toList clock M ∧ σ.get r = some (.miter (some m) clock seen clock) ∧ r ≠ m ∧ EntsG key (es.toList.filter fun e => !seen.contains e.born) S
theorem MIt.congr {κ : Type} {key : κ → Value} {σ σ' : CSt} {r m : Nat} {M S : MlG κ} (h : MIt key σ r m M S) (h1 : σ'.get r = σ.get r) (h2 : σ'.get m = σ.get m) : MIt key σ' r m M S := by
  obtain ⟨es, clock, seen, a, b, c, d⟩ := h
  exact ⟨es, clock, seen, by rw [h2]; exact a, b, by rw [h1]; exact c, d⟩
theorem MIt.mp {κ : Type} {key : κ → Value} {σ : CSt} {r m : Nat} {M S : MlG κ} (h : MIt key σ r m M S) : MpG key σ m M := by
  obtain ⟨es, clock, seen, a, b, c, d⟩ := h
  exact ⟨es, clock, a, b⟩
variable {P : Program} {σ : CSt} {ev : Operand → Value} {dst : Option Tmp} {ty : TypeId} {pos : String} {after : Array Edge} {g : Option (Nat × Bool)}
@[simp] theorem copE_range (t : TypeId) (x : Operand) : cop P σ ev ⟨dst, .range t x, ty, pos, after, g⟩ = OpR.ofP (rangeOp P σ t (ev x)) := (rfl)
@[simp] theorem copE_next (it : Operand) (s : Bool) : cop P σ ev ⟨dst, .next it s, ty, pos, after, g⟩ = nextOp σ (ev it) s := (rfl)
@[simp] theorem copE_entry (it : Operand) : cop P σ ev ⟨dst, .entry it, ty, pos, after, g⟩ = OpR.ofV σ (entryOp σ (ev it)) := (rfl)
end
end Go.Sm
/- Slices of one's own that have more room behind them. -/
set_option linter.unusedVariables false
set_option linter.unusedSimpArgs false
namespace Go.Sm
open Go
/-- A slice that is one's own: the first part of an object that was made behind a point. -/
def OwnZ {α : Type} (b : Nat) (σ : CSt) (e : TypeId) (enc : α → List Value) (v : Value) (l : List α) : Prop :=
  (v = .slice none 0 0 ∧ l = []) ∨ ∃ i cap zs, v = .slice (some ⟨i, 0, none⟩) l.length cap ∧ b ≤ i ∧ i < σ.n ∧ σ.get i = some (.cells (l.flatMap enc ++ zs) e false) ∧ cokL zs = true ∧ (cap = openCap ∨ (l = [] ∧ cap = 0 ∧ zs = []))
section
variable {α : Type} {σ σ' : CSt} {e : TypeId} {sz : Nat} {enc : α → List Value} {v : Value} {l : List α} {b : Nat}
theorem OwnZ.nil : OwnZ b σ e enc (.slice none 0 0) ([] : List α) := .inl ⟨rfl, rfl⟩
theorem Own.z (h : Own b σ e enc v l) : OwnZ b σ e enc v l := by
  rcases h with h | ⟨i, cap, h1, hb, hi, h2, h3⟩
  · exact .inl h
  · refine .inr ⟨i, cap, [], h1, hb, hi, by rw [List.append_nil]; exact h2, rfl, ?_⟩
    rcases h3 with h3 | ⟨h3, h4⟩
    · exact .inl h3
    · exact .inr ⟨h3, h4, rfl⟩
theorem OwnZ.sl (hsz : ∀ x, (enc x).length = sz) (h : OwnZ b σ e enc v l) : Sl σ e sz enc v l := by
  rcases h with h | ⟨i, cap, zs, rfl, hb, hi, hg, hz, hc⟩
  · exact .inl h
  · have hl := enc_length enc hsz l
    refine .inr ⟨i, 0, cap, _, false, rfl, hg, hi, ?_, ?_, ?_⟩
    · rw [List.drop_zero, ← hl, List.take_left]
    · rw [List.length_append]; omega
    · rcases hc with rfl | ⟨rfl, rfl, _⟩
      · exact .inl rfl
      · exact .inr ⟨by simp, by simp [openCap]⟩
theorem OwnZ.grow (h : OwnZ b σ e enc v l) (hg : Grow σ σ') : OwnZ b σ' e enc v l := by
  rcases h with h | ⟨i, cap, zs, h1, hb, hi, h2, h3⟩
  · exact .inl h
  · exact .inr ⟨i, cap, zs, h1, hb, Nat.lt_of_lt_of_le hi hg.n, hg.get h2 hi, h3⟩
theorem OwnZ.keep (h : OwnZ b σ e enc v l) (hn : σ.n ≤ σ'.n) (hg : ∀ i, b ≤ i → i < σ.n → σ'.get i = σ.get i) : OwnZ b σ' e enc v l := by
  rcases h with h | ⟨i, cap, zs, h1, hb, hi, h2, h3⟩
  · exact .inl h
  · exact .inr ⟨i, cap, zs, h1, hb, Nat.lt_of_lt_of_le hi hn, by rw [hg i hb hi]; exact h2, h3⟩
theorem OwnZ.put (h : OwnZ b σ e enc v l) {i : Nat} (hi : i < b) (o : CObj) : OwnZ b (σ.put i o) e enc v l :=
  h.keep (Nat.le_refl _) fun j hj _ => by rw [CSt.get_put, if_neg (by omega)]
theorem OwnZ.weaken {b' : Nat} (h : OwnZ b σ e enc v l) (hb : b' ≤ b) : OwnZ b' σ e enc v l := by
  rcases h with h | ⟨i, cap, zs, h1, hb', h2⟩
  · exact .inl h
  · exact .inr ⟨i, cap, zs, h1, Nat.le_trans hb hb', h2⟩
theorem OwnZ.fr {T : TypeId → Prop} {b' : Nat} {s0 s1 : CSt} (h : OwnZ b' s0 e enc v l) (ht : ¬ T e) (hg : Fr T b s0 s1) : OwnZ b' s1 e enc v l := by
  rcases h with h | ⟨i, cap, zs, h1, hb, hi, h2, h3⟩
  · exact .inl h
  · exact .inr ⟨i, cap, zs, h1, hb, Nat.lt_of_lt_of_le hi hg.1, hg.get h2 hi (.inr fun row' e' ro' he => by cases he; exact ht), h3⟩
end
end Go.Sm
namespace Go.Sm
open Go
def objOf : Value → Option Nat
  | .slice (some ⟨i, _, _⟩) _ _ => some i
  | _ => none
/-- All but a slice's object is as it was. -/
def ButV (v : Value) (s0 s1 : CSt) : Prop := s0.n ≤ s1.n ∧ ∀ j, j < s0.n → objOf v ≠ some j → s1.get j = s0.get j
theorem ButV.refl (v : Value) (s : CSt) : ButV v s s := ⟨Nat.le_refl _, fun _ _ _ => rfl⟩
theorem ButV.trans {v : Value} {s0 s1 s2 : CSt} (h : ButV v s0 s1) (h' : ButV v s1 s2) : ButV v s0 s2 := ⟨Nat.le_trans h.1 h'.1, fun j hj hne => by rw [h'.2 j (Nat.lt_of_lt_of_le hj h.1) hne, h.2 j hj hne]⟩
theorem ButV.putV {v : Value} {i : Nat} {s0 s1 : CSt} (h : ButV v s0 s1) (hi : objOf v = some i) (o : CObj) : ButV v s0 (s1.put i o) := ⟨h.1, fun j hj hne => by rw [CSt.get_put, if_neg (by rintro rfl; exact hne hi)]; exact h.2 j hj hne⟩
theorem ButV.put {v : Value} {i : Nat} {s0 s1 : CSt} (h : ButV v s0 s1) (hi : s0.n ≤ i) (o : CObj) : ButV v s0 (s1.put i o) := ⟨h.1, fun j hj hne => by rw [CSt.get_put, if_neg (by omega)]; exact h.2 j hj hne⟩
theorem ButV.alloc {v : Value} {s0 s1 : CSt} (h : ButV v s0 s1) (o : CObj) : ButV v s0 (s1.alloc o) := ⟨by have := h.1; simp; omega, fun j hj hne => by have := h.1; rw [CSt.get_alloc, if_neg (by omega)]; exact h.2 j hj hne⟩
/-! ### What is filtered in place -/
section
variable {α : Type} {enc : α → List Value} {sz : Nat}
theorem drop_get {l d : List α} {j : Nat} (hj : j < l.length) (hd : d.length = l.length) (h3 : d.drop j = l.drop j) : d[j]'(by omega) = l[j] := by
  have := congrArg (·[0]?) h3
  simpa [List.getElem?_drop, List.getElem?_eq_getElem hj, List.getElem?_eq_getElem (show j < d.length by omega)] using this
/-- What is left, when the rest is made zero. -/
theorem clearZ (hsz : ∀ x, (enc x).length = sz) (d : List α) (i : Nat) (hi : i ≤ d.length) (zs os : List Value) (ho : os.length = (d.length - i) * sz) : (d.flatMap enc ++ zs).take (i * sz) ++ os ++ (d.flatMap enc ++ zs).drop (i * sz + os.length) = (d.take i).flatMap enc ++ (os ++ zs) := by
  have hl := enc_length enc hsz d
  have h1 : i * sz ≤ d.length * sz := Nat.mul_le_mul_right _ hi
  have h2 : i * sz + os.length = d.length * sz := by rw [ho, ← Nat.add_mul]; congr 1; omega
  rw [h2, List.take_append_of_le_length (by omega), enc_take enc hsz, ← hl, List.drop_left, List.append_assoc]
end
end Go.Sm
namespace Go.Sm
open Go
end Go.Sm
/- slices.IndexFunc, slices.DeleteFunc of 33. -/
set_option linter.unusedVariables false
set_option linter.unusedSimpArgs false
namespace Go.Sm
open Go Go.Proofs
set_option maxRecDepth 100000
set_option maxHeartbeats 4000000
end Go.Sm
/- slices.Clone of spans, locks, small locks. -/
set_option linter.unusedVariables false
set_option linter.unusedSimpArgs false
namespace Go.Sm
open Go Go.Proofs
set_option maxRecDepth 100000
set_option maxHeartbeats 4000000
attribute [local simp] appendOp_K
end Go.Sm
/- append to a slice of one's own: what else stays. -/
set_option linter.unusedVariables false
namespace Go.Sm
open Go
section
variable {α : Type} {P : Program} {σ : CSt} {e : TypeId} {sz b : Nat} {enc : α → List Value} {v x : Value} {l m : List α} {f : TF} {ts : Array TypeId}

theorem appendF_only (hsz : ∀ x, (enc x).length = sz) (hc : ∀ x, cokL (enc x) = true) (hfs : f.size = sz) (h0 : 0 < sz) (h1 : 0 < f.bytes) (h2 : f.zero.map List.length = some sz) (hown : Own b σ e enc v l) (hb : b ≤ σ.n)
    (hbig : (l.length + m.length) * f.bytes ≤ 2 ^ 47) (hl : l.length < 2 ^ 62) : ∃ v' σ', appendF σ e f v m.length (m.flatMap enc) = some (v', σ') ∧ Own b σ' e enc v' (l ++ m) ∧ GrowB b σ σ' ∧ (∀ j, j < σ.n → (∀ i off n c, v = .slice (some ⟨i, off, none⟩) n c → j ≠ i) → σ'.get j = σ.get j) ∧ (m ≠ [] → ∃ n c, v' = .slice (some ⟨σ.n, 0, none⟩) n c) := by
  have hml := enc_length enc hsz m
  have hll := enc_length enc hsz l
  have hcond : (m.flatMap enc).length = m.length * f.size ∧ cokL (m.flatMap enc) = true ∧ 0 < f.size ∧ 0 < f.bytes ∧ f.zero.map List.length = some f.size := by
    rw [hfs]; exact ⟨hml, cokL_enc hc m, h0, h1, h2⟩
  unfold appendF
  rw [if_pos hcond]
  rcases hown with ⟨rfl, rfl⟩ | ⟨i, cap, rfl, hbi, hin, hg, hcap⟩
  · by_cases hm : m.length = 0
    · have : m = [] := List.eq_nil_of_length_eq_zero hm
      subst this
      exact ⟨.slice none 0 0, σ, by simp, Own.nil, GrowB.refl b σ, fun _ _ _ => rfl, fun h => absurd rfl h⟩
    · refine ⟨.slice (some ⟨σ.n, 0, none⟩) m.length openCap, σ.alloc (.cells (m.flatMap enc) e false), ?_, .inr ⟨σ.n, openCap, rfl, hb, by simp, by simp, .inl rfl⟩, (GrowB.refl b σ).alloc hb _, fun j hj _ => by rw [CSt.get_alloc, if_neg (by omega)], fun _ => ⟨_, _, rfl⟩⟩
      simp only [hm, if_false]
      rw [if_pos (by simpa using hbig)]
  · by_cases hm : m.length = 0
    · have : m = [] := List.eq_nil_of_length_eq_zero hm
      subst this
      refine ⟨.slice (some ⟨i, 0, none⟩) l.length cap, σ, ?_, ?_, GrowB.refl b σ, fun _ _ _ => rfl, fun h => absurd rfl h⟩
      · simp only [List.length_nil, if_true]
        rw [if_pos]
        rcases hcap with rfl | ⟨rfl, rfl⟩
        · simp only [openCap]; omega
        · simp
      · rw [List.append_nil]
        exact .inr ⟨i, cap, rfl, hbi, hin, hg, hcap⟩
    · simp only [hm, if_false, hg]
      rcases hcap with rfl | ⟨rfl, rfl⟩
      · refine ⟨.slice (some ⟨σ.n, 0, none⟩) (l ++ m).length openCap, (σ.put i .dead).alloc (.cells ((l ++ m).flatMap enc) e false), ?_, .inr ⟨σ.n, openCap, rfl, hb, by simp, by simp, .inl rfl⟩, ((GrowB.refl b σ).put hbi _).alloc hb _, fun j hj hne => by rw [CSt.get_alloc, if_neg (by simp; omega), CSt.get_put, if_neg (hne _ _ _ _ rfl)], fun _ => ⟨_, _, rfl⟩⟩
        simp only [if_true, and_self]
        rw [if_neg, if_pos hbig]
        · have : ld (l.flatMap enc) 0 (l.length * f.size) = some (l.flatMap enc) := by
            rw [hfs, ← hll]
            unfold ld
            rw [if_pos (by omega), List.drop_zero, List.take_of_length_le (Nat.le_refl _)]
          rw [this]
          simp
        · rw [hll, hfs, Nat.add_mul]
          have : 0 < m.length * sz := Nat.mul_pos (by omega) h0
          omega
      · refine ⟨.slice (some ⟨σ.n, 0, none⟩) m.length openCap, σ.alloc (.cells (m.flatMap enc) e false), ?_, .inr ⟨σ.n, openCap, by simp, hb, by simp, by simp, .inl rfl⟩, (GrowB.refl b σ).alloc hb _, fun j hj _ => by rw [CSt.get_alloc, if_neg (by omega)], fun _ => ⟨_, _, rfl⟩⟩
        rw [if_neg (by simp [openCap]), if_neg (by rw [List.length_nil]; omega)]
        simp only [List.length_nil, Nat.zero_add, Nat.zero_mul] at hbig ⊢
        rw [if_pos hbig]
        simp [ld]
/-- append(s, x...), s one's own. -/
theorem append_only (hf : ts[0]?.bind (elemF P) = some (e, f)) (hu : (ts[1]?.bind (elemT P)).isSome = true) (hsz : ∀ x, (enc x).length = sz) (hc : ∀ x, cokL (enc x) = true) (hfs : f.size = sz) (h0 : 0 < sz) (h1 : 0 < f.bytes) (h2 : f.zero.map List.length = some sz)
    (hown : Own b σ e enc v l) (hb : b ≤ σ.n) (hx : Sl σ e sz enc x m) (hbig : (l.length + m.length) * f.bytes ≤ 2 ^ 47) (hl : l.length < 2 ^ 62) :
    ∃ v' σ', appendOp P σ ts v x = some (v', σ') ∧ Own b σ' e enc v' (l ++ m) ∧ GrowB b σ σ' ∧ (∀ j, j < σ.n → (∀ i off n c, v = .slice (some ⟨i, off, none⟩) n c → j ≠ i) → σ'.get j = σ.get j) ∧ (m ≠ [] → ∃ n c, v' = .slice (some ⟨σ.n, 0, none⟩) n c) := by
  obtain ⟨g1, g2⟩ := first_sl hsz hx
  obtain ⟨v', σ', g3, g4, g5⟩ := appendF_only hsz hc hfs h0 h1 h2 hown hb hbig hl
  refine ⟨v', σ', ?_, g4, g5⟩
  rw [appendOp_K (by rw [hf]; rfl) hu, hf]
  simp only [appK, g1, hfs, g2, Option.bind_some]
  exact g3
end
section
variable {P : Program} {σ : CSt} {ev : Operand → Value} {dst : Option Tmp} {ty : TypeId} {pos : String} {after : Array Edge} {g : Option (Nat × Bool)}
@[simp] theorem copE_lookup (t : TypeId) (m k : Operand) (ok : Bool) : cop P σ ev ⟨dst, .lookup t m k ok, ty, pos, after, g⟩ = OpR.ofV σ (lookupOp P σ t (ev m) (ev k) ok) := (rfl)
@[simp] theorem copE_mapUpdate (t : TypeId) (m k x : Operand) : cop P σ ev ⟨dst, .mapUpdate t m k x, ty, pos, after, g⟩ = OpR.ofS (updateOp P σ t (ev m) (ev k) (ev x)) := (rfl)
end
end Go.Sm
/- append to a slice of one's own that may have room behind it. -/
set_option linter.unusedVariables false
namespace Go.Sm
open Go
section
variable {α : Type} {P : Program} {σ : CSt} {e : TypeId} {sz b : Nat} {enc : α → List Value} {v x : Value} {l m : List α} {f : TF} {ts : Array TypeId}
theorem append_Z (hf : ts[0]?.bind (elemF P) = some (e, f)) (hu : (ts[1]?.bind (elemT P)).isSome = true) (hsz : ∀ x, (enc x).length = sz) (hc : ∀ x, cokL (enc x) = true) (hfs : f.size = sz) (h0 : 0 < sz) (h1 : 0 < f.bytes) (h2 : f.zero.map List.length = some sz)
    (hown : OwnZ b σ e enc v l) (hb : b ≤ σ.n) (hx : Sl σ e sz enc x m) (hbig : (l.length + m.length) * f.bytes ≤ 2 ^ 47) (hl : l.length < 2 ^ 62) :
    ∃ v' σ', appendOp P σ ts v x = some (v', σ') ∧ OwnZ b σ' e enc v' (l ++ m) ∧ ButV v σ σ' ∧ (objOf v' = objOf v ∨ objOf v' = some σ.n) := by
  rcases hown with ⟨rfl, rfl⟩ | ⟨i, cap, zs, rfl, hbi, hin, hg, hz, hcap⟩
  · by_cases hm : m = []
    · subst hm
      obtain ⟨v', σ', a1, a2, a3, a4, a5⟩ := append_only hf hu hsz hc hfs h0 h1 h2 (Own.nil (b := b) (σ := σ) (e := e) (enc := enc)) hb hx hbig hl
      obtain ⟨g1, g2⟩ := first_sl hsz hx
      rw [appendOp_K (by rw [hf]; rfl) hu, hf] at a1
      have hcond : ([] : List Value).length = 0 * f.size ∧ cokL ([] : List Value) = true ∧ 0 < f.size ∧ 0 < f.bytes ∧ f.zero.map List.length = some f.size := by
        rw [hfs]; exact ⟨by simp, rfl, h0, h1, h2⟩
      refine ⟨.slice none 0 0, σ, ?_, .inl ⟨rfl, rfl⟩, ButV.refl _ _, .inl rfl⟩
      rw [appendOp_K (by rw [hf]; rfl) hu, hf]
      have g2' : firstOf σ sz 0 x = some [] := by simpa using g2
      simp only [appK, g1, hfs, g2', Option.bind_some, List.flatMap_nil, List.length_nil]
      unfold appendF
      rw [if_pos hcond]
      simp
    · obtain ⟨v', σ', a1, a2, a3, a4, a5⟩ := append_only hf hu hsz hc hfs h0 h1 h2 (Own.nil (b := b) (σ := σ) (e := e) (enc := enc)) hb hx hbig hl
      obtain ⟨n, c, rfl⟩ := a5 hm
      exact ⟨_, σ', a1, a2.z, ⟨a3.1, fun j hj hne => a4 j hj (fun i off n c h => by cases h)⟩, .inr rfl⟩
  · rcases hcap with rfl | ⟨rfl, rfl, rfl⟩
    · by_cases hfit : m.length * sz ≤ zs.length
      · obtain ⟨σ', a1, a2, a3, a4⟩ := append_fit (P := P) (ts := ts) hf hu hsz hc hfs h0 h1 h2 hg hx hfit hl
        refine ⟨_, σ', a1, .inr ⟨i, openCap, _, rfl, hbi, by rw [a3]; exact hin, a2, cokL_drop hz _, .inl rfl⟩, ⟨by rw [a3]; exact Nat.le_refl _, fun j hj hne => a4 j (by rintro rfl; exact hne rfl)⟩, .inl rfl⟩
      · have hml := enc_length enc hsz m
        have hll := enc_length enc hsz l
        have hm0 : m.length ≠ 0 := by
          intro e
          rw [e] at hfit
          simp at hfit
        obtain ⟨g1, g2⟩ := first_sl hsz hx
        have hcond : (m.flatMap enc).length = m.length * f.size ∧ cokL (m.flatMap enc) = true ∧ 0 < f.size ∧ 0 < f.bytes ∧ f.zero.map List.length = some f.size := by
          rw [hfs]; exact ⟨hml, cokL_enc hc m, h0, h1, h2⟩
        refine ⟨.slice (some ⟨σ.n, 0, none⟩) (l ++ m).length openCap, (σ.put i .dead).alloc (.cells ((l ++ m).flatMap enc) e false), ?_, .inr ⟨σ.n, openCap, [], rfl, hb, by simp, by simp, rfl, .inl rfl⟩, ((ButV.refl _ _).putV rfl _).alloc _, .inr rfl⟩
        rw [appendOp_K (by rw [hf]; rfl) hu, hf]
        simp only [appK, g1, hfs, g2, Option.bind_some]
        unfold appendF
        rw [if_pos hcond]
        simp only [hm0, if_false, hg, if_true, and_self]
        rw [if_neg, if_pos hbig]
        · have : ld (l.flatMap enc ++ zs) 0 (l.length * f.size) = some (l.flatMap enc) := by
            rw [hfs, ← hll]
            unfold ld
            rw [if_pos (by rw [List.length_append]; omega), List.drop_zero, List.take_left]
          rw [this]
          simp
        · rw [List.length_append, hll, hfs, Nat.add_mul]
          omega
    · by_cases hm : m = []
      · subst hm
        obtain ⟨g1, g2⟩ := first_sl hsz hx
        have hcond : ([] : List Value).length = 0 * f.size ∧ cokL ([] : List Value) = true ∧ 0 < f.size ∧ 0 < f.bytes ∧ f.zero.map List.length = some f.size := by
          rw [hfs]; exact ⟨by simp, rfl, h0, h1, h2⟩
        refine ⟨.slice (some ⟨i, 0, none⟩) 0 0, σ, ?_, .inr ⟨i, 0, [], rfl, hbi, hin, hg, rfl, .inr ⟨rfl, rfl, rfl⟩⟩, ButV.refl _ _, .inl rfl⟩
        rw [appendOp_K (by rw [hf]; rfl) hu, hf]
        have g2' : firstOf σ sz 0 x = some [] := by simpa using g2
        simp only [appK, g1, hfs, g2', Option.bind_some, List.flatMap_nil, List.length_nil]
        unfold appendF
        rw [if_pos hcond]
        simp
      · have ho : Own b σ e enc (.slice (some ⟨i, 0, none⟩) 0 0) ([] : List α) := .inr ⟨i, 0, rfl, hbi, hin, by simpa using hg, .inr ⟨rfl, rfl⟩⟩
        obtain ⟨v', σ', a1, a2, a3, a4, a5⟩ := append_only hf hu hsz hc hfs h0 h1 h2 ho hb hx hbig hl
        obtain ⟨n, c, rfl⟩ := a5 hm
        exact ⟨_, σ', a1, a2.z, ⟨a3.1, fun j hj hne => a4 j hj (fun i' off n c h => by cases h; exact fun e => hne (by rw [e]; rfl))⟩, .inr rfl⟩
end
end Go.Sm
/- Tables of locks: added, all. -/
set_option linter.unusedVariables false
set_option linter.unusedSimpArgs false
namespace Go.Sm
open Go Go.Proofs
set_option maxRecDepth 100000
set_option maxHeartbeats 4000000
/-- All but a table, and its row, is as it was. -/
def Bt (i : Nat) (v : Value) (s s' : CSt) : Prop := s.n ≤ s'.n ∧ ∀ j, j < s.n → j ≠ i → objOf v ≠ some j → s'.get j = s.get j
theorem Grow.bt {i : Nat} {v : Value} {s s' : CSt} (h : Grow s s') : Bt i v s s' := ⟨h.n, fun j hj _ _ => h.old j hj⟩
theorem Bt.trans {i : Nat} {v : Value} {s0 s1 s2 : CSt} (h : Bt i v s0 s1) (h' : Bt i v s1 s2) : Bt i v s0 s2 := ⟨Nat.le_trans h.1 h'.1, fun j hj h1 h2 => by rw [h'.2 j (Nat.lt_of_lt_of_le hj h.1) h1 h2, h.2 j hj h1 h2]⟩
theorem ButV.bt {i : Nat} {v : Value} {s s' : CSt} (h : ButV v s s') : Bt i v s s' := ⟨h.1, fun j hj _ h2 => h.2 j hj h2⟩
theorem Bt.putI {i : Nat} {v : Value} {s0 s1 : CSt} (h : Bt i v s0 s1) (o : CObj) : Bt i v s0 (s1.put i o) := ⟨h.1, fun j hj h1 h2 => by rw [CSt.get_put, if_neg h1]; exact h.2 j hj h1 h2⟩
theorem Bt.grow {i : Nat} {v : Value} {s0 s1 s2 : CSt} (g : Grow s0 s1) (h : Bt i v s1 s2) (hi : s0.n ≤ i) (hv : ∀ j, objOf v = some j → s0.n ≤ j) : Grow s0 s2 := ⟨Nat.le_trans g.n h.1, fun j hj => by
  rw [h.2 j (Nat.lt_of_lt_of_le hj g.n) (by omega) (fun e => by have := hv j e; omega)]
  exact g.old j hj⟩
/-- A table of locks: its object, its row. -/
def Tb (b i : Nat) (v : Value) (σ : CSt) (L : List Lk) : Prop := σ.get i = some (.cells [v] 89 false) ∧ b ≤ i ∧ i < σ.n ∧ OwnZ b σ 33 encK v L
theorem OwnZ.ob {α : Type} {b : Nat} {σ : CSt} {e : TypeId} {enc : α → List Value} {v : Value} {l : List α} (h : OwnZ b σ e enc v l) {j : Nat} (hj : objOf v = some j) : b ≤ j ∧ j < σ.n ∧ ∃ row, σ.get j = some (.cells row e false) := by
  rcases h with ⟨rfl, _⟩ | ⟨i, cap, zs, rfl, hb, hi, hg, _⟩
  · cases hj
  · cases hj; exact ⟨hb, hi, _, hg⟩
theorem Tb.grow {b i : Nat} {v : Value} {σ σ' : CSt} {L : List Lk} (h : Tb b i v σ L) (g : Grow σ σ') : Tb b i v σ' L := ⟨g.get h.1 h.2.2.1, h.2.1, Nat.lt_of_lt_of_le h.2.2.1 g.n, h.2.2.2.grow g⟩
theorem Tb.ne {b i : Nat} {v : Value} {σ : CSt} {L : List Lk} (h : Tb b i v σ L) : objOf v ≠ some i := fun e => by
  obtain ⟨_, _, row, hr⟩ := h.2.2.2.ob e
  rw [h.1] at hr
  cases hr
theorem Tb.weaken {b b' i : Nat} {v : Value} {σ : CSt} {L : List Lk} (h : Tb b i v σ L) (hb : b' ≤ b) : Tb b' i v σ L := ⟨h.1, Nat.le_trans hb h.2.1, h.2.2.1, h.2.2.2.weaken hb⟩
theorem Tb.growG {b i : Nat} {v : Value} {σ0 s s' : CSt} {L : List Lk} (h : Tb b i v s L) (g : Grow σ0 s) (hb : σ0.n ≤ b) (k : Bt i v s s') : Grow σ0 s' :=
  Bt.grow g k (Nat.le_trans hb h.2.1) fun j hj => Nat.le_trans hb (h.2.2.2.ob hj).1
theorem Own.apart {b b2 i : Nat} {v v2 : Value} {s s' : CSt} {L l : List Lk} (h : Own b2 s 33 encK v2 l) (t : Tb b i v s L) (k : Bt i v s s') (ha : ∀ j, objOf v2 = some j → objOf v ≠ some j) : Own b2 s' 33 encK v2 l := by
  rcases h with ⟨rfl, rfl⟩ | ⟨j, cap, rfl, hb, hj, hg, hc⟩
  · exact .inl ⟨rfl, rfl⟩
  · refine .inr ⟨j, cap, rfl, hb, Nat.lt_of_lt_of_le hj k.1, ?_, hc⟩
    rw [k.2 j hj (fun e => ?_) (ha j rfl)]
    · exact hg
    · subst e
      have := t.1
      rw [hg] at this
      injection this with e1
      injection e1 with e2 e3 e4
      cases e3
theorem OwnZ.putX {α : Type} {b i : Nat} {σ : CSt} {e e' : TypeId} {enc : α → List Value} {v : Value} {l : List α} {row : List Value} {ro : Bool} (h : OwnZ b σ e enc v l) (hi : σ.get i = some (.cells row e' ro)) (he : e' ≠ e) (o : CObj) : OwnZ b (σ.put i o) e enc v l := by
  rcases h with h | ⟨j, cap, zs, h1, hb, hj, hg, h3⟩
  · exact .inl h
  · refine .inr ⟨j, cap, zs, h1, hb, hj, ?_, h3⟩
    rw [CSt.get_put, if_neg]
    · exact hg
    · rintro rfl
      rw [hg] at hi
      injection hi with e1
      injection e1 with e2 e3 e4
      exact he e3.symm
def addK (L : List Lk) (k : Lk) : List Lk := if goodK k then L ++ [k] else L
theorem add_spec (b i : Nat) (v : Value) (L : List Lk) (k : Lk) (σ : CSt) (hb : b ≤ σ.n) (ht : Tb b i v σ L) (hL : L.length < 2 ^ 36) (Q : Out → CSt → Prop)
    (h : ∀ (v' : Value) (σ' : CSt), Tb b i v' σ' (addK L k) → (objOf v' = objOf v ∨ ∃ j, objOf v' = some j ∧ σ.n ≤ j) → Bt i v σ σ' → Q (.ret (.tuple #[]) false) σ') : W E1 (.fn 29 #[.pointer (some ⟨i, 0, none⟩), .agg (encK k).toArray] none) σ Q := by
  have ht0 := ht
  obtain ⟨hg, hbi, hin, hown⟩ := ht
  rw [W_fn (fn := Tryz.f29) Tryz.func29 rfl rfl rfl]
  have hk : (klt k.frm k.to || k.frm.toList == k.to.toList) = !klt k.to k.frm := kle_eq _ _
  have g0 : Grow σ (σ.alloc (.cells (encK k) 33 false)) := (Grow.refl σ).alloc _
  cases hk2 : klt k.to k.frm with
  | true =>
    rw [hk2] at hk
    have e : addK L k = L := by simp [addK, goodK, hk2]
    have := h v _ (by rw [e]; exact ht0.grow g0) (.inl rfl) g0.bt
    simpa [wops_cons, wops_if', dstOf, encK, hk] using this
  | false =>
    rw [hk2] at hk
    have hc0 : (σ.alloc (.cells (encK k) 33 false)).get σ.n = some (.cells (encK k) 33 false) := ga_top rfl
    have hn0 : (σ.alloc (.cells (encK k) 33 false)).n = σ.n + 1 := by simp
    have he := empty_spec k.sp (σ.alloc (.cells (encK k) 33 false))
    simp only [encS, encK] at he
    simp only [encK] at g0 hc0 hn0
    simp [wops_cons, wops_if', dstOf, encK, hk]
    refine he _ fun σ1 g1 => ?_
    have hc1 := g1.get hc0 (by omega)
    have g01 := g0.trans g1
    have hg1 := g01.get hg hin
    have hown1 := hown.grow g01
    have gn1 := g1.n
    by_cases e : k.sp.lo ≤ k.sp.hi
    · have e2 : addK L k = L ++ [k] := by simp [addK, goodK, hk2, full, e]
      have ef : full k.sp = true := by simp [full, e]
      simp [wops_cons, wops_if', dstOf, hk, ef]
      have happ : ∃ v9 s9, appendOp Tryz.prog (σ1.alloc (.cells (encK k) 33 false)) #[25, 25] v (.slice (some ⟨σ1.n, 0, none⟩) 1 1) = some (v9, s9) ∧ OwnZ b s9 33 encK v9 (L ++ [k]) ∧ ButV v (σ1.alloc (.cells (encK k) 33 false)) s9 ∧ (objOf v9 = objOf v ∨ objOf v9 = some (σ1.n + 1)) := by
        have hga : Grow σ1 (σ1.alloc (.cells (encK k) 33 false)) := (Grow.refl σ1).alloc _
        have := append_Z (P := Tryz.prog) (ts := #[25, 25]) (e := 33) (sz := 5) (enc := encK) (l := L) (m := [k]) (b := b) ef25 (by simp) lenK cokK rfl (by decide) (by decide) rfl (σ := σ1.alloc (.cells (encK k) 33 false))
          (hown1.grow hga) (by simp; omega) (Sl.all (l := [k]) (i := σ1.n) (cap := 1) (ro := false) lenK (by simp) (by simp) (.inr ⟨by simp, by simp [openCap]⟩)) (by show (_ + 1) * _ ≤ _; simp; omega) (by omega)
        simpa using this
      obtain ⟨v9, s9, a1, a2, a3, a4⟩ := happ
      have hvo : ∀ j, objOf v = some j → j < σ.n ∧ j ≠ i := fun j hj => ⟨(hown.ob hj).2.1, fun e => ht0.ne (by rw [hj, e])⟩
      have hni : ¬ i = σ1.n := by omega
      have h9i : s9.get i = some (.cells [v] 89 false) := by
        rw [a3.2 i (by simp; omega) ht0.ne, CSt.get_alloc, if_neg hni]; exact hg1
      have h9n : s9.get σ.n = some (.cells (encK k) 33 false) := by
        rw [a3.2 σ.n (by simp; omega) (fun e => by have := hvo _ e; omega), CSt.get_alloc, if_neg (by omega)]; exact hc1
      have h9 : Bt i v σ s9 := (g01.bt.trans ((Grow.refl σ1).alloc (.cells (encK k) 33 false)).bt).trans a3.bt
      have hn9 : σ.n ≤ s9.n := h9.1
      have hfin := h v9 (s9.put i (.cells [v9] 89 false)) (by
        rw [e2]
        refine ⟨by simp, hbi, by simp; omega, ?_⟩
        exact a2.putX h9i (by decide) _) (by
        rcases a4 with a4 | a4
        · exact .inl a4
        · exact .inr ⟨_, a4, by omega⟩) (h9.putI _)
      obtain ⟨p9, c9, rfl⟩ := (a2.sl (sz := 5) lenK).form
      simp only [encK] at a1 a3 h9n
      refine W_drawn (l := [0, 1, 2, 3, 4, 5, 6, 7, 8, 9, 10]) (b := #[0, 0, 2, 6, 14, 0, 32, 126, 255, 511, 1023]) (by kernel_rfl) (by kernel_rfl) (by kernel_rfl) ?_
      have hni2 : ¬ σ.n = i := by omega
      have hb4 : Nat.testBit 1023 4 = true := by decide
      simpa [dopsR_cons, opAt, isEff, again, befBits, isRead, Nat.add_assoc, hc1, hg1, a1, hni, hni2, hb4, h9i, h9n] using hfin
    · have e2 : addK L k = L := by simp [addK, goodK, hk2, full, e]
      have ef : full k.sp = false := by simp [full, e]
      have := h v _ (by rw [e2]; exact ht0.grow g01) (.inl rfl) g01.bt
      simpa [wops_cons, wops_if', dstOf, hk, ef] using this
end Go.Sm
/- Sorting spans by an order that is given: insertion sort. -/
set_option linter.unusedVariables false
set_option linter.unusedSimpArgs false
namespace Go.Sm
open Go Go.Proofs
set_option maxRecDepth 100000
set_option maxHeartbeats 4000000
def ltS (a b : Sn) : Bool := decide (a.lo < b.lo)
instance : Inhabited Sn := ⟨⟨0, 0⟩⟩
/-- A row of spans that is sorted in place. -/
def PV (σ : CSt) (i : Nat) (pre post : List Value) (d : Array Sn) : Prop := σ.get i = some (.cells (rowD encS pre post d) 31 false) ∧ i < σ.n
theorem PV.put {σ : CSt} {i : Nat} {pre post : List Value} {d : Array Sn} (h : PV σ i pre post d) (d' : Array Sn) : PV (σ.put i (.cells (rowD encS pre post d') 31 false)) i pre post d' := ⟨by simp, h.2⟩
theorem PV.grow {σ σ' : CSt} {i : Nat} {pre post : List Value} {d : Array Sn} (h : PV σ i pre post d) (g : Grow σ σ') : PV σ' i pre post d := ⟨g.get h.1 h.2, Nat.lt_of_lt_of_le h.2 g.n⟩
end Go.Sm
/- Sorting strings: the heap. -/
set_option linter.unusedVariables false
set_option linter.unusedSimpArgs false
namespace Go.Sm
open Go Go.Proofs
set_option maxRecDepth 100000
set_option maxHeartbeats 4000000
end Go.Sm
/- Sorting strings: the heap; the row turned round. -/
set_option linter.unusedVariables false
set_option linter.unusedSimpArgs false
namespace Go.Sm
open Go Go.Proofs
set_option maxRecDepth 100000
set_option maxHeartbeats 4000000
end Go.Sm
/- Sorting: bits.Len, the draws, the patterns broken. -/
set_option linter.unusedVariables false
set_option linter.unusedSimpArgs false
namespace Go.Sm
open Go Go.Proofs
set_option maxRecDepth 100000
set_option maxHeartbeats 4000000
def len8 : ByteArray := ⟨#[0, 1, 2, 2, 3, 3, 3, 3, 4, 4, 4, 4, 4, 4, 4, 4, 5, 5, 5, 5, 5, 5, 5, 5, 5, 5, 5, 5, 5, 5, 5, 5, 6, 6, 6, 6, 6, 6, 6, 6, 6, 6, 6, 6, 6, 6, 6, 6, 6, 6, 6, 6, 6, 6, 6, 6, 6, 6, 6, 6, 6, 6, 6, 6, 7, 7, 7, 7, 7, 7, 7, 7, 7, 7, 7, 7, 7, 7, 7, 7, 7, 7, 7, 7, 7, 7, 7, 7, 7, 7, 7, 7, 7, 7, 7, 7, 7, 7, 7, 7, 7, 7, 7, 7, 7, 7, 7, 7, 7, 7, 7, 7, 7, 7, 7, 7, 7, 7, 7, 7, 7, 7, 7, 7, 7, 7, 7, 7, 8, 8, 8, 8, 8, 8, 8, 8, 8, 8, 8, 8, 8, 8, 8, 8, 8, 8, 8, 8, 8, 8, 8, 8, 8, 8, 8, 8, 8, 8, 8, 8, 8, 8, 8, 8, 8, 8, 8, 8, 8, 8, 8, 8, 8, 8, 8, 8, 8, 8, 8, 8, 8, 8, 8, 8, 8, 8, 8, 8, 8, 8, 8, 8, 8, 8, 8, 8, 8, 8, 8, 8, 8, 8, 8, 8, 8, 8, 8, 8, 8, 8, 8, 8, 8, 8, 8, 8, 8, 8, 8, 8, 8, 8, 8, 8, 8, 8, 8, 8, 8, 8, 8, 8, 8, 8, 8, 8, 8, 8, 8, 8, 8, 8, 8, 8, 8, 8, 8, 8, 8, 8, 8, 8, 8, 8, 8, 8]⟩
theorem len8_ok : ∀ b : Fin 256, len8[b.val]? = some (UInt8.ofNat (Sort.bitsLen b.val)) ∧ Sort.bitsLen b.val ≤ 8 := by decide +kernel
theorem bitsLen_shift (k x : Nat) (h : 2 ^ k ≤ x) : Sort.bitsLen x = Sort.bitsLen (x / 2 ^ k) + k := by
  have hp : 0 < 2 ^ k := Nat.two_pow_pos k
  have key : ∀ m, Sort.bitsLen x ≤ m + k ↔ Sort.bitsLen (x / 2 ^ k) ≤ m := fun m => by
    rw [Sort.bitsLen_le_iff, Sort.bitsLen_le_iff, Nat.div_lt_iff_lt_mul hp, Nat.pow_add]
  have hk : k < Sort.bitsLen x := by
    apply Nat.lt_of_not_le
    rw [Sort.bitsLen_le_iff]
    omega
  have h1 := (key (Sort.bitsLen (x / 2 ^ k))).2 (Nat.le_refl _)
  have h2 := (key (Sort.bitsLen x - k)).1 (by omega)
  omega
theorem fdiv_nat (x m : Nat) : ((x : Nat) : Int).fdiv (m : Int) = ((x / m : Nat) : Int) := by rw [Int.fdiv_eq_ediv_of_nonneg _ (by omega)]; rfl
theorem len64_spec (x : Nat) (hx : x < 2 ^ 62) (σ : CSt) (Q : Out → CSt → Prop) (h : Q (.ret (.int .i64 (Sort.bitsLen x)) false) σ) : W E1 (.fn 90 #[.int .u64 x] none) σ Q := by
  rw [W_fn (fn := Tryz.f90) Tryz.func90 rfl rfl rfl]
  have s32 : ((x : Nat) : Int).fdiv (2 ^ min 32 IntKind.u64.bits) = ((x / 4294967296 : Nat) : Int) := fdiv_nat x 4294967296
  have fin : ∀ (y c : Nat), y < 256 → Sort.bitsLen x = Sort.bitsLen y + c → c < 100 → len8[y]? = some (UInt8.ofNat (Sort.bitsLen y)) ∧ IntKind.u8.wrap (y : Int) = y ∧ IntKind.i64.wrap ((Sort.bitsLen y : Nat) : Int) = (Sort.bitsLen y : Nat) ∧ IntKind.i64.wrap ((c : Int) + (Sort.bitsLen y : Nat)) = (Sort.bitsLen x : Nat) ∧ ((UInt8.ofNat (Sort.bitsLen y)).toNat = Sort.bitsLen y) := by
    intro y c hy hb hc
    obtain ⟨h1, h2⟩ := len8_ok ⟨y, hy⟩
    simp only at h1 h2
    refine ⟨h1, IntWalk.u8_in _ (by omega), IntWalk.i64_in _ (by omega), by rw [IntWalk.i64_in _ (by omega)]; omega, ?_⟩
    rw [UInt8.toNat_ofNat_of_lt' (by show _ < 256; omega)]
  unfold len8 at fin
  have w8 : IntKind.i64.wrap 8 = 8 := by decide
  have w16 : IntKind.i64.wrap 16 = 16 := by decide
  have w24 : IntKind.i64.wrap 24 = 24 := by decide
  have w32 : IntKind.i64.wrap 32 = 32 := by decide
  have w40 : IntKind.i64.wrap 40 = 40 := by decide
  have w48 : IntKind.i64.wrap 48 = 48 := by decide
  have w56 : IntKind.i64.wrap 56 = 56 := by decide
  by_cases h32 : 4294967296 ≤ x
  · have b32 := bitsLen_shift 32 x (by simpa using h32)
    have h32' : (4294967296 : Int) ≤ x := by omega
    obtain ⟨y, hy⟩ : ∃ y, y = x / 4294967296 := ⟨_, rfl⟩
    rw [← hy] at s32
    simp only [Nat.reducePow] at b32
    rw [← hy] at b32
    have hyx : y < 2 ^ 32 := by omega
    have s16 : ((y : Nat) : Int).fdiv (2 ^ min 16 IntKind.u64.bits) = ((y / 65536 : Nat) : Int) := fdiv_nat y 65536
    by_cases h16 : 65536 ≤ y
    · have b16 := bitsLen_shift 16 y (by simpa using h16)
      have h16' : (65536 : Int) ≤ y := by omega
      obtain ⟨z, hz⟩ : ∃ z, z = y / 65536 := ⟨_, rfl⟩
      rw [← hz] at s16
      simp only [Nat.reducePow] at b16
      rw [← hz] at b16
      have hzx : z < 65536 := by omega
      have s8 : ((z : Nat) : Int).fdiv (2 ^ min 8 IntKind.u64.bits) = ((z / 256 : Nat) : Int) := fdiv_nat z 256
      by_cases h8 : 256 ≤ z
      · have b8 := bitsLen_shift 8 z (by simpa using h8)
        have h8' : (256 : Int) ≤ z := by omega
        obtain ⟨u, hu⟩ : ∃ u, u = z / 256 := ⟨_, rfl⟩
        rw [← hu] at s8
        simp only [Nat.reducePow] at b8
        rw [← hu] at b8
        obtain ⟨f1, f2, f3, f4, f5⟩ := fin u (32 + 16 + 8) (by omega) (by omega) (by omega)
        simp at f4
        simp [wops_cons, idxS, h32, h32', h16, h16', h8, h8', s32, s16, s8, f1, f2, f3, f4, f5, w8, w16, w24, w32, w40, w48, w56]
        exact h
      · have h8' : ¬ (256 : Int) ≤ z := by omega
        obtain ⟨f1, f2, f3, f4, f5⟩ := fin z (32 + 16) (by omega) (by omega) (by omega)
        simp at f4
        simp [wops_cons, idxS, h32, h32', h16, h16', h8, h8', s32, s16, s8, f1, f2, f3, f4, f5, w8, w16, w24, w32, w40, w48, w56]
        exact h
    · have h16' : ¬ (65536 : Int) ≤ y := by omega
      have b16 : Sort.bitsLen y = Sort.bitsLen y + 0 := rfl
      have hzx : y < 65536 := by omega
      have s8 : ((y : Nat) : Int).fdiv (2 ^ min 8 IntKind.u64.bits) = ((y / 256 : Nat) : Int) := fdiv_nat y 256
      by_cases h8 : 256 ≤ y
      · have b8 := bitsLen_shift 8 y (by simpa using h8)
        have h8' : (256 : Int) ≤ y := by omega
        obtain ⟨u, hu⟩ : ∃ u, u = y / 256 := ⟨_, rfl⟩
        rw [← hu] at s8
        simp only [Nat.reducePow] at b8
        rw [← hu] at b8
        obtain ⟨f1, f2, f3, f4, f5⟩ := fin u (32 + 8) (by omega) (by omega) (by omega)
        simp at f4
        simp [wops_cons, idxS, h32, h32', h16, h16', h8, h8', s32, s16, s8, f1, f2, f3, f4, f5, w8, w16, w24, w32, w40, w48, w56]
        exact h
      · have h8' : ¬ (256 : Int) ≤ y := by omega
        obtain ⟨f1, f2, f3, f4, f5⟩ := fin y (32) (by omega) (by omega) (by omega)
        simp at f4
        simp [wops_cons, idxS, h32, h32', h16, h16', h8, h8', s32, s16, s8, f1, f2, f3, f4, f5, w8, w16, w24, w32, w40, w48, w56]
        exact h
  · have h32' : ¬ (4294967296 : Int) ≤ x := by omega
    have b32 : Sort.bitsLen x = Sort.bitsLen x + 0 := rfl
    have hyx : x < 2 ^ 32 := by omega
    have s16 : ((x : Nat) : Int).fdiv (2 ^ min 16 IntKind.u64.bits) = ((x / 65536 : Nat) : Int) := fdiv_nat x 65536
    by_cases h16 : 65536 ≤ x
    · have b16 := bitsLen_shift 16 x (by simpa using h16)
      have h16' : (65536 : Int) ≤ x := by omega
      obtain ⟨z, hz⟩ : ∃ z, z = x / 65536 := ⟨_, rfl⟩
      rw [← hz] at s16
      simp only [Nat.reducePow] at b16
      rw [← hz] at b16
      have hzx : z < 65536 := by omega
      have s8 : ((z : Nat) : Int).fdiv (2 ^ min 8 IntKind.u64.bits) = ((z / 256 : Nat) : Int) := fdiv_nat z 256
      by_cases h8 : 256 ≤ z
      · have b8 := bitsLen_shift 8 z (by simpa using h8)
        have h8' : (256 : Int) ≤ z := by omega
        obtain ⟨u, hu⟩ : ∃ u, u = z / 256 := ⟨_, rfl⟩
        rw [← hu] at s8
        simp only [Nat.reducePow] at b8
        rw [← hu] at b8
        obtain ⟨f1, f2, f3, f4, f5⟩ := fin u (0 + 16 + 8) (by omega) (by omega) (by omega)
        simp at f4
        simp [wops_cons, idxS, h32, h32', h16, h16', h8, h8', s32, s16, s8, f1, f2, f3, f4, f5, w8, w16, w24, w32, w40, w48, w56]
        exact h
      · have h8' : ¬ (256 : Int) ≤ z := by omega
        obtain ⟨f1, f2, f3, f4, f5⟩ := fin z (0 + 16) (by omega) (by omega) (by omega)
        simp at f4
        simp [wops_cons, idxS, h32, h32', h16, h16', h8, h8', s32, s16, s8, f1, f2, f3, f4, f5, w8, w16, w24, w32, w40, w48, w56]
        exact h
    · have h16' : ¬ (65536 : Int) ≤ x := by omega
      have b16 : Sort.bitsLen x = Sort.bitsLen x + 0 := rfl
      have hzx : x < 65536 := by omega
      have s8 : ((x : Nat) : Int).fdiv (2 ^ min 8 IntKind.u64.bits) = ((x / 256 : Nat) : Int) := fdiv_nat x 256
      by_cases h8 : 256 ≤ x
      · have b8 := bitsLen_shift 8 x (by simpa using h8)
        have h8' : (256 : Int) ≤ x := by omega
        obtain ⟨u, hu⟩ : ∃ u, u = x / 256 := ⟨_, rfl⟩
        rw [← hu] at s8
        simp only [Nat.reducePow] at b8
        rw [← hu] at b8
        obtain ⟨f1, f2, f3, f4, f5⟩ := fin u (0 + 8) (by omega) (by omega) (by omega)
        simp at f4
        simp [wops_cons, idxS, h32, h32', h16, h16', h8, h8', s32, s16, s8, f1, f2, f3, f4, f5, w8, w16, w24, w32, w40, w48, w56]
        exact h
      · have h8' : ¬ (256 : Int) ≤ x := by omega
        obtain ⟨f1, f2, f3, f4, f5⟩ := fin x (0) (by omega) (by omega) (by omega)
        simp at f4
        simp [wops_cons, idxS, h32, h32', h16, h16', h8, h8', s32, s16, s8, f1, f2, f3, f4, f5, w8, w16, w24, w32, w40, w48, w56]
        exact h
theorem len_spec (x : Nat) (hx : x < 2 ^ 62) (σ : CSt) (Q : Out → CSt → Prop) (h : Q (.ret (.int .i64 (Sort.bitsLen x)) false) σ) : W E1 (.fn 66 #[.int .u64 x] none) σ Q := by
  rw [W_fn (fn := Tryz.f66) Tryz.func66 rfl rfl rfl]
  simp [wops_cons]
  refine len64_spec x hx _ _ ?_
  simpa [wops_cons] using h
theorem nextPow_spec (x : Nat) (h0 : 0 < x) (hx : x < 2 ^ 40) (σ : CSt) (Q : Out → CSt → Prop) (h : ∀ m : Nat, 0 < m → m ≤ 2 * x → Q (.ret (.int .u64 m) false) σ) : W E1 (.fn 113 #[.int .i64 x] none) σ Q := by
  rw [W_fn (fn := Tryz.f113) Tryz.func113 rfl rfl rfl]
  have hw : IntKind.u64.wrap (x : Int) = x := IntWalk.u64_in _ (by omega)
  simp [wops_cons, hw]
  refine len_spec x (by omega) _ _ ?_
  have h1 := Sort.two_pow_bitsLen_le h0
  have h2 : Sort.bitsLen x ≤ 40 := (Sort.bitsLen_le_iff x 40).2 hx
  have h3 : min (Sort.bitsLen x) IntKind.u64.bits = Sort.bitsLen x := Nat.min_eq_left (by show _ ≤ 64; omega)
  have h4 : IntKind.u64.wrap ((2 : Int) ^ Sort.bitsLen x) = ((2 ^ Sort.bitsLen x : Nat) : Int) := by
    have e : (2 : Int) ^ Sort.bitsLen x = ((2 ^ Sort.bitsLen x : Nat) : Int) := by simp
    rw [e]
    generalize 2 ^ Sort.bitsLen x = m at h1
    exact IntWalk.u64_in _ (by omega)
  have h5 := Nat.two_pow_pos (Sort.bitsLen x)
  generalize hm : 2 ^ Sort.bitsLen x = m at h1 h4 h5
  have := h m h5 h1
  simpa [wops_cons, h3, h4] using this
theorem next_spec (p : Nat) (r : Int) (σ : CSt) (hp : σ.get p = some (.cells [.int .u64 r] 166 false)) (Q : Out → CSt → Prop)
    (h : ∀ (r' : Int) (σ' : CSt), 0 ≤ r' → r' < 2 ^ 64 → σ'.get p = some (.cells [.int .u64 r'] 166 false) → σ'.n = σ.n → (∀ j, j ≠ p → σ'.get j = σ.get j) → Q (.ret (.int .u64 r') false) σ') : W E1 (.fn 114 #[.pointer (some ⟨p, 0, none⟩)] none) σ Q := by
  rw [W_fn (fn := Tryz.f114) Tryz.func114 rfl rfl rfl]
  simp [wops_cons]
  refine W_calm (by kernel_rfl) ?_
  simp [wops_cons, dops_cons, hp]
  refine W_calm (by kernel_rfl) ?_
  simp [wops_cons, dops_cons, hp]
  refine W_calm (by kernel_rfl) ?_
  simp [wops_cons, dops_cons, hp]
  refine h _ _ ?_ ?_ (by simp) (by simp) (fun j hj => by simp [CSt.get_put, hj])
  · exact (u64_rng _).1
  · exact (u64_rng _).2
theorem andI_lt (a : Int) (m : Nat) (h0 : 0 ≤ a) (ha : a < 2 ^ 64) (hm : 0 < m) (hb : m < 2 ^ 62) : ∃ r : Nat, andI .u64 a ((m - 1 : Nat) : Int) = r ∧ r < m := by
  refine ⟨a.toNat &&& (m - 1), ?_, Nat.lt_of_le_of_lt Nat.and_le_right (by omega)⟩
  unfold andI
  have e1 : (BitVec.ofInt IntKind.u64.bits a).toNat = a.toNat := by
    rw [BitVec.toNat_ofInt]
    show (a % ((2 ^ 64 : Nat) : Int)).toNat = _
    rw [Int.emod_eq_of_lt h0 (by simpa using ha)]
  have e2 : (BitVec.ofInt IntKind.u64.bits ((m - 1 : Nat) : Int)).toNat = m - 1 := by
    rw [BitVec.toNat_ofInt]
    show (((m - 1 : Nat) : Int) % ((2 ^ 64 : Nat) : Int)).toNat = _
    rw [Int.emod_eq_of_lt (by omega) (by omega)]
    rfl
  rw [BitVec.toNat_and, e1, e2]
  have := Nat.and_le_right (n := a.toNat) (m := m - 1)
  exact IntWalk.u64_in _ (by omega)
end Go.Sm
/- Sorting: the patterns broken. -/
set_option linter.unusedVariables false
set_option linter.unusedSimpArgs false
namespace Go.Sm
open Go Go.Proofs
set_option maxRecDepth 100000
set_option maxHeartbeats 4000000
end Go.Sm
/- Sorting strings: the pivot. -/
set_option linter.unusedVariables false
set_option linter.unusedSimpArgs false
namespace Go.Sm
open Go Go.Proofs
set_option maxRecDepth 100000
set_option maxHeartbeats 4000000
/-- But for a counter. -/
def CntP (p : Nat) (σ σ' : CSt) : Prop := σ.n ≤ σ'.n ∧ (∀ j, j < σ.n → j ≠ p → σ'.get j = σ.get j) ∧ ∃ s : Int, σ'.get p = some (.cells [.int .i64 s] 3 false)
theorem CntP.trans {p : Nat} {a b c : CSt} (h : CntP p a b) (h' : CntP p b c) : CntP p a c := ⟨Nat.le_trans h.1 h'.1, fun j hj hne => by rw [h'.2.1 j (Nat.lt_of_lt_of_le hj h.1) hne, h.2.1 j hj hne], h'.2.2⟩
end Go.Sm
/- Sorting strings: partial insertion sort. -/
set_option linter.unusedVariables false
set_option linter.unusedSimpArgs false
namespace Go.Sm
open Go Go.Proofs
set_option maxRecDepth 100000
set_option maxHeartbeats 4000000
theorem pins_ar {a b n0 k s2 : Nat} (h1 : a + 1 ≤ k) (h2 : k < b) (h3 : b ≤ n0) : 0 < k ∧ k < n0 ∧ k - 1 < n0 ∧ k ≤ n0 := by omega
end Go.Sm
/- Sorting strings: the partitions. -/
set_option linter.unusedVariables false
set_option linter.unusedSimpArgs false
namespace Go.Sm
open Go Go.Proofs
set_option maxRecDepth 100000
set_option maxHeartbeats 4000000
theorem guard_ar {i j i2 j2 : Nat} (h1 : i ≤ i2) (h2 : j2 ≤ j) (h : ¬ j2 < i2) : (j2 - 1) + 1 - (i2 + 1) < j + 1 - i := by omega
end Go.Sm
/- Sorting strings: pdqsort. -/
set_option linter.unusedVariables false
set_option linter.unusedSimpArgs false
namespace Go.Sm
open Go Go.Proofs
set_option maxRecDepth 100000
set_option maxHeartbeats 4000000
theorem pdq_ar {a b x : Nat} (h1 : a ≤ x) (h2 : x < b) : ((b - 1) - (x - a) : Nat) = b - 1 - (x - a) ∧ a ≤ b - 1 - (x - a) ∧ b - 1 - (x - a) < b := by omega
/-- What is left to be done. -/
structure LeftP (a b : Nat) (d : Array Sn) (n0 a' b' : Nat) (d' : Array Sn) : Prop where
  le : a' ≤ b'
  hi : b' ≤ n0
  sz : d'.size = n0
  bel : Sort.Below ltS a' b' d'
  fin : ∀ R, Sort.PermIn a' b' d' R → Sort.SortedIn ltS a' b' R → Sort.PermIn a b d R ∧ Sort.SortedIn ltS a b R
theorem LeftP.perm {a b n0 a' b' : Nat} {d d' d2 : Array Sn} (h : LeftP a b d n0 a' b' d') (hp : Sort.PermIn a' b' d' d2) : LeftP a b d n0 a' b' d2 :=
  ⟨h.le, h.hi, by rw [hp.1]; exact h.sz, h.bel.perm (by rw [h.sz]; exact h.hi) hp, fun R h1 h2 => h.fin R (Sort.permIn_trans _ _ _ _ _ hp h1) h2⟩
end Go.Sm
/- Sorting strings: slices.Sort. -/
set_option linter.unusedVariables false
set_option linter.unusedSimpArgs false
namespace Go.Sm
open Go Go.Proofs
set_option maxRecDepth 100000
set_option maxHeartbeats 4000000
theorem But.growB {b i : Nat} {σ σ' : CSt} (h : But i σ σ') (hi : b ≤ i) (hb : b ≤ σ.n) : GrowB b σ σ' := ⟨h.1, fun j hj => h.2 j (by omega) (by omega)⟩
end Go.Sm
/- Sorting spans that have room behind. -/
set_option linter.unusedVariables false
set_option linter.unusedSimpArgs false
namespace Go.Sm
open Go Go.Proofs
set_option maxRecDepth 100000
set_option maxHeartbeats 4000000
end Go.Sm
/- slices.IndexFunc, slices.DeleteFunc of 31. -/
set_option linter.unusedVariables false
set_option linter.unusedSimpArgs false
namespace Go.Sm
open Go Go.Proofs
set_option maxRecDepth 100000
set_option maxHeartbeats 4000000
end Go.Sm
/- spans.Of. -/
set_option linter.unusedVariables false
set_option linter.unusedSimpArgs false
namespace Go.Sm
open Go Go.Proofs
set_option maxRecDepth 100000
set_option maxHeartbeats 4000000
end Go.Sm
/- Tables of locks: against. -/
set_option linter.unusedVariables false
set_option linter.unusedSimpArgs false
namespace Go.Sm
open Go Go.Proofs
set_option maxRecDepth 100000
set_option maxHeartbeats 4000000
end Go.Sm
