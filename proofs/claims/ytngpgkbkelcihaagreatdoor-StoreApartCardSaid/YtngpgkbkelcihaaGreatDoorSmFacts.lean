/- Printed by wip/facts.py: what is asked of the program's types; the environments. -/
import Derived.Test.YtngpgkbkelcihaaGreatDoorProg
import Derived.KernelRfl
import Derived.Test.YtngpgkbkelcihaaGreatDoorSmC
namespace Go.Sm
open Go Go.Proofs
set_option linter.unusedVariables false
def extE : FuncId → Array Value → CSt → Option Value
  | 68 => apartX 29
  | 73 => apartX 95
  | _ => fun _ _ => none
def gamI : FuncId → Option (Array Value → CSt → Option (Value × CSt))
  | 47 => some (insG 29 3 32)
  | 58 => some (insG 95 2 40)
  | _ => none
def gnone : CSt → Prop := fun σ => σ.get 0 = some (.cells [.int .u64 1, .int .u64 0] 0 true)
open Classical in
noncomputable def awakeG (args : Array Value) (σ : CSt) : Option (Value × CSt) := if args = #[] ∧ gnone σ then some (.bool true, σ) else none
noncomputable def gamL : FuncId → Option (Array Value → CSt → Option (Value × CSt))
  | 47 => some (insG 29 3 32)
  | 58 => some (insG 95 2 40)
  | 14 => some awakeG
  | 27 => some awakeG
  | _ => none
/-- The code itself. -/
noncomputable def E0 : Env := ⟨Tryz.prog, fun _ => none, extE, fun _ => none⟩
/-- With slices.Insert as one step. -/
noncomputable def EV : Env := ⟨Tryz.prog, gamI, extE, fun _ => none⟩
/-- With the closed tests, too. -/
noncomputable def E1 : Env := ⟨Tryz.prog, gamL, extE, fun _ => none⟩
@[simp] theorem E0P : E0.P = Tryz.prog := rfl
@[simp] theorem E1P : E1.P = Tryz.prog := rfl
@[simp] theorem E0X : E0.ext = extE := rfl
@[simp] theorem E1X : E1.ext = extE := rfl
attribute [simp] extE
theorem extOf_none {E : Env} {g : FuncId} {fs cs args : Array Value} {σ : CSt} (h : E.ext g args σ = none) : extOf E (.func (.func g) fs cs) args σ = none := by
  unfold extOf
  split
  · rename_i g' he
    cases he
    exact h
  · rfl
@[simp] theorem extOf_fn {E : Env} {g : FuncId} {args : Array Value} {σ : CSt} : extOf E (.func (.func g) #[] #[]) args σ = E.ext g args σ := rfl
@[simp] theorem extOf_cl {E : Env} {g : FuncId} {fs : Array Value} {c : Value} {l : List Value} {args : Array Value} {σ : CSt} : extOf E (.func (.func g) fs ⟨c :: l⟩) args σ = none := by
  unfold extOf
  split
  · rename_i g' he
    cases he
  · rfl
@[simp] theorem extOf_mv {E : Env} {g : FuncId} {cs : Array Value} {c : Value} {l : List Value} {args : Array Value} {σ : CSt} : extOf E (.func (.func g) ⟨c :: l⟩ cs) args σ = none := by
  unfold extOf
  split
  · rename_i g' he
    cases he
  · rfl

@[simp] theorem un0 : (Tryz.prog.underlying 0).isSome = true := by kernel_rfl
@[simp] theorem tf1 : tf Tryz.prog 1 = some ⟨1, 8, (some [.nilFunc]), false, true⟩ := by kernel_rfl
@[simp] theorem un1 : (Tryz.prog.underlying 1).isSome = true := by kernel_rfl
@[simp] theorem tf2 : tf Tryz.prog 2 = some ⟨1, 8, (some [.int .i64 0]), false, true⟩ := by kernel_rfl
@[simp] theorem it2 : intT Tryz.prog 2 = some .i64 := by kernel_rfl
@[simp] theorem un2 : (Tryz.prog.underlying 2).isSome = true := by kernel_rfl
@[simp] theorem tf3 : tf Tryz.prog 3 = some ⟨1, 8, (some [.int .i64 0]), false, true⟩ := by kernel_rfl
@[simp] theorem it3 : intT Tryz.prog 3 = some .i64 := by kernel_rfl
@[simp] theorem un3 : (Tryz.prog.underlying 3).isSome = true := by kernel_rfl
@[simp] theorem tf4 : tf Tryz.prog 4 = some ⟨1, 1, (some [.bool false]), false, true⟩ := by kernel_rfl
@[simp] theorem un4 : (Tryz.prog.underlying 4).isSome = true := by kernel_rfl
@[simp] theorem tf5 : tf Tryz.prog 5 = some ⟨1, 1, (some [.int .u8 0]), false, true⟩ := by kernel_rfl
@[simp] theorem it5 : intT Tryz.prog 5 = some .u8 := by kernel_rfl
@[simp] theorem un5 : (Tryz.prog.underlying 5).isSome = true := by kernel_rfl
@[simp] theorem tf6 : tf Tryz.prog 6 = some ⟨1, 1, (some [.int .u8 0]), false, true⟩ := by kernel_rfl
@[simp] theorem it6 : intT Tryz.prog 6 = some .u8 := by kernel_rfl
@[simp] theorem un6 : (Tryz.prog.underlying 6).isSome = true := by kernel_rfl
@[simp] theorem tf7 : tf Tryz.prog 7 = some ⟨4, 24, (some [.int .i64 0, .int .i64 0, .bool false, .int .u8 0]), true, true⟩ := by kernel_rfl
@[simp] theorem un7 : (Tryz.prog.underlying 7).isSome = true := by kernel_rfl
@[simp] theorem fo7_0 : fieldT Tryz.prog 7 0 = some 0 := by kernel_rfl
@[simp] theorem fo7_1 : fieldT Tryz.prog 7 1 = some 1 := by kernel_rfl
@[simp] theorem fo7_2 : fieldT Tryz.prog 7 2 = some 2 := by kernel_rfl
@[simp] theorem fo7_3 : fieldT Tryz.prog 7 3 = some 3 := by kernel_rfl
@[simp] theorem pa7 : partsT Tryz.prog 7 = some [(0, 1), (1, 1), (2, 1), (3, 1)] := by kernel_rfl
@[simp] theorem tf8 : tf Tryz.prog 8 = some ⟨4, 24, (some [.int .i64 0, .int .i64 0, .bool false, .int .u8 0]), true, true⟩ := by kernel_rfl
@[simp] theorem un8 : (Tryz.prog.underlying 8).isSome = true := by kernel_rfl
@[simp] theorem fo8_0 : fieldT Tryz.prog 8 0 = some 0 := by kernel_rfl
@[simp] theorem fo8_1 : fieldT Tryz.prog 8 1 = some 1 := by kernel_rfl
@[simp] theorem fo8_2 : fieldT Tryz.prog 8 2 = some 2 := by kernel_rfl
@[simp] theorem fo8_3 : fieldT Tryz.prog 8 3 = some 3 := by kernel_rfl
@[simp] theorem pa8 : partsT Tryz.prog 8 = some [(0, 1), (1, 1), (2, 1), (3, 1)] := by kernel_rfl
@[simp] theorem tf9 : tf Tryz.prog 9 = some ⟨1, 16, (some [.string ⟨#[]⟩]), false, true⟩ := by kernel_rfl
@[simp] theorem st9 : strT Tryz.prog 9 = true := by kernel_rfl
@[simp] theorem un9 : (Tryz.prog.underlying 9).isSome = true := by kernel_rfl
@[simp] theorem tf10 : tf Tryz.prog 10 = some ⟨1, 16, (some [.string ⟨#[]⟩]), false, true⟩ := by kernel_rfl
@[simp] theorem st10 : strT Tryz.prog 10 = true := by kernel_rfl
@[simp] theorem un10 : (Tryz.prog.underlying 10).isSome = true := by kernel_rfl
@[simp] theorem tf11 : tf Tryz.prog 11 = some ⟨1, 16, (some [.string ⟨#[]⟩]), false, true⟩ := by kernel_rfl
@[simp] theorem st11 : strT Tryz.prog 11 = true := by kernel_rfl
@[simp] theorem un11 : (Tryz.prog.underlying 11).isSome = true := by kernel_rfl
@[simp] theorem tf12 : tf Tryz.prog 12 = some ⟨1, 8, (some [.int .u64 0]), false, true⟩ := by kernel_rfl
@[simp] theorem it12 : intT Tryz.prog 12 = some .u64 := by kernel_rfl
@[simp] theorem un12 : (Tryz.prog.underlying 12).isSome = true := by kernel_rfl
@[simp] theorem tf13 : tf Tryz.prog 13 = some ⟨2, 24, (some [.string ⟨#[]⟩, .int .u64 0]), true, true⟩ := by kernel_rfl
@[simp] theorem un13 : (Tryz.prog.underlying 13).isSome = true := by kernel_rfl
@[simp] theorem fo13_0 : fieldT Tryz.prog 13 0 = some 0 := by kernel_rfl
@[simp] theorem fo13_1 : fieldT Tryz.prog 13 1 = some 1 := by kernel_rfl
@[simp] theorem pa13 : partsT Tryz.prog 13 = some [(0, 1), (1, 1)] := by kernel_rfl
@[simp] theorem tf14 : tf Tryz.prog 14 = some ⟨2, 24, (some [.string ⟨#[]⟩, .int .u64 0]), true, true⟩ := by kernel_rfl
@[simp] theorem un14 : (Tryz.prog.underlying 14).isSome = true := by kernel_rfl
@[simp] theorem fo14_0 : fieldT Tryz.prog 14 0 = some 0 := by kernel_rfl
@[simp] theorem fo14_1 : fieldT Tryz.prog 14 1 = some 1 := by kernel_rfl
@[simp] theorem pa14 : partsT Tryz.prog 14 = some [(0, 1), (1, 1)] := by kernel_rfl
@[simp] theorem tf15 : tf Tryz.prog 15 = some ⟨1, 8, (some [.pointer none]), false, true⟩ := by kernel_rfl
@[simp] theorem un15 : (Tryz.prog.underlying 15).isSome = true := by kernel_rfl
@[simp] theorem tf16 : tf Tryz.prog 16 = some ⟨1, 8, (some [.pointer none]), false, true⟩ := by kernel_rfl
@[simp] theorem un16 : (Tryz.prog.underlying 16).isSome = true := by kernel_rfl
@[simp] theorem tf17 : tf Tryz.prog 17 = some ⟨1, 8, (some [.pointer none]), false, true⟩ := by kernel_rfl
@[simp] theorem un17 : (Tryz.prog.underlying 17).isSome = true := by kernel_rfl
@[simp] theorem tf18 : tf Tryz.prog 18 = some ⟨1, 8, (some [.pointer none]), true, true⟩ := by kernel_rfl
@[simp] theorem un18 : (Tryz.prog.underlying 18).isSome = true := by kernel_rfl
@[simp] theorem fo18_0 : fieldT Tryz.prog 18 0 = some 0 := by kernel_rfl
@[simp] theorem pa18 : partsT Tryz.prog 18 = some [(0, 1)] := by kernel_rfl
@[simp] theorem tf19 : tf Tryz.prog 19 = some ⟨1, 8, (some [.pointer none]), true, true⟩ := by kernel_rfl
@[simp] theorem un19 : (Tryz.prog.underlying 19).isSome = true := by kernel_rfl
@[simp] theorem fo19_0 : fieldT Tryz.prog 19 0 = some 0 := by kernel_rfl
@[simp] theorem pa19 : partsT Tryz.prog 19 = some [(0, 1)] := by kernel_rfl
@[simp] theorem tf20 : tf Tryz.prog 20 = some ⟨1, 16, (some [.nilIface]), false, true⟩ := by kernel_rfl
@[simp] theorem un20 : (Tryz.prog.underlying 20).isSome = true := by kernel_rfl
@[simp] theorem tf21 : tf Tryz.prog 21 = some ⟨1, 4, (some [.int .i32 0]), false, true⟩ := by kernel_rfl
@[simp] theorem it21 : intT Tryz.prog 21 = some .i32 := by kernel_rfl
@[simp] theorem un21 : (Tryz.prog.underlying 21).isSome = true := by kernel_rfl
@[simp] theorem tf22 : tf Tryz.prog 22 = some ⟨1, 24, (some [.slice none 0 0]), false, true⟩ := by kernel_rfl
@[simp] theorem un22 : (Tryz.prog.underlying 22).isSome = true := by kernel_rfl
@[simp] theorem el22 : elemT Tryz.prog 22 = some 34 := by kernel_rfl
@[simp] theorem ef22 : elemF Tryz.prog 22 = some (34, ⟨3, 3, (some [.int .u8 0, .int .u8 0, .bool false]), true, true⟩) := by kernel_rfl
@[simp] theorem tf23 : tf Tryz.prog 23 = some ⟨1, 8, (some [.nilFunc]), false, true⟩ := by kernel_rfl
@[simp] theorem un23 : (Tryz.prog.underlying 23).isSome = true := by kernel_rfl
@[simp] theorem tf24 : tf Tryz.prog 24 = some ⟨1, 8, (some [.nilFunc]), false, true⟩ := by kernel_rfl
@[simp] theorem un24 : (Tryz.prog.underlying 24).isSome = true := by kernel_rfl
@[simp] theorem tf25 : tf Tryz.prog 25 = some ⟨1, 24, (some [.slice none 0 0]), false, true⟩ := by kernel_rfl
@[simp] theorem un25 : (Tryz.prog.underlying 25).isSome = true := by kernel_rfl
@[simp] theorem el25 : elemT Tryz.prog 25 = some 29 := by kernel_rfl
@[simp] theorem ef25 : elemF Tryz.prog 25 = some (29, ⟨3, 32, (some [.int .u64 0, .string ⟨#[]⟩, .bool false]), true, true⟩) := by kernel_rfl
@[simp] theorem tf26 : tf Tryz.prog 26 = some ⟨1, 24, (some [.slice none 0 0]), false, true⟩ := by kernel_rfl
@[simp] theorem un26 : (Tryz.prog.underlying 26).isSome = true := by kernel_rfl
@[simp] theorem el26 : elemT Tryz.prog 26 = some 29 := by kernel_rfl
@[simp] theorem ef26 : elemF Tryz.prog 26 = some (29, ⟨3, 32, (some [.int .u64 0, .string ⟨#[]⟩, .bool false]), true, true⟩) := by kernel_rfl
@[simp] theorem tf27 : tf Tryz.prog 27 = some ⟨1, 8, (some [.int .u64 0]), false, true⟩ := by kernel_rfl
@[simp] theorem it27 : intT Tryz.prog 27 = some .u64 := by kernel_rfl
@[simp] theorem un27 : (Tryz.prog.underlying 27).isSome = true := by kernel_rfl
@[simp] theorem tf28 : tf Tryz.prog 28 = some ⟨3, 32, (some [.int .u64 0, .string ⟨#[]⟩, .bool false]), true, true⟩ := by kernel_rfl
@[simp] theorem un28 : (Tryz.prog.underlying 28).isSome = true := by kernel_rfl
@[simp] theorem fo28_0 : fieldT Tryz.prog 28 0 = some 0 := by kernel_rfl
@[simp] theorem fo28_1 : fieldT Tryz.prog 28 1 = some 1 := by kernel_rfl
@[simp] theorem fo28_2 : fieldT Tryz.prog 28 2 = some 2 := by kernel_rfl
@[simp] theorem pa28 : partsT Tryz.prog 28 = some [(0, 1), (1, 1), (2, 1)] := by kernel_rfl
@[simp] theorem tf29 : tf Tryz.prog 29 = some ⟨3, 32, (some [.int .u64 0, .string ⟨#[]⟩, .bool false]), true, true⟩ := by kernel_rfl
@[simp] theorem un29 : (Tryz.prog.underlying 29).isSome = true := by kernel_rfl
@[simp] theorem fo29_0 : fieldT Tryz.prog 29 0 = some 0 := by kernel_rfl
@[simp] theorem fo29_1 : fieldT Tryz.prog 29 1 = some 1 := by kernel_rfl
@[simp] theorem fo29_2 : fieldT Tryz.prog 29 2 = some 2 := by kernel_rfl
@[simp] theorem pa29 : partsT Tryz.prog 29 = some [(0, 1), (1, 1), (2, 1)] := by kernel_rfl
@[simp] theorem tf30 : tf Tryz.prog 30 = some ⟨1, 8, (some [.nilFunc]), false, true⟩ := by kernel_rfl
@[simp] theorem un30 : (Tryz.prog.underlying 30).isSome = true := by kernel_rfl
@[simp] theorem tf31 : tf Tryz.prog 31 = some ⟨1, 8, (some [.nilFunc]), false, true⟩ := by kernel_rfl
@[simp] theorem un31 : (Tryz.prog.underlying 31).isSome = true := by kernel_rfl
@[simp] theorem tf32 : tf Tryz.prog 32 = some ⟨1, 8, (some [.nilFunc]), false, true⟩ := by kernel_rfl
@[simp] theorem un32 : (Tryz.prog.underlying 32).isSome = true := by kernel_rfl
@[simp] theorem tf33 : tf Tryz.prog 33 = some ⟨3, 3, (some [.int .u8 0, .int .u8 0, .bool false]), true, true⟩ := by kernel_rfl
@[simp] theorem un33 : (Tryz.prog.underlying 33).isSome = true := by kernel_rfl
@[simp] theorem fo33_0 : fieldT Tryz.prog 33 0 = some 0 := by kernel_rfl
@[simp] theorem fo33_1 : fieldT Tryz.prog 33 1 = some 1 := by kernel_rfl
@[simp] theorem fo33_2 : fieldT Tryz.prog 33 2 = some 2 := by kernel_rfl
@[simp] theorem pa33 : partsT Tryz.prog 33 = some [(0, 1), (1, 1), (2, 1)] := by kernel_rfl
@[simp] theorem tf34 : tf Tryz.prog 34 = some ⟨3, 3, (some [.int .u8 0, .int .u8 0, .bool false]), true, true⟩ := by kernel_rfl
@[simp] theorem un34 : (Tryz.prog.underlying 34).isSome = true := by kernel_rfl
@[simp] theorem fo34_0 : fieldT Tryz.prog 34 0 = some 0 := by kernel_rfl
@[simp] theorem fo34_1 : fieldT Tryz.prog 34 1 = some 1 := by kernel_rfl
@[simp] theorem fo34_2 : fieldT Tryz.prog 34 2 = some 2 := by kernel_rfl
@[simp] theorem pa34 : partsT Tryz.prog 34 = some [(0, 1), (1, 1), (2, 1)] := by kernel_rfl
@[simp] theorem tf35 : tf Tryz.prog 35 = some ⟨1, 8, (some [.nilFunc]), false, true⟩ := by kernel_rfl
@[simp] theorem un35 : (Tryz.prog.underlying 35).isSome = true := by kernel_rfl
@[simp] theorem tf36 : tf Tryz.prog 36 = some ⟨1, 8, (some [.nilFunc]), false, true⟩ := by kernel_rfl
@[simp] theorem un36 : (Tryz.prog.underlying 36).isSome = true := by kernel_rfl
@[simp] theorem tf37 : tf Tryz.prog 37 = some ⟨1, 8, (some [.nilFunc]), false, true⟩ := by kernel_rfl
@[simp] theorem un37 : (Tryz.prog.underlying 37).isSome = true := by kernel_rfl
@[simp] theorem tf38 : tf Tryz.prog 38 = some ⟨1, 8, (some [.nilFunc]), false, true⟩ := by kernel_rfl
@[simp] theorem un38 : (Tryz.prog.underlying 38).isSome = true := by kernel_rfl
@[simp] theorem tf39 : tf Tryz.prog 39 = some ⟨1, 8, (some [.nilFunc]), false, true⟩ := by kernel_rfl
@[simp] theorem un39 : (Tryz.prog.underlying 39).isSome = true := by kernel_rfl
@[simp] theorem tf40 : tf Tryz.prog 40 = some ⟨1, 2, (some [.int .u16 0]), false, true⟩ := by kernel_rfl
@[simp] theorem it40 : intT Tryz.prog 40 = some .u16 := by kernel_rfl
@[simp] theorem un40 : (Tryz.prog.underlying 40).isSome = true := by kernel_rfl
@[simp] theorem un41 : (Tryz.prog.underlying 41).isSome = true := by kernel_rfl
@[simp] theorem tf42 : tf Tryz.prog 42 = some ⟨1, 8, (some [.nilFunc]), false, true⟩ := by kernel_rfl
@[simp] theorem un42 : (Tryz.prog.underlying 42).isSome = true := by kernel_rfl
@[simp] theorem tf43 : tf Tryz.prog 43 = some ⟨1, 8, (some [.nilFunc]), false, true⟩ := by kernel_rfl
@[simp] theorem un43 : (Tryz.prog.underlying 43).isSome = true := by kernel_rfl
@[simp] theorem tf44 : tf Tryz.prog 44 = some ⟨1, 8, (some [.nilFunc]), false, true⟩ := by kernel_rfl
@[simp] theorem un44 : (Tryz.prog.underlying 44).isSome = true := by kernel_rfl
@[simp] theorem tf45 : tf Tryz.prog 45 = some ⟨1, 8, (some [.nilFunc]), false, true⟩ := by kernel_rfl
@[simp] theorem un45 : (Tryz.prog.underlying 45).isSome = true := by kernel_rfl
@[simp] theorem tf46 : tf Tryz.prog 46 = some ⟨1, 8, (some [.nilFunc]), false, true⟩ := by kernel_rfl
@[simp] theorem un46 : (Tryz.prog.underlying 46).isSome = true := by kernel_rfl
@[simp] theorem tf47 : tf Tryz.prog 47 = some ⟨1, 8, (some [.nilFunc]), false, true⟩ := by kernel_rfl
@[simp] theorem un47 : (Tryz.prog.underlying 47).isSome = true := by kernel_rfl
@[simp] theorem tf48 : tf Tryz.prog 48 = some ⟨1, 8, (some [.nilFunc]), false, true⟩ := by kernel_rfl
@[simp] theorem un48 : (Tryz.prog.underlying 48).isSome = true := by kernel_rfl
@[simp] theorem tf49 : tf Tryz.prog 49 = some ⟨1, 8, (some [.nilFunc]), false, true⟩ := by kernel_rfl
@[simp] theorem un49 : (Tryz.prog.underlying 49).isSome = true := by kernel_rfl
@[simp] theorem tf50 : tf Tryz.prog 50 = some ⟨1, 24, (some [.slice none 0 0]), false, true⟩ := by kernel_rfl
@[simp] theorem un50 : (Tryz.prog.underlying 50).isSome = true := by kernel_rfl
@[simp] theorem el50 : elemT Tryz.prog 50 = some 75 := by kernel_rfl
@[simp] theorem ef50 : elemF Tryz.prog 50 = some (75, ⟨4, 4, (some [.int .u8 0, .int .u8 0, .int .u8 0, .bool false]), true, true⟩) := by kernel_rfl
@[simp] theorem tf51 : tf Tryz.prog 51 = some ⟨1, 8, (some [.pointer none]), false, true⟩ := by kernel_rfl
@[simp] theorem un51 : (Tryz.prog.underlying 51).isSome = true := by kernel_rfl
@[simp] theorem tf52 : tf Tryz.prog 52 = some ⟨1, 8, (some [.map none]), false, true⟩ := by kernel_rfl
@[simp] theorem un52 : (Tryz.prog.underlying 52).isSome = true := by kernel_rfl
@[simp] theorem un53 : (Tryz.prog.underlying 53).isSome = true := by kernel_rfl
@[simp] theorem tf54 : tf Tryz.prog 54 = some ⟨1, 8, (some [.nilFunc]), false, true⟩ := by kernel_rfl
@[simp] theorem un54 : (Tryz.prog.underlying 54).isSome = true := by kernel_rfl
@[simp] theorem tf55 : tf Tryz.prog 55 = some ⟨1, 8, (some [.nilFunc]), false, true⟩ := by kernel_rfl
@[simp] theorem un55 : (Tryz.prog.underlying 55).isSome = true := by kernel_rfl
@[simp] theorem tf56 : tf Tryz.prog 56 = some ⟨1, 8, (some [.nilFunc]), false, true⟩ := by kernel_rfl
@[simp] theorem un56 : (Tryz.prog.underlying 56).isSome = true := by kernel_rfl
@[simp] theorem tf57 : tf Tryz.prog 57 = some ⟨1, 24, (some [.slice none 0 0]), false, true⟩ := by kernel_rfl
@[simp] theorem un57 : (Tryz.prog.underlying 57).isSome = true := by kernel_rfl
@[simp] theorem el57 : elemT Tryz.prog 57 = some 9 := by kernel_rfl
@[simp] theorem ef57 : elemF Tryz.prog 57 = some (9, ⟨1, 16, (some [.string ⟨#[]⟩]), false, true⟩) := by kernel_rfl
@[simp] theorem tf58 : tf Tryz.prog 58 = some ⟨1, 8, (some [.nilFunc]), false, true⟩ := by kernel_rfl
@[simp] theorem un58 : (Tryz.prog.underlying 58).isSome = true := by kernel_rfl
@[simp] theorem tf59 : tf Tryz.prog 59 = some ⟨1, 8, (some [.nilFunc]), false, true⟩ := by kernel_rfl
@[simp] theorem un59 : (Tryz.prog.underlying 59).isSome = true := by kernel_rfl
@[simp] theorem tf60 : tf Tryz.prog 60 = some ⟨1, 8, (some [.nilFunc]), false, true⟩ := by kernel_rfl
@[simp] theorem un60 : (Tryz.prog.underlying 60).isSome = true := by kernel_rfl
@[simp] theorem tf61 : tf Tryz.prog 61 = some ⟨1, 8, (some [.nilFunc]), false, true⟩ := by kernel_rfl
@[simp] theorem un61 : (Tryz.prog.underlying 61).isSome = true := by kernel_rfl
@[simp] theorem tf62 : tf Tryz.prog 62 = some ⟨1, 8, (some [.nilFunc]), false, true⟩ := by kernel_rfl
@[simp] theorem un62 : (Tryz.prog.underlying 62).isSome = true := by kernel_rfl
@[simp] theorem tf63 : tf Tryz.prog 63 = some ⟨1, 8, (some [.nilFunc]), false, true⟩ := by kernel_rfl
@[simp] theorem un63 : (Tryz.prog.underlying 63).isSome = true := by kernel_rfl
@[simp] theorem tf64 : tf Tryz.prog 64 = some ⟨1, 8, (some [.nilFunc]), false, true⟩ := by kernel_rfl
@[simp] theorem un64 : (Tryz.prog.underlying 64).isSome = true := by kernel_rfl
@[simp] theorem tf65 : tf Tryz.prog 65 = some ⟨1, 8, (some [.nilFunc]), false, true⟩ := by kernel_rfl
@[simp] theorem un65 : (Tryz.prog.underlying 65).isSome = true := by kernel_rfl
@[simp] theorem tf66 : tf Tryz.prog 66 = some ⟨1, 8, (some [.nilFunc]), false, true⟩ := by kernel_rfl
@[simp] theorem un66 : (Tryz.prog.underlying 66).isSome = true := by kernel_rfl
@[simp] theorem tf67 : tf Tryz.prog 67 = some ⟨1, 8, (some [.nilFunc]), false, true⟩ := by kernel_rfl
@[simp] theorem un67 : (Tryz.prog.underlying 67).isSome = true := by kernel_rfl
@[simp] theorem tf68 : tf Tryz.prog 68 = some ⟨1, 8, (some [.nilFunc]), false, true⟩ := by kernel_rfl
@[simp] theorem un68 : (Tryz.prog.underlying 68).isSome = true := by kernel_rfl
@[simp] theorem tf69 : tf Tryz.prog 69 = some ⟨1, 8, (some [.nilFunc]), false, true⟩ := by kernel_rfl
@[simp] theorem un69 : (Tryz.prog.underlying 69).isSome = true := by kernel_rfl
@[simp] theorem tf70 : tf Tryz.prog 70 = some ⟨1, 8, (some [.map none]), false, true⟩ := by kernel_rfl
@[simp] theorem un70 : (Tryz.prog.underlying 70).isSome = true := by kernel_rfl
@[simp] theorem tf71 : tf Tryz.prog 71 = some ⟨1, 8, (some [.nilFunc]), false, true⟩ := by kernel_rfl
@[simp] theorem un71 : (Tryz.prog.underlying 71).isSome = true := by kernel_rfl
@[simp] theorem tf72 : tf Tryz.prog 72 = some ⟨1, 8, (some [.nilFunc]), false, true⟩ := by kernel_rfl
@[simp] theorem un72 : (Tryz.prog.underlying 72).isSome = true := by kernel_rfl
@[simp] theorem tf73 : tf Tryz.prog 73 = some ⟨1, 8, (some [.nilFunc]), false, true⟩ := by kernel_rfl
@[simp] theorem un73 : (Tryz.prog.underlying 73).isSome = true := by kernel_rfl
@[simp] theorem tf74 : tf Tryz.prog 74 = some ⟨4, 4, (some [.int .u8 0, .int .u8 0, .int .u8 0, .bool false]), true, true⟩ := by kernel_rfl
@[simp] theorem un74 : (Tryz.prog.underlying 74).isSome = true := by kernel_rfl
@[simp] theorem fo74_0 : fieldT Tryz.prog 74 0 = some 0 := by kernel_rfl
@[simp] theorem fo74_1 : fieldT Tryz.prog 74 1 = some 1 := by kernel_rfl
@[simp] theorem pa74 : partsT Tryz.prog 74 = some [(0, 1), (1, 3)] := by kernel_rfl
@[simp] theorem tf75 : tf Tryz.prog 75 = some ⟨4, 4, (some [.int .u8 0, .int .u8 0, .int .u8 0, .bool false]), true, true⟩ := by kernel_rfl
@[simp] theorem un75 : (Tryz.prog.underlying 75).isSome = true := by kernel_rfl
@[simp] theorem fo75_0 : fieldT Tryz.prog 75 0 = some 0 := by kernel_rfl
@[simp] theorem fo75_1 : fieldT Tryz.prog 75 1 = some 1 := by kernel_rfl
@[simp] theorem pa75 : partsT Tryz.prog 75 = some [(0, 1), (1, 3)] := by kernel_rfl
@[simp] theorem tf76 : tf Tryz.prog 76 = some ⟨1, 8, (some [.nilFunc]), false, true⟩ := by kernel_rfl
@[simp] theorem un76 : (Tryz.prog.underlying 76).isSome = true := by kernel_rfl
@[simp] theorem tf77 : tf Tryz.prog 77 = some ⟨1, 8, (some [.nilFunc]), false, true⟩ := by kernel_rfl
@[simp] theorem un77 : (Tryz.prog.underlying 77).isSome = true := by kernel_rfl
@[simp] theorem tf78 : tf Tryz.prog 78 = some ⟨1, 8, (some [.nilFunc]), false, true⟩ := by kernel_rfl
@[simp] theorem un78 : (Tryz.prog.underlying 78).isSome = true := by kernel_rfl
@[simp] theorem tf79 : tf Tryz.prog 79 = some ⟨1, 8, (some [.nilFunc]), false, true⟩ := by kernel_rfl
@[simp] theorem un79 : (Tryz.prog.underlying 79).isSome = true := by kernel_rfl
@[simp] theorem un80 : (Tryz.prog.underlying 80).isSome = true := by kernel_rfl
@[simp] theorem tf81 : tf Tryz.prog 81 = some ⟨1, 8, (some [.nilFunc]), false, true⟩ := by kernel_rfl
@[simp] theorem un81 : (Tryz.prog.underlying 81).isSome = true := by kernel_rfl
@[simp] theorem tf82 : tf Tryz.prog 82 = some ⟨1, 8, (some [.nilFunc]), false, true⟩ := by kernel_rfl
@[simp] theorem un82 : (Tryz.prog.underlying 82).isSome = true := by kernel_rfl
@[simp] theorem tf83 : tf Tryz.prog 83 = some ⟨1, 8, (some [.nilFunc]), false, true⟩ := by kernel_rfl
@[simp] theorem un83 : (Tryz.prog.underlying 83).isSome = true := by kernel_rfl
@[simp] theorem un84 : (Tryz.prog.underlying 84).isSome = true := by kernel_rfl
@[simp] theorem tf85 : tf Tryz.prog 85 = some ⟨1, 8, (some [.nilFunc]), false, true⟩ := by kernel_rfl
@[simp] theorem un85 : (Tryz.prog.underlying 85).isSome = true := by kernel_rfl
@[simp] theorem tf86 : tf Tryz.prog 86 = some ⟨1, 8, (some [.nilFunc]), false, true⟩ := by kernel_rfl
@[simp] theorem un86 : (Tryz.prog.underlying 86).isSome = true := by kernel_rfl
@[simp] theorem tf87 : tf Tryz.prog 87 = some ⟨1, 8, (some [.nilFunc]), false, true⟩ := by kernel_rfl
@[simp] theorem un87 : (Tryz.prog.underlying 87).isSome = true := by kernel_rfl
@[simp] theorem tf88 : tf Tryz.prog 88 = some ⟨1, 8, (some [.nilFunc]), false, true⟩ := by kernel_rfl
@[simp] theorem un88 : (Tryz.prog.underlying 88).isSome = true := by kernel_rfl
@[simp] theorem tf89 : tf Tryz.prog 89 = some ⟨1, 24, (some [.slice none 0 0]), false, true⟩ := by kernel_rfl
@[simp] theorem un89 : (Tryz.prog.underlying 89).isSome = true := by kernel_rfl
@[simp] theorem el89 : elemT Tryz.prog 89 = some 22 := by kernel_rfl
@[simp] theorem ef89 : elemF Tryz.prog 89 = some (22, ⟨1, 24, (some [.slice none 0 0]), false, true⟩) := by kernel_rfl
@[simp] theorem tf90 : tf Tryz.prog 90 = some ⟨1, 8, (some [.nilFunc]), false, true⟩ := by kernel_rfl
@[simp] theorem un90 : (Tryz.prog.underlying 90).isSome = true := by kernel_rfl
@[simp] theorem tf91 : tf Tryz.prog 91 = some ⟨1, 8, (some [.nilFunc]), false, true⟩ := by kernel_rfl
@[simp] theorem un91 : (Tryz.prog.underlying 91).isSome = true := by kernel_rfl
@[simp] theorem tf92 : tf Tryz.prog 92 = some ⟨1, 8, (some [.nilFunc]), false, true⟩ := by kernel_rfl
@[simp] theorem un92 : (Tryz.prog.underlying 92).isSome = true := by kernel_rfl
@[simp] theorem tf93 : tf Tryz.prog 93 = some ⟨1, 24, (some [.slice none 0 0]), false, true⟩ := by kernel_rfl
@[simp] theorem un93 : (Tryz.prog.underlying 93).isSome = true := by kernel_rfl
@[simp] theorem el93 : elemT Tryz.prog 93 = some 95 := by kernel_rfl
@[simp] theorem ef93 : elemF Tryz.prog 93 = some (95, ⟨2, 40, (some [.string ⟨#[]⟩, .slice none 0 0]), true, true⟩) := by kernel_rfl
@[simp] theorem tf94 : tf Tryz.prog 94 = some ⟨2, 40, (some [.string ⟨#[]⟩, .slice none 0 0]), true, true⟩ := by kernel_rfl
@[simp] theorem un94 : (Tryz.prog.underlying 94).isSome = true := by kernel_rfl
@[simp] theorem fo94_0 : fieldT Tryz.prog 94 0 = some 0 := by kernel_rfl
@[simp] theorem fo94_1 : fieldT Tryz.prog 94 1 = some 1 := by kernel_rfl
@[simp] theorem pa94 : partsT Tryz.prog 94 = some [(0, 1), (1, 1)] := by kernel_rfl
@[simp] theorem tf95 : tf Tryz.prog 95 = some ⟨2, 40, (some [.string ⟨#[]⟩, .slice none 0 0]), true, true⟩ := by kernel_rfl
@[simp] theorem un95 : (Tryz.prog.underlying 95).isSome = true := by kernel_rfl
@[simp] theorem fo95_0 : fieldT Tryz.prog 95 0 = some 0 := by kernel_rfl
@[simp] theorem fo95_1 : fieldT Tryz.prog 95 1 = some 1 := by kernel_rfl
@[simp] theorem pa95 : partsT Tryz.prog 95 = some [(0, 1), (1, 1)] := by kernel_rfl
@[simp] theorem tf96 : tf Tryz.prog 96 = some ⟨1, 24, (some [.slice none 0 0]), true, true⟩ := by kernel_rfl
@[simp] theorem un96 : (Tryz.prog.underlying 96).isSome = true := by kernel_rfl
@[simp] theorem fo96_0 : fieldT Tryz.prog 96 0 = some 0 := by kernel_rfl
@[simp] theorem pa96 : partsT Tryz.prog 96 = some [(0, 1)] := by kernel_rfl
@[simp] theorem tf97 : tf Tryz.prog 97 = some ⟨1, 24, (some [.slice none 0 0]), true, true⟩ := by kernel_rfl
@[simp] theorem un97 : (Tryz.prog.underlying 97).isSome = true := by kernel_rfl
@[simp] theorem fo97_0 : fieldT Tryz.prog 97 0 = some 0 := by kernel_rfl
@[simp] theorem pa97 : partsT Tryz.prog 97 = some [(0, 1)] := by kernel_rfl
@[simp] theorem tf98 : tf Tryz.prog 98 = some ⟨1, 8, (some [.nilFunc]), false, true⟩ := by kernel_rfl
@[simp] theorem un98 : (Tryz.prog.underlying 98).isSome = true := by kernel_rfl
@[simp] theorem tf99 : tf Tryz.prog 99 = some ⟨1, 8, (some [.nilFunc]), false, true⟩ := by kernel_rfl
@[simp] theorem un99 : (Tryz.prog.underlying 99).isSome = true := by kernel_rfl
@[simp] theorem tf100 : tf Tryz.prog 100 = some ⟨1, 8, (some [.nilFunc]), false, true⟩ := by kernel_rfl
@[simp] theorem un100 : (Tryz.prog.underlying 100).isSome = true := by kernel_rfl
@[simp] theorem tf101 : tf Tryz.prog 101 = some ⟨1, 8, (some [.nilFunc]), false, true⟩ := by kernel_rfl
@[simp] theorem un101 : (Tryz.prog.underlying 101).isSome = true := by kernel_rfl
@[simp] theorem tf102 : tf Tryz.prog 102 = some ⟨1, 8, (some [.nilFunc]), false, true⟩ := by kernel_rfl
@[simp] theorem un102 : (Tryz.prog.underlying 102).isSome = true := by kernel_rfl
@[simp] theorem tf103 : tf Tryz.prog 103 = some ⟨1, 8, (some [.nilFunc]), false, true⟩ := by kernel_rfl
@[simp] theorem un103 : (Tryz.prog.underlying 103).isSome = true := by kernel_rfl
@[simp] theorem tf104 : tf Tryz.prog 104 = some ⟨1, 8, (some [.nilFunc]), false, true⟩ := by kernel_rfl
@[simp] theorem un104 : (Tryz.prog.underlying 104).isSome = true := by kernel_rfl
@[simp] theorem tf105 : tf Tryz.prog 105 = some ⟨1, 8, (some [.nilFunc]), false, true⟩ := by kernel_rfl
@[simp] theorem un105 : (Tryz.prog.underlying 105).isSome = true := by kernel_rfl
@[simp] theorem tf106 : tf Tryz.prog 106 = some ⟨1, 24, (some [.slice none 0 0]), false, true⟩ := by kernel_rfl
@[simp] theorem un106 : (Tryz.prog.underlying 106).isSome = true := by kernel_rfl
@[simp] theorem el106 : elemT Tryz.prog 106 = some 50 := by kernel_rfl
@[simp] theorem ef106 : elemF Tryz.prog 106 = some (50, ⟨1, 24, (some [.slice none 0 0]), false, true⟩) := by kernel_rfl
@[simp] theorem tf107 : tf Tryz.prog 107 = some ⟨1, 8, (some [.nilFunc]), false, true⟩ := by kernel_rfl
@[simp] theorem un107 : (Tryz.prog.underlying 107).isSome = true := by kernel_rfl
@[simp] theorem tf108 : tf Tryz.prog 108 = some ⟨1, 8, (some [.pointer none]), false, true⟩ := by kernel_rfl
@[simp] theorem un108 : (Tryz.prog.underlying 108).isSome = true := by kernel_rfl
@[simp] theorem tf109 : tf Tryz.prog 109 = some ⟨1, 8, (some [.nilFunc]), false, true⟩ := by kernel_rfl
@[simp] theorem un109 : (Tryz.prog.underlying 109).isSome = true := by kernel_rfl
@[simp] theorem tf110 : tf Tryz.prog 110 = some ⟨1, 8, (some [.pointer none]), false, true⟩ := by kernel_rfl
@[simp] theorem un110 : (Tryz.prog.underlying 110).isSome = true := by kernel_rfl
@[simp] theorem tf111 : tf Tryz.prog 111 = some ⟨1, 24, (some [.slice none 0 0]), false, true⟩ := by kernel_rfl
@[simp] theorem un111 : (Tryz.prog.underlying 111).isSome = true := by kernel_rfl
@[simp] theorem el111 : elemT Tryz.prog 111 = some 116 := by kernel_rfl
@[simp] theorem ef111 : elemF Tryz.prog 111 = some (116, ⟨1, 24, (some [.slice none 0 0]), false, true⟩) := by kernel_rfl
@[simp] theorem tf112 : tf Tryz.prog 112 = some ⟨1, 8, (some [.int .i64 0]), false, true⟩ := by kernel_rfl
@[simp] theorem it112 : intT Tryz.prog 112 = some .i64 := by kernel_rfl
@[simp] theorem un112 : (Tryz.prog.underlying 112).isSome = true := by kernel_rfl
@[simp] theorem un113 : (Tryz.prog.underlying 113).isSome = true := by kernel_rfl
@[simp] theorem tf114 : tf Tryz.prog 114 = some ⟨1, 8, (some [.nilFunc]), false, true⟩ := by kernel_rfl
@[simp] theorem un114 : (Tryz.prog.underlying 114).isSome = true := by kernel_rfl
@[simp] theorem tf115 : tf Tryz.prog 115 = some ⟨1, 8, (some [.nilFunc]), false, true⟩ := by kernel_rfl
@[simp] theorem un115 : (Tryz.prog.underlying 115).isSome = true := by kernel_rfl
@[simp] theorem tf116 : tf Tryz.prog 116 = some ⟨1, 24, (some [.slice none 0 0]), false, true⟩ := by kernel_rfl
@[simp] theorem un116 : (Tryz.prog.underlying 116).isSome = true := by kernel_rfl
@[simp] theorem el116 : elemT Tryz.prog 116 = some 5 := by kernel_rfl
@[simp] theorem ef116 : elemF Tryz.prog 116 = some (5, ⟨1, 1, (some [.int .u8 0]), false, true⟩) := by kernel_rfl
@[simp] theorem tf117 : tf Tryz.prog 117 = some ⟨1, 8, (some [.nilFunc]), false, true⟩ := by kernel_rfl
@[simp] theorem un117 : (Tryz.prog.underlying 117).isSome = true := by kernel_rfl
@[simp] theorem tf118 : tf Tryz.prog 118 = some ⟨1, 8, (some [.int .u64 0]), false, true⟩ := by kernel_rfl
@[simp] theorem it118 : intT Tryz.prog 118 = some .u64 := by kernel_rfl
@[simp] theorem un118 : (Tryz.prog.underlying 118).isSome = true := by kernel_rfl
@[simp] theorem tf119 : tf Tryz.prog 119 = some ⟨1, 8, (some [.nilFunc]), false, true⟩ := by kernel_rfl
@[simp] theorem un119 : (Tryz.prog.underlying 119).isSome = true := by kernel_rfl
@[simp] theorem tf120 : tf Tryz.prog 120 = some ⟨1, 8, (some [.nilFunc]), false, true⟩ := by kernel_rfl
@[simp] theorem un120 : (Tryz.prog.underlying 120).isSome = true := by kernel_rfl
@[simp] theorem tf121 : tf Tryz.prog 121 = some ⟨1, 8, (some [.nilFunc]), false, true⟩ := by kernel_rfl
@[simp] theorem un121 : (Tryz.prog.underlying 121).isSome = true := by kernel_rfl
@[simp] theorem tf122 : tf Tryz.prog 122 = some ⟨1, 8, (some [.nilFunc]), false, true⟩ := by kernel_rfl
@[simp] theorem un122 : (Tryz.prog.underlying 122).isSome = true := by kernel_rfl
@[simp] theorem tf123 : tf Tryz.prog 123 = some ⟨1, 8, (some [.nilFunc]), false, true⟩ := by kernel_rfl
@[simp] theorem un123 : (Tryz.prog.underlying 123).isSome = true := by kernel_rfl
@[simp] theorem tf124 : tf Tryz.prog 124 = some ⟨1, 8, (some [.nilFunc]), false, true⟩ := by kernel_rfl
@[simp] theorem un124 : (Tryz.prog.underlying 124).isSome = true := by kernel_rfl
@[simp] theorem tf125 : tf Tryz.prog 125 = some ⟨1, 8, (some [.nilFunc]), false, true⟩ := by kernel_rfl
@[simp] theorem un125 : (Tryz.prog.underlying 125).isSome = true := by kernel_rfl
@[simp] theorem tf126 : tf Tryz.prog 126 = some ⟨1, 4, (some [.int .u32 0]), false, true⟩ := by kernel_rfl
@[simp] theorem it126 : intT Tryz.prog 126 = some .u32 := by kernel_rfl
@[simp] theorem un126 : (Tryz.prog.underlying 126).isSome = true := by kernel_rfl
@[simp] theorem tf127 : tf Tryz.prog 127 = some ⟨1, 8, (some [.nilFunc]), false, true⟩ := by kernel_rfl
@[simp] theorem un127 : (Tryz.prog.underlying 127).isSome = true := by kernel_rfl
@[simp] theorem tf128 : tf Tryz.prog 128 = some ⟨1, 8, (some [.nilFunc]), false, true⟩ := by kernel_rfl
@[simp] theorem un128 : (Tryz.prog.underlying 128).isSome = true := by kernel_rfl
@[simp] theorem tf129 : tf Tryz.prog 129 = some ⟨1, 8, (some [.nilFunc]), false, true⟩ := by kernel_rfl
@[simp] theorem un129 : (Tryz.prog.underlying 129).isSome = true := by kernel_rfl
@[simp] theorem tf130 : tf Tryz.prog 130 = some ⟨1, 8, (some [.pointer none]), false, true⟩ := by kernel_rfl
@[simp] theorem un130 : (Tryz.prog.underlying 130).isSome = true := by kernel_rfl
@[simp] theorem tf131 : tf Tryz.prog 131 = some ⟨1, 8, (some [.nilFunc]), false, true⟩ := by kernel_rfl
@[simp] theorem un131 : (Tryz.prog.underlying 131).isSome = true := by kernel_rfl
@[simp] theorem tf132 : tf Tryz.prog 132 = some ⟨2, 24, (some [.pointer none, .string ⟨#[]⟩]), true, true⟩ := by kernel_rfl
@[simp] theorem un132 : (Tryz.prog.underlying 132).isSome = true := by kernel_rfl
@[simp] theorem fo132_0 : fieldT Tryz.prog 132 0 = some 0 := by kernel_rfl
@[simp] theorem fo132_1 : fieldT Tryz.prog 132 1 = some 1 := by kernel_rfl
@[simp] theorem pa132 : partsT Tryz.prog 132 = some [(0, 1), (1, 1)] := by kernel_rfl
@[simp] theorem tf133 : tf Tryz.prog 133 = some ⟨2, 24, (some [.pointer none, .string ⟨#[]⟩]), true, true⟩ := by kernel_rfl
@[simp] theorem un133 : (Tryz.prog.underlying 133).isSome = true := by kernel_rfl
@[simp] theorem fo133_0 : fieldT Tryz.prog 133 0 = some 0 := by kernel_rfl
@[simp] theorem fo133_1 : fieldT Tryz.prog 133 1 = some 1 := by kernel_rfl
@[simp] theorem pa133 : partsT Tryz.prog 133 = some [(0, 1), (1, 1)] := by kernel_rfl
@[simp] theorem un134 : (Tryz.prog.underlying 134).isSome = true := by kernel_rfl
@[simp] theorem tf135 : tf Tryz.prog 135 = some ⟨1, 8, (some [.nilFunc]), false, true⟩ := by kernel_rfl
@[simp] theorem un135 : (Tryz.prog.underlying 135).isSome = true := by kernel_rfl
@[simp] theorem un136 : (Tryz.prog.underlying 136).isSome = true := by kernel_rfl
@[simp] theorem tf137 : tf Tryz.prog 137 = some ⟨1, 8, (some [.nilFunc]), false, true⟩ := by kernel_rfl
@[simp] theorem un137 : (Tryz.prog.underlying 137).isSome = true := by kernel_rfl
@[simp] theorem tf138 : tf Tryz.prog 138 = some ⟨1, 8, (some [.nilFunc]), false, true⟩ := by kernel_rfl
@[simp] theorem un138 : (Tryz.prog.underlying 138).isSome = true := by kernel_rfl
@[simp] theorem tf139 : tf Tryz.prog 139 = some ⟨1, 8, (some [.nilFunc]), false, true⟩ := by kernel_rfl
@[simp] theorem un139 : (Tryz.prog.underlying 139).isSome = true := by kernel_rfl
@[simp] theorem tf140 : tf Tryz.prog 140 = some ⟨1, 8, (some [.nilFunc]), false, true⟩ := by kernel_rfl
@[simp] theorem un140 : (Tryz.prog.underlying 140).isSome = true := by kernel_rfl
@[simp] theorem tf141 : tf Tryz.prog 141 = some ⟨1, 8, (some [.nilFunc]), false, true⟩ := by kernel_rfl
@[simp] theorem un141 : (Tryz.prog.underlying 141).isSome = true := by kernel_rfl
@[simp] theorem tf142 : tf Tryz.prog 142 = some ⟨1, 8, (some [.nilFunc]), false, true⟩ := by kernel_rfl
@[simp] theorem un142 : (Tryz.prog.underlying 142).isSome = true := by kernel_rfl
@[simp] theorem tf143 : tf Tryz.prog 143 = some ⟨1, 8, (some [.int .i64 0]), false, true⟩ := by kernel_rfl
@[simp] theorem it143 : intT Tryz.prog 143 = some .i64 := by kernel_rfl
@[simp] theorem un143 : (Tryz.prog.underlying 143).isSome = true := by kernel_rfl
@[simp] theorem un144 : (Tryz.prog.underlying 144).isSome = true := by kernel_rfl
@[simp] theorem tf145 : tf Tryz.prog 145 = some ⟨1, 8, (some [.nilFunc]), false, true⟩ := by kernel_rfl
@[simp] theorem un145 : (Tryz.prog.underlying 145).isSome = true := by kernel_rfl
@[simp] theorem tf146 : tf Tryz.prog 146 = some ⟨1, 8, (some [.nilFunc]), false, true⟩ := by kernel_rfl
@[simp] theorem un146 : (Tryz.prog.underlying 146).isSome = true := by kernel_rfl
@[simp] theorem tf147 : tf Tryz.prog 147 = some ⟨1, 8, (some [.nilFunc]), false, true⟩ := by kernel_rfl
@[simp] theorem un147 : (Tryz.prog.underlying 147).isSome = true := by kernel_rfl
@[simp] theorem tf148 : tf Tryz.prog 148 = some ⟨1, 8, (some [.nilFunc]), false, true⟩ := by kernel_rfl
@[simp] theorem un148 : (Tryz.prog.underlying 148).isSome = true := by kernel_rfl
@[simp] theorem tf149 : tf Tryz.prog 149 = some ⟨1, 8, (some [.nilFunc]), false, true⟩ := by kernel_rfl
@[simp] theorem un149 : (Tryz.prog.underlying 149).isSome = true := by kernel_rfl
@[simp] theorem tf150 : tf Tryz.prog 150 = some ⟨1, 8, (some [.nilFunc]), false, true⟩ := by kernel_rfl
@[simp] theorem un150 : (Tryz.prog.underlying 150).isSome = true := by kernel_rfl
@[simp] theorem tf151 : tf Tryz.prog 151 = some ⟨1, 24, (some [.slice none 0 0]), true, true⟩ := by kernel_rfl
@[simp] theorem un151 : (Tryz.prog.underlying 151).isSome = true := by kernel_rfl
@[simp] theorem fo151_0 : fieldT Tryz.prog 151 0 = some 0 := by kernel_rfl
@[simp] theorem pa151 : partsT Tryz.prog 151 = some [(0, 1)] := by kernel_rfl
@[simp] theorem tf152 : tf Tryz.prog 152 = some ⟨1, 24, (some [.slice none 0 0]), true, true⟩ := by kernel_rfl
@[simp] theorem un152 : (Tryz.prog.underlying 152).isSome = true := by kernel_rfl
@[simp] theorem fo152_0 : fieldT Tryz.prog 152 0 = some 0 := by kernel_rfl
@[simp] theorem pa152 : partsT Tryz.prog 152 = some [(0, 1)] := by kernel_rfl
@[simp] theorem tf153 : tf Tryz.prog 153 = some ⟨1, 8, (some [.nilFunc]), false, true⟩ := by kernel_rfl
@[simp] theorem un153 : (Tryz.prog.underlying 153).isSome = true := by kernel_rfl
@[simp] theorem tf154 : tf Tryz.prog 154 = some ⟨1, 8, (some [.nilFunc]), false, true⟩ := by kernel_rfl
@[simp] theorem un154 : (Tryz.prog.underlying 154).isSome = true := by kernel_rfl
@[simp] theorem tf155 : tf Tryz.prog 155 = some ⟨1, 8, (some [.nilFunc]), false, true⟩ := by kernel_rfl
@[simp] theorem un155 : (Tryz.prog.underlying 155).isSome = true := by kernel_rfl
@[simp] theorem tf156 : tf Tryz.prog 156 = some ⟨1, 8, (some [.map none]), false, true⟩ := by kernel_rfl
@[simp] theorem un156 : (Tryz.prog.underlying 156).isSome = true := by kernel_rfl
@[simp] theorem tf157 : tf Tryz.prog 157 = some ⟨3, 24, (some [.pointer none, .map none, .int .i64 0]), true, true⟩ := by kernel_rfl
@[simp] theorem un157 : (Tryz.prog.underlying 157).isSome = true := by kernel_rfl
@[simp] theorem fo157_0 : fieldT Tryz.prog 157 0 = some 0 := by kernel_rfl
@[simp] theorem fo157_1 : fieldT Tryz.prog 157 1 = some 1 := by kernel_rfl
@[simp] theorem fo157_2 : fieldT Tryz.prog 157 2 = some 2 := by kernel_rfl
@[simp] theorem pa157 : partsT Tryz.prog 157 = some [(0, 1), (1, 1), (2, 1)] := by kernel_rfl
@[simp] theorem tf158 : tf Tryz.prog 158 = some ⟨3, 24, (some [.pointer none, .map none, .int .i64 0]), true, true⟩ := by kernel_rfl
@[simp] theorem un158 : (Tryz.prog.underlying 158).isSome = true := by kernel_rfl
@[simp] theorem fo158_0 : fieldT Tryz.prog 158 0 = some 0 := by kernel_rfl
@[simp] theorem fo158_1 : fieldT Tryz.prog 158 1 = some 1 := by kernel_rfl
@[simp] theorem fo158_2 : fieldT Tryz.prog 158 2 = some 2 := by kernel_rfl
@[simp] theorem pa158 : partsT Tryz.prog 158 = some [(0, 1), (1, 1), (2, 1)] := by kernel_rfl
@[simp] theorem tf159 : tf Tryz.prog 159 = some ⟨2, 16, (some [.int .i64 0, .int .i64 0]), true, true⟩ := by kernel_rfl
@[simp] theorem un159 : (Tryz.prog.underlying 159).isSome = true := by kernel_rfl
@[simp] theorem fo159_0 : fieldT Tryz.prog 159 0 = some 0 := by kernel_rfl
@[simp] theorem fo159_1 : fieldT Tryz.prog 159 1 = some 1 := by kernel_rfl
@[simp] theorem pa159 : partsT Tryz.prog 159 = some [(0, 1), (1, 1)] := by kernel_rfl
@[simp] theorem tf160 : tf Tryz.prog 160 = some ⟨2, 16, (some [.int .i64 0, .int .i64 0]), true, true⟩ := by kernel_rfl
@[simp] theorem un160 : (Tryz.prog.underlying 160).isSome = true := by kernel_rfl
@[simp] theorem fo160_0 : fieldT Tryz.prog 160 0 = some 0 := by kernel_rfl
@[simp] theorem fo160_1 : fieldT Tryz.prog 160 1 = some 1 := by kernel_rfl
@[simp] theorem pa160 : partsT Tryz.prog 160 = some [(0, 1), (1, 1)] := by kernel_rfl
@[simp] theorem tf161 : tf Tryz.prog 161 = some ⟨1, 8, (some [.pointer none]), false, true⟩ := by kernel_rfl
@[simp] theorem un161 : (Tryz.prog.underlying 161).isSome = true := by kernel_rfl
@[simp] theorem un162 : (Tryz.prog.underlying 162).isSome = true := by kernel_rfl
@[simp] theorem tf163 : tf Tryz.prog 163 = some ⟨2, 32, (some [.slice none 0 0, .int .i64 0]), true, true⟩ := by kernel_rfl
@[simp] theorem un163 : (Tryz.prog.underlying 163).isSome = true := by kernel_rfl
@[simp] theorem fo163_0 : fieldT Tryz.prog 163 0 = some 0 := by kernel_rfl
@[simp] theorem fo163_1 : fieldT Tryz.prog 163 1 = some 1 := by kernel_rfl
@[simp] theorem pa163 : partsT Tryz.prog 163 = some [(0, 1), (1, 1)] := by kernel_rfl
@[simp] theorem tf164 : tf Tryz.prog 164 = some ⟨2, 32, (some [.slice none 0 0, .int .i64 0]), true, true⟩ := by kernel_rfl
@[simp] theorem un164 : (Tryz.prog.underlying 164).isSome = true := by kernel_rfl
@[simp] theorem fo164_0 : fieldT Tryz.prog 164 0 = some 0 := by kernel_rfl
@[simp] theorem fo164_1 : fieldT Tryz.prog 164 1 = some 1 := by kernel_rfl
@[simp] theorem pa164 : partsT Tryz.prog 164 = some [(0, 1), (1, 1)] := by kernel_rfl
@[simp] theorem tf165 : tf Tryz.prog 165 = some ⟨1, 8, (some [.nilFunc]), false, true⟩ := by kernel_rfl
@[simp] theorem un165 : (Tryz.prog.underlying 165).isSome = true := by kernel_rfl
@[simp] theorem tf166 : tf Tryz.prog 166 = some ⟨1, 8, (some [.int .u64 0]), false, true⟩ := by kernel_rfl
@[simp] theorem it166 : intT Tryz.prog 166 = some .u64 := by kernel_rfl
@[simp] theorem un166 : (Tryz.prog.underlying 166).isSome = true := by kernel_rfl
@[simp] theorem tf167 : tf Tryz.prog 167 = some ⟨1, 8, (some [.nilFunc]), false, true⟩ := by kernel_rfl
@[simp] theorem un167 : (Tryz.prog.underlying 167).isSome = true := by kernel_rfl
@[simp] theorem tf168 : tf Tryz.prog 168 = some ⟨1, 8, (some [.nilFunc]), false, true⟩ := by kernel_rfl
@[simp] theorem un168 : (Tryz.prog.underlying 168).isSome = true := by kernel_rfl
@[simp] theorem tf169 : tf Tryz.prog 169 = some ⟨1, 8, (some [.nilFunc]), false, true⟩ := by kernel_rfl
@[simp] theorem un169 : (Tryz.prog.underlying 169).isSome = true := by kernel_rfl
@[simp] theorem tf170 : tf Tryz.prog 170 = some ⟨1, 8, (some [.pointer none]), false, true⟩ := by kernel_rfl
@[simp] theorem un170 : (Tryz.prog.underlying 170).isSome = true := by kernel_rfl
@[simp] theorem tf171 : tf Tryz.prog 171 = some ⟨1, 8, (some [.nilFunc]), false, true⟩ := by kernel_rfl
@[simp] theorem un171 : (Tryz.prog.underlying 171).isSome = true := by kernel_rfl
@[simp] theorem tf172 : tf Tryz.prog 172 = some ⟨1, 8, (some [.nilFunc]), false, true⟩ := by kernel_rfl
@[simp] theorem un172 : (Tryz.prog.underlying 172).isSome = true := by kernel_rfl
@[simp] theorem tf173 : tf Tryz.prog 173 = some ⟨1, 8, (some [.nilFunc]), false, true⟩ := by kernel_rfl
@[simp] theorem un173 : (Tryz.prog.underlying 173).isSome = true := by kernel_rfl
@[simp] theorem tf174 : tf Tryz.prog 174 = some ⟨1, 8, (some [.nilFunc]), false, true⟩ := by kernel_rfl
@[simp] theorem un174 : (Tryz.prog.underlying 174).isSome = true := by kernel_rfl
@[simp] theorem tf175 : tf Tryz.prog 175 = some ⟨1, 8, (some [.pointer none]), false, true⟩ := by kernel_rfl
@[simp] theorem un175 : (Tryz.prog.underlying 175).isSome = true := by kernel_rfl
@[simp] theorem tf176 : tf Tryz.prog 176 = some ⟨0, 0, (some []), true, true⟩ := by kernel_rfl
@[simp] theorem un176 : (Tryz.prog.underlying 176).isSome = true := by kernel_rfl
@[simp] theorem pa176 : partsT Tryz.prog 176 = some [] := by kernel_rfl
@[simp] theorem tf177 : tf Tryz.prog 177 = some ⟨0, 0, (some []), true, true⟩ := by kernel_rfl
@[simp] theorem un177 : (Tryz.prog.underlying 177).isSome = true := by kernel_rfl
@[simp] theorem pa177 : partsT Tryz.prog 177 = some [] := by kernel_rfl
@[simp] theorem tf178 : tf Tryz.prog 178 = some ⟨1, 8, (some [.pointer none]), false, true⟩ := by kernel_rfl
@[simp] theorem un178 : (Tryz.prog.underlying 178).isSome = true := by kernel_rfl
@[simp] theorem un179 : (Tryz.prog.underlying 179).isSome = true := by kernel_rfl
@[simp] theorem tf180 : tf Tryz.prog 180 = some ⟨1, 8, (some [.nilFunc]), false, true⟩ := by kernel_rfl
@[simp] theorem un180 : (Tryz.prog.underlying 180).isSome = true := by kernel_rfl
@[simp] theorem tf181 : tf Tryz.prog 181 = some ⟨1, 8, (some [.nilFunc]), false, true⟩ := by kernel_rfl
@[simp] theorem un181 : (Tryz.prog.underlying 181).isSome = true := by kernel_rfl
@[simp] theorem tf182 : tf Tryz.prog 182 = some ⟨1, 8, (some [.nilFunc]), false, true⟩ := by kernel_rfl
@[simp] theorem un182 : (Tryz.prog.underlying 182).isSome = true := by kernel_rfl
@[simp] theorem tf183 : tf Tryz.prog 183 = some ⟨1, 24, (some [.slice none 0 0]), false, true⟩ := by kernel_rfl
@[simp] theorem un183 : (Tryz.prog.underlying 183).isSome = true := by kernel_rfl
@[simp] theorem el183 : elemT Tryz.prog 183 = some 187 := by kernel_rfl
@[simp] theorem ef183 : elemF Tryz.prog 183 = some (187, ⟨2, 16, (some [.int .u64 0, .int .u64 0]), true, true⟩) := by kernel_rfl
@[simp] theorem tf184 : tf Tryz.prog 184 = some ⟨1, 24, (some [.slice none 0 0]), false, true⟩ := by kernel_rfl
@[simp] theorem un184 : (Tryz.prog.underlying 184).isSome = true := by kernel_rfl
@[simp] theorem el184 : elemT Tryz.prog 184 = some 187 := by kernel_rfl
@[simp] theorem ef184 : elemF Tryz.prog 184 = some (187, ⟨2, 16, (some [.int .u64 0, .int .u64 0]), true, true⟩) := by kernel_rfl
@[simp] theorem tf185 : tf Tryz.prog 185 = some ⟨1, 8, (some [.nilFunc]), false, true⟩ := by kernel_rfl
@[simp] theorem un185 : (Tryz.prog.underlying 185).isSome = true := by kernel_rfl
@[simp] theorem tf186 : tf Tryz.prog 186 = some ⟨2, 16, (some [.int .u64 0, .int .u64 0]), true, true⟩ := by kernel_rfl
@[simp] theorem un186 : (Tryz.prog.underlying 186).isSome = true := by kernel_rfl
@[simp] theorem fo186_0 : fieldT Tryz.prog 186 0 = some 0 := by kernel_rfl
@[simp] theorem fo186_1 : fieldT Tryz.prog 186 1 = some 1 := by kernel_rfl
@[simp] theorem pa186 : partsT Tryz.prog 186 = some [(0, 1), (1, 1)] := by kernel_rfl
@[simp] theorem tf187 : tf Tryz.prog 187 = some ⟨2, 16, (some [.int .u64 0, .int .u64 0]), true, true⟩ := by kernel_rfl
@[simp] theorem un187 : (Tryz.prog.underlying 187).isSome = true := by kernel_rfl
@[simp] theorem fo187_0 : fieldT Tryz.prog 187 0 = some 0 := by kernel_rfl
@[simp] theorem fo187_1 : fieldT Tryz.prog 187 1 = some 1 := by kernel_rfl
@[simp] theorem pa187 : partsT Tryz.prog 187 = some [(0, 1), (1, 1)] := by kernel_rfl
@[simp] theorem un188 : (Tryz.prog.underlying 188).isSome = true := by kernel_rfl
@[simp] theorem tf189 : tf Tryz.prog 189 = some ⟨1, 8, (some [.nilFunc]), false, true⟩ := by kernel_rfl
@[simp] theorem un189 : (Tryz.prog.underlying 189).isSome = true := by kernel_rfl
@[simp] theorem un190 : (Tryz.prog.underlying 190).isSome = true := by kernel_rfl
@[simp] theorem tf191 : tf Tryz.prog 191 = some ⟨1, 8, (some [.nilFunc]), false, true⟩ := by kernel_rfl
@[simp] theorem un191 : (Tryz.prog.underlying 191).isSome = true := by kernel_rfl
@[simp] theorem tf192 : tf Tryz.prog 192 = some ⟨1, 8, (some [.nilFunc]), false, true⟩ := by kernel_rfl
@[simp] theorem un192 : (Tryz.prog.underlying 192).isSome = true := by kernel_rfl
@[simp] theorem tf193 : tf Tryz.prog 193 = some ⟨1, 8, (some [.nilFunc]), false, true⟩ := by kernel_rfl
@[simp] theorem un193 : (Tryz.prog.underlying 193).isSome = true := by kernel_rfl
@[simp] theorem tf194 : tf Tryz.prog 194 = some ⟨1, 8, (some [.nilFunc]), false, true⟩ := by kernel_rfl
@[simp] theorem un194 : (Tryz.prog.underlying 194).isSome = true := by kernel_rfl
@[simp] theorem tf195 : tf Tryz.prog 195 = some ⟨1, 8, (some [.nilFunc]), false, true⟩ := by kernel_rfl
@[simp] theorem un195 : (Tryz.prog.underlying 195).isSome = true := by kernel_rfl
@[simp] theorem tf196 : tf Tryz.prog 196 = some ⟨1, 8, (some [.nilFunc]), false, true⟩ := by kernel_rfl
@[simp] theorem un196 : (Tryz.prog.underlying 196).isSome = true := by kernel_rfl
@[simp] theorem tf197 : tf Tryz.prog 197 = some ⟨1, 8, (some [.nilFunc]), false, true⟩ := by kernel_rfl
@[simp] theorem un197 : (Tryz.prog.underlying 197).isSome = true := by kernel_rfl
@[simp] theorem tf198 : tf Tryz.prog 198 = some ⟨1, 8, (some [.nilFunc]), false, true⟩ := by kernel_rfl
@[simp] theorem un198 : (Tryz.prog.underlying 198).isSome = true := by kernel_rfl
@[simp] theorem tf199 : tf Tryz.prog 199 = some ⟨1, 8, (some [.nilFunc]), false, true⟩ := by kernel_rfl
@[simp] theorem un199 : (Tryz.prog.underlying 199).isSome = true := by kernel_rfl
@[simp] theorem tf200 : tf Tryz.prog 200 = some ⟨1, 8, (some [.nilFunc]), false, true⟩ := by kernel_rfl
@[simp] theorem un200 : (Tryz.prog.underlying 200).isSome = true := by kernel_rfl
@[simp] theorem tf201 : tf Tryz.prog 201 = some ⟨1, 8, (some [.nilFunc]), false, true⟩ := by kernel_rfl
@[simp] theorem un201 : (Tryz.prog.underlying 201).isSome = true := by kernel_rfl
@[simp] theorem tf202 : tf Tryz.prog 202 = some ⟨1, 8, (some [.nilFunc]), false, true⟩ := by kernel_rfl
@[simp] theorem un202 : (Tryz.prog.underlying 202).isSome = true := by kernel_rfl
@[simp] theorem tf203 : tf Tryz.prog 203 = some ⟨1, 8, (some [.nilFunc]), false, true⟩ := by kernel_rfl
@[simp] theorem un203 : (Tryz.prog.underlying 203).isSome = true := by kernel_rfl
@[simp] theorem tf204 : tf Tryz.prog 204 = some ⟨1, 8, (some [.nilFunc]), false, true⟩ := by kernel_rfl
@[simp] theorem un204 : (Tryz.prog.underlying 204).isSome = true := by kernel_rfl
@[simp] theorem tf205 : tf Tryz.prog 205 = some ⟨1, 8, (some [.nilFunc]), false, true⟩ := by kernel_rfl
@[simp] theorem un205 : (Tryz.prog.underlying 205).isSome = true := by kernel_rfl
@[simp] theorem tf206 : tf Tryz.prog 206 = some ⟨1, 8, (some [.nilFunc]), false, true⟩ := by kernel_rfl
@[simp] theorem un206 : (Tryz.prog.underlying 206).isSome = true := by kernel_rfl
@[simp] theorem tf207 : tf Tryz.prog 207 = some ⟨1, 8, (some [.nilFunc]), false, true⟩ := by kernel_rfl
@[simp] theorem un207 : (Tryz.prog.underlying 207).isSome = true := by kernel_rfl
@[simp] theorem tf208 : tf Tryz.prog 208 = some ⟨1, 8, (some [.nilFunc]), false, true⟩ := by kernel_rfl
@[simp] theorem un208 : (Tryz.prog.underlying 208).isSome = true := by kernel_rfl
@[simp] theorem tf209 : tf Tryz.prog 209 = some ⟨1, 8, (some [.nilFunc]), false, true⟩ := by kernel_rfl
@[simp] theorem un209 : (Tryz.prog.underlying 209).isSome = true := by kernel_rfl
@[simp] theorem tf210 : tf Tryz.prog 210 = some ⟨1, 8, (some [.nilFunc]), false, true⟩ := by kernel_rfl
@[simp] theorem un210 : (Tryz.prog.underlying 210).isSome = true := by kernel_rfl
@[simp] theorem tf211 : tf Tryz.prog 211 = some ⟨4, 40, (some [.pointer none, .pointer none, .pointer none, .string ⟨#[]⟩]), true, true⟩ := by kernel_rfl
@[simp] theorem un211 : (Tryz.prog.underlying 211).isSome = true := by kernel_rfl
@[simp] theorem fo211_0 : fieldT Tryz.prog 211 0 = some 0 := by kernel_rfl
@[simp] theorem fo211_1 : fieldT Tryz.prog 211 1 = some 1 := by kernel_rfl
@[simp] theorem fo211_2 : fieldT Tryz.prog 211 2 = some 2 := by kernel_rfl
@[simp] theorem fo211_3 : fieldT Tryz.prog 211 3 = some 3 := by kernel_rfl
@[simp] theorem pa211 : partsT Tryz.prog 211 = some [(0, 1), (1, 1), (2, 1), (3, 1)] := by kernel_rfl
@[simp] theorem tf212 : tf Tryz.prog 212 = some ⟨4, 40, (some [.pointer none, .pointer none, .pointer none, .string ⟨#[]⟩]), true, true⟩ := by kernel_rfl
@[simp] theorem un212 : (Tryz.prog.underlying 212).isSome = true := by kernel_rfl
@[simp] theorem fo212_0 : fieldT Tryz.prog 212 0 = some 0 := by kernel_rfl
@[simp] theorem fo212_1 : fieldT Tryz.prog 212 1 = some 1 := by kernel_rfl
@[simp] theorem fo212_2 : fieldT Tryz.prog 212 2 = some 2 := by kernel_rfl
@[simp] theorem fo212_3 : fieldT Tryz.prog 212 3 = some 3 := by kernel_rfl
@[simp] theorem pa212 : partsT Tryz.prog 212 = some [(0, 1), (1, 1), (2, 1), (3, 1)] := by kernel_rfl
@[simp] theorem tf213 : tf Tryz.prog 213 = some ⟨0, 0, (some []), true, true⟩ := by kernel_rfl
@[simp] theorem un213 : (Tryz.prog.underlying 213).isSome = true := by kernel_rfl
@[simp] theorem tf214 : tf Tryz.prog 214 = some ⟨0, 0, (some []), true, true⟩ := by kernel_rfl
@[simp] theorem un214 : (Tryz.prog.underlying 214).isSome = true := by kernel_rfl
@[simp] theorem pa214 : partsT Tryz.prog 214 = some [(0, 0)] := by kernel_rfl
@[simp] theorem tf215 : tf Tryz.prog 215 = some ⟨0, 0, (some []), true, true⟩ := by kernel_rfl
@[simp] theorem un215 : (Tryz.prog.underlying 215).isSome = true := by kernel_rfl
@[simp] theorem pa215 : partsT Tryz.prog 215 = some [(0, 0)] := by kernel_rfl
@[simp] theorem tf216 : tf Tryz.prog 216 = some ⟨1, 1, (some [.int .u8 0]), false, true⟩ := by kernel_rfl
@[simp] theorem it216 : intT Tryz.prog 216 = some .u8 := by kernel_rfl
@[simp] theorem un216 : (Tryz.prog.underlying 216).isSome = true := by kernel_rfl
@[simp] theorem tf217 : tf Tryz.prog 217 = some ⟨1, 1, (some [.int .u8 0]), false, true⟩ := by kernel_rfl
@[simp] theorem it217 : intT Tryz.prog 217 = some .u8 := by kernel_rfl
@[simp] theorem un217 : (Tryz.prog.underlying 217).isSome = true := by kernel_rfl
@[simp] theorem tf218 : tf Tryz.prog 218 = some ⟨1, 8, (some [.nilFunc]), false, true⟩ := by kernel_rfl
@[simp] theorem un218 : (Tryz.prog.underlying 218).isSome = true := by kernel_rfl
@[simp] theorem tf219 : tf Tryz.prog 219 = some ⟨1, 8, (some [.pointer none]), false, true⟩ := by kernel_rfl
@[simp] theorem un219 : (Tryz.prog.underlying 219).isSome = true := by kernel_rfl
@[simp] theorem tf220 : tf Tryz.prog 220 = some ⟨1, 4, (some [.int .i32 0]), false, true⟩ := by kernel_rfl
@[simp] theorem it220 : intT Tryz.prog 220 = some .i32 := by kernel_rfl
@[simp] theorem un220 : (Tryz.prog.underlying 220).isSome = true := by kernel_rfl
@[simp] theorem tf221 : tf Tryz.prog 221 = some ⟨1, 4, (some [.int .i32 0]), false, true⟩ := by kernel_rfl
@[simp] theorem it221 : intT Tryz.prog 221 = some .i32 := by kernel_rfl
@[simp] theorem un221 : (Tryz.prog.underlying 221).isSome = true := by kernel_rfl
@[simp] theorem tf222 : tf Tryz.prog 222 = some ⟨11, 48, (some [.int .u64 0, .int .u64 0, .int .u32 0, .int .u8 0, .int .u8 0, .int .u8 0, .int .u8 0, .nilFunc, .pointer none, .int .i32 0, .int .i32 0]), true, true⟩ := by kernel_rfl
@[simp] theorem un222 : (Tryz.prog.underlying 222).isSome = true := by kernel_rfl
@[simp] theorem fo222_0 : fieldT Tryz.prog 222 0 = some 0 := by kernel_rfl
@[simp] theorem fo222_1 : fieldT Tryz.prog 222 1 = some 1 := by kernel_rfl
@[simp] theorem fo222_2 : fieldT Tryz.prog 222 2 = some 2 := by kernel_rfl
@[simp] theorem fo222_3 : fieldT Tryz.prog 222 3 = some 3 := by kernel_rfl
@[simp] theorem fo222_4 : fieldT Tryz.prog 222 4 = some 4 := by kernel_rfl
@[simp] theorem fo222_5 : fieldT Tryz.prog 222 5 = some 5 := by kernel_rfl
@[simp] theorem fo222_6 : fieldT Tryz.prog 222 6 = some 6 := by kernel_rfl
@[simp] theorem fo222_7 : fieldT Tryz.prog 222 7 = some 7 := by kernel_rfl
@[simp] theorem fo222_8 : fieldT Tryz.prog 222 8 = some 8 := by kernel_rfl
@[simp] theorem fo222_9 : fieldT Tryz.prog 222 9 = some 9 := by kernel_rfl
@[simp] theorem fo222_10 : fieldT Tryz.prog 222 10 = some 10 := by kernel_rfl
@[simp] theorem pa222 : partsT Tryz.prog 222 = some [(0, 1), (1, 1), (2, 1), (3, 1), (4, 1), (5, 1), (6, 1), (7, 1), (8, 1), (9, 1), (10, 1)] := by kernel_rfl
@[simp] theorem tf223 : tf Tryz.prog 223 = some ⟨11, 48, (some [.int .u64 0, .int .u64 0, .int .u32 0, .int .u8 0, .int .u8 0, .int .u8 0, .int .u8 0, .nilFunc, .pointer none, .int .i32 0, .int .i32 0]), true, true⟩ := by kernel_rfl
@[simp] theorem un223 : (Tryz.prog.underlying 223).isSome = true := by kernel_rfl
@[simp] theorem fo223_0 : fieldT Tryz.prog 223 0 = some 0 := by kernel_rfl
@[simp] theorem fo223_1 : fieldT Tryz.prog 223 1 = some 1 := by kernel_rfl
@[simp] theorem fo223_2 : fieldT Tryz.prog 223 2 = some 2 := by kernel_rfl
@[simp] theorem fo223_3 : fieldT Tryz.prog 223 3 = some 3 := by kernel_rfl
@[simp] theorem fo223_4 : fieldT Tryz.prog 223 4 = some 4 := by kernel_rfl
@[simp] theorem fo223_5 : fieldT Tryz.prog 223 5 = some 5 := by kernel_rfl
@[simp] theorem fo223_6 : fieldT Tryz.prog 223 6 = some 6 := by kernel_rfl
@[simp] theorem fo223_7 : fieldT Tryz.prog 223 7 = some 7 := by kernel_rfl
@[simp] theorem fo223_8 : fieldT Tryz.prog 223 8 = some 8 := by kernel_rfl
@[simp] theorem fo223_9 : fieldT Tryz.prog 223 9 = some 9 := by kernel_rfl
@[simp] theorem fo223_10 : fieldT Tryz.prog 223 10 = some 10 := by kernel_rfl
@[simp] theorem pa223 : partsT Tryz.prog 223 = some [(0, 1), (1, 1), (2, 1), (3, 1), (4, 1), (5, 1), (6, 1), (7, 1), (8, 1), (9, 1), (10, 1)] := by kernel_rfl
@[simp] theorem tf224 : tf Tryz.prog 224 = some ⟨1, 8, (some [.nilFunc]), false, true⟩ := by kernel_rfl
@[simp] theorem un224 : (Tryz.prog.underlying 224).isSome = true := by kernel_rfl
@[simp] theorem tf225 : tf Tryz.prog 225 = some ⟨1, 8, (some [.pointer none]), false, true⟩ := by kernel_rfl
@[simp] theorem un225 : (Tryz.prog.underlying 225).isSome = true := by kernel_rfl
@[simp] theorem nt2 : Tryz.f2.ntmps = 1 := by kernel_rfl
@[simp] theorem rs2 : Tryz.f2.results.toList = [] := by kernel_rfl
@[simp] theorem nt3 : Tryz.f3.ntmps = 15 := by kernel_rfl
@[simp] theorem rs3 : Tryz.f3.results.toList = [.tmp 2] := by kernel_rfl
@[simp] theorem nt4 : Tryz.f4.ntmps = 53 := by kernel_rfl
@[simp] theorem rs4 : Tryz.f4.results.toList = [.tmp 6] := by kernel_rfl
@[simp] theorem nt5 : Tryz.f5.ntmps = 48 := by kernel_rfl
@[simp] theorem rs5 : Tryz.f5.results.toList = [.tmp 4] := by kernel_rfl
@[simp] theorem nt6 : Tryz.f6.ntmps = 128 := by kernel_rfl
@[simp] theorem rs6 : Tryz.f6.results.toList = [.tmp 6] := by kernel_rfl
@[simp] theorem nt7 : Tryz.f7.ntmps = 67 := by kernel_rfl
@[simp] theorem rs7 : Tryz.f7.results.toList = [.tmp 6] := by kernel_rfl
@[simp] theorem nt8 : Tryz.f8.ntmps = 63 := by kernel_rfl
@[simp] theorem rs8 : Tryz.f8.results.toList = [.tmp 4] := by kernel_rfl
@[simp] theorem nt9 : Tryz.f9.ntmps = 99 := by kernel_rfl
@[simp] theorem rs9 : Tryz.f9.results.toList = [.cell 6 4] := by kernel_rfl
@[simp] theorem nt10 : Tryz.f10.ntmps = 106 := by kernel_rfl
@[simp] theorem rs10 : Tryz.f10.results.toList = [.cell 8 4] := by kernel_rfl
@[simp] theorem nt11 : Tryz.f11.ntmps = 74 := by kernel_rfl
@[simp] theorem rs11 : Tryz.f11.results.toList = [.cell 4 4] := by kernel_rfl
@[simp] theorem nt12 : Tryz.f12.ntmps = 123 := by kernel_rfl
@[simp] theorem rs12 : Tryz.f12.results.toList = [.cell 4 4] := by kernel_rfl
@[simp] theorem nt13 : Tryz.f13.ntmps = 84 := by kernel_rfl
@[simp] theorem rs13 : Tryz.f13.results.toList = [.tmp 4] := by kernel_rfl
@[simp] theorem nt14 : Tryz.f14.ntmps = 34 := by kernel_rfl
@[simp] theorem rs14 : Tryz.f14.results.toList = [.tmp 0] := by kernel_rfl
@[simp] theorem nt15 : Tryz.f15.ntmps = 26 := by kernel_rfl
@[simp] theorem rs15 : Tryz.f15.results.toList = [.tmp 4] := by kernel_rfl
@[simp] theorem nt16 : Tryz.f16.ntmps = 18 := by kernel_rfl
@[simp] theorem rs16 : Tryz.f16.results.toList = [.tmp 2] := by kernel_rfl
@[simp] theorem nt17 : Tryz.f17.ntmps = 33 := by kernel_rfl
@[simp] theorem rs17 : Tryz.f17.results.toList = [.tmp 2] := by kernel_rfl
@[simp] theorem nt18 : Tryz.f18.ntmps = 8 := by kernel_rfl
@[simp] theorem rs18 : Tryz.f18.results.toList = [.tmp 2] := by kernel_rfl
@[simp] theorem nt19 : Tryz.f19.ntmps = 28 := by kernel_rfl
@[simp] theorem rs19 : Tryz.f19.results.toList = [.tmp 4] := by kernel_rfl
@[simp] theorem nt20 : Tryz.f20.ntmps = 19 := by kernel_rfl
@[simp] theorem rs20 : Tryz.f20.results.toList = [.cell 2 29] := by kernel_rfl
@[simp] theorem nt21 : Tryz.f21.ntmps = 32 := by kernel_rfl
@[simp] theorem rs21 : Tryz.f21.results.toList = [.tmp 4] := by kernel_rfl
@[simp] theorem nt22 : Tryz.f22.ntmps = 25 := by kernel_rfl
@[simp] theorem rs22 : Tryz.f22.results.toList = [.cell 4 29, .tmp 5] := by kernel_rfl
@[simp] theorem nt23 : Tryz.f23.ntmps = 9 := by kernel_rfl
@[simp] theorem rs23 : Tryz.f23.results.toList = [.tmp 4] := by kernel_rfl
@[simp] theorem nt24 : Tryz.f24.ntmps = 9 := by kernel_rfl
@[simp] theorem rs24 : Tryz.f24.results.toList = [.tmp 3] := by kernel_rfl
@[simp] theorem nt25 : Tryz.f25.ntmps = 36 := by kernel_rfl
@[simp] theorem rs25 : Tryz.f25.results.toList = [.tmp 2] := by kernel_rfl
@[simp] theorem nt26 : Tryz.f26.ntmps = 28 := by kernel_rfl
@[simp] theorem rs26 : Tryz.f26.results.toList = [] := by kernel_rfl
@[simp] theorem nt27 : Tryz.f27.ntmps = 37 := by kernel_rfl
@[simp] theorem rs27 : Tryz.f27.results.toList = [.tmp 0] := by kernel_rfl
@[simp] theorem nt28 : Tryz.f28.ntmps = 42 := by kernel_rfl
@[simp] theorem rs28 : Tryz.f28.results.toList = [.tmp 2, .tmp 3] := by kernel_rfl
@[simp] theorem nt29 : Tryz.f29.ntmps = 34 := by kernel_rfl
@[simp] theorem rs29 : Tryz.f29.results.toList = [.cell 6 29, .tmp 7] := by kernel_rfl
@[simp] theorem nt30 : Tryz.f30.ntmps = 8 := by kernel_rfl
@[simp] theorem rs30 : Tryz.f30.results.toList = [.tmp 2] := by kernel_rfl
@[simp] theorem nt31 : Tryz.f31.ntmps = 9 := by kernel_rfl
@[simp] theorem rs31 : Tryz.f31.results.toList = [.tmp 2] := by kernel_rfl
@[simp] theorem nt32 : Tryz.f32.ntmps = 4 := by kernel_rfl
@[simp] theorem rs32 : Tryz.f32.results.toList = [.tmp 2] := by kernel_rfl
@[simp] theorem nt33 : Tryz.f33.ntmps = 4 := by kernel_rfl
@[simp] theorem rs33 : Tryz.f33.results.toList = [.tmp 2] := by kernel_rfl
@[simp] theorem nt34 : Tryz.f34.ntmps = 8 := by kernel_rfl
@[simp] theorem rs34 : Tryz.f34.results.toList = [.tmp 6] := by kernel_rfl
@[simp] theorem nt35 : Tryz.f35.ntmps = 48 := by kernel_rfl
@[simp] theorem rs35 : Tryz.f35.results.toList = [] := by kernel_rfl
@[simp] theorem nt36 : Tryz.f36.ntmps = 49 := by kernel_rfl
@[simp] theorem rs36 : Tryz.f36.results.toList = [.tmp 4] := by kernel_rfl
@[simp] theorem nt37 : Tryz.f37.ntmps = 8 := by kernel_rfl
@[simp] theorem rs37 : Tryz.f37.results.toList = [.tmp 2] := by kernel_rfl
@[simp] theorem nt38 : Tryz.f38.ntmps = 9 := by kernel_rfl
@[simp] theorem rs38 : Tryz.f38.results.toList = [.tmp 4] := by kernel_rfl
@[simp] theorem nt39 : Tryz.f39.ntmps = 20 := by kernel_rfl
@[simp] theorem rs39 : Tryz.f39.results.toList = [.tmp 3] := by kernel_rfl
@[simp] theorem nt40 : Tryz.f40.ntmps = 36 := by kernel_rfl
@[simp] theorem rs40 : Tryz.f40.results.toList = [.tmp 2] := by kernel_rfl
@[simp] theorem nt41 : Tryz.f41.ntmps = 21 := by kernel_rfl
@[simp] theorem rs41 : Tryz.f41.results.toList = [.tmp 2, .tmp 3] := by kernel_rfl
@[simp] theorem nt42 : Tryz.f42.ntmps = 26 := by kernel_rfl
@[simp] theorem rs42 : Tryz.f42.results.toList = [.tmp 4] := by kernel_rfl
@[simp] theorem nt43 : Tryz.f43.ntmps = 26 := by kernel_rfl
@[simp] theorem rs43 : Tryz.f43.results.toList = [.tmp 4] := by kernel_rfl
@[simp] theorem nt44 : Tryz.f44.ntmps = 36 := by kernel_rfl
@[simp] theorem rs44 : Tryz.f44.results.toList = [.tmp 0] := by kernel_rfl
@[simp] theorem nt45 : Tryz.f45.ntmps = 49 := by kernel_rfl
@[simp] theorem rs45 : Tryz.f45.results.toList = [.tmp 6, .tmp 7] := by kernel_rfl
@[simp] theorem nt46 : Tryz.f46.ntmps = 15 := by kernel_rfl
@[simp] theorem rs46 : Tryz.f46.results.toList = [.tmp 4] := by kernel_rfl
@[simp] theorem nt47 : Tryz.f47.ntmps = 95 := by kernel_rfl
@[simp] theorem rs47 : Tryz.f47.results.toList = [.tmp 6] := by kernel_rfl
@[simp] theorem nt48 : Tryz.f48.ntmps = 19 := by kernel_rfl
@[simp] theorem rs48 : Tryz.f48.results.toList = [.tmp 4] := by kernel_rfl
@[simp] theorem nt49 : Tryz.f49.ntmps = 27 := by kernel_rfl
@[simp] theorem rs49 : Tryz.f49.results.toList = [.tmp 4] := by kernel_rfl
@[simp] theorem nt50 : Tryz.f50.ntmps = 3 := by kernel_rfl
@[simp] theorem rs50 : Tryz.f50.results.toList = [.tmp 0] := by kernel_rfl
@[simp] theorem nt51 : Tryz.f51.ntmps = 49 := by kernel_rfl
@[simp] theorem rs51 : Tryz.f51.results.toList = [.tmp 6, .tmp 7] := by kernel_rfl
@[simp] theorem nt52 : Tryz.f52.ntmps = 15 := by kernel_rfl
@[simp] theorem rs52 : Tryz.f52.results.toList = [.tmp 4] := by kernel_rfl
@[simp] theorem nt53 : Tryz.f53.ntmps = 5 := by kernel_rfl
@[simp] theorem rs53 : Tryz.f53.results.toList = [.tmp 2] := by kernel_rfl
@[simp] theorem nt54 : Tryz.f54.ntmps = 11 := by kernel_rfl
@[simp] theorem rs54 : Tryz.f54.results.toList = [] := by kernel_rfl
@[simp] theorem nt55 : Tryz.f55.ntmps = 14 := by kernel_rfl
@[simp] theorem rs55 : Tryz.f55.results.toList = [] := by kernel_rfl
@[simp] theorem nt56 : Tryz.f56.ntmps = 23 := by kernel_rfl
@[simp] theorem rs56 : Tryz.f56.results.toList = [] := by kernel_rfl
@[simp] theorem nt57 : Tryz.f57.ntmps = 57 := by kernel_rfl
@[simp] theorem rs57 : Tryz.f57.results.toList = [] := by kernel_rfl
@[simp] theorem nt58 : Tryz.f58.ntmps = 95 := by kernel_rfl
@[simp] theorem rs58 : Tryz.f58.results.toList = [.tmp 6] := by kernel_rfl
@[simp] theorem nt59 : Tryz.f59.ntmps = 42 := by kernel_rfl
@[simp] theorem rs59 : Tryz.f59.results.toList = [.tmp 4] := by kernel_rfl
@[simp] theorem nt60 : Tryz.f60.ntmps = 7 := by kernel_rfl
@[simp] theorem rs60 : Tryz.f60.results.toList = [.tmp 2] := by kernel_rfl
@[simp] theorem nt61 : Tryz.f61.ntmps = 19 := by kernel_rfl
@[simp] theorem rs61 : Tryz.f61.results.toList = [.tmp 4] := by kernel_rfl
@[simp] theorem nt62 : Tryz.f62.ntmps = 27 := by kernel_rfl
@[simp] theorem rs62 : Tryz.f62.results.toList = [.tmp 4] := by kernel_rfl
@[simp] theorem nt63 : Tryz.f63.ntmps = 13 := by kernel_rfl
@[simp] theorem rs63 : Tryz.f63.results.toList = [.tmp 0] := by kernel_rfl
@[simp] theorem nt64 : Tryz.f64.ntmps = 6 := by kernel_rfl
@[simp] theorem rs64 : Tryz.f64.results.toList = [.tmp 2] := by kernel_rfl
@[simp] theorem nt65 : Tryz.f65.ntmps = 51 := by kernel_rfl
@[simp] theorem rs65 : Tryz.f65.results.toList = [.tmp 4, .tmp 5, .tmp 6] := by kernel_rfl
@[simp] theorem nt66 : Tryz.f66.ntmps = 29 := by kernel_rfl
@[simp] theorem rs66 : Tryz.f66.results.toList = [.tmp 4] := by kernel_rfl
@[simp] theorem nt67 : Tryz.f67.ntmps = 19 := by kernel_rfl
@[simp] theorem rs67 : Tryz.f67.results.toList = [.tmp 2] := by kernel_rfl
@[simp] theorem nt69 : Tryz.f69.ntmps = 10 := by kernel_rfl
@[simp] theorem rs69 : Tryz.f69.results.toList = [] := by kernel_rfl
@[simp] theorem nt70 : Tryz.f70.ntmps = 13 := by kernel_rfl
@[simp] theorem rs70 : Tryz.f70.results.toList = [.tmp 4] := by kernel_rfl
@[simp] theorem nt71 : Tryz.f71.ntmps = 134 := by kernel_rfl
@[simp] theorem rs71 : Tryz.f71.results.toList = [] := by kernel_rfl
@[simp] theorem nt72 : Tryz.f72.ntmps = 8 := by kernel_rfl
@[simp] theorem rs72 : Tryz.f72.results.toList = [.tmp 2] := by kernel_rfl
@[simp] theorem nt74 : Tryz.f74.ntmps = 10 := by kernel_rfl
@[simp] theorem rs74 : Tryz.f74.results.toList = [] := by kernel_rfl
@[simp] theorem nt75 : Tryz.f75.ntmps = 19 := by kernel_rfl
@[simp] theorem rs75 : Tryz.f75.results.toList = [.tmp 4] := by kernel_rfl
@[simp] theorem nt76 : Tryz.f76.ntmps = 9 := by kernel_rfl
@[simp] theorem rs76 : Tryz.f76.results.toList = [.tmp 0] := by kernel_rfl
@[simp] theorem nt77 : Tryz.f77.ntmps = 30 := by kernel_rfl
@[simp] theorem rs77 : Tryz.f77.results.toList = [.tmp 2] := by kernel_rfl
@[simp] theorem nt78 : Tryz.f78.ntmps = 14 := by kernel_rfl
@[simp] theorem rs78 : Tryz.f78.results.toList = [.tmp 2] := by kernel_rfl
@[simp] theorem nt79 : Tryz.f79.ntmps = 10 := by kernel_rfl
@[simp] theorem rs79 : Tryz.f79.results.toList = [.tmp 4] := by kernel_rfl
@[simp] theorem nt80 : Tryz.f80.ntmps = 6 := by kernel_rfl
@[simp] theorem rs80 : Tryz.f80.results.toList = [.tmp 2] := by kernel_rfl
@[simp] theorem nt81 : Tryz.f81.ntmps = 24 := by kernel_rfl
@[simp] theorem rs81 : Tryz.f81.results.toList = [.tmp 4, .tmp 5] := by kernel_rfl
@[simp] theorem nt82 : Tryz.f82.ntmps = 55 := by kernel_rfl
@[simp] theorem rs82 : Tryz.f82.results.toList = [.tmp 2, .tmp 3] := by kernel_rfl
@[simp] theorem nt83 : Tryz.f83.ntmps = 21 := by kernel_rfl
@[simp] theorem rs83 : Tryz.f83.results.toList = [.tmp 4] := by kernel_rfl
@[simp] theorem nt84 : Tryz.f84.ntmps = 52 := by kernel_rfl
@[simp] theorem rs84 : Tryz.f84.results.toList = [.tmp 6] := by kernel_rfl
@[simp] theorem nt85 : Tryz.f85.ntmps = 52 := by kernel_rfl
@[simp] theorem rs85 : Tryz.f85.results.toList = [.tmp 6] := by kernel_rfl
@[simp] theorem nt86 : Tryz.f86.ntmps = 31 := by kernel_rfl
@[simp] theorem rs86 : Tryz.f86.results.toList = [.tmp 4] := by kernel_rfl
@[simp] theorem nt87 : Tryz.f87.ntmps = 14 := by kernel_rfl
@[simp] theorem rs87 : Tryz.f87.results.toList = [] := by kernel_rfl
@[simp] theorem nt88 : Tryz.f88.ntmps = 49 := by kernel_rfl
@[simp] theorem rs88 : Tryz.f88.results.toList = [] := by kernel_rfl
@[simp] theorem nt89 : Tryz.f89.ntmps = 56 := by kernel_rfl
@[simp] theorem rs89 : Tryz.f89.results.toList = [] := by kernel_rfl
@[simp] theorem nt90 : Tryz.f90.ntmps = 65 := by kernel_rfl
@[simp] theorem rs90 : Tryz.f90.results.toList = [] := by kernel_rfl
@[simp] theorem nt91 : Tryz.f91.ntmps = 57 := by kernel_rfl
@[simp] theorem rs91 : Tryz.f91.results.toList = [.tmp 6, .tmp 7] := by kernel_rfl
@[simp] theorem nt92 : Tryz.f92.ntmps = 32 := by kernel_rfl
@[simp] theorem rs92 : Tryz.f92.results.toList = [] := by kernel_rfl
@[simp] theorem nt93 : Tryz.f93.ntmps = 133 := by kernel_rfl
@[simp] theorem rs93 : Tryz.f93.results.toList = [.tmp 6] := by kernel_rfl
@[simp] theorem nt94 : Tryz.f94.ntmps = 17 := by kernel_rfl
@[simp] theorem rs94 : Tryz.f94.results.toList = [.tmp 4] := by kernel_rfl
@[simp] theorem nt95 : Tryz.f95.ntmps = 84 := by kernel_rfl
@[simp] theorem rs95 : Tryz.f95.results.toList = [.tmp 8] := by kernel_rfl
@[simp] theorem nt96 : Tryz.f96.ntmps = 168 := by kernel_rfl
@[simp] theorem rs96 : Tryz.f96.results.toList = [.tmp 8, .tmp 9] := by kernel_rfl
@[simp] theorem nt97 : Tryz.f97.ntmps = 19 := by kernel_rfl
@[simp] theorem rs97 : Tryz.f97.results.toList = [.tmp 2] := by kernel_rfl
@[simp] theorem nt98 : Tryz.f98.ntmps = 25 := by kernel_rfl
@[simp] theorem rs98 : Tryz.f98.results.toList = [.tmp 2] := by kernel_rfl
@[simp] theorem nt99 : Tryz.f99.ntmps = 14 := by kernel_rfl
@[simp] theorem rs99 : Tryz.f99.results.toList = [] := by kernel_rfl
@[simp] theorem nt100 : Tryz.f100.ntmps = 36 := by kernel_rfl
@[simp] theorem rs100 : Tryz.f100.results.toList = [.tmp 0] := by kernel_rfl
@[simp] theorem nt101 : Tryz.f101.ntmps = 31 := by kernel_rfl
@[simp] theorem rs101 : Tryz.f101.results.toList = [] := by kernel_rfl
@[simp] theorem nt102 : Tryz.f102.ntmps = 26 := by kernel_rfl
@[simp] theorem rs102 : Tryz.f102.results.toList = [.tmp 4] := by kernel_rfl
@[simp] theorem nt103 : Tryz.f103.ntmps = 19 := by kernel_rfl
@[simp] theorem rs103 : Tryz.f103.results.toList = [.tmp 4] := by kernel_rfl
@[simp] theorem nt104 : Tryz.f104.ntmps = 8 := by kernel_rfl
@[simp] theorem rs104 : Tryz.f104.results.toList = [.tmp 2] := by kernel_rfl
@[simp] theorem nt105 : Tryz.f105.ntmps = 25 := by kernel_rfl
@[simp] theorem rs105 : Tryz.f105.results.toList = [.tmp 2] := by kernel_rfl
@[simp] theorem nt106 : Tryz.f106.ntmps = 27 := by kernel_rfl
@[simp] theorem rs106 : Tryz.f106.results.toList = [] := by kernel_rfl
@[simp] theorem nt107 : Tryz.f107.ntmps = 23 := by kernel_rfl
@[simp] theorem rs107 : Tryz.f107.results.toList = [.tmp 2] := by kernel_rfl
@[simp] theorem nt108 : Tryz.f108.ntmps = 28 := by kernel_rfl
@[simp] theorem rs108 : Tryz.f108.results.toList = [] := by kernel_rfl
@[simp] theorem nt109 : Tryz.f109.ntmps = 76 := by kernel_rfl
@[simp] theorem rs109 : Tryz.f109.results.toList = [] := by kernel_rfl
@[simp] theorem nt110 : Tryz.f110.ntmps = 7 := by kernel_rfl
@[simp] theorem rs110 : Tryz.f110.results.toList = [.tmp 2] := by kernel_rfl
@[simp] theorem nt111 : Tryz.f111.ntmps = 33 := by kernel_rfl
@[simp] theorem rs111 : Tryz.f111.results.toList = [.tmp 2] := by kernel_rfl
@[simp] theorem nt112 : Tryz.f112.ntmps = 15 := by kernel_rfl
@[simp] theorem rs112 : Tryz.f112.results.toList = [.tmp 6] := by kernel_rfl
@[simp] theorem nt113 : Tryz.f113.ntmps = 36 := by kernel_rfl
@[simp] theorem rs113 : Tryz.f113.results.toList = [.tmp 10] := by kernel_rfl
@[simp] theorem nt114 : Tryz.f114.ntmps = 6 := by kernel_rfl
@[simp] theorem rs114 : Tryz.f114.results.toList = [.tmp 2] := by kernel_rfl
@[simp] theorem nt115 : Tryz.f115.ntmps = 28 := by kernel_rfl
@[simp] theorem rs115 : Tryz.f115.results.toList = [] := by kernel_rfl
@[simp] theorem nt116 : Tryz.f116.ntmps = 20 := by kernel_rfl
@[simp] theorem rs116 : Tryz.f116.results.toList = [.tmp 0] := by kernel_rfl
@[simp] theorem nt117 : Tryz.f117.ntmps = 70 := by kernel_rfl
@[simp] theorem rs117 : Tryz.f117.results.toList = [] := by kernel_rfl
@[simp] theorem nt118 : Tryz.f118.ntmps = 5 := by kernel_rfl
@[simp] theorem rs118 : Tryz.f118.results.toList = [.tmp 4] := by kernel_rfl
@[simp] theorem nt119 : Tryz.f119.ntmps = 28 := by kernel_rfl
@[simp] theorem rs119 : Tryz.f119.results.toList = [.tmp 8, .tmp 9] := by kernel_rfl
@[simp] theorem nt120 : Tryz.f120.ntmps = 18 := by kernel_rfl
@[simp] theorem rs120 : Tryz.f120.results.toList = [.tmp 0] := by kernel_rfl
@[simp] theorem nt121 : Tryz.f121.ntmps = 6 := by kernel_rfl
@[simp] theorem rs121 : Tryz.f121.results.toList = [.cell 2 4] := by kernel_rfl
@[simp] theorem nt122 : Tryz.f122.ntmps = 5 := by kernel_rfl
@[simp] theorem rs122 : Tryz.f122.results.toList = [] := by kernel_rfl
@[simp] theorem nt123 : Tryz.f123.ntmps = 7 := by kernel_rfl
@[simp] theorem rs123 : Tryz.f123.results.toList = [.tmp 2] := by kernel_rfl
@[simp] theorem nt124 : Tryz.f124.ntmps = 0 := by kernel_rfl
@[simp] theorem rs124 : Tryz.f124.results.toList = [] := by kernel_rfl
@[simp] theorem nt125 : Tryz.f125.ntmps = 9 := by kernel_rfl
@[simp] theorem rs125 : Tryz.f125.results.toList = [.tmp 2] := by kernel_rfl
@[simp] theorem nt126 : Tryz.f126.ntmps = 21 := by kernel_rfl
@[simp] theorem rs126 : Tryz.f126.results.toList = [.tmp 0] := by kernel_rfl
@[simp] theorem nt127 : Tryz.f127.ntmps = 65 := by kernel_rfl
@[simp] theorem rs127 : Tryz.f127.results.toList = [.tmp 2] := by kernel_rfl
@[simp] theorem nt128 : Tryz.f128.ntmps = 15 := by kernel_rfl
@[simp] theorem rs128 : Tryz.f128.results.toList = [] := by kernel_rfl
@[simp] theorem nt129 : Tryz.f129.ntmps = 4 := by kernel_rfl
@[simp] theorem rs129 : Tryz.f129.results.toList = [.tmp 2] := by kernel_rfl
@[simp] theorem nt130 : Tryz.f130.ntmps = 19 := by kernel_rfl
@[simp] theorem rs130 : Tryz.f130.results.toList = [.cell 4 187, .cell 5 187] := by kernel_rfl
@[simp] theorem nt131 : Tryz.f131.ntmps = 15 := by kernel_rfl
@[simp] theorem rs131 : Tryz.f131.results.toList = [.tmp 4] := by kernel_rfl
@[simp] theorem nt132 : Tryz.f132.ntmps = 42 := by kernel_rfl
@[simp] theorem rs132 : Tryz.f132.results.toList = [.tmp 4] := by kernel_rfl
@[simp] theorem nt133 : Tryz.f133.ntmps = 8 := by kernel_rfl
@[simp] theorem rs133 : Tryz.f133.results.toList = [.tmp 2] := by kernel_rfl
@[simp] theorem nt134 : Tryz.f134.ntmps = 8 := by kernel_rfl
@[simp] theorem rs134 : Tryz.f134.results.toList = [.tmp 2] := by kernel_rfl
@[simp] theorem nt135 : Tryz.f135.ntmps = 14 := by kernel_rfl
@[simp] theorem rs135 : Tryz.f135.results.toList = [] := by kernel_rfl
@[simp] theorem nt136 : Tryz.f136.ntmps = 17 := by kernel_rfl
@[simp] theorem rs136 : Tryz.f136.results.toList = [.tmp 4] := by kernel_rfl
@[simp] theorem nt137 : Tryz.f137.ntmps = 14 := by kernel_rfl
@[simp] theorem rs137 : Tryz.f137.results.toList = [] := by kernel_rfl
@[simp] theorem nt138 : Tryz.f138.ntmps = 7 := by kernel_rfl
@[simp] theorem rs138 : Tryz.f138.results.toList = [.cell 2 187] := by kernel_rfl
@[simp] theorem nt139 : Tryz.f139.ntmps = 19 := by kernel_rfl
@[simp] theorem rs139 : Tryz.f139.results.toList = [.cell 4 187] := by kernel_rfl
@[simp] theorem nt140 : Tryz.f140.ntmps = 19 := by kernel_rfl
@[simp] theorem rs140 : Tryz.f140.results.toList = [.cell 4 187] := by kernel_rfl
@[simp] theorem nt141 : Tryz.f141.ntmps = 19 := by kernel_rfl
@[simp] theorem rs141 : Tryz.f141.results.toList = [.tmp 4] := by kernel_rfl
@[simp] theorem nt142 : Tryz.f142.ntmps = 148 := by kernel_rfl
@[simp] theorem rs142 : Tryz.f142.results.toList = [] := by kernel_rfl
@[simp] theorem nt143 : Tryz.f143.ntmps = 53 := by kernel_rfl
@[simp] theorem rs143 : Tryz.f143.results.toList = [] := by kernel_rfl
@[simp] theorem nt144 : Tryz.f144.ntmps = 60 := by kernel_rfl
@[simp] theorem rs144 : Tryz.f144.results.toList = [] := by kernel_rfl
@[simp] theorem nt145 : Tryz.f145.ntmps = 67 := by kernel_rfl
@[simp] theorem rs145 : Tryz.f145.results.toList = [] := by kernel_rfl
@[simp] theorem nt146 : Tryz.f146.ntmps = 63 := by kernel_rfl
@[simp] theorem rs146 : Tryz.f146.results.toList = [.tmp 8, .tmp 9] := by kernel_rfl
@[simp] theorem nt147 : Tryz.f147.ntmps = 34 := by kernel_rfl
@[simp] theorem rs147 : Tryz.f147.results.toList = [] := by kernel_rfl
@[simp] theorem nt148 : Tryz.f148.ntmps = 141 := by kernel_rfl
@[simp] theorem rs148 : Tryz.f148.results.toList = [.tmp 8] := by kernel_rfl
@[simp] theorem nt149 : Tryz.f149.ntmps = 90 := by kernel_rfl
@[simp] theorem rs149 : Tryz.f149.results.toList = [.tmp 10] := by kernel_rfl
@[simp] theorem nt150 : Tryz.f150.ntmps = 178 := by kernel_rfl
@[simp] theorem rs150 : Tryz.f150.results.toList = [.tmp 10, .tmp 11] := by kernel_rfl
@[simp] theorem nt151 : Tryz.f151.ntmps = 82 := by kernel_rfl
@[simp] theorem rs151 : Tryz.f151.results.toList = [] := by kernel_rfl
@[simp] theorem nt152 : Tryz.f152.ntmps = 18 := by kernel_rfl
@[simp] theorem rs152 : Tryz.f152.results.toList = [.tmp 8] := by kernel_rfl
@[simp] theorem nt153 : Tryz.f153.ntmps = 41 := by kernel_rfl
@[simp] theorem rs153 : Tryz.f153.results.toList = [.tmp 12] := by kernel_rfl
@[simp] theorem nt154 : Tryz.f154.ntmps = 32 := by kernel_rfl
@[simp] theorem rs154 : Tryz.f154.results.toList = [.tmp 10, .tmp 11] := by kernel_rfl
@[simp] theorem nt176 : Tryz.f176.ntmps = 1 := by kernel_rfl
@[simp] theorem rs176 : Tryz.f176.results.toList = [] := by kernel_rfl
attribute [simp] Tryz.func2
attribute [simp] Tryz.func3
attribute [simp] Tryz.func4
attribute [simp] Tryz.func5
attribute [simp] Tryz.func6
attribute [simp] Tryz.func7
attribute [simp] Tryz.func8
attribute [simp] Tryz.func9
attribute [simp] Tryz.func10
attribute [simp] Tryz.func11
attribute [simp] Tryz.func12
attribute [simp] Tryz.func13
attribute [simp] Tryz.func14
attribute [simp] Tryz.func15
attribute [simp] Tryz.func16
attribute [simp] Tryz.func17
attribute [simp] Tryz.func18
attribute [simp] Tryz.func19
attribute [simp] Tryz.func20
attribute [simp] Tryz.func21
attribute [simp] Tryz.func22
attribute [simp] Tryz.func23
attribute [simp] Tryz.func24
attribute [simp] Tryz.func25
attribute [simp] Tryz.func26
attribute [simp] Tryz.func27
attribute [simp] Tryz.func28
attribute [simp] Tryz.func29
attribute [simp] Tryz.func30
attribute [simp] Tryz.func31
attribute [simp] Tryz.func32
attribute [simp] Tryz.func33
attribute [simp] Tryz.func34
attribute [simp] Tryz.func35
attribute [simp] Tryz.func36
attribute [simp] Tryz.func37
attribute [simp] Tryz.func38
attribute [simp] Tryz.func39
attribute [simp] Tryz.func40
attribute [simp] Tryz.func41
attribute [simp] Tryz.func42
attribute [simp] Tryz.func43
attribute [simp] Tryz.func44
attribute [simp] Tryz.func45
attribute [simp] Tryz.func46
attribute [simp] Tryz.func47
attribute [simp] Tryz.func48
attribute [simp] Tryz.func49
attribute [simp] Tryz.func50
attribute [simp] Tryz.func51
attribute [simp] Tryz.func52
attribute [simp] Tryz.func53
attribute [simp] Tryz.func54
attribute [simp] Tryz.func55
attribute [simp] Tryz.func56
attribute [simp] Tryz.func57
attribute [simp] Tryz.func58
attribute [simp] Tryz.func59
attribute [simp] Tryz.func60
attribute [simp] Tryz.func61
attribute [simp] Tryz.func62
attribute [simp] Tryz.func63
attribute [simp] Tryz.func64
attribute [simp] Tryz.func65
attribute [simp] Tryz.func66
attribute [simp] Tryz.func67
attribute [simp] Tryz.func69
attribute [simp] Tryz.func70
attribute [simp] Tryz.func71
attribute [simp] Tryz.func72
attribute [simp] Tryz.func74
attribute [simp] Tryz.func75
attribute [simp] Tryz.func76
attribute [simp] Tryz.func77
attribute [simp] Tryz.func78
attribute [simp] Tryz.func79
attribute [simp] Tryz.func80
attribute [simp] Tryz.func81
attribute [simp] Tryz.func82
attribute [simp] Tryz.func83
attribute [simp] Tryz.func84
attribute [simp] Tryz.func85
attribute [simp] Tryz.func86
attribute [simp] Tryz.func87
attribute [simp] Tryz.func88
attribute [simp] Tryz.func89
attribute [simp] Tryz.func90
attribute [simp] Tryz.func91
attribute [simp] Tryz.func92
attribute [simp] Tryz.func93
attribute [simp] Tryz.func94
attribute [simp] Tryz.func95
attribute [simp] Tryz.func96
attribute [simp] Tryz.func97
attribute [simp] Tryz.func98
attribute [simp] Tryz.func99
attribute [simp] Tryz.func100
attribute [simp] Tryz.func101
attribute [simp] Tryz.func102
attribute [simp] Tryz.func103
attribute [simp] Tryz.func104
attribute [simp] Tryz.func105
attribute [simp] Tryz.func106
attribute [simp] Tryz.func107
attribute [simp] Tryz.func108
attribute [simp] Tryz.func109
attribute [simp] Tryz.func110
attribute [simp] Tryz.func111
attribute [simp] Tryz.func112
attribute [simp] Tryz.func113
attribute [simp] Tryz.func114
attribute [simp] Tryz.func115
attribute [simp] Tryz.func116
attribute [simp] Tryz.func117
attribute [simp] Tryz.func118
attribute [simp] Tryz.func119
attribute [simp] Tryz.func120
attribute [simp] Tryz.func121
attribute [simp] Tryz.func122
attribute [simp] Tryz.func123
attribute [simp] Tryz.func124
attribute [simp] Tryz.func125
attribute [simp] Tryz.func126
attribute [simp] Tryz.func127
attribute [simp] Tryz.func128
attribute [simp] Tryz.func129
attribute [simp] Tryz.func130
attribute [simp] Tryz.func131
attribute [simp] Tryz.func132
attribute [simp] Tryz.func133
attribute [simp] Tryz.func134
attribute [simp] Tryz.func135
attribute [simp] Tryz.func136
attribute [simp] Tryz.func137
attribute [simp] Tryz.func138
attribute [simp] Tryz.func139
attribute [simp] Tryz.func140
attribute [simp] Tryz.func141
attribute [simp] Tryz.func142
attribute [simp] Tryz.func143
attribute [simp] Tryz.func144
attribute [simp] Tryz.func145
attribute [simp] Tryz.func146
attribute [simp] Tryz.func147
attribute [simp] Tryz.func148
attribute [simp] Tryz.func149
attribute [simp] Tryz.func150
attribute [simp] Tryz.func151
attribute [simp] Tryz.func152
attribute [simp] Tryz.func153
attribute [simp] Tryz.func154
attribute [simp] Tryz.func176
end Go.Sm
