/- Part D of the proof. -/
import Derived.Test.YtngpgkbkelcihaaGreatDoorProg
import Derived.KernelRfl
import Derived.Test.YtngpgkbkelcihaaGreatDoorPartC
/- Printed by wip/facts.py: what is asked of the program's types; the environments. -/
namespace Go.Sm
open Go Go.Proofs
set_option linter.unusedVariables false
def extE : FuncId → Array Value → CSt → Option Value
  | 68 => apartX 29
  | 73 => apartX 95
  | _ => fun _ _ => none
def gamI : FuncId → Option (Array Value → CSt → Option (Value × CSt))
  | 47 => some (insG 29 3 32)
  | 58 => some (insG 95 2 40)
  | _ => none
def gnone : CSt → Prop := fun σ => σ.get 0 = some (.cells [.int .u64 1, .int .u64 0] 0 true)
open Classical in
noncomputable def awakeG (args : Array Value) (σ : CSt) : Option (Value × CSt) := if args = #[] ∧ gnone σ then some (.bool true, σ) else none
noncomputable def gamL : FuncId → Option (Array Value → CSt → Option (Value × CSt))
  | 47 => some (insG 29 3 32)
  | 58 => some (insG 95 2 40)
  | 14 => some awakeG
  | 27 => some awakeG
  | _ => none
/-- The code itself. -/
noncomputable def E0 : Env := ⟨Tryz.prog, fun _ => none, extE, fun _ => none⟩
/-- With slices.Insert as one step. -/
noncomputable def EV : Env := ⟨Tryz.prog, gamI, extE, fun _ => none⟩
/-- With the closed tests, too. -/
noncomputable def E1 : Env := ⟨Tryz.prog, gamL, extE, fun _ => none⟩
@[simp] theorem E0P : E0.P = Tryz.prog := rfl
@[simp] theorem E1P : E1.P = Tryz.prog := rfl
@[simp] theorem E0X : E0.ext = extE := rfl
@[simp] theorem E1X : E1.ext = extE := rfl
attribute [simp] extE
theorem extOf_none {E : Env} {g : FuncId} {fs cs args : Array Value} {σ : CSt} (h : E.ext g args σ = none) : extOf E (.func (.func g) fs cs) args σ = none := by
  unfold extOf
  split
  · rename_i g' he
    cases he
    exact h
  · rfl
@[simp] theorem extOf_fn {E : Env} {g : FuncId} {args : Array Value} {σ : CSt} : extOf E (.func (.func g) #[] #[]) args σ = E.ext g args σ := rfl
@[simp] theorem extOf_cl {E : Env} {g : FuncId} {fs : Array Value} {c : Value} {l : List Value} {args : Array Value} {σ : CSt} : extOf E (.func (.func g) fs ⟨c :: l⟩) args σ = none := by
  unfold extOf
  split
  · rename_i g' he
    cases he
  · rfl
@[simp] theorem extOf_mv {E : Env} {g : FuncId} {cs : Array Value} {c : Value} {l : List Value} {args : Array Value} {σ : CSt} : extOf E (.func (.func g) ⟨c :: l⟩ cs) args σ = none := by
  unfold extOf
  split
  · rename_i g' he
    cases he
  · rfl

@[simp] theorem un0 : (Tryz.prog.underlying 0).isSome = true := by kernel_rfl
@[simp] theorem tf1 : tf Tryz.prog 1 = some ⟨1, 8, (some [.nilFunc]), false, true⟩ := by kernel_rfl
@[simp] theorem un1 : (Tryz.prog.underlying 1).isSome = true := by kernel_rfl
@[simp] theorem tf2 : tf Tryz.prog 2 = some ⟨1, 8, (some [.int .i64 0]), false, true⟩ := by kernel_rfl
@[simp] theorem it2 : intT Tryz.prog 2 = some .i64 := by kernel_rfl
@[simp] theorem un2 : (Tryz.prog.underlying 2).isSome = true := by kernel_rfl
@[simp] theorem tf3 : tf Tryz.prog 3 = some ⟨1, 8, (some [.int .i64 0]), false, true⟩ := by kernel_rfl
@[simp] theorem it3 : intT Tryz.prog 3 = some .i64 := by kernel_rfl
@[simp] theorem un3 : (Tryz.prog.underlying 3).isSome = true := by kernel_rfl
@[simp] theorem tf4 : tf Tryz.prog 4 = some ⟨1, 1, (some [.bool false]), false, true⟩ := by kernel_rfl
@[simp] theorem un4 : (Tryz.prog.underlying 4).isSome = true := by kernel_rfl
@[simp] theorem tf5 : tf Tryz.prog 5 = some ⟨1, 1, (some [.int .u8 0]), false, true⟩ := by kernel_rfl
@[simp] theorem it5 : intT Tryz.prog 5 = some .u8 := by kernel_rfl
@[simp] theorem un5 : (Tryz.prog.underlying 5).isSome = true := by kernel_rfl
@[simp] theorem tf6 : tf Tryz.prog 6 = some ⟨1, 1, (some [.int .u8 0]), false, true⟩ := by kernel_rfl
@[simp] theorem it6 : intT Tryz.prog 6 = some .u8 := by kernel_rfl
@[simp] theorem un6 : (Tryz.prog.underlying 6).isSome = true := by kernel_rfl
@[simp] theorem tf7 : tf Tryz.prog 7 = some ⟨4, 24, (some [.int .i64 0, .int .i64 0, .bool false, .int .u8 0]), true, true⟩ := by kernel_rfl
@[simp] theorem un7 : (Tryz.prog.underlying 7).isSome = true := by kernel_rfl
@[simp] theorem fo7_0 : fieldT Tryz.prog 7 0 = some 0 := by kernel_rfl
@[simp] theorem fo7_1 : fieldT Tryz.prog 7 1 = some 1 := by kernel_rfl
@[simp] theorem fo7_2 : fieldT Tryz.prog 7 2 = some 2 := by kernel_rfl
@[simp] theorem fo7_3 : fieldT Tryz.prog 7 3 = some 3 := by kernel_rfl
@[simp] theorem pa7 : partsT Tryz.prog 7 = some [(0, 1), (1, 1), (2, 1), (3, 1)] := by kernel_rfl
@[simp] theorem tf8 : tf Tryz.prog 8 = some ⟨4, 24, (some [.int .i64 0, .int .i64 0, .bool false, .int .u8 0]), true, true⟩ := by kernel_rfl
@[simp] theorem un8 : (Tryz.prog.underlying 8).isSome = true := by kernel_rfl
@[simp] theorem fo8_0 : fieldT Tryz.prog 8 0 = some 0 := by kernel_rfl
@[simp] theorem fo8_1 : fieldT Tryz.prog 8 1 = some 1 := by kernel_rfl
@[simp] theorem fo8_2 : fieldT Tryz.prog 8 2 = some 2 := by kernel_rfl
@[simp] theorem fo8_3 : fieldT Tryz.prog 8 3 = some 3 := by kernel_rfl
@[simp] theorem pa8 : partsT Tryz.prog 8 = some [(0, 1), (1, 1), (2, 1), (3, 1)] := by kernel_rfl
@[simp] theorem tf9 : tf Tryz.prog 9 = some ⟨1, 16, (some [.string ⟨#[]⟩]), false, true⟩ := by kernel_rfl
@[simp] theorem st9 : strT Tryz.prog 9 = true := by kernel_rfl
@[simp] theorem un9 : (Tryz.prog.underlying 9).isSome = true := by kernel_rfl
@[simp] theorem tf10 : tf Tryz.prog 10 = some ⟨1, 16, (some [.string ⟨#[]⟩]), false, true⟩ := by kernel_rfl
@[simp] theorem st10 : strT Tryz.prog 10 = true := by kernel_rfl
@[simp] theorem un10 : (Tryz.prog.underlying 10).isSome = true := by kernel_rfl
@[simp] theorem tf11 : tf Tryz.prog 11 = some ⟨1, 16, (some [.string ⟨#[]⟩]), false, true⟩ := by kernel_rfl
@[simp] theorem st11 : strT Tryz.prog 11 = true := by kernel_rfl
@[simp] theorem un11 : (Tryz.prog.underlying 11).isSome = true := by kernel_rfl
@[simp] theorem tf12 : tf Tryz.prog 12 = some ⟨1, 8, (some [.int .u64 0]), false, true⟩ := by kernel_rfl
@[simp] theorem it12 : intT Tryz.prog 12 = some .u64 := by kernel_rfl
@[simp] theorem un12 : (Tryz.prog.underlying 12).isSome = true := by kernel_rfl
@[simp] theorem tf13 : tf Tryz.prog 13 = some ⟨2, 24, (some [.string ⟨#[]⟩, .int .u64 0]), true, true⟩ := by kernel_rfl
@[simp] theorem un13 : (Tryz.prog.underlying 13).isSome = true := by kernel_rfl
@[simp] theorem fo13_0 : fieldT Tryz.prog 13 0 = some 0 := by kernel_rfl
@[simp] theorem fo13_1 : fieldT Tryz.prog 13 1 = some 1 := by kernel_rfl
@[simp] theorem pa13 : partsT Tryz.prog 13 = some [(0, 1), (1, 1)] := by kernel_rfl
@[simp] theorem tf14 : tf Tryz.prog 14 = some ⟨2, 24, (some [.string ⟨#[]⟩, .int .u64 0]), true, true⟩ := by kernel_rfl
@[simp] theorem un14 : (Tryz.prog.underlying 14).isSome = true := by kernel_rfl
@[simp] theorem fo14_0 : fieldT Tryz.prog 14 0 = some 0 := by kernel_rfl
@[simp] theorem fo14_1 : fieldT Tryz.prog 14 1 = some 1 := by kernel_rfl
@[simp] theorem pa14 : partsT Tryz.prog 14 = some [(0, 1), (1, 1)] := by kernel_rfl
@[simp] theorem tf15 : tf Tryz.prog 15 = some ⟨1, 8, (some [.pointer none]), false, true⟩ := by kernel_rfl
@[simp] theorem un15 : (Tryz.prog.underlying 15).isSome = true := by kernel_rfl
@[simp] theorem tf16 : tf Tryz.prog 16 = some ⟨1, 8, (some [.pointer none]), false, true⟩ := by kernel_rfl
@[simp] theorem un16 : (Tryz.prog.underlying 16).isSome = true := by kernel_rfl
@[simp] theorem tf17 : tf Tryz.prog 17 = some ⟨1, 8, (some [.pointer none]), false, true⟩ := by kernel_rfl
@[simp] theorem un17 : (Tryz.prog.underlying 17).isSome = true := by kernel_rfl
@[simp] theorem tf18 : tf Tryz.prog 18 = some ⟨1, 8, (some [.pointer none]), true, true⟩ := by kernel_rfl
@[simp] theorem un18 : (Tryz.prog.underlying 18).isSome = true := by kernel_rfl
@[simp] theorem fo18_0 : fieldT Tryz.prog 18 0 = some 0 := by kernel_rfl
@[simp] theorem pa18 : partsT Tryz.prog 18 = some [(0, 1)] := by kernel_rfl
@[simp] theorem tf19 : tf Tryz.prog 19 = some ⟨1, 8, (some [.pointer none]), true, true⟩ := by kernel_rfl
@[simp] theorem un19 : (Tryz.prog.underlying 19).isSome = true := by kernel_rfl
@[simp] theorem fo19_0 : fieldT Tryz.prog 19 0 = some 0 := by kernel_rfl
@[simp] theorem pa19 : partsT Tryz.prog 19 = some [(0, 1)] := by kernel_rfl
@[simp] theorem tf20 : tf Tryz.prog 20 = some ⟨1, 16, (some [.nilIface]), false, true⟩ := by kernel_rfl
@[simp] theorem un20 : (Tryz.prog.underlying 20).isSome = true := by kernel_rfl
@[simp] theorem tf21 : tf Tryz.prog 21 = some ⟨1, 4, (some [.int .i32 0]), false, true⟩ := by kernel_rfl
@[simp] theorem it21 : intT Tryz.prog 21 = some .i32 := by kernel_rfl
@[simp] theorem un21 : (Tryz.prog.underlying 21).isSome = true := by kernel_rfl
@[simp] theorem tf22 : tf Tryz.prog 22 = some ⟨1, 24, (some [.slice none 0 0]), false, true⟩ := by kernel_rfl
@[simp] theorem un22 : (Tryz.prog.underlying 22).isSome = true := by kernel_rfl
@[simp] theorem el22 : elemT Tryz.prog 22 = some 34 := by kernel_rfl
@[simp] theorem ef22 : elemF Tryz.prog 22 = some (34, ⟨3, 3, (some [.int .u8 0, .int .u8 0, .bool false]), true, true⟩) := by kernel_rfl
@[simp] theorem tf23 : tf Tryz.prog 23 = some ⟨1, 8, (some [.nilFunc]), false, true⟩ := by kernel_rfl
@[simp] theorem un23 : (Tryz.prog.underlying 23).isSome = true := by kernel_rfl
@[simp] theorem tf24 : tf Tryz.prog 24 = some ⟨1, 8, (some [.nilFunc]), false, true⟩ := by kernel_rfl
@[simp] theorem un24 : (Tryz.prog.underlying 24).isSome = true := by kernel_rfl
@[simp] theorem tf25 : tf Tryz.prog 25 = some ⟨1, 24, (some [.slice none 0 0]), false, true⟩ := by kernel_rfl
@[simp] theorem un25 : (Tryz.prog.underlying 25).isSome = true := by kernel_rfl
@[simp] theorem el25 : elemT Tryz.prog 25 = some 29 := by kernel_rfl
@[simp] theorem ef25 : elemF Tryz.prog 25 = some (29, ⟨3, 32, (some [.int .u64 0, .string ⟨#[]⟩, .bool false]), true, true⟩) := by kernel_rfl
@[simp] theorem tf26 : tf Tryz.prog 26 = some ⟨1, 24, (some [.slice none 0 0]), false, true⟩ := by kernel_rfl
@[simp] theorem un26 : (Tryz.prog.underlying 26).isSome = true := by kernel_rfl
@[simp] theorem el26 : elemT Tryz.prog 26 = some 29 := by kernel_rfl
@[simp] theorem ef26 : elemF Tryz.prog 26 = some (29, ⟨3, 32, (some [.int .u64 0, .string ⟨#[]⟩, .bool false]), true, true⟩) := by kernel_rfl
@[simp] theorem tf27 : tf Tryz.prog 27 = some ⟨1, 8, (some [.int .u64 0]), false, true⟩ := by kernel_rfl
@[simp] theorem it27 : intT Tryz.prog 27 = some .u64 := by kernel_rfl
@[simp] theorem un27 : (Tryz.prog.underlying 27).isSome = true := by kernel_rfl
@[simp] theorem tf28 : tf Tryz.prog 28 = some ⟨3, 32, (some [.int .u64 0, .string ⟨#[]⟩, .bool false]), true, true⟩ := by kernel_rfl
@[simp] theorem un28 : (Tryz.prog.underlying 28).isSome = true := by kernel_rfl
@[simp] theorem fo28_0 : fieldT Tryz.prog 28 0 = some 0 := by kernel_rfl
@[simp] theorem fo28_1 : fieldT Tryz.prog 28 1 = some 1 := by kernel_rfl
@[simp] theorem fo28_2 : fieldT Tryz.prog 28 2 = some 2 := by kernel_rfl
@[simp] theorem pa28 : partsT Tryz.prog 28 = some [(0, 1), (1, 1), (2, 1)] := by kernel_rfl
@[simp] theorem tf29 : tf Tryz.prog 29 = some ⟨3, 32, (some [.int .u64 0, .string ⟨#[]⟩, .bool false]), true, true⟩ := by kernel_rfl
@[simp] theorem un29 : (Tryz.prog.underlying 29).isSome = true := by kernel_rfl
@[simp] theorem fo29_0 : fieldT Tryz.prog 29 0 = some 0 := by kernel_rfl
@[simp] theorem fo29_1 : fieldT Tryz.prog 29 1 = some 1 := by kernel_rfl
@[simp] theorem fo29_2 : fieldT Tryz.prog 29 2 = some 2 := by kernel_rfl
@[simp] theorem pa29 : partsT Tryz.prog 29 = some [(0, 1), (1, 1), (2, 1)] := by kernel_rfl
@[simp] theorem tf30 : tf Tryz.prog 30 = some ⟨1, 8, (some [.nilFunc]), false, true⟩ := by kernel_rfl
@[simp] theorem un30 : (Tryz.prog.underlying 30).isSome = true := by kernel_rfl
@[simp] theorem tf31 : tf Tryz.prog 31 = some ⟨1, 8, (some [.nilFunc]), false, true⟩ := by kernel_rfl
@[simp] theorem un31 : (Tryz.prog.underlying 31).isSome = true := by kernel_rfl
@[simp] theorem tf32 : tf Tryz.prog 32 = some ⟨1, 8, (some [.nilFunc]), false, true⟩ := by kernel_rfl
@[simp] theorem un32 : (Tryz.prog.underlying 32).isSome = true := by kernel_rfl
@[simp] theorem tf33 : tf Tryz.prog 33 = some ⟨3, 3, (some [.int .u8 0, .int .u8 0, .bool false]), true, true⟩ := by kernel_rfl
@[simp] theorem un33 : (Tryz.prog.underlying 33).isSome = true := by kernel_rfl
@[simp] theorem fo33_0 : fieldT Tryz.prog 33 0 = some 0 := by kernel_rfl
@[simp] theorem fo33_1 : fieldT Tryz.prog 33 1 = some 1 := by kernel_rfl
@[simp] theorem fo33_2 : fieldT Tryz.prog 33 2 = some 2 := by kernel_rfl
@[simp] theorem pa33 : partsT Tryz.prog 33 = some [(0, 1), (1, 1), (2, 1)] := by kernel_rfl
@[simp] theorem tf34 : tf Tryz.prog 34 = some ⟨3, 3, (some [.int .u8 0, .int .u8 0, .bool false]), true, true⟩ := by kernel_rfl
@[simp] theorem un34 : (Tryz.prog.underlying 34).isSome = true := by kernel_rfl
@[simp] theorem fo34_0 : fieldT Tryz.prog 34 0 = some 0 := by kernel_rfl
@[simp] theorem fo34_1 : fieldT Tryz.prog 34 1 = some 1 := by kernel_rfl
@[simp] theorem fo34_2 : fieldT Tryz.prog 34 2 = some 2 := by kernel_rfl
@[simp] theorem pa34 : partsT Tryz.prog 34 = some [(0, 1), (1, 1), (2, 1)] := by kernel_rfl
@[simp] theorem tf35 : tf Tryz.prog 35 = some ⟨1, 8, (some [.nilFunc]), false, true⟩ := by kernel_rfl
@[simp] theorem un35 : (Tryz.prog.underlying 35).isSome = true := by kernel_rfl
@[simp] theorem tf36 : tf Tryz.prog 36 = some ⟨1, 8, (some [.nilFunc]), false, true⟩ := by kernel_rfl
@[simp] theorem un36 : (Tryz.prog.underlying 36).isSome = true := by kernel_rfl
@[simp] theorem tf37 : tf Tryz.prog 37 = some ⟨1, 8, (some [.nilFunc]), false, true⟩ := by kernel_rfl
@[simp] theorem un37 : (Tryz.prog.underlying 37).isSome = true := by kernel_rfl
@[simp] theorem tf38 : tf Tryz.prog 38 = some ⟨1, 8, (some [.nilFunc]), false, true⟩ := by kernel_rfl
@[simp] theorem un38 : (Tryz.prog.underlying 38).isSome = true := by kernel_rfl
@[simp] theorem tf39 : tf Tryz.prog 39 = some ⟨1, 8, (some [.nilFunc]), false, true⟩ := by kernel_rfl
@[simp] theorem un39 : (Tryz.prog.underlying 39).isSome = true := by kernel_rfl
@[simp] theorem tf40 : tf Tryz.prog 40 = some ⟨1, 2, (some [.int .u16 0]), false, true⟩ := by kernel_rfl
@[simp] theorem it40 : intT Tryz.prog 40 = some .u16 := by kernel_rfl
@[simp] theorem un40 : (Tryz.prog.underlying 40).isSome = true := by kernel_rfl
@[simp] theorem un41 : (Tryz.prog.underlying 41).isSome = true := by kernel_rfl
@[simp] theorem tf42 : tf Tryz.prog 42 = some ⟨1, 8, (some [.nilFunc]), false, true⟩ := by kernel_rfl
@[simp] theorem un42 : (Tryz.prog.underlying 42).isSome = true := by kernel_rfl
@[simp] theorem tf43 : tf Tryz.prog 43 = some ⟨1, 8, (some [.nilFunc]), false, true⟩ := by kernel_rfl
@[simp] theorem un43 : (Tryz.prog.underlying 43).isSome = true := by kernel_rfl
@[simp] theorem tf44 : tf Tryz.prog 44 = some ⟨1, 8, (some [.nilFunc]), false, true⟩ := by kernel_rfl
@[simp] theorem un44 : (Tryz.prog.underlying 44).isSome = true := by kernel_rfl
@[simp] theorem tf45 : tf Tryz.prog 45 = some ⟨1, 8, (some [.nilFunc]), false, true⟩ := by kernel_rfl
@[simp] theorem un45 : (Tryz.prog.underlying 45).isSome = true := by kernel_rfl
@[simp] theorem tf46 : tf Tryz.prog 46 = some ⟨1, 8, (some [.nilFunc]), false, true⟩ := by kernel_rfl
@[simp] theorem un46 : (Tryz.prog.underlying 46).isSome = true := by kernel_rfl
@[simp] theorem tf47 : tf Tryz.prog 47 = some ⟨1, 8, (some [.nilFunc]), false, true⟩ := by kernel_rfl
@[simp] theorem un47 : (Tryz.prog.underlying 47).isSome = true := by kernel_rfl
@[simp] theorem tf48 : tf Tryz.prog 48 = some ⟨1, 8, (some [.nilFunc]), false, true⟩ := by kernel_rfl
@[simp] theorem un48 : (Tryz.prog.underlying 48).isSome = true := by kernel_rfl
@[simp] theorem tf49 : tf Tryz.prog 49 = some ⟨1, 8, (some [.nilFunc]), false, true⟩ := by kernel_rfl
@[simp] theorem un49 : (Tryz.prog.underlying 49).isSome = true := by kernel_rfl
@[simp] theorem tf50 : tf Tryz.prog 50 = some ⟨1, 24, (some [.slice none 0 0]), false, true⟩ := by kernel_rfl
@[simp] theorem un50 : (Tryz.prog.underlying 50).isSome = true := by kernel_rfl
@[simp] theorem el50 : elemT Tryz.prog 50 = some 75 := by kernel_rfl
@[simp] theorem ef50 : elemF Tryz.prog 50 = some (75, ⟨4, 4, (some [.int .u8 0, .int .u8 0, .int .u8 0, .bool false]), true, true⟩) := by kernel_rfl
@[simp] theorem tf51 : tf Tryz.prog 51 = some ⟨1, 8, (some [.pointer none]), false, true⟩ := by kernel_rfl
@[simp] theorem un51 : (Tryz.prog.underlying 51).isSome = true := by kernel_rfl
@[simp] theorem tf52 : tf Tryz.prog 52 = some ⟨1, 8, (some [.map none]), false, true⟩ := by kernel_rfl
@[simp] theorem un52 : (Tryz.prog.underlying 52).isSome = true := by kernel_rfl
@[simp] theorem un53 : (Tryz.prog.underlying 53).isSome = true := by kernel_rfl
@[simp] theorem tf54 : tf Tryz.prog 54 = some ⟨1, 8, (some [.nilFunc]), false, true⟩ := by kernel_rfl
@[simp] theorem un54 : (Tryz.prog.underlying 54).isSome = true := by kernel_rfl
@[simp] theorem tf55 : tf Tryz.prog 55 = some ⟨1, 8, (some [.nilFunc]), false, true⟩ := by kernel_rfl
@[simp] theorem un55 : (Tryz.prog.underlying 55).isSome = true := by kernel_rfl
@[simp] theorem tf56 : tf Tryz.prog 56 = some ⟨1, 8, (some [.nilFunc]), false, true⟩ := by kernel_rfl
@[simp] theorem un56 : (Tryz.prog.underlying 56).isSome = true := by kernel_rfl
@[simp] theorem tf57 : tf Tryz.prog 57 = some ⟨1, 24, (some [.slice none 0 0]), false, true⟩ := by kernel_rfl
@[simp] theorem un57 : (Tryz.prog.underlying 57).isSome = true := by kernel_rfl
@[simp] theorem el57 : elemT Tryz.prog 57 = some 9 := by kernel_rfl
@[simp] theorem ef57 : elemF Tryz.prog 57 = some (9, ⟨1, 16, (some [.string ⟨#[]⟩]), false, true⟩) := by kernel_rfl
@[simp] theorem tf58 : tf Tryz.prog 58 = some ⟨1, 8, (some [.nilFunc]), false, true⟩ := by kernel_rfl
@[simp] theorem un58 : (Tryz.prog.underlying 58).isSome = true := by kernel_rfl
@[simp] theorem tf59 : tf Tryz.prog 59 = some ⟨1, 8, (some [.nilFunc]), false, true⟩ := by kernel_rfl
@[simp] theorem un59 : (Tryz.prog.underlying 59).isSome = true := by kernel_rfl
@[simp] theorem tf60 : tf Tryz.prog 60 = some ⟨1, 8, (some [.nilFunc]), false, true⟩ := by kernel_rfl
@[simp] theorem un60 : (Tryz.prog.underlying 60).isSome = true := by kernel_rfl
@[simp] theorem tf61 : tf Tryz.prog 61 = some ⟨1, 8, (some [.nilFunc]), false, true⟩ := by kernel_rfl
@[simp] theorem un61 : (Tryz.prog.underlying 61).isSome = true := by kernel_rfl
@[simp] theorem tf62 : tf Tryz.prog 62 = some ⟨1, 8, (some [.nilFunc]), false, true⟩ := by kernel_rfl
@[simp] theorem un62 : (Tryz.prog.underlying 62).isSome = true := by kernel_rfl
@[simp] theorem tf63 : tf Tryz.prog 63 = some ⟨1, 8, (some [.nilFunc]), false, true⟩ := by kernel_rfl
@[simp] theorem un63 : (Tryz.prog.underlying 63).isSome = true := by kernel_rfl
@[simp] theorem tf64 : tf Tryz.prog 64 = some ⟨1, 8, (some [.nilFunc]), false, true⟩ := by kernel_rfl
@[simp] theorem un64 : (Tryz.prog.underlying 64).isSome = true := by kernel_rfl
@[simp] theorem tf65 : tf Tryz.prog 65 = some ⟨1, 8, (some [.nilFunc]), false, true⟩ := by kernel_rfl
@[simp] theorem un65 : (Tryz.prog.underlying 65).isSome = true := by kernel_rfl
@[simp] theorem tf66 : tf Tryz.prog 66 = some ⟨1, 8, (some [.nilFunc]), false, true⟩ := by kernel_rfl
@[simp] theorem un66 : (Tryz.prog.underlying 66).isSome = true := by kernel_rfl
@[simp] theorem tf67 : tf Tryz.prog 67 = some ⟨1, 8, (some [.nilFunc]), false, true⟩ := by kernel_rfl
@[simp] theorem un67 : (Tryz.prog.underlying 67).isSome = true := by kernel_rfl
@[simp] theorem tf68 : tf Tryz.prog 68 = some ⟨1, 8, (some [.nilFunc]), false, true⟩ := by kernel_rfl
@[simp] theorem un68 : (Tryz.prog.underlying 68).isSome = true := by kernel_rfl
@[simp] theorem tf69 : tf Tryz.prog 69 = some ⟨1, 8, (some [.nilFunc]), false, true⟩ := by kernel_rfl
@[simp] theorem un69 : (Tryz.prog.underlying 69).isSome = true := by kernel_rfl
@[simp] theorem tf70 : tf Tryz.prog 70 = some ⟨1, 8, (some [.map none]), false, true⟩ := by kernel_rfl
@[simp] theorem un70 : (Tryz.prog.underlying 70).isSome = true := by kernel_rfl
@[simp] theorem tf71 : tf Tryz.prog 71 = some ⟨1, 8, (some [.nilFunc]), false, true⟩ := by kernel_rfl
@[simp] theorem un71 : (Tryz.prog.underlying 71).isSome = true := by kernel_rfl
@[simp] theorem tf72 : tf Tryz.prog 72 = some ⟨1, 8, (some [.nilFunc]), false, true⟩ := by kernel_rfl
@[simp] theorem un72 : (Tryz.prog.underlying 72).isSome = true := by kernel_rfl
@[simp] theorem tf73 : tf Tryz.prog 73 = some ⟨1, 8, (some [.nilFunc]), false, true⟩ := by kernel_rfl
@[simp] theorem un73 : (Tryz.prog.underlying 73).isSome = true := by kernel_rfl
@[simp] theorem tf74 : tf Tryz.prog 74 = some ⟨4, 4, (some [.int .u8 0, .int .u8 0, .int .u8 0, .bool false]), true, true⟩ := by kernel_rfl
@[simp] theorem un74 : (Tryz.prog.underlying 74).isSome = true := by kernel_rfl
@[simp] theorem fo74_0 : fieldT Tryz.prog 74 0 = some 0 := by kernel_rfl
@[simp] theorem fo74_1 : fieldT Tryz.prog 74 1 = some 1 := by kernel_rfl
@[simp] theorem pa74 : partsT Tryz.prog 74 = some [(0, 1), (1, 3)] := by kernel_rfl
@[simp] theorem tf75 : tf Tryz.prog 75 = some ⟨4, 4, (some [.int .u8 0, .int .u8 0, .int .u8 0, .bool false]), true, true⟩ := by kernel_rfl
@[simp] theorem un75 : (Tryz.prog.underlying 75).isSome = true := by kernel_rfl
@[simp] theorem fo75_0 : fieldT Tryz.prog 75 0 = some 0 := by kernel_rfl
@[simp] theorem fo75_1 : fieldT Tryz.prog 75 1 = some 1 := by kernel_rfl
@[simp] theorem pa75 : partsT Tryz.prog 75 = some [(0, 1), (1, 3)] := by kernel_rfl
@[simp] theorem tf76 : tf Tryz.prog 76 = some ⟨1, 8, (some [.nilFunc]), false, true⟩ := by kernel_rfl
@[simp] theorem un76 : (Tryz.prog.underlying 76).isSome = true := by kernel_rfl
@[simp] theorem tf77 : tf Tryz.prog 77 = some ⟨1, 8, (some [.nilFunc]), false, true⟩ := by kernel_rfl
@[simp] theorem un77 : (Tryz.prog.underlying 77).isSome = true := by kernel_rfl
@[simp] theorem tf78 : tf Tryz.prog 78 = some ⟨1, 8, (some [.nilFunc]), false, true⟩ := by kernel_rfl
@[simp] theorem un78 : (Tryz.prog.underlying 78).isSome = true := by kernel_rfl
@[simp] theorem tf79 : tf Tryz.prog 79 = some ⟨1, 8, (some [.nilFunc]), false, true⟩ := by kernel_rfl
@[simp] theorem un79 : (Tryz.prog.underlying 79).isSome = true := by kernel_rfl
@[simp] theorem un80 : (Tryz.prog.underlying 80).isSome = true := by kernel_rfl
@[simp] theorem tf81 : tf Tryz.prog 81 = some ⟨1, 8, (some [.nilFunc]), false, true⟩ := by kernel_rfl
@[simp] theorem un81 : (Tryz.prog.underlying 81).isSome = true := by kernel_rfl
@[simp] theorem tf82 : tf Tryz.prog 82 = some ⟨1, 8, (some [.nilFunc]), false, true⟩ := by kernel_rfl
@[simp] theorem un82 : (Tryz.prog.underlying 82).isSome = true := by kernel_rfl
@[simp] theorem tf83 : tf Tryz.prog 83 = some ⟨1, 8, (some [.nilFunc]), false, true⟩ := by kernel_rfl
@[simp] theorem un83 : (Tryz.prog.underlying 83).isSome = true := by kernel_rfl
@[simp] theorem un84 : (Tryz.prog.underlying 84).isSome = true := by kernel_rfl
@[simp] theorem tf85 : tf Tryz.prog 85 = some ⟨1, 8, (some [.nilFunc]), false, true⟩ := by kernel_rfl
@[simp] theorem un85 : (Tryz.prog.underlying 85).isSome = true := by kernel_rfl
@[simp] theorem tf86 : tf Tryz.prog 86 = some ⟨1, 8, (some [.nilFunc]), false, true⟩ := by kernel_rfl
@[simp] theorem un86 : (Tryz.prog.underlying 86).isSome = true := by kernel_rfl
@[simp] theorem tf87 : tf Tryz.prog 87 = some ⟨1, 8, (some [.nilFunc]), false, true⟩ := by kernel_rfl
@[simp] theorem un87 : (Tryz.prog.underlying 87).isSome = true := by kernel_rfl
@[simp] theorem tf88 : tf Tryz.prog 88 = some ⟨1, 8, (some [.nilFunc]), false, true⟩ := by kernel_rfl
@[simp] theorem un88 : (Tryz.prog.underlying 88).isSome = true := by kernel_rfl
@[simp] theorem tf89 : tf Tryz.prog 89 = some ⟨1, 24, (some [.slice none 0 0]), false, true⟩ := by kernel_rfl
@[simp] theorem un89 : (Tryz.prog.underlying 89).isSome = true := by kernel_rfl
@[simp] theorem el89 : elemT Tryz.prog 89 = some 22 := by kernel_rfl
@[simp] theorem ef89 : elemF Tryz.prog 89 = some (22, ⟨1, 24, (some [.slice none 0 0]), false, true⟩) := by kernel_rfl
@[simp] theorem tf90 : tf Tryz.prog 90 = some ⟨1, 8, (some [.nilFunc]), false, true⟩ := by kernel_rfl
@[simp] theorem un90 : (Tryz.prog.underlying 90).isSome = true := by kernel_rfl
@[simp] theorem tf91 : tf Tryz.prog 91 = some ⟨1, 8, (some [.nilFunc]), false, true⟩ := by kernel_rfl
@[simp] theorem un91 : (Tryz.prog.underlying 91).isSome = true := by kernel_rfl
@[simp] theorem tf92 : tf Tryz.prog 92 = some ⟨1, 8, (some [.nilFunc]), false, true⟩ := by kernel_rfl
@[simp] theorem un92 : (Tryz.prog.underlying 92).isSome = true := by kernel_rfl
@[simp] theorem tf93 : tf Tryz.prog 93 = some ⟨1, 24, (some [.slice none 0 0]), false, true⟩ := by kernel_rfl
@[simp] theorem un93 : (Tryz.prog.underlying 93).isSome = true := by kernel_rfl
@[simp] theorem el93 : elemT Tryz.prog 93 = some 95 := by kernel_rfl
@[simp] theorem ef93 : elemF Tryz.prog 93 = some (95, ⟨2, 40, (some [.string ⟨#[]⟩, .slice none 0 0]), true, true⟩) := by kernel_rfl
@[simp] theorem tf94 : tf Tryz.prog 94 = some ⟨2, 40, (some [.string ⟨#[]⟩, .slice none 0 0]), true, true⟩ := by kernel_rfl
@[simp] theorem un94 : (Tryz.prog.underlying 94).isSome = true := by kernel_rfl
@[simp] theorem fo94_0 : fieldT Tryz.prog 94 0 = some 0 := by kernel_rfl
@[simp] theorem fo94_1 : fieldT Tryz.prog 94 1 = some 1 := by kernel_rfl
@[simp] theorem pa94 : partsT Tryz.prog 94 = some [(0, 1), (1, 1)] := by kernel_rfl
@[simp] theorem tf95 : tf Tryz.prog 95 = some ⟨2, 40, (some [.string ⟨#[]⟩, .slice none 0 0]), true, true⟩ := by kernel_rfl
@[simp] theorem un95 : (Tryz.prog.underlying 95).isSome = true := by kernel_rfl
@[simp] theorem fo95_0 : fieldT Tryz.prog 95 0 = some 0 := by kernel_rfl
@[simp] theorem fo95_1 : fieldT Tryz.prog 95 1 = some 1 := by kernel_rfl
@[simp] theorem pa95 : partsT Tryz.prog 95 = some [(0, 1), (1, 1)] := by kernel_rfl
@[simp] theorem tf96 : tf Tryz.prog 96 = some ⟨1, 24, (some [.slice none 0 0]), true, true⟩ := by kernel_rfl
@[simp] theorem un96 : (Tryz.prog.underlying 96).isSome = true := by kernel_rfl
@[simp] theorem fo96_0 : fieldT Tryz.prog 96 0 = some 0 := by kernel_rfl
@[simp] theorem pa96 : partsT Tryz.prog 96 = some [(0, 1)] := by kernel_rfl
@[simp] theorem tf97 : tf Tryz.prog 97 = some ⟨1, 24, (some [.slice none 0 0]), true, true⟩ := by kernel_rfl
@[simp] theorem un97 : (Tryz.prog.underlying 97).isSome = true := by kernel_rfl
@[simp] theorem fo97_0 : fieldT Tryz.prog 97 0 = some 0 := by kernel_rfl
@[simp] theorem pa97 : partsT Tryz.prog 97 = some [(0, 1)] := by kernel_rfl
@[simp] theorem tf98 : tf Tryz.prog 98 = some ⟨1, 8, (some [.nilFunc]), false, true⟩ := by kernel_rfl
@[simp] theorem un98 : (Tryz.prog.underlying 98).isSome = true := by kernel_rfl
@[simp] theorem tf99 : tf Tryz.prog 99 = some ⟨1, 8, (some [.nilFunc]), false, true⟩ := by kernel_rfl
@[simp] theorem un99 : (Tryz.prog.underlying 99).isSome = true := by kernel_rfl
@[simp] theorem tf100 : tf Tryz.prog 100 = some ⟨1, 8, (some [.nilFunc]), false, true⟩ := by kernel_rfl
@[simp] theorem un100 : (Tryz.prog.underlying 100).isSome = true := by kernel_rfl
@[simp] theorem tf101 : tf Tryz.prog 101 = some ⟨1, 8, (some [.nilFunc]), false, true⟩ := by kernel_rfl
@[simp] theorem un101 : (Tryz.prog.underlying 101).isSome = true := by kernel_rfl
@[simp] theorem tf102 : tf Tryz.prog 102 = some ⟨1, 8, (some [.nilFunc]), false, true⟩ := by kernel_rfl
@[simp] theorem un102 : (Tryz.prog.underlying 102).isSome = true := by kernel_rfl
@[simp] theorem tf103 : tf Tryz.prog 103 = some ⟨1, 8, (some [.nilFunc]), false, true⟩ := by kernel_rfl
@[simp] theorem un103 : (Tryz.prog.underlying 103).isSome = true := by kernel_rfl
@[simp] theorem tf104 : tf Tryz.prog 104 = some ⟨1, 8, (some [.nilFunc]), false, true⟩ := by kernel_rfl
@[simp] theorem un104 : (Tryz.prog.underlying 104).isSome = true := by kernel_rfl
@[simp] theorem tf105 : tf Tryz.prog 105 = some ⟨1, 8, (some [.nilFunc]), false, true⟩ := by kernel_rfl
@[simp] theorem un105 : (Tryz.prog.underlying 105).isSome = true := by kernel_rfl
@[simp] theorem tf106 : tf Tryz.prog 106 = some ⟨1, 24, (some [.slice none 0 0]), false, true⟩ := by kernel_rfl
@[simp] theorem un106 : (Tryz.prog.underlying 106).isSome = true := by kernel_rfl
@[simp] theorem el106 : elemT Tryz.prog 106 = some 50 := by kernel_rfl
@[simp] theorem ef106 : elemF Tryz.prog 106 = some (50, ⟨1, 24, (some [.slice none 0 0]), false, true⟩) := by kernel_rfl
@[simp] theorem tf107 : tf Tryz.prog 107 = some ⟨1, 8, (some [.nilFunc]), false, true⟩ := by kernel_rfl
@[simp] theorem un107 : (Tryz.prog.underlying 107).isSome = true := by kernel_rfl
@[simp] theorem tf108 : tf Tryz.prog 108 = some ⟨1, 8, (some [.pointer none]), false, true⟩ := by kernel_rfl
@[simp] theorem un108 : (Tryz.prog.underlying 108).isSome = true := by kernel_rfl
@[simp] theorem tf109 : tf Tryz.prog 109 = some ⟨1, 8, (some [.nilFunc]), false, true⟩ := by kernel_rfl
@[simp] theorem un109 : (Tryz.prog.underlying 109).isSome = true := by kernel_rfl
@[simp] theorem tf110 : tf Tryz.prog 110 = some ⟨1, 8, (some [.pointer none]), false, true⟩ := by kernel_rfl
@[simp] theorem un110 : (Tryz.prog.underlying 110).isSome = true := by kernel_rfl
@[simp] theorem tf111 : tf Tryz.prog 111 = some ⟨1, 24, (some [.slice none 0 0]), false, true⟩ := by kernel_rfl
@[simp] theorem un111 : (Tryz.prog.underlying 111).isSome = true := by kernel_rfl
@[simp] theorem el111 : elemT Tryz.prog 111 = some 116 := by kernel_rfl
@[simp] theorem ef111 : elemF Tryz.prog 111 = some (116, ⟨1, 24, (some [.slice none 0 0]), false, true⟩) := by kernel_rfl
@[simp] theorem tf112 : tf Tryz.prog 112 = some ⟨1, 8, (some [.int .i64 0]), false, true⟩ := by kernel_rfl
@[simp] theorem it112 : intT Tryz.prog 112 = some .i64 := by kernel_rfl
@[simp] theorem un112 : (Tryz.prog.underlying 112).isSome = true := by kernel_rfl
@[simp] theorem un113 : (Tryz.prog.underlying 113).isSome = true := by kernel_rfl
@[simp] theorem tf114 : tf Tryz.prog 114 = some ⟨1, 8, (some [.nilFunc]), false, true⟩ := by kernel_rfl
@[simp] theorem un114 : (Tryz.prog.underlying 114).isSome = true := by kernel_rfl
@[simp] theorem tf115 : tf Tryz.prog 115 = some ⟨1, 8, (some [.nilFunc]), false, true⟩ := by kernel_rfl
@[simp] theorem un115 : (Tryz.prog.underlying 115).isSome = true := by kernel_rfl
@[simp] theorem tf116 : tf Tryz.prog 116 = some ⟨1, 24, (some [.slice none 0 0]), false, true⟩ := by kernel_rfl
@[simp] theorem un116 : (Tryz.prog.underlying 116).isSome = true := by kernel_rfl
@[simp] theorem el116 : elemT Tryz.prog 116 = some 5 := by kernel_rfl
@[simp] theorem ef116 : elemF Tryz.prog 116 = some (5, ⟨1, 1, (some [.int .u8 0]), false, true⟩) := by kernel_rfl
@[simp] theorem tf117 : tf Tryz.prog 117 = some ⟨1, 8, (some [.nilFunc]), false, true⟩ := by kernel_rfl
@[simp] theorem un117 : (Tryz.prog.underlying 117).isSome = true := by kernel_rfl
@[simp] theorem tf118 : tf Tryz.prog 118 = some ⟨1, 8, (some [.int .u64 0]), false, true⟩ := by kernel_rfl
@[simp] theorem it118 : intT Tryz.prog 118 = some .u64 := by kernel_rfl
@[simp] theorem un118 : (Tryz.prog.underlying 118).isSome = true := by kernel_rfl
@[simp] theorem tf119 : tf Tryz.prog 119 = some ⟨1, 8, (some [.nilFunc]), false, true⟩ := by kernel_rfl
@[simp] theorem un119 : (Tryz.prog.underlying 119).isSome = true := by kernel_rfl
@[simp] theorem tf120 : tf Tryz.prog 120 = some ⟨1, 8, (some [.nilFunc]), false, true⟩ := by kernel_rfl
@[simp] theorem un120 : (Tryz.prog.underlying 120).isSome = true := by kernel_rfl
@[simp] theorem tf121 : tf Tryz.prog 121 = some ⟨1, 8, (some [.nilFunc]), false, true⟩ := by kernel_rfl
@[simp] theorem un121 : (Tryz.prog.underlying 121).isSome = true := by kernel_rfl
@[simp] theorem tf122 : tf Tryz.prog 122 = some ⟨1, 8, (some [.nilFunc]), false, true⟩ := by kernel_rfl
@[simp] theorem un122 : (Tryz.prog.underlying 122).isSome = true := by kernel_rfl
@[simp] theorem tf123 : tf Tryz.prog 123 = some ⟨1, 8, (some [.nilFunc]), false, true⟩ := by kernel_rfl
@[simp] theorem un123 : (Tryz.prog.underlying 123).isSome = true := by kernel_rfl
@[simp] theorem tf124 : tf Tryz.prog 124 = some ⟨1, 8, (some [.nilFunc]), false, true⟩ := by kernel_rfl
@[simp] theorem un124 : (Tryz.prog.underlying 124).isSome = true := by kernel_rfl
@[simp] theorem tf125 : tf Tryz.prog 125 = some ⟨1, 8, (some [.nilFunc]), false, true⟩ := by kernel_rfl
@[simp] theorem un125 : (Tryz.prog.underlying 125).isSome = true := by kernel_rfl
@[simp] theorem tf126 : tf Tryz.prog 126 = some ⟨1, 4, (some [.int .u32 0]), false, true⟩ := by kernel_rfl
@[simp] theorem it126 : intT Tryz.prog 126 = some .u32 := by kernel_rfl
@[simp] theorem un126 : (Tryz.prog.underlying 126).isSome = true := by kernel_rfl
@[simp] theorem tf127 : tf Tryz.prog 127 = some ⟨1, 8, (some [.nilFunc]), false, true⟩ := by kernel_rfl
@[simp] theorem un127 : (Tryz.prog.underlying 127).isSome = true := by kernel_rfl
@[simp] theorem tf128 : tf Tryz.prog 128 = some ⟨1, 8, (some [.nilFunc]), false, true⟩ := by kernel_rfl
@[simp] theorem un128 : (Tryz.prog.underlying 128).isSome = true := by kernel_rfl
@[simp] theorem tf129 : tf Tryz.prog 129 = some ⟨1, 8, (some [.nilFunc]), false, true⟩ := by kernel_rfl
@[simp] theorem un129 : (Tryz.prog.underlying 129).isSome = true := by kernel_rfl
@[simp] theorem tf130 : tf Tryz.prog 130 = some ⟨1, 8, (some [.pointer none]), false, true⟩ := by kernel_rfl
@[simp] theorem un130 : (Tryz.prog.underlying 130).isSome = true := by kernel_rfl
@[simp] theorem tf131 : tf Tryz.prog 131 = some ⟨1, 8, (some [.nilFunc]), false, true⟩ := by kernel_rfl
@[simp] theorem un131 : (Tryz.prog.underlying 131).isSome = true := by kernel_rfl
@[simp] theorem tf132 : tf Tryz.prog 132 = some ⟨2, 24, (some [.pointer none, .string ⟨#[]⟩]), true, true⟩ := by kernel_rfl
@[simp] theorem un132 : (Tryz.prog.underlying 132).isSome = true := by kernel_rfl
@[simp] theorem fo132_0 : fieldT Tryz.prog 132 0 = some 0 := by kernel_rfl
@[simp] theorem fo132_1 : fieldT Tryz.prog 132 1 = some 1 := by kernel_rfl
@[simp] theorem pa132 : partsT Tryz.prog 132 = some [(0, 1), (1, 1)] := by kernel_rfl
@[simp] theorem tf133 : tf Tryz.prog 133 = some ⟨2, 24, (some [.pointer none, .string ⟨#[]⟩]), true, true⟩ := by kernel_rfl
@[simp] theorem un133 : (Tryz.prog.underlying 133).isSome = true := by kernel_rfl
@[simp] theorem fo133_0 : fieldT Tryz.prog 133 0 = some 0 := by kernel_rfl
@[simp] theorem fo133_1 : fieldT Tryz.prog 133 1 = some 1 := by kernel_rfl
@[simp] theorem pa133 : partsT Tryz.prog 133 = some [(0, 1), (1, 1)] := by kernel_rfl
@[simp] theorem un134 : (Tryz.prog.underlying 134).isSome = true := by kernel_rfl
@[simp] theorem tf135 : tf Tryz.prog 135 = some ⟨1, 8, (some [.nilFunc]), false, true⟩ := by kernel_rfl
@[simp] theorem un135 : (Tryz.prog.underlying 135).isSome = true := by kernel_rfl
@[simp] theorem un136 : (Tryz.prog.underlying 136).isSome = true := by kernel_rfl
@[simp] theorem tf137 : tf Tryz.prog 137 = some ⟨1, 8, (some [.nilFunc]), false, true⟩ := by kernel_rfl
@[simp] theorem un137 : (Tryz.prog.underlying 137).isSome = true := by kernel_rfl
@[simp] theorem tf138 : tf Tryz.prog 138 = some ⟨1, 8, (some [.nilFunc]), false, true⟩ := by kernel_rfl
@[simp] theorem un138 : (Tryz.prog.underlying 138).isSome = true := by kernel_rfl
@[simp] theorem tf139 : tf Tryz.prog 139 = some ⟨1, 8, (some [.nilFunc]), false, true⟩ := by kernel_rfl
@[simp] theorem un139 : (Tryz.prog.underlying 139).isSome = true := by kernel_rfl
@[simp] theorem tf140 : tf Tryz.prog 140 = some ⟨1, 8, (some [.nilFunc]), false, true⟩ := by kernel_rfl
@[simp] theorem un140 : (Tryz.prog.underlying 140).isSome = true := by kernel_rfl
@[simp] theorem tf141 : tf Tryz.prog 141 = some ⟨1, 8, (some [.nilFunc]), false, true⟩ := by kernel_rfl
@[simp] theorem un141 : (Tryz.prog.underlying 141).isSome = true := by kernel_rfl
@[simp] theorem tf142 : tf Tryz.prog 142 = some ⟨1, 8, (some [.nilFunc]), false, true⟩ := by kernel_rfl
@[simp] theorem un142 : (Tryz.prog.underlying 142).isSome = true := by kernel_rfl
@[simp] theorem tf143 : tf Tryz.prog 143 = some ⟨1, 8, (some [.int .i64 0]), false, true⟩ := by kernel_rfl
@[simp] theorem it143 : intT Tryz.prog 143 = some .i64 := by kernel_rfl
@[simp] theorem un143 : (Tryz.prog.underlying 143).isSome = true := by kernel_rfl
@[simp] theorem un144 : (Tryz.prog.underlying 144).isSome = true := by kernel_rfl
@[simp] theorem tf145 : tf Tryz.prog 145 = some ⟨1, 8, (some [.nilFunc]), false, true⟩ := by kernel_rfl
@[simp] theorem un145 : (Tryz.prog.underlying 145).isSome = true := by kernel_rfl
@[simp] theorem tf146 : tf Tryz.prog 146 = some ⟨1, 8, (some [.nilFunc]), false, true⟩ := by kernel_rfl
@[simp] theorem un146 : (Tryz.prog.underlying 146).isSome = true := by kernel_rfl
@[simp] theorem tf147 : tf Tryz.prog 147 = some ⟨1, 8, (some [.nilFunc]), false, true⟩ := by kernel_rfl
@[simp] theorem un147 : (Tryz.prog.underlying 147).isSome = true := by kernel_rfl
@[simp] theorem tf148 : tf Tryz.prog 148 = some ⟨1, 8, (some [.nilFunc]), false, true⟩ := by kernel_rfl
@[simp] theorem un148 : (Tryz.prog.underlying 148).isSome = true := by kernel_rfl
@[simp] theorem tf149 : tf Tryz.prog 149 = some ⟨1, 8, (some [.nilFunc]), false, true⟩ := by kernel_rfl
@[simp] theorem un149 : (Tryz.prog.underlying 149).isSome = true := by kernel_rfl
@[simp] theorem tf150 : tf Tryz.prog 150 = some ⟨1, 8, (some [.nilFunc]), false, true⟩ := by kernel_rfl
@[simp] theorem un150 : (Tryz.prog.underlying 150).isSome = true := by kernel_rfl
@[simp] theorem tf151 : tf Tryz.prog 151 = some ⟨1, 24, (some [.slice none 0 0]), true, true⟩ := by kernel_rfl
@[simp] theorem un151 : (Tryz.prog.underlying 151).isSome = true := by kernel_rfl
@[simp] theorem fo151_0 : fieldT Tryz.prog 151 0 = some 0 := by kernel_rfl
@[simp] theorem pa151 : partsT Tryz.prog 151 = some [(0, 1)] := by kernel_rfl
@[simp] theorem tf152 : tf Tryz.prog 152 = some ⟨1, 24, (some [.slice none 0 0]), true, true⟩ := by kernel_rfl
@[simp] theorem un152 : (Tryz.prog.underlying 152).isSome = true := by kernel_rfl
@[simp] theorem fo152_0 : fieldT Tryz.prog 152 0 = some 0 := by kernel_rfl
@[simp] theorem pa152 : partsT Tryz.prog 152 = some [(0, 1)] := by kernel_rfl
@[simp] theorem tf153 : tf Tryz.prog 153 = some ⟨1, 8, (some [.nilFunc]), false, true⟩ := by kernel_rfl
@[simp] theorem un153 : (Tryz.prog.underlying 153).isSome = true := by kernel_rfl
@[simp] theorem tf154 : tf Tryz.prog 154 = some ⟨1, 8, (some [.nilFunc]), false, true⟩ := by kernel_rfl
@[simp] theorem un154 : (Tryz.prog.underlying 154).isSome = true := by kernel_rfl
@[simp] theorem tf155 : tf Tryz.prog 155 = some ⟨1, 8, (some [.nilFunc]), false, true⟩ := by kernel_rfl
@[simp] theorem un155 : (Tryz.prog.underlying 155).isSome = true := by kernel_rfl
@[simp] theorem tf156 : tf Tryz.prog 156 = some ⟨1, 8, (some [.map none]), false, true⟩ := by kernel_rfl
@[simp] theorem un156 : (Tryz.prog.underlying 156).isSome = true := by kernel_rfl
@[simp] theorem tf157 : tf Tryz.prog 157 = some ⟨3, 24, (some [.pointer none, .map none, .int .i64 0]), true, true⟩ := by kernel_rfl
@[simp] theorem un157 : (Tryz.prog.underlying 157).isSome = true := by kernel_rfl
@[simp] theorem fo157_0 : fieldT Tryz.prog 157 0 = some 0 := by kernel_rfl
@[simp] theorem fo157_1 : fieldT Tryz.prog 157 1 = some 1 := by kernel_rfl
@[simp] theorem fo157_2 : fieldT Tryz.prog 157 2 = some 2 := by kernel_rfl
@[simp] theorem pa157 : partsT Tryz.prog 157 = some [(0, 1), (1, 1), (2, 1)] := by kernel_rfl
@[simp] theorem tf158 : tf Tryz.prog 158 = some ⟨3, 24, (some [.pointer none, .map none, .int .i64 0]), true, true⟩ := by kernel_rfl
@[simp] theorem un158 : (Tryz.prog.underlying 158).isSome = true := by kernel_rfl
@[simp] theorem fo158_0 : fieldT Tryz.prog 158 0 = some 0 := by kernel_rfl
@[simp] theorem fo158_1 : fieldT Tryz.prog 158 1 = some 1 := by kernel_rfl
@[simp] theorem fo158_2 : fieldT Tryz.prog 158 2 = some 2 := by kernel_rfl
@[simp] theorem pa158 : partsT Tryz.prog 158 = some [(0, 1), (1, 1), (2, 1)] := by kernel_rfl
@[simp] theorem tf159 : tf Tryz.prog 159 = some ⟨2, 16, (some [.int .i64 0, .int .i64 0]), true, true⟩ := by kernel_rfl
@[simp] theorem un159 : (Tryz.prog.underlying 159).isSome = true := by kernel_rfl
@[simp] theorem fo159_0 : fieldT Tryz.prog 159 0 = some 0 := by kernel_rfl
@[simp] theorem fo159_1 : fieldT Tryz.prog 159 1 = some 1 := by kernel_rfl
@[simp] theorem pa159 : partsT Tryz.prog 159 = some [(0, 1), (1, 1)] := by kernel_rfl
@[simp] theorem tf160 : tf Tryz.prog 160 = some ⟨2, 16, (some [.int .i64 0, .int .i64 0]), true, true⟩ := by kernel_rfl
@[simp] theorem un160 : (Tryz.prog.underlying 160).isSome = true := by kernel_rfl
@[simp] theorem fo160_0 : fieldT Tryz.prog 160 0 = some 0 := by kernel_rfl
@[simp] theorem fo160_1 : fieldT Tryz.prog 160 1 = some 1 := by kernel_rfl
@[simp] theorem pa160 : partsT Tryz.prog 160 = some [(0, 1), (1, 1)] := by kernel_rfl
@[simp] theorem tf161 : tf Tryz.prog 161 = some ⟨1, 8, (some [.pointer none]), false, true⟩ := by kernel_rfl
@[simp] theorem un161 : (Tryz.prog.underlying 161).isSome = true := by kernel_rfl
@[simp] theorem un162 : (Tryz.prog.underlying 162).isSome = true := by kernel_rfl
@[simp] theorem tf163 : tf Tryz.prog 163 = some ⟨2, 32, (some [.slice none 0 0, .int .i64 0]), true, true⟩ := by kernel_rfl
@[simp] theorem un163 : (Tryz.prog.underlying 163).isSome = true := by kernel_rfl
@[simp] theorem fo163_0 : fieldT Tryz.prog 163 0 = some 0 := by kernel_rfl
@[simp] theorem fo163_1 : fieldT Tryz.prog 163 1 = some 1 := by kernel_rfl
@[simp] theorem pa163 : partsT Tryz.prog 163 = some [(0, 1), (1, 1)] := by kernel_rfl
@[simp] theorem tf164 : tf Tryz.prog 164 = some ⟨2, 32, (some [.slice none 0 0, .int .i64 0]), true, true⟩ := by kernel_rfl
@[simp] theorem un164 : (Tryz.prog.underlying 164).isSome = true := by kernel_rfl
@[simp] theorem fo164_0 : fieldT Tryz.prog 164 0 = some 0 := by kernel_rfl
@[simp] theorem fo164_1 : fieldT Tryz.prog 164 1 = some 1 := by kernel_rfl
@[simp] theorem pa164 : partsT Tryz.prog 164 = some [(0, 1), (1, 1)] := by kernel_rfl
@[simp] theorem tf165 : tf Tryz.prog 165 = some ⟨1, 8, (some [.nilFunc]), false, true⟩ := by kernel_rfl
@[simp] theorem un165 : (Tryz.prog.underlying 165).isSome = true := by kernel_rfl
@[simp] theorem tf166 : tf Tryz.prog 166 = some ⟨1, 8, (some [.int .u64 0]), false, true⟩ := by kernel_rfl
@[simp] theorem it166 : intT Tryz.prog 166 = some .u64 := by kernel_rfl
@[simp] theorem un166 : (Tryz.prog.underlying 166).isSome = true := by kernel_rfl
@[simp] theorem tf167 : tf Tryz.prog 167 = some ⟨1, 8, (some [.nilFunc]), false, true⟩ := by kernel_rfl
@[simp] theorem un167 : (Tryz.prog.underlying 167).isSome = true := by kernel_rfl
@[simp] theorem tf168 : tf Tryz.prog 168 = some ⟨1, 8, (some [.nilFunc]), false, true⟩ := by kernel_rfl
@[simp] theorem un168 : (Tryz.prog.underlying 168).isSome = true := by kernel_rfl
@[simp] theorem tf169 : tf Tryz.prog 169 = some ⟨1, 8, (some [.nilFunc]), false, true⟩ := by kernel_rfl
@[simp] theorem un169 : (Tryz.prog.underlying 169).isSome = true := by kernel_rfl
@[simp] theorem tf170 : tf Tryz.prog 170 = some ⟨1, 8, (some [.pointer none]), false, true⟩ := by kernel_rfl
@[simp] theorem un170 : (Tryz.prog.underlying 170).isSome = true := by kernel_rfl
@[simp] theorem tf171 : tf Tryz.prog 171 = some ⟨1, 8, (some [.nilFunc]), false, true⟩ := by kernel_rfl
@[simp] theorem un171 : (Tryz.prog.underlying 171).isSome = true := by kernel_rfl
@[simp] theorem tf172 : tf Tryz.prog 172 = some ⟨1, 8, (some [.nilFunc]), false, true⟩ := by kernel_rfl
@[simp] theorem un172 : (Tryz.prog.underlying 172).isSome = true := by kernel_rfl
@[simp] theorem tf173 : tf Tryz.prog 173 = some ⟨1, 8, (some [.nilFunc]), false, true⟩ := by kernel_rfl
@[simp] theorem un173 : (Tryz.prog.underlying 173).isSome = true := by kernel_rfl
@[simp] theorem tf174 : tf Tryz.prog 174 = some ⟨1, 8, (some [.nilFunc]), false, true⟩ := by kernel_rfl
@[simp] theorem un174 : (Tryz.prog.underlying 174).isSome = true := by kernel_rfl
@[simp] theorem tf175 : tf Tryz.prog 175 = some ⟨1, 8, (some [.pointer none]), false, true⟩ := by kernel_rfl
@[simp] theorem un175 : (Tryz.prog.underlying 175).isSome = true := by kernel_rfl
@[simp] theorem tf176 : tf Tryz.prog 176 = some ⟨0, 0, (some []), true, true⟩ := by kernel_rfl
@[simp] theorem un176 : (Tryz.prog.underlying 176).isSome = true := by kernel_rfl
@[simp] theorem pa176 : partsT Tryz.prog 176 = some [] := by kernel_rfl
@[simp] theorem tf177 : tf Tryz.prog 177 = some ⟨0, 0, (some []), true, true⟩ := by kernel_rfl
@[simp] theorem un177 : (Tryz.prog.underlying 177).isSome = true := by kernel_rfl
@[simp] theorem pa177 : partsT Tryz.prog 177 = some [] := by kernel_rfl
@[simp] theorem tf178 : tf Tryz.prog 178 = some ⟨1, 8, (some [.pointer none]), false, true⟩ := by kernel_rfl
@[simp] theorem un178 : (Tryz.prog.underlying 178).isSome = true := by kernel_rfl
@[simp] theorem un179 : (Tryz.prog.underlying 179).isSome = true := by kernel_rfl
@[simp] theorem tf180 : tf Tryz.prog 180 = some ⟨1, 8, (some [.nilFunc]), false, true⟩ := by kernel_rfl
@[simp] theorem un180 : (Tryz.prog.underlying 180).isSome = true := by kernel_rfl
@[simp] theorem tf181 : tf Tryz.prog 181 = some ⟨1, 8, (some [.nilFunc]), false, true⟩ := by kernel_rfl
@[simp] theorem un181 : (Tryz.prog.underlying 181).isSome = true := by kernel_rfl
@[simp] theorem tf182 : tf Tryz.prog 182 = some ⟨1, 8, (some [.nilFunc]), false, true⟩ := by kernel_rfl
@[simp] theorem un182 : (Tryz.prog.underlying 182).isSome = true := by kernel_rfl
@[simp] theorem tf183 : tf Tryz.prog 183 = some ⟨1, 24, (some [.slice none 0 0]), false, true⟩ := by kernel_rfl
@[simp] theorem un183 : (Tryz.prog.underlying 183).isSome = true := by kernel_rfl
@[simp] theorem el183 : elemT Tryz.prog 183 = some 187 := by kernel_rfl
@[simp] theorem ef183 : elemF Tryz.prog 183 = some (187, ⟨2, 16, (some [.int .u64 0, .int .u64 0]), true, true⟩) := by kernel_rfl
@[simp] theorem tf184 : tf Tryz.prog 184 = some ⟨1, 24, (some [.slice none 0 0]), false, true⟩ := by kernel_rfl
@[simp] theorem un184 : (Tryz.prog.underlying 184).isSome = true := by kernel_rfl
@[simp] theorem el184 : elemT Tryz.prog 184 = some 187 := by kernel_rfl
@[simp] theorem ef184 : elemF Tryz.prog 184 = some (187, ⟨2, 16, (some [.int .u64 0, .int .u64 0]), true, true⟩) := by kernel_rfl
@[simp] theorem tf185 : tf Tryz.prog 185 = some ⟨1, 8, (some [.nilFunc]), false, true⟩ := by kernel_rfl
@[simp] theorem un185 : (Tryz.prog.underlying 185).isSome = true := by kernel_rfl
@[simp] theorem tf186 : tf Tryz.prog 186 = some ⟨2, 16, (some [.int .u64 0, .int .u64 0]), true, true⟩ := by kernel_rfl
@[simp] theorem un186 : (Tryz.prog.underlying 186).isSome = true := by kernel_rfl
@[simp] theorem fo186_0 : fieldT Tryz.prog 186 0 = some 0 := by kernel_rfl
@[simp] theorem fo186_1 : fieldT Tryz.prog 186 1 = some 1 := by kernel_rfl
@[simp] theorem pa186 : partsT Tryz.prog 186 = some [(0, 1), (1, 1)] := by kernel_rfl
@[simp] theorem tf187 : tf Tryz.prog 187 = some ⟨2, 16, (some [.int .u64 0, .int .u64 0]), true, true⟩ := by kernel_rfl
@[simp] theorem un187 : (Tryz.prog.underlying 187).isSome = true := by kernel_rfl
@[simp] theorem fo187_0 : fieldT Tryz.prog 187 0 = some 0 := by kernel_rfl
@[simp] theorem fo187_1 : fieldT Tryz.prog 187 1 = some 1 := by kernel_rfl
@[simp] theorem pa187 : partsT Tryz.prog 187 = some [(0, 1), (1, 1)] := by kernel_rfl
@[simp] theorem un188 : (Tryz.prog.underlying 188).isSome = true := by kernel_rfl
@[simp] theorem tf189 : tf Tryz.prog 189 = some ⟨1, 8, (some [.nilFunc]), false, true⟩ := by kernel_rfl
@[simp] theorem un189 : (Tryz.prog.underlying 189).isSome = true := by kernel_rfl
@[simp] theorem un190 : (Tryz.prog.underlying 190).isSome = true := by kernel_rfl
@[simp] theorem tf191 : tf Tryz.prog 191 = some ⟨1, 8, (some [.nilFunc]), false, true⟩ := by kernel_rfl
@[simp] theorem un191 : (Tryz.prog.underlying 191).isSome = true := by kernel_rfl
@[simp] theorem tf192 : tf Tryz.prog 192 = some ⟨1, 8, (some [.nilFunc]), false, true⟩ := by kernel_rfl
@[simp] theorem un192 : (Tryz.prog.underlying 192).isSome = true := by kernel_rfl
@[simp] theorem tf193 : tf Tryz.prog 193 = some ⟨1, 8, (some [.nilFunc]), false, true⟩ := by kernel_rfl
@[simp] theorem un193 : (Tryz.prog.underlying 193).isSome = true := by kernel_rfl
@[simp] theorem tf194 : tf Tryz.prog 194 = some ⟨1, 8, (some [.nilFunc]), false, true⟩ := by kernel_rfl
@[simp] theorem un194 : (Tryz.prog.underlying 194).isSome = true := by kernel_rfl
@[simp] theorem tf195 : tf Tryz.prog 195 = some ⟨1, 8, (some [.nilFunc]), false, true⟩ := by kernel_rfl
@[simp] theorem un195 : (Tryz.prog.underlying 195).isSome = true := by kernel_rfl
@[simp] theorem tf196 : tf Tryz.prog 196 = some ⟨1, 8, (some [.nilFunc]), false, true⟩ := by kernel_rfl
@[simp] theorem un196 : (Tryz.prog.underlying 196).isSome = true := by kernel_rfl
@[simp] theorem tf197 : tf Tryz.prog 197 = some ⟨1, 8, (some [.nilFunc]), false, true⟩ := by kernel_rfl
@[simp] theorem un197 : (Tryz.prog.underlying 197).isSome = true := by kernel_rfl
@[simp] theorem tf198 : tf Tryz.prog 198 = some ⟨1, 8, (some [.nilFunc]), false, true⟩ := by kernel_rfl
@[simp] theorem un198 : (Tryz.prog.underlying 198).isSome = true := by kernel_rfl
@[simp] theorem tf199 : tf Tryz.prog 199 = some ⟨1, 8, (some [.nilFunc]), false, true⟩ := by kernel_rfl
@[simp] theorem un199 : (Tryz.prog.underlying 199).isSome = true := by kernel_rfl
@[simp] theorem tf200 : tf Tryz.prog 200 = some ⟨1, 8, (some [.nilFunc]), false, true⟩ := by kernel_rfl
@[simp] theorem un200 : (Tryz.prog.underlying 200).isSome = true := by kernel_rfl
@[simp] theorem tf201 : tf Tryz.prog 201 = some ⟨1, 8, (some [.nilFunc]), false, true⟩ := by kernel_rfl
@[simp] theorem un201 : (Tryz.prog.underlying 201).isSome = true := by kernel_rfl
@[simp] theorem tf202 : tf Tryz.prog 202 = some ⟨1, 8, (some [.nilFunc]), false, true⟩ := by kernel_rfl
@[simp] theorem un202 : (Tryz.prog.underlying 202).isSome = true := by kernel_rfl
@[simp] theorem tf203 : tf Tryz.prog 203 = some ⟨1, 8, (some [.nilFunc]), false, true⟩ := by kernel_rfl
@[simp] theorem un203 : (Tryz.prog.underlying 203).isSome = true := by kernel_rfl
@[simp] theorem tf204 : tf Tryz.prog 204 = some ⟨1, 8, (some [.nilFunc]), false, true⟩ := by kernel_rfl
@[simp] theorem un204 : (Tryz.prog.underlying 204).isSome = true := by kernel_rfl
@[simp] theorem tf205 : tf Tryz.prog 205 = some ⟨1, 8, (some [.nilFunc]), false, true⟩ := by kernel_rfl
@[simp] theorem un205 : (Tryz.prog.underlying 205).isSome = true := by kernel_rfl
@[simp] theorem tf206 : tf Tryz.prog 206 = some ⟨1, 8, (some [.nilFunc]), false, true⟩ := by kernel_rfl
@[simp] theorem un206 : (Tryz.prog.underlying 206).isSome = true := by kernel_rfl
@[simp] theorem tf207 : tf Tryz.prog 207 = some ⟨1, 8, (some [.nilFunc]), false, true⟩ := by kernel_rfl
@[simp] theorem un207 : (Tryz.prog.underlying 207).isSome = true := by kernel_rfl
@[simp] theorem tf208 : tf Tryz.prog 208 = some ⟨1, 8, (some [.nilFunc]), false, true⟩ := by kernel_rfl
@[simp] theorem un208 : (Tryz.prog.underlying 208).isSome = true := by kernel_rfl
@[simp] theorem tf209 : tf Tryz.prog 209 = some ⟨1, 8, (some [.nilFunc]), false, true⟩ := by kernel_rfl
@[simp] theorem un209 : (Tryz.prog.underlying 209).isSome = true := by kernel_rfl
@[simp] theorem tf210 : tf Tryz.prog 210 = some ⟨1, 8, (some [.nilFunc]), false, true⟩ := by kernel_rfl
@[simp] theorem un210 : (Tryz.prog.underlying 210).isSome = true := by kernel_rfl
@[simp] theorem tf211 : tf Tryz.prog 211 = some ⟨4, 40, (some [.pointer none, .pointer none, .pointer none, .string ⟨#[]⟩]), true, true⟩ := by kernel_rfl
@[simp] theorem un211 : (Tryz.prog.underlying 211).isSome = true := by kernel_rfl
@[simp] theorem fo211_0 : fieldT Tryz.prog 211 0 = some 0 := by kernel_rfl
@[simp] theorem fo211_1 : fieldT Tryz.prog 211 1 = some 1 := by kernel_rfl
@[simp] theorem fo211_2 : fieldT Tryz.prog 211 2 = some 2 := by kernel_rfl
@[simp] theorem fo211_3 : fieldT Tryz.prog 211 3 = some 3 := by kernel_rfl
@[simp] theorem pa211 : partsT Tryz.prog 211 = some [(0, 1), (1, 1), (2, 1), (3, 1)] := by kernel_rfl
@[simp] theorem tf212 : tf Tryz.prog 212 = some ⟨4, 40, (some [.pointer none, .pointer none, .pointer none, .string ⟨#[]⟩]), true, true⟩ := by kernel_rfl
@[simp] theorem un212 : (Tryz.prog.underlying 212).isSome = true := by kernel_rfl
@[simp] theorem fo212_0 : fieldT Tryz.prog 212 0 = some 0 := by kernel_rfl
@[simp] theorem fo212_1 : fieldT Tryz.prog 212 1 = some 1 := by kernel_rfl
@[simp] theorem fo212_2 : fieldT Tryz.prog 212 2 = some 2 := by kernel_rfl
@[simp] theorem fo212_3 : fieldT Tryz.prog 212 3 = some 3 := by kernel_rfl
@[simp] theorem pa212 : partsT Tryz.prog 212 = some [(0, 1), (1, 1), (2, 1), (3, 1)] := by kernel_rfl
@[simp] theorem tf213 : tf Tryz.prog 213 = some ⟨0, 0, (some []), true, true⟩ := by kernel_rfl
@[simp] theorem un213 : (Tryz.prog.underlying 213).isSome = true := by kernel_rfl
@[simp] theorem tf214 : tf Tryz.prog 214 = some ⟨0, 0, (some []), true, true⟩ := by kernel_rfl
@[simp] theorem un214 : (Tryz.prog.underlying 214).isSome = true := by kernel_rfl
@[simp] theorem pa214 : partsT Tryz.prog 214 = some [(0, 0)] := by kernel_rfl
@[simp] theorem tf215 : tf Tryz.prog 215 = some ⟨0, 0, (some []), true, true⟩ := by kernel_rfl
@[simp] theorem un215 : (Tryz.prog.underlying 215).isSome = true := by kernel_rfl
@[simp] theorem pa215 : partsT Tryz.prog 215 = some [(0, 0)] := by kernel_rfl
@[simp] theorem tf216 : tf Tryz.prog 216 = some ⟨1, 1, (some [.int .u8 0]), false, true⟩ := by kernel_rfl
@[simp] theorem it216 : intT Tryz.prog 216 = some .u8 := by kernel_rfl
@[simp] theorem un216 : (Tryz.prog.underlying 216).isSome = true := by kernel_rfl
@[simp] theorem tf217 : tf Tryz.prog 217 = some ⟨1, 1, (some [.int .u8 0]), false, true⟩ := by kernel_rfl
@[simp] theorem it217 : intT Tryz.prog 217 = some .u8 := by kernel_rfl
@[simp] theorem un217 : (Tryz.prog.underlying 217).isSome = true := by kernel_rfl
@[simp] theorem tf218 : tf Tryz.prog 218 = some ⟨1, 8, (some [.nilFunc]), false, true⟩ := by kernel_rfl
@[simp] theorem un218 : (Tryz.prog.underlying 218).isSome = true := by kernel_rfl
@[simp] theorem tf219 : tf Tryz.prog 219 = some ⟨1, 8, (some [.pointer none]), false, true⟩ := by kernel_rfl
@[simp] theorem un219 : (Tryz.prog.underlying 219).isSome = true := by kernel_rfl
@[simp] theorem tf220 : tf Tryz.prog 220 = some ⟨1, 4, (some [.int .i32 0]), false, true⟩ := by kernel_rfl
@[simp] theorem it220 : intT Tryz.prog 220 = some .i32 := by kernel_rfl
@[simp] theorem un220 : (Tryz.prog.underlying 220).isSome = true := by kernel_rfl
@[simp] theorem tf221 : tf Tryz.prog 221 = some ⟨1, 4, (some [.int .i32 0]), false, true⟩ := by kernel_rfl
@[simp] theorem it221 : intT Tryz.prog 221 = some .i32 := by kernel_rfl
@[simp] theorem un221 : (Tryz.prog.underlying 221).isSome = true := by kernel_rfl
@[simp] theorem tf222 : tf Tryz.prog 222 = some ⟨11, 48, (some [.int .u64 0, .int .u64 0, .int .u32 0, .int .u8 0, .int .u8 0, .int .u8 0, .int .u8 0, .nilFunc, .pointer none, .int .i32 0, .int .i32 0]), true, true⟩ := by kernel_rfl
@[simp] theorem un222 : (Tryz.prog.underlying 222).isSome = true := by kernel_rfl
@[simp] theorem fo222_0 : fieldT Tryz.prog 222 0 = some 0 := by kernel_rfl
@[simp] theorem fo222_1 : fieldT Tryz.prog 222 1 = some 1 := by kernel_rfl
@[simp] theorem fo222_2 : fieldT Tryz.prog 222 2 = some 2 := by kernel_rfl
@[simp] theorem fo222_3 : fieldT Tryz.prog 222 3 = some 3 := by kernel_rfl
@[simp] theorem fo222_4 : fieldT Tryz.prog 222 4 = some 4 := by kernel_rfl
@[simp] theorem fo222_5 : fieldT Tryz.prog 222 5 = some 5 := by kernel_rfl
@[simp] theorem fo222_6 : fieldT Tryz.prog 222 6 = some 6 := by kernel_rfl
@[simp] theorem fo222_7 : fieldT Tryz.prog 222 7 = some 7 := by kernel_rfl
@[simp] theorem fo222_8 : fieldT Tryz.prog 222 8 = some 8 := by kernel_rfl
@[simp] theorem fo222_9 : fieldT Tryz.prog 222 9 = some 9 := by kernel_rfl
@[simp] theorem fo222_10 : fieldT Tryz.prog 222 10 = some 10 := by kernel_rfl
@[simp] theorem pa222 : partsT Tryz.prog 222 = some [(0, 1), (1, 1), (2, 1), (3, 1), (4, 1), (5, 1), (6, 1), (7, 1), (8, 1), (9, 1), (10, 1)] := by kernel_rfl
@[simp] theorem tf223 : tf Tryz.prog 223 = some ⟨11, 48, (some [.int .u64 0, .int .u64 0, .int .u32 0, .int .u8 0, .int .u8 0, .int .u8 0, .int .u8 0, .nilFunc, .pointer none, .int .i32 0, .int .i32 0]), true, true⟩ := by kernel_rfl
@[simp] theorem un223 : (Tryz.prog.underlying 223).isSome = true := by kernel_rfl
@[simp] theorem fo223_0 : fieldT Tryz.prog 223 0 = some 0 := by kernel_rfl
@[simp] theorem fo223_1 : fieldT Tryz.prog 223 1 = some 1 := by kernel_rfl
@[simp] theorem fo223_2 : fieldT Tryz.prog 223 2 = some 2 := by kernel_rfl
@[simp] theorem fo223_3 : fieldT Tryz.prog 223 3 = some 3 := by kernel_rfl
@[simp] theorem fo223_4 : fieldT Tryz.prog 223 4 = some 4 := by kernel_rfl
@[simp] theorem fo223_5 : fieldT Tryz.prog 223 5 = some 5 := by kernel_rfl
@[simp] theorem fo223_6 : fieldT Tryz.prog 223 6 = some 6 := by kernel_rfl
@[simp] theorem fo223_7 : fieldT Tryz.prog 223 7 = some 7 := by kernel_rfl
@[simp] theorem fo223_8 : fieldT Tryz.prog 223 8 = some 8 := by kernel_rfl
@[simp] theorem fo223_9 : fieldT Tryz.prog 223 9 = some 9 := by kernel_rfl
@[simp] theorem fo223_10 : fieldT Tryz.prog 223 10 = some 10 := by kernel_rfl
@[simp] theorem pa223 : partsT Tryz.prog 223 = some [(0, 1), (1, 1), (2, 1), (3, 1), (4, 1), (5, 1), (6, 1), (7, 1), (8, 1), (9, 1), (10, 1)] := by kernel_rfl
@[simp] theorem tf224 : tf Tryz.prog 224 = some ⟨1, 8, (some [.nilFunc]), false, true⟩ := by kernel_rfl
@[simp] theorem un224 : (Tryz.prog.underlying 224).isSome = true := by kernel_rfl
@[simp] theorem tf225 : tf Tryz.prog 225 = some ⟨1, 8, (some [.pointer none]), false, true⟩ := by kernel_rfl
@[simp] theorem un225 : (Tryz.prog.underlying 225).isSome = true := by kernel_rfl
@[simp] theorem nt2 : Tryz.f2.ntmps = 1 := by kernel_rfl
@[simp] theorem rs2 : Tryz.f2.results.toList = [] := by kernel_rfl
@[simp] theorem nt3 : Tryz.f3.ntmps = 15 := by kernel_rfl
@[simp] theorem rs3 : Tryz.f3.results.toList = [.tmp 2] := by kernel_rfl
@[simp] theorem nt4 : Tryz.f4.ntmps = 53 := by kernel_rfl
@[simp] theorem rs4 : Tryz.f4.results.toList = [.tmp 6] := by kernel_rfl
@[simp] theorem nt5 : Tryz.f5.ntmps = 48 := by kernel_rfl
@[simp] theorem rs5 : Tryz.f5.results.toList = [.tmp 4] := by kernel_rfl
@[simp] theorem nt6 : Tryz.f6.ntmps = 128 := by kernel_rfl
@[simp] theorem rs6 : Tryz.f6.results.toList = [.tmp 6] := by kernel_rfl
@[simp] theorem nt7 : Tryz.f7.ntmps = 67 := by kernel_rfl
@[simp] theorem rs7 : Tryz.f7.results.toList = [.tmp 6] := by kernel_rfl
@[simp] theorem nt8 : Tryz.f8.ntmps = 63 := by kernel_rfl
@[simp] theorem rs8 : Tryz.f8.results.toList = [.tmp 4] := by kernel_rfl
@[simp] theorem nt9 : Tryz.f9.ntmps = 99 := by kernel_rfl
@[simp] theorem rs9 : Tryz.f9.results.toList = [.cell 6 4] := by kernel_rfl
@[simp] theorem nt10 : Tryz.f10.ntmps = 106 := by kernel_rfl
@[simp] theorem rs10 : Tryz.f10.results.toList = [.cell 8 4] := by kernel_rfl
@[simp] theorem nt11 : Tryz.f11.ntmps = 74 := by kernel_rfl
@[simp] theorem rs11 : Tryz.f11.results.toList = [.cell 4 4] := by kernel_rfl
@[simp] theorem nt12 : Tryz.f12.ntmps = 123 := by kernel_rfl
@[simp] theorem rs12 : Tryz.f12.results.toList = [.cell 4 4] := by kernel_rfl
@[simp] theorem nt13 : Tryz.f13.ntmps = 84 := by kernel_rfl
@[simp] theorem rs13 : Tryz.f13.results.toList = [.tmp 4] := by kernel_rfl
@[simp] theorem nt14 : Tryz.f14.ntmps = 34 := by kernel_rfl
@[simp] theorem rs14 : Tryz.f14.results.toList = [.tmp 0] := by kernel_rfl
@[simp] theorem nt15 : Tryz.f15.ntmps = 26 := by kernel_rfl
@[simp] theorem rs15 : Tryz.f15.results.toList = [.tmp 4] := by kernel_rfl
@[simp] theorem nt16 : Tryz.f16.ntmps = 18 := by kernel_rfl
@[simp] theorem rs16 : Tryz.f16.results.toList = [.tmp 2] := by kernel_rfl
@[simp] theorem nt17 : Tryz.f17.ntmps = 33 := by kernel_rfl
@[simp] theorem rs17 : Tryz.f17.results.toList = [.tmp 2] := by kernel_rfl
@[simp] theorem nt18 : Tryz.f18.ntmps = 8 := by kernel_rfl
@[simp] theorem rs18 : Tryz.f18.results.toList = [.tmp 2] := by kernel_rfl
@[simp] theorem nt19 : Tryz.f19.ntmps = 28 := by kernel_rfl
@[simp] theorem rs19 : Tryz.f19.results.toList = [.tmp 4] := by kernel_rfl
@[simp] theorem nt20 : Tryz.f20.ntmps = 19 := by kernel_rfl
@[simp] theorem rs20 : Tryz.f20.results.toList = [.cell 2 29] := by kernel_rfl
@[simp] theorem nt21 : Tryz.f21.ntmps = 32 := by kernel_rfl
@[simp] theorem rs21 : Tryz.f21.results.toList = [.tmp 4] := by kernel_rfl
@[simp] theorem nt22 : Tryz.f22.ntmps = 25 := by kernel_rfl
@[simp] theorem rs22 : Tryz.f22.results.toList = [.cell 4 29, .tmp 5] := by kernel_rfl
@[simp] theorem nt23 : Tryz.f23.ntmps = 9 := by kernel_rfl
@[simp] theorem rs23 : Tryz.f23.results.toList = [.tmp 4] := by kernel_rfl
@[simp] theorem nt24 : Tryz.f24.ntmps = 9 := by kernel_rfl
@[simp] theorem rs24 : Tryz.f24.results.toList = [.tmp 3] := by kernel_rfl
@[simp] theorem nt25 : Tryz.f25.ntmps = 36 := by kernel_rfl
@[simp] theorem rs25 : Tryz.f25.results.toList = [.tmp 2] := by kernel_rfl
@[simp] theorem nt26 : Tryz.f26.ntmps = 28 := by kernel_rfl
@[simp] theorem rs26 : Tryz.f26.results.toList = [] := by kernel_rfl
@[simp] theorem nt27 : Tryz.f27.ntmps = 37 := by kernel_rfl
@[simp] theorem rs27 : Tryz.f27.results.toList = [.tmp 0] := by kernel_rfl
@[simp] theorem nt28 : Tryz.f28.ntmps = 42 := by kernel_rfl
@[simp] theorem rs28 : Tryz.f28.results.toList = [.tmp 2, .tmp 3] := by kernel_rfl
@[simp] theorem nt29 : Tryz.f29.ntmps = 34 := by kernel_rfl
@[simp] theorem rs29 : Tryz.f29.results.toList = [.cell 6 29, .tmp 7] := by kernel_rfl
@[simp] theorem nt30 : Tryz.f30.ntmps = 8 := by kernel_rfl
@[simp] theorem rs30 : Tryz.f30.results.toList = [.tmp 2] := by kernel_rfl
@[simp] theorem nt31 : Tryz.f31.ntmps = 9 := by kernel_rfl
@[simp] theorem rs31 : Tryz.f31.results.toList = [.tmp 2] := by kernel_rfl
@[simp] theorem nt32 : Tryz.f32.ntmps = 4 := by kernel_rfl
@[simp] theorem rs32 : Tryz.f32.results.toList = [.tmp 2] := by kernel_rfl
@[simp] theorem nt33 : Tryz.f33.ntmps = 4 := by kernel_rfl
@[simp] theorem rs33 : Tryz.f33.results.toList = [.tmp 2] := by kernel_rfl
@[simp] theorem nt34 : Tryz.f34.ntmps = 8 := by kernel_rfl
@[simp] theorem rs34 : Tryz.f34.results.toList = [.tmp 6] := by kernel_rfl
@[simp] theorem nt35 : Tryz.f35.ntmps = 48 := by kernel_rfl
@[simp] theorem rs35 : Tryz.f35.results.toList = [] := by kernel_rfl
@[simp] theorem nt36 : Tryz.f36.ntmps = 49 := by kernel_rfl
@[simp] theorem rs36 : Tryz.f36.results.toList = [.tmp 4] := by kernel_rfl
@[simp] theorem nt37 : Tryz.f37.ntmps = 8 := by kernel_rfl
@[simp] theorem rs37 : Tryz.f37.results.toList = [.tmp 2] := by kernel_rfl
@[simp] theorem nt38 : Tryz.f38.ntmps = 9 := by kernel_rfl
@[simp] theorem rs38 : Tryz.f38.results.toList = [.tmp 4] := by kernel_rfl
@[simp] theorem nt39 : Tryz.f39.ntmps = 20 := by kernel_rfl
@[simp] theorem rs39 : Tryz.f39.results.toList = [.tmp 3] := by kernel_rfl
@[simp] theorem nt40 : Tryz.f40.ntmps = 36 := by kernel_rfl
@[simp] theorem rs40 : Tryz.f40.results.toList = [.tmp 2] := by kernel_rfl
@[simp] theorem nt41 : Tryz.f41.ntmps = 21 := by kernel_rfl
@[simp] theorem rs41 : Tryz.f41.results.toList = [.tmp 2, .tmp 3] := by kernel_rfl
@[simp] theorem nt42 : Tryz.f42.ntmps = 26 := by kernel_rfl
@[simp] theorem rs42 : Tryz.f42.results.toList = [.tmp 4] := by kernel_rfl
@[simp] theorem nt43 : Tryz.f43.ntmps = 26 := by kernel_rfl
@[simp] theorem rs43 : Tryz.f43.results.toList = [.tmp 4] := by kernel_rfl
@[simp] theorem nt44 : Tryz.f44.ntmps = 36 := by kernel_rfl
@[simp] theorem rs44 : Tryz.f44.results.toList = [.tmp 0] := by kernel_rfl
@[simp] theorem nt45 : Tryz.f45.ntmps = 49 := by kernel_rfl
@[simp] theorem rs45 : Tryz.f45.results.toList = [.tmp 6, .tmp 7] := by kernel_rfl
@[simp] theorem nt46 : Tryz.f46.ntmps = 15 := by kernel_rfl
@[simp] theorem rs46 : Tryz.f46.results.toList = [.tmp 4] := by kernel_rfl
@[simp] theorem nt47 : Tryz.f47.ntmps = 95 := by kernel_rfl
@[simp] theorem rs47 : Tryz.f47.results.toList = [.tmp 6] := by kernel_rfl
@[simp] theorem nt48 : Tryz.f48.ntmps = 19 := by kernel_rfl
@[simp] theorem rs48 : Tryz.f48.results.toList = [.tmp 4] := by kernel_rfl
@[simp] theorem nt49 : Tryz.f49.ntmps = 27 := by kernel_rfl
@[simp] theorem rs49 : Tryz.f49.results.toList = [.tmp 4] := by kernel_rfl
@[simp] theorem nt50 : Tryz.f50.ntmps = 3 := by kernel_rfl
@[simp] theorem rs50 : Tryz.f50.results.toList = [.tmp 0] := by kernel_rfl
@[simp] theorem nt51 : Tryz.f51.ntmps = 49 := by kernel_rfl
@[simp] theorem rs51 : Tryz.f51.results.toList = [.tmp 6, .tmp 7] := by kernel_rfl
@[simp] theorem nt52 : Tryz.f52.ntmps = 15 := by kernel_rfl
@[simp] theorem rs52 : Tryz.f52.results.toList = [.tmp 4] := by kernel_rfl
@[simp] theorem nt53 : Tryz.f53.ntmps = 5 := by kernel_rfl
@[simp] theorem rs53 : Tryz.f53.results.toList = [.tmp 2] := by kernel_rfl
@[simp] theorem nt54 : Tryz.f54.ntmps = 11 := by kernel_rfl
@[simp] theorem rs54 : Tryz.f54.results.toList = [] := by kernel_rfl
@[simp] theorem nt55 : Tryz.f55.ntmps = 14 := by kernel_rfl
@[simp] theorem rs55 : Tryz.f55.results.toList = [] := by kernel_rfl
@[simp] theorem nt56 : Tryz.f56.ntmps = 23 := by kernel_rfl
@[simp] theorem rs56 : Tryz.f56.results.toList = [] := by kernel_rfl
@[simp] theorem nt57 : Tryz.f57.ntmps = 57 := by kernel_rfl
@[simp] theorem rs57 : Tryz.f57.results.toList = [] := by kernel_rfl
@[simp] theorem nt58 : Tryz.f58.ntmps = 95 := by kernel_rfl
@[simp] theorem rs58 : Tryz.f58.results.toList = [.tmp 6] := by kernel_rfl
@[simp] theorem nt59 : Tryz.f59.ntmps = 42 := by kernel_rfl
@[simp] theorem rs59 : Tryz.f59.results.toList = [.tmp 4] := by kernel_rfl
@[simp] theorem nt60 : Tryz.f60.ntmps = 7 := by kernel_rfl
@[simp] theorem rs60 : Tryz.f60.results.toList = [.tmp 2] := by kernel_rfl
@[simp] theorem nt61 : Tryz.f61.ntmps = 19 := by kernel_rfl
@[simp] theorem rs61 : Tryz.f61.results.toList = [.tmp 4] := by kernel_rfl
@[simp] theorem nt62 : Tryz.f62.ntmps = 27 := by kernel_rfl
@[simp] theorem rs62 : Tryz.f62.results.toList = [.tmp 4] := by kernel_rfl
@[simp] theorem nt63 : Tryz.f63.ntmps = 13 := by kernel_rfl
@[simp] theorem rs63 : Tryz.f63.results.toList = [.tmp 0] := by kernel_rfl
@[simp] theorem nt64 : Tryz.f64.ntmps = 6 := by kernel_rfl
@[simp] theorem rs64 : Tryz.f64.results.toList = [.tmp 2] := by kernel_rfl
@[simp] theorem nt65 : Tryz.f65.ntmps = 51 := by kernel_rfl
@[simp] theorem rs65 : Tryz.f65.results.toList = [.tmp 4, .tmp 5, .tmp 6] := by kernel_rfl
@[simp] theorem nt66 : Tryz.f66.ntmps = 29 := by kernel_rfl
@[simp] theorem rs66 : Tryz.f66.results.toList = [.tmp 4] := by kernel_rfl
@[simp] theorem nt67 : Tryz.f67.ntmps = 19 := by kernel_rfl
@[simp] theorem rs67 : Tryz.f67.results.toList = [.tmp 2] := by kernel_rfl
@[simp] theorem nt69 : Tryz.f69.ntmps = 10 := by kernel_rfl
@[simp] theorem rs69 : Tryz.f69.results.toList = [] := by kernel_rfl
@[simp] theorem nt70 : Tryz.f70.ntmps = 13 := by kernel_rfl
@[simp] theorem rs70 : Tryz.f70.results.toList = [.tmp 4] := by kernel_rfl
@[simp] theorem nt71 : Tryz.f71.ntmps = 134 := by kernel_rfl
@[simp] theorem rs71 : Tryz.f71.results.toList = [] := by kernel_rfl
@[simp] theorem nt72 : Tryz.f72.ntmps = 8 := by kernel_rfl
@[simp] theorem rs72 : Tryz.f72.results.toList = [.tmp 2] := by kernel_rfl
@[simp] theorem nt74 : Tryz.f74.ntmps = 10 := by kernel_rfl
@[simp] theorem rs74 : Tryz.f74.results.toList = [] := by kernel_rfl
@[simp] theorem nt75 : Tryz.f75.ntmps = 19 := by kernel_rfl
@[simp] theorem rs75 : Tryz.f75.results.toList = [.tmp 4] := by kernel_rfl
@[simp] theorem nt76 : Tryz.f76.ntmps = 9 := by kernel_rfl
@[simp] theorem rs76 : Tryz.f76.results.toList = [.tmp 0] := by kernel_rfl
@[simp] theorem nt77 : Tryz.f77.ntmps = 30 := by kernel_rfl
@[simp] theorem rs77 : Tryz.f77.results.toList = [.tmp 2] := by kernel_rfl
@[simp] theorem nt78 : Tryz.f78.ntmps = 14 := by kernel_rfl
@[simp] theorem rs78 : Tryz.f78.results.toList = [.tmp 2] := by kernel_rfl
@[simp] theorem nt79 : Tryz.f79.ntmps = 10 := by kernel_rfl
@[simp] theorem rs79 : Tryz.f79.results.toList = [.tmp 4] := by kernel_rfl
@[simp] theorem nt80 : Tryz.f80.ntmps = 6 := by kernel_rfl
@[simp] theorem rs80 : Tryz.f80.results.toList = [.tmp 2] := by kernel_rfl
@[simp] theorem nt81 : Tryz.f81.ntmps = 24 := by kernel_rfl
@[simp] theorem rs81 : Tryz.f81.results.toList = [.tmp 4, .tmp 5] := by kernel_rfl
@[simp] theorem nt82 : Tryz.f82.ntmps = 55 := by kernel_rfl
@[simp] theorem rs82 : Tryz.f82.results.toList = [.tmp 2, .tmp 3] := by kernel_rfl
@[simp] theorem nt83 : Tryz.f83.ntmps = 21 := by kernel_rfl
@[simp] theorem rs83 : Tryz.f83.results.toList = [.tmp 4] := by kernel_rfl
@[simp] theorem nt84 : Tryz.f84.ntmps = 52 := by kernel_rfl
@[simp] theorem rs84 : Tryz.f84.results.toList = [.tmp 6] := by kernel_rfl
@[simp] theorem nt85 : Tryz.f85.ntmps = 52 := by kernel_rfl
@[simp] theorem rs85 : Tryz.f85.results.toList = [.tmp 6] := by kernel_rfl
@[simp] theorem nt86 : Tryz.f86.ntmps = 31 := by kernel_rfl
@[simp] theorem rs86 : Tryz.f86.results.toList = [.tmp 4] := by kernel_rfl
@[simp] theorem nt87 : Tryz.f87.ntmps = 14 := by kernel_rfl
@[simp] theorem rs87 : Tryz.f87.results.toList = [] := by kernel_rfl
@[simp] theorem nt88 : Tryz.f88.ntmps = 49 := by kernel_rfl
@[simp] theorem rs88 : Tryz.f88.results.toList = [] := by kernel_rfl
@[simp] theorem nt89 : Tryz.f89.ntmps = 56 := by kernel_rfl
@[simp] theorem rs89 : Tryz.f89.results.toList = [] := by kernel_rfl
@[simp] theorem nt90 : Tryz.f90.ntmps = 65 := by kernel_rfl
@[simp] theorem rs90 : Tryz.f90.results.toList = [] := by kernel_rfl
@[simp] theorem nt91 : Tryz.f91.ntmps = 57 := by kernel_rfl
@[simp] theorem rs91 : Tryz.f91.results.toList = [.tmp 6, .tmp 7] := by kernel_rfl
@[simp] theorem nt92 : Tryz.f92.ntmps = 32 := by kernel_rfl
@[simp] theorem rs92 : Tryz.f92.results.toList = [] := by kernel_rfl
@[simp] theorem nt93 : Tryz.f93.ntmps = 133 := by kernel_rfl
@[simp] theorem rs93 : Tryz.f93.results.toList = [.tmp 6] := by kernel_rfl
@[simp] theorem nt94 : Tryz.f94.ntmps = 17 := by kernel_rfl
@[simp] theorem rs94 : Tryz.f94.results.toList = [.tmp 4] := by kernel_rfl
@[simp] theorem nt95 : Tryz.f95.ntmps = 84 := by kernel_rfl
@[simp] theorem rs95 : Tryz.f95.results.toList = [.tmp 8] := by kernel_rfl
@[simp] theorem nt96 : Tryz.f96.ntmps = 168 := by kernel_rfl
@[simp] theorem rs96 : Tryz.f96.results.toList = [.tmp 8, .tmp 9] := by kernel_rfl
@[simp] theorem nt97 : Tryz.f97.ntmps = 19 := by kernel_rfl
@[simp] theorem rs97 : Tryz.f97.results.toList = [.tmp 2] := by kernel_rfl
@[simp] theorem nt98 : Tryz.f98.ntmps = 25 := by kernel_rfl
@[simp] theorem rs98 : Tryz.f98.results.toList = [.tmp 2] := by kernel_rfl
@[simp] theorem nt99 : Tryz.f99.ntmps = 14 := by kernel_rfl
@[simp] theorem rs99 : Tryz.f99.results.toList = [] := by kernel_rfl
@[simp] theorem nt100 : Tryz.f100.ntmps = 36 := by kernel_rfl
@[simp] theorem rs100 : Tryz.f100.results.toList = [.tmp 0] := by kernel_rfl
@[simp] theorem nt101 : Tryz.f101.ntmps = 31 := by kernel_rfl
@[simp] theorem rs101 : Tryz.f101.results.toList = [] := by kernel_rfl
@[simp] theorem nt102 : Tryz.f102.ntmps = 26 := by kernel_rfl
@[simp] theorem rs102 : Tryz.f102.results.toList = [.tmp 4] := by kernel_rfl
@[simp] theorem nt103 : Tryz.f103.ntmps = 19 := by kernel_rfl
@[simp] theorem rs103 : Tryz.f103.results.toList = [.tmp 4] := by kernel_rfl
@[simp] theorem nt104 : Tryz.f104.ntmps = 8 := by kernel_rfl
@[simp] theorem rs104 : Tryz.f104.results.toList = [.tmp 2] := by kernel_rfl
@[simp] theorem nt105 : Tryz.f105.ntmps = 25 := by kernel_rfl
@[simp] theorem rs105 : Tryz.f105.results.toList = [.tmp 2] := by kernel_rfl
@[simp] theorem nt106 : Tryz.f106.ntmps = 27 := by kernel_rfl
@[simp] theorem rs106 : Tryz.f106.results.toList = [] := by kernel_rfl
@[simp] theorem nt107 : Tryz.f107.ntmps = 23 := by kernel_rfl
@[simp] theorem rs107 : Tryz.f107.results.toList = [.tmp 2] := by kernel_rfl
@[simp] theorem nt108 : Tryz.f108.ntmps = 28 := by kernel_rfl
@[simp] theorem rs108 : Tryz.f108.results.toList = [] := by kernel_rfl
@[simp] theorem nt109 : Tryz.f109.ntmps = 76 := by kernel_rfl
@[simp] theorem rs109 : Tryz.f109.results.toList = [] := by kernel_rfl
@[simp] theorem nt110 : Tryz.f110.ntmps = 7 := by kernel_rfl
@[simp] theorem rs110 : Tryz.f110.results.toList = [.tmp 2] := by kernel_rfl
@[simp] theorem nt111 : Tryz.f111.ntmps = 33 := by kernel_rfl
@[simp] theorem rs111 : Tryz.f111.results.toList = [.tmp 2] := by kernel_rfl
@[simp] theorem nt112 : Tryz.f112.ntmps = 15 := by kernel_rfl
@[simp] theorem rs112 : Tryz.f112.results.toList = [.tmp 6] := by kernel_rfl
@[simp] theorem nt113 : Tryz.f113.ntmps = 36 := by kernel_rfl
@[simp] theorem rs113 : Tryz.f113.results.toList = [.tmp 10] := by kernel_rfl
@[simp] theorem nt114 : Tryz.f114.ntmps = 6 := by kernel_rfl
@[simp] theorem rs114 : Tryz.f114.results.toList = [.tmp 2] := by kernel_rfl
@[simp] theorem nt115 : Tryz.f115.ntmps = 28 := by kernel_rfl
@[simp] theorem rs115 : Tryz.f115.results.toList = [] := by kernel_rfl
@[simp] theorem nt116 : Tryz.f116.ntmps = 20 := by kernel_rfl
@[simp] theorem rs116 : Tryz.f116.results.toList = [.tmp 0] := by kernel_rfl
@[simp] theorem nt117 : Tryz.f117.ntmps = 70 := by kernel_rfl
@[simp] theorem rs117 : Tryz.f117.results.toList = [] := by kernel_rfl
@[simp] theorem nt118 : Tryz.f118.ntmps = 5 := by kernel_rfl
@[simp] theorem rs118 : Tryz.f118.results.toList = [.tmp 4] := by kernel_rfl
@[simp] theorem nt119 : Tryz.f119.ntmps = 28 := by kernel_rfl
@[simp] theorem rs119 : Tryz.f119.results.toList = [.tmp 8, .tmp 9] := by kernel_rfl
@[simp] theorem nt120 : Tryz.f120.ntmps = 18 := by kernel_rfl
@[simp] theorem rs120 : Tryz.f120.results.toList = [.tmp 0] := by kernel_rfl
@[simp] theorem nt121 : Tryz.f121.ntmps = 6 := by kernel_rfl
@[simp] theorem rs121 : Tryz.f121.results.toList = [.cell 2 4] := by kernel_rfl
@[simp] theorem nt122 : Tryz.f122.ntmps = 5 := by kernel_rfl
@[simp] theorem rs122 : Tryz.f122.results.toList = [] := by kernel_rfl
@[simp] theorem nt123 : Tryz.f123.ntmps = 7 := by kernel_rfl
@[simp] theorem rs123 : Tryz.f123.results.toList = [.tmp 2] := by kernel_rfl
@[simp] theorem nt124 : Tryz.f124.ntmps = 0 := by kernel_rfl
@[simp] theorem rs124 : Tryz.f124.results.toList = [] := by kernel_rfl
@[simp] theorem nt125 : Tryz.f125.ntmps = 9 := by kernel_rfl
@[simp] theorem rs125 : Tryz.f125.results.toList = [.tmp 2] := by kernel_rfl
@[simp] theorem nt126 : Tryz.f126.ntmps = 21 := by kernel_rfl
@[simp] theorem rs126 : Tryz.f126.results.toList = [.tmp 0] := by kernel_rfl
@[simp] theorem nt127 : Tryz.f127.ntmps = 65 := by kernel_rfl
@[simp] theorem rs127 : Tryz.f127.results.toList = [.tmp 2] := by kernel_rfl
@[simp] theorem nt128 : Tryz.f128.ntmps = 15 := by kernel_rfl
@[simp] theorem rs128 : Tryz.f128.results.toList = [] := by kernel_rfl
@[simp] theorem nt129 : Tryz.f129.ntmps = 4 := by kernel_rfl
@[simp] theorem rs129 : Tryz.f129.results.toList = [.tmp 2] := by kernel_rfl
@[simp] theorem nt130 : Tryz.f130.ntmps = 19 := by kernel_rfl
@[simp] theorem rs130 : Tryz.f130.results.toList = [.cell 4 187, .cell 5 187] := by kernel_rfl
@[simp] theorem nt131 : Tryz.f131.ntmps = 15 := by kernel_rfl
@[simp] theorem rs131 : Tryz.f131.results.toList = [.tmp 4] := by kernel_rfl
@[simp] theorem nt132 : Tryz.f132.ntmps = 42 := by kernel_rfl
@[simp] theorem rs132 : Tryz.f132.results.toList = [.tmp 4] := by kernel_rfl
@[simp] theorem nt133 : Tryz.f133.ntmps = 8 := by kernel_rfl
@[simp] theorem rs133 : Tryz.f133.results.toList = [.tmp 2] := by kernel_rfl
@[simp] theorem nt134 : Tryz.f134.ntmps = 8 := by kernel_rfl
@[simp] theorem rs134 : Tryz.f134.results.toList = [.tmp 2] := by kernel_rfl
@[simp] theorem nt135 : Tryz.f135.ntmps = 14 := by kernel_rfl
@[simp] theorem rs135 : Tryz.f135.results.toList = [] := by kernel_rfl
@[simp] theorem nt136 : Tryz.f136.ntmps = 17 := by kernel_rfl
@[simp] theorem rs136 : Tryz.f136.results.toList = [.tmp 4] := by kernel_rfl
@[simp] theorem nt137 : Tryz.f137.ntmps = 14 := by kernel_rfl
@[simp] theorem rs137 : Tryz.f137.results.toList = [] := by kernel_rfl
@[simp] theorem nt138 : Tryz.f138.ntmps = 7 := by kernel_rfl
@[simp] theorem rs138 : Tryz.f138.results.toList = [.cell 2 187] := by kernel_rfl
@[simp] theorem nt139 : Tryz.f139.ntmps = 19 := by kernel_rfl
@[simp] theorem rs139 : Tryz.f139.results.toList = [.cell 4 187] := by kernel_rfl
@[simp] theorem nt140 : Tryz.f140.ntmps = 19 := by kernel_rfl
@[simp] theorem rs140 : Tryz.f140.results.toList = [.cell 4 187] := by kernel_rfl
@[simp] theorem nt141 : Tryz.f141.ntmps = 19 := by kernel_rfl
@[simp] theorem rs141 : Tryz.f141.results.toList = [.tmp 4] := by kernel_rfl
@[simp] theorem nt142 : Tryz.f142.ntmps = 148 := by kernel_rfl
@[simp] theorem rs142 : Tryz.f142.results.toList = [] := by kernel_rfl
@[simp] theorem nt143 : Tryz.f143.ntmps = 53 := by kernel_rfl
@[simp] theorem rs143 : Tryz.f143.results.toList = [] := by kernel_rfl
@[simp] theorem nt144 : Tryz.f144.ntmps = 60 := by kernel_rfl
@[simp] theorem rs144 : Tryz.f144.results.toList = [] := by kernel_rfl
@[simp] theorem nt145 : Tryz.f145.ntmps = 67 := by kernel_rfl
@[simp] theorem rs145 : Tryz.f145.results.toList = [] := by kernel_rfl
@[simp] theorem nt146 : Tryz.f146.ntmps = 63 := by kernel_rfl
@[simp] theorem rs146 : Tryz.f146.results.toList = [.tmp 8, .tmp 9] := by kernel_rfl
@[simp] theorem nt147 : Tryz.f147.ntmps = 34 := by kernel_rfl
@[simp] theorem rs147 : Tryz.f147.results.toList = [] := by kernel_rfl
@[simp] theorem nt148 : Tryz.f148.ntmps = 141 := by kernel_rfl
@[simp] theorem rs148 : Tryz.f148.results.toList = [.tmp 8] := by kernel_rfl
@[simp] theorem nt149 : Tryz.f149.ntmps = 90 := by kernel_rfl
@[simp] theorem rs149 : Tryz.f149.results.toList = [.tmp 10] := by kernel_rfl
@[simp] theorem nt150 : Tryz.f150.ntmps = 178 := by kernel_rfl
@[simp] theorem rs150 : Tryz.f150.results.toList = [.tmp 10, .tmp 11] := by kernel_rfl
@[simp] theorem nt151 : Tryz.f151.ntmps = 82 := by kernel_rfl
@[simp] theorem rs151 : Tryz.f151.results.toList = [] := by kernel_rfl
@[simp] theorem nt152 : Tryz.f152.ntmps = 18 := by kernel_rfl
@[simp] theorem rs152 : Tryz.f152.results.toList = [.tmp 8] := by kernel_rfl
@[simp] theorem nt153 : Tryz.f153.ntmps = 41 := by kernel_rfl
@[simp] theorem rs153 : Tryz.f153.results.toList = [.tmp 12] := by kernel_rfl
@[simp] theorem nt154 : Tryz.f154.ntmps = 32 := by kernel_rfl
@[simp] theorem rs154 : Tryz.f154.results.toList = [.tmp 10, .tmp 11] := by kernel_rfl
@[simp] theorem nt176 : Tryz.f176.ntmps = 1 := by kernel_rfl
@[simp] theorem rs176 : Tryz.f176.results.toList = [] := by kernel_rfl
attribute [simp] Tryz.func2
attribute [simp] Tryz.func3
attribute [simp] Tryz.func4
attribute [simp] Tryz.func5
attribute [simp] Tryz.func6
attribute [simp] Tryz.func7
attribute [simp] Tryz.func8
attribute [simp] Tryz.func9
attribute [simp] Tryz.func10
attribute [simp] Tryz.func11
attribute [simp] Tryz.func12
attribute [simp] Tryz.func13
attribute [simp] Tryz.func14
attribute [simp] Tryz.func15
attribute [simp] Tryz.func16
attribute [simp] Tryz.func17
attribute [simp] Tryz.func18
attribute [simp] Tryz.func19
attribute [simp] Tryz.func20
attribute [simp] Tryz.func21
attribute [simp] Tryz.func22
attribute [simp] Tryz.func23
attribute [simp] Tryz.func24
attribute [simp] Tryz.func25
attribute [simp] Tryz.func26
attribute [simp] Tryz.func27
attribute [simp] Tryz.func28
attribute [simp] Tryz.func29
attribute [simp] Tryz.func30
attribute [simp] Tryz.func31
attribute [simp] Tryz.func32
attribute [simp] Tryz.func33
attribute [simp] Tryz.func34
attribute [simp] Tryz.func35
attribute [simp] Tryz.func36
attribute [simp] Tryz.func37
attribute [simp] Tryz.func38
attribute [simp] Tryz.func39
attribute [simp] Tryz.func40
attribute [simp] Tryz.func41
attribute [simp] Tryz.func42
attribute [simp] Tryz.func43
attribute [simp] Tryz.func44
attribute [simp] Tryz.func45
attribute [simp] Tryz.func46
attribute [simp] Tryz.func47
attribute [simp] Tryz.func48
attribute [simp] Tryz.func49
attribute [simp] Tryz.func50
attribute [simp] Tryz.func51
attribute [simp] Tryz.func52
attribute [simp] Tryz.func53
attribute [simp] Tryz.func54
attribute [simp] Tryz.func55
attribute [simp] Tryz.func56
attribute [simp] Tryz.func57
attribute [simp] Tryz.func58
attribute [simp] Tryz.func59
attribute [simp] Tryz.func60
attribute [simp] Tryz.func61
attribute [simp] Tryz.func62
attribute [simp] Tryz.func63
attribute [simp] Tryz.func64
attribute [simp] Tryz.func65
attribute [simp] Tryz.func66
attribute [simp] Tryz.func67
attribute [simp] Tryz.func69
attribute [simp] Tryz.func70
attribute [simp] Tryz.func71
attribute [simp] Tryz.func72
attribute [simp] Tryz.func74
attribute [simp] Tryz.func75
attribute [simp] Tryz.func76
attribute [simp] Tryz.func77
attribute [simp] Tryz.func78
attribute [simp] Tryz.func79
attribute [simp] Tryz.func80
attribute [simp] Tryz.func81
attribute [simp] Tryz.func82
attribute [simp] Tryz.func83
attribute [simp] Tryz.func84
attribute [simp] Tryz.func85
attribute [simp] Tryz.func86
attribute [simp] Tryz.func87
attribute [simp] Tryz.func88
attribute [simp] Tryz.func89
attribute [simp] Tryz.func90
attribute [simp] Tryz.func91
attribute [simp] Tryz.func92
attribute [simp] Tryz.func93
attribute [simp] Tryz.func94
attribute [simp] Tryz.func95
attribute [simp] Tryz.func96
attribute [simp] Tryz.func97
attribute [simp] Tryz.func98
attribute [simp] Tryz.func99
attribute [simp] Tryz.func100
attribute [simp] Tryz.func101
attribute [simp] Tryz.func102
attribute [simp] Tryz.func103
attribute [simp] Tryz.func104
attribute [simp] Tryz.func105
attribute [simp] Tryz.func106
attribute [simp] Tryz.func107
attribute [simp] Tryz.func108
attribute [simp] Tryz.func109
attribute [simp] Tryz.func110
attribute [simp] Tryz.func111
attribute [simp] Tryz.func112
attribute [simp] Tryz.func113
attribute [simp] Tryz.func114
attribute [simp] Tryz.func115
attribute [simp] Tryz.func116
attribute [simp] Tryz.func117
attribute [simp] Tryz.func118
attribute [simp] Tryz.func119
attribute [simp] Tryz.func120
attribute [simp] Tryz.func121
attribute [simp] Tryz.func122
attribute [simp] Tryz.func123
attribute [simp] Tryz.func124
attribute [simp] Tryz.func125
attribute [simp] Tryz.func126
attribute [simp] Tryz.func127
attribute [simp] Tryz.func128
attribute [simp] Tryz.func129
attribute [simp] Tryz.func130
attribute [simp] Tryz.func131
attribute [simp] Tryz.func132
attribute [simp] Tryz.func133
attribute [simp] Tryz.func134
attribute [simp] Tryz.func135
attribute [simp] Tryz.func136
attribute [simp] Tryz.func137
attribute [simp] Tryz.func138
attribute [simp] Tryz.func139
attribute [simp] Tryz.func140
attribute [simp] Tryz.func141
attribute [simp] Tryz.func142
attribute [simp] Tryz.func143
attribute [simp] Tryz.func144
attribute [simp] Tryz.func145
attribute [simp] Tryz.func146
attribute [simp] Tryz.func147
attribute [simp] Tryz.func148
attribute [simp] Tryz.func149
attribute [simp] Tryz.func150
attribute [simp] Tryz.func151
attribute [simp] Tryz.func152
attribute [simp] Tryz.func153
attribute [simp] Tryz.func154
attribute [simp] Tryz.func176
end Go.Sm
/- Chains of versions as lists: plain facts. -/
namespace Go.Sm

structure Ver where
  at_ : Int
  val : ByteArray
  gone : Bool
  deriving DecidableEq

/-- The times rise. -/
def Srt (c : List Ver) : Prop := c.Pairwise fun a b => a.at_ < b.at_
/-- The version of a time. -/
def lk (c : List Ver) (t : Int) : Option Ver := c.find? fun v => v.at_ == t

theorem get_mem_drop {α : Type} {l : List α} {k : Nat} (h : k < l.length) : l[k] ∈ l.drop k := by rw [List.drop_eq_getElem_cons h]; exact List.mem_cons_self
theorem lk_none_of {c : List Ver} {t : Int} (h : ∀ v ∈ c, v.at_ ≠ t) : lk c t = none := by
  simp only [lk, List.find?_eq_none]
  intro v hv
  simpa using h v hv
theorem lk_cons (v : Ver) (c : List Ver) (t : Int) : lk (v :: c) t = if v.at_ = t then some v else lk c t := by
  simp only [lk, List.find?_cons]
  by_cases h : v.at_ = t
  · simp [h]
  · have : (v.at_ == t) = false := by simpa using h
    rw [this, if_neg h]
theorem lk_append (c d : List Ver) (t : Int) : lk (c ++ d) t = (lk c t).or (lk d t) := by simp [lk, List.find?_append]
theorem lk_some {c : List Ver} {t : Int} {v : Ver} (h : lk c t = some v) : v ∈ c ∧ v.at_ = t := by
  simp only [lk] at h
  exact ⟨List.mem_of_find?_eq_some h, by simpa using List.find?_some h⟩
theorem Srt.tail {v : Ver} {c : List Ver} (h : Srt (v :: c)) : Srt c := (List.pairwise_cons.1 h).2
theorem Srt.head {v : Ver} {c : List Ver} (h : Srt (v :: c)) : ∀ u ∈ c, v.at_ < u.at_ := (List.pairwise_cons.1 h).1
theorem Srt.lk_mem {c : List Ver} (h : Srt c) {v : Ver} (hv : v ∈ c) : lk c v.at_ = some v := by
  induction c with
  | nil => cases hv
  | cons u c ih =>
    rw [lk_cons]
    rcases List.mem_cons.1 hv with rfl | hv
    · simp
    · have := h.head v hv
      rw [if_neg (by omega)]
      exact ih h.tail hv
theorem Srt.ext : ∀ {c d : List Ver}, Srt c → Srt d → (∀ t, lk c t = lk d t) → c = d
  | [], [], _, _, _ => rfl
  | [], v :: d, _, _, h => by have := h v.at_; rw [lk_cons, if_pos rfl] at this; cases this
  | v :: c, [], _, _, h => by have := h v.at_; rw [lk_cons, if_pos rfl] at this; cases this
  | u :: c, v :: d, hc, hd, h => by
    have h1 := h u.at_
    rw [lk_cons, if_pos rfl, lk_cons] at h1
    have h2 := h v.at_
    rw [lk_cons, lk_cons, if_pos rfl] at h2
    have he : u = v := by
      by_cases e : v.at_ = u.at_
      · rw [if_pos e] at h1; exact Option.some.inj h1
      · rw [if_neg e] at h1
        rw [if_neg (Ne.symm e)] at h2
        have a := hd.head u (lk_some h1.symm).1
        have b := hc.head v (lk_some h2).1
        omega
    subst he
    rw [Srt.ext hc.tail hd.tail fun t => by
      have := h t
      rw [lk_cons, lk_cons] at this
      by_cases e : u.at_ = t
      · rw [lk_none_of fun x hx => by have := hc.head x hx; omega, lk_none_of fun x hx => by have := hd.head x hx; omega]
      · rwa [if_neg e, if_neg e] at this]

/-! ### A version more -/
def putL (c : List Ver) (v : Ver) : List Ver := (c.filter fun u => decide (u.at_ < v.at_)) ++ v :: c.filter fun u => decide (v.at_ < u.at_)
theorem Srt.filter {c : List Ver} (h : Srt c) (p : Ver → Bool) : Srt (c.filter p) := List.Pairwise.filter p h
theorem Srt.put {c : List Ver} (h : Srt c) (v : Ver) : Srt (putL c v) := by
  unfold putL Srt
  rw [List.pairwise_append]
  refine ⟨h.filter _, List.pairwise_cons.2 ⟨fun u hu => by simp at hu; exact hu.2, h.filter _⟩, fun a ha b hb => ?_⟩
  simp at ha hb
  rcases hb with rfl | hb
  · exact ha.2
  · omega
theorem lk_filter {c : List Ver} (p : Ver → Bool) (t : Int) (hp : ∀ v, v.at_ = t → p v = true) : lk (c.filter p) t = lk c t := by
  induction c with
  | nil => rfl
  | cons v c ih =>
    rw [List.filter_cons, lk_cons]
    by_cases e : v.at_ = t
    · rw [if_pos (hp v e), lk_cons, if_pos e, if_pos e]
    · rw [if_neg e]
      split
      · rw [lk_cons, if_neg e, ih]
      · exact ih
theorem lk_filter_none {c : List Ver} (p : Ver → Bool) (t : Int) (hp : ∀ v, v.at_ = t → p v = false) : lk (c.filter p) t = none :=
  lk_none_of fun v hv e => by
    have := (List.mem_filter.1 hv).2
    rw [hp v e] at this
    cases this
theorem lk_put (c : List Ver) (v : Ver) (t : Int) : lk (putL c v) t = if v.at_ = t then some v else lk c t := by
  unfold putL
  rw [lk_append, lk_cons]
  by_cases e : v.at_ = t
  · rw [if_pos e, if_pos e, lk_filter_none _ t fun u hu => by simp; omega]; rfl
  · rw [if_neg e, if_neg e]
    by_cases h : t < v.at_
    · rw [lk_filter _ t fun u hu => by simp; omega, lk_filter_none _ t fun u hu => by simp; omega, Option.or_none]
    · rw [lk_filter_none _ t fun u hu => by simp; omega, lk_filter _ t fun u hu => by simp; omega, Option.none_or]

/-! ### By definition -/
def makeL (l : List Ver) : List Ver := l.foldl putL []
def lastAt (l : List Ver) (t : Int) : Option Ver := (l.filter fun v => v.at_ == t).getLast?
def plainL (l : List Ver) : List Ver := (List.range 256).filterMap fun t : Nat => lastAt l t
theorem lastAt_snoc (l : List Ver) (v : Ver) (t : Int) : lastAt (l ++ [v]) t = if v.at_ = t then some v else lastAt l t := by
  unfold lastAt
  rw [List.filter_append]
  by_cases e : v.at_ = t <;> simp [e]
theorem makeL_snoc (l : List Ver) (v : Ver) : makeL (l ++ [v]) = putL (makeL l) v := by simp [makeL]
theorem lastAt_at {l : List Ver} {t : Int} {v : Ver} (h : lastAt l t = some v) : v ∈ l ∧ v.at_ = t := by
  have := List.mem_of_getLast? h
  simpa using this
theorem rev_ind {α : Type} {P : List α → Prop} (h0 : P []) (h1 : ∀ l a, P l → P (l ++ [a])) (l : List α) : P l := by
  have : ∀ m : List α, P m.reverse := by
    intro m
    induction m with
    | nil => exact h0
    | cons a m ih => rw [List.reverse_cons]; exact h1 _ _ ih
  have := this l.reverse
  rwa [List.reverse_reverse] at this
theorem makeL_srt (l : List Ver) : Srt (makeL l) := rev_ind (P := fun l => Srt (makeL l)) List.Pairwise.nil (fun l v ih => by rw [makeL_snoc]; exact ih.put v) l
theorem lk_makeL (l : List Ver) (t : Int) : lk (makeL l) t = lastAt l t :=
  rev_ind (P := fun l => lk (makeL l) t = lastAt l t) rfl (fun l v ih => by rw [makeL_snoc, lk_put, lastAt_snoc, ih]) l
theorem range_srt (l : List Ver) : ∀ (n : Nat), Srt ((List.range n).filterMap fun t : Nat => lastAt l t) ∧ (∀ v ∈ ((List.range n).filterMap fun t : Nat => lastAt l t), v.at_ < n) ∧
    ∀ t : Int, lk ((List.range n).filterMap fun t : Nat => lastAt l t) t = if 0 ≤ t ∧ t < n then lastAt l t else none
  | 0 => ⟨List.Pairwise.nil, by simp, fun t => by simp [lk]; intro h h'; omega⟩
  | n + 1 => by
    obtain ⟨h1, h2, h3⟩ := range_srt l n
    have hone : ∀ t : Int, lk ([n].filterMap fun t : Nat => lastAt l t) t = if t = n then lastAt l t else none := by
      intro t
      cases hl : lastAt l (n : Int) with
      | none => by_cases e : t = n <;> simp [hl, lk, e]
      | some v =>
        have := (lastAt_at hl).2
        simp only [List.filterMap_cons, hl, List.filterMap_nil, lk_cons, this]
        by_cases e : t = n
        · subst e; simp [hl]
        · rw [if_neg (Ne.symm e), if_neg e]; rfl
    have hmem : ∀ v ∈ ([n].filterMap fun t : Nat => lastAt l t), v.at_ = n := by
      intro v hv
      simp at hv
      exact (lastAt_at hv).2
    simp only [List.range_succ, List.filterMap_append]
    refine ⟨?_, fun v hv => ?_, fun t => ?_⟩
    · unfold Srt
      rw [List.pairwise_append]
      refine ⟨h1, ?_, fun a ha b hb => ?_⟩
      · simp only [List.filterMap_cons, List.filterMap_nil]
        split <;> simp
      · rw [hmem b hb]; exact h2 a ha
    · rcases List.mem_append.1 hv with hv | hv
      · have := h2 v hv; omega
      · have := hmem v hv; omega
    · rw [lk_append, h3, hone]
      by_cases a : 0 ≤ t ∧ t < n
      · rw [if_pos a, if_neg (by omega), if_pos (by omega), Option.or_none]
      · rw [if_neg a, Option.none_or]
        by_cases b : t = n
        · rw [if_pos b, if_pos (by omega)]
        · rw [if_neg b, if_neg (by omega)]
theorem make_plain (l : List Ver) (h : ∀ v ∈ l, 0 ≤ v.at_ ∧ v.at_ < 256) : makeL l = plainL l := by
  obtain ⟨h1, _, h3⟩ := range_srt l 256
  refine Srt.ext (makeL_srt l) h1 fun t => ?_
  unfold plainL
  rw [lk_makeL, h3]
  by_cases a : 0 ≤ t ∧ t < (256 : Nat)
  · rw [if_pos a]
  · rw [if_neg a]
    cases hl : lastAt l t with
    | none => rfl
    | some v =>
      obtain ⟨m, e⟩ := lastAt_at hl
      have := h v m
      omega

/-! ### What a search finds -/
theorem filter_take {α : Type} {l : List α} {k : Nat} (p : α → Bool) (h1 : ∀ x ∈ l.take k, p x = true) (h2 : ∀ x ∈ l.drop k, p x = false) : l.filter p = l.take k := by
  conv => lhs; rw [← List.take_append_drop k l]
  rw [List.filter_append, List.filter_eq_self.2 h1, List.filter_eq_nil_iff.2 fun x hx => by simp [h2 x hx], List.append_nil]
theorem filter_drop {α : Type} {l : List α} {k : Nat} (p : α → Bool) (h1 : ∀ x ∈ l.take k, p x = false) (h2 : ∀ x ∈ l.drop k, p x = true) : l.filter p = l.drop k := by
  conv => lhs; rw [← List.take_append_drop k l]
  rw [List.filter_append, List.filter_eq_self.2 h2, List.filter_eq_nil_iff.2 fun x hx => by simp [h1 x hx], List.nil_append]
/-- What the search tells: how many are below a time. -/
structure Found (c : List Ver) (t : Int) (k : Nat) : Prop where
  le : k ≤ c.length
  lo : ∀ v ∈ c.take k, v.at_ < t
  hi : ∀ v ∈ c.drop k, t ≤ v.at_
theorem Found.lk {c : List Ver} {t : Int} {k : Nat} (hs : Srt c) (h : Found c t k) : Sm.lk c t = if h : k < c.length then (if c[k].at_ = t then some c[k] else none) else none := by
  have e1 : c.take k ++ c.drop k = c := List.take_append_drop k c
  rw [← e1, lk_append, lk_none_of (c := c.take k) fun v hv => by have := h.lo v hv; omega, Option.none_or, e1]
  split
  · rename_i hk
    rw [List.drop_eq_getElem_cons hk, lk_cons]
    split
    · rfl
    · rename_i hne
      have h1 := h.hi c[k] (get_mem_drop hk)
      refine lk_none_of fun v hv => ?_
      have hs2 : Srt (c.drop k) := List.Pairwise.sublist (List.drop_sublist k c) hs
      rw [List.drop_eq_getElem_cons hk] at hs2
      have := hs2.head v hv
      omega
  · rw [List.drop_of_length_le (by omega)]; rfl
theorem Found.put_ins {c : List Ver} {v : Ver} {k : Nat} (hs : Srt c) (h : Found c v.at_ k) (hn : ∀ hk : k < c.length, c[k].at_ ≠ v.at_) : putL c v = c.take k ++ v :: c.drop k := by
  unfold putL
  rw [filter_take (k := k) _ (fun x hx => by simpa using h.lo x hx) fun x hx => by simpa using h.hi x hx]
  rw [filter_drop (k := k) _ (fun x hx => by have := h.lo x hx; simp; omega) fun x hx => ?_]
  have h1 := h.hi x hx
  have hk : k < c.length := by
    by_cases hk : k < c.length
    · exact hk
    · rw [List.drop_of_length_le (by omega)] at hx; cases hx
  have h2 := hn hk
  have hs2 : Srt (c.drop k) := List.Pairwise.sublist (List.drop_sublist k c) hs
  have h3 := h.hi c[k] (get_mem_drop hk)
  rw [List.drop_eq_getElem_cons hk] at hx hs2
  rcases List.mem_cons.1 hx with rfl | hx
  · simp; omega
  · have := hs2.head x hx
    simp; omega
theorem Found.put_set {c : List Ver} {v : Ver} {k : Nat} (hs : Srt c) (h : Found c v.at_ k) (hk : k < c.length) (he : c[k].at_ = v.at_) : putL c v = c.set k v := by
  unfold putL
  rw [filter_take (k := k) _ (fun x hx => by simpa using h.lo x hx) fun x hx => by simpa using h.hi x hx]
  rw [filter_drop (k := k + 1) _ (fun x hx => ?_) fun x hx => ?_]
  · rw [List.set_eq_take_append_cons_drop, if_pos hk]
  · rw [List.take_succ_eq_append_getElem hk] at hx
    simp only [List.mem_append, List.mem_singleton] at hx
    rcases hx with hx | rfl
    · have := h.lo x hx; simp; omega
    · simp; omega
  · have hs2 : Srt (c.drop k) := List.Pairwise.sublist (List.drop_sublist k c) hs
    rw [List.drop_eq_getElem_cons hk] at hs2
    have := hs2.head x hx
    simp; omega

/-! ### The last one up to a time -/
def atL (c : List Ver) (t : Int) : Option Ver := (c.filter fun v => decide (v.at_ ≤ t)).getLast?
/-- How many are at most at a time. -/
theorem Found.upto {c : List Ver} {t : Int} {k : Nat} (hs : Srt c) (h : Found c t k) : (c.filter fun v => decide (v.at_ ≤ t)) = c.take (if (∃ hk : k < c.length, c[k].at_ = t) then k + 1 else k) := by
  have hs2 : Srt (c.drop k) := List.Pairwise.sublist (List.drop_sublist k c) hs
  split
  · rename_i hh
    obtain ⟨hk, he⟩ := hh
    rw [List.drop_eq_getElem_cons hk] at hs2
    refine filter_take _ (fun x hx => ?_) fun x hx => ?_
    · rw [List.take_succ_eq_append_getElem hk] at hx
      simp only [List.mem_append, List.mem_singleton] at hx
      rcases hx with hx | rfl
      · have := h.lo x hx; simp; omega
      · simp; omega
    · have := hs2.head x hx; simp; omega
  · rename_i hh
    refine filter_take _ (fun x hx => by have := h.lo x hx; simp; omega) fun x hx => ?_
    have h1 := h.hi x hx
    by_cases hk : k < c.length
    · have h2 : c[k].at_ ≠ t := fun e => hh ⟨hk, e⟩
      have h3 := h.hi c[k] (get_mem_drop hk)
      rw [List.drop_eq_getElem_cons hk] at hx hs2
      rcases List.mem_cons.1 hx with rfl | hx
      · simp; omega
      · have := hs2.head x hx; simp; omega
    · rw [List.drop_of_length_le (by omega)] at hx; cases hx
theorem take_last {α : Type} {l : List α} {k : Nat} (h : k < l.length) : (l.take (k + 1)).getLast? = some l[k] := by
  rw [List.take_succ_eq_append_getElem h, List.getLast?_append]
  rfl
theorem Found.at_eq {c : List Ver} {t : Int} {k : Nat} (hs : Srt c) (h : Found c t k) (hk : k < c.length) (he : c[k].at_ = t) : atL c t = some c[k] := by
  have := h.upto hs
  rw [if_pos ⟨hk, he⟩] at this
  unfold atL
  rw [this]
  exact take_last hk
theorem Found.at_lt {c : List Ver} {t : Int} {k : Nat} (hs : Srt c) (h : Found c t (k + 1)) (hn : ¬ ∃ hk : k + 1 < c.length, c[k + 1].at_ = t) : atL c t = some (c[k]'(by have := h.le; omega)) := by
  have := h.upto hs
  rw [if_neg hn] at this
  unfold atL
  rw [this]
  exact take_last (by have := h.le; omega)
theorem Found.at_zero {c : List Ver} {t : Int} (hs : Srt c) (h : Found c t 0) (hn : ¬ ∃ hk : 0 < c.length, c[0].at_ = t) : atL c t = none := by
  have := h.upto hs
  rw [if_neg hn] at this
  unfold atL
  rw [this]
  rfl
/-- What stays of a chain. -/
def cutL (c : List Ver) (t : Int) : List Ver :=
  match (c.filter fun v => decide (v.at_ ≤ t)).length with
  | 0 => c
  | n + 1 => if ((c[n]?).map (·.gone)).getD false then c.drop (n + 1) else c.drop n
theorem cut_of {c : List Ver} {t : Int} {k : Nat} (hk : k < c.length) (h : (c.filter fun v => decide (v.at_ ≤ t)) = c.take (k + 1)) : cutL c t = if c[k].gone then c.drop (k + 1) else c.drop k := by
  have : (c.filter fun v => decide (v.at_ ≤ t)).length = k + 1 := by rw [h]; simp; omega
  unfold cutL
  rw [this]
  simp [hk]
theorem Found.cut_eq {c : List Ver} {t : Int} {k : Nat} (hs : Srt c) (h : Found c t k) (hk : k < c.length) (he : c[k].at_ = t) : cutL c t = if c[k].gone then c.drop (k + 1) else c.drop k := by
  have := h.upto hs
  rw [if_pos ⟨hk, he⟩] at this
  exact cut_of hk this
theorem Found.cut_lt {c : List Ver} {t : Int} {k : Nat} (hs : Srt c) (h : Found c t (k + 1)) (hn : ¬ ∃ hk : k + 1 < c.length, c[k + 1].at_ = t) : cutL c t = if (c[k]'(by have := h.le; omega)).gone then c.drop (k + 1) else c.drop k := by
  have := h.upto hs
  rw [if_neg hn] at this
  exact cut_of (by have := h.le; omega) this
theorem Found.cut_zero {c : List Ver} {t : Int} (hs : Srt c) (h : Found c t 0) (hn : ¬ ∃ hk : 0 < c.length, c[0].at_ = t) : cutL c t = c := by
  have := h.upto hs
  rw [if_neg hn] at this
  unfold cutL
  rw [this]
  rfl
end Go.Sm
/- Chains: the comparison, the search. -/
set_option linter.unusedVariables false
set_option linter.unusedSimpArgs false
namespace Go.Sm
open Go Go.Proofs
set_option maxRecDepth 100000
set_option maxHeartbeats 1000000
def encV (v : Ver) : List Value := [.int .u64 v.at_, .string v.val, .bool v.gone]
def ordV (t : Int) (v : Ver) : Int := if v.at_ < t then -1 else if t < v.at_ then 1 else 0
theorem order_spec (t : Int) (v : Ver) (σ : CSt) (Q : Out → CSt → Prop) (h : ∀ σ', Grow σ σ' → Q (.ret (.int .i64 (ordV t v)) false) σ') : W E1 (.fn 46 #[.agg (encV v).toArray, .int .u64 t] none) σ Q := by
  rw [W_fn (fn := Tryz.f46) Tryz.func46 rfl rfl rfl]
  have hg := h _ ((Grow.refl σ).alloc (CObj.cells (encV v) 29 false))
  simp only [encV, ordV] at hg
  simp [wops_cons, encV]
  by_cases h1 : v.at_ < t
  · simpa [h1] using hg
  · by_cases h2 : t < v.at_
    · simpa [h1, h2] using hg
    · simpa [h1, h2] using hg
theorem mid_eq (lo hi : Int) (h1 : 0 ≤ lo) (h2 : lo < hi) (h3 : hi < 2 ^ 62) : IntKind.i64.wrap ((IntKind.u64.wrap (IntKind.i64.wrap (lo + hi))).fdiv (2 ^ min 1 IntKind.u64.bits)) = (lo + hi) / 2 := by
  rw [IntWalk.i64_in (lo + hi) (by omega), IntWalk.u64_in _ (by omega)]
  have : (2 ^ min 1 IntKind.u64.bits : Int) = 2 := by decide
  rw [this, Int.fdiv_eq_ediv_of_nonneg _ (by omega), IntWalk.i64_in _ (by omega)]
theorem search_29 (l : List Ver) (v key : Value) (hkey : flat0 key = true) (ord : Ver → Int) (σ : CSt) (hsl : Sl σ 29 3 encV v l) (hbig : l.length < 2 ^ 40)
    (hcmp : ∀ (x : Ver) (σ : CSt) (Q : Out → CSt → Prop), (∀ σ', Grow σ σ' → Q (.ret (.int .i64 (ord x)) false) σ') → W E1 (.fn 46 #[.agg (encV x).toArray, key] none) σ Q)
    (hmono : ∀ j k (hj : j < l.length) (hk : k < l.length), j < k → ord l[k] < 0 → ord l[j] < 0) (Q : Out → CSt → Prop)
    (h : ∀ (k : Nat) (σ' : CSt), Cut ord l k → Grow σ σ' → Q (.ret (.tuple #[.int .i64 k, .bool (decide (∃ h : k < l.length, ord l[k] = 0))]) false) σ') :
    W E1 (.fn 45 #[v, key, .func (.func 46) #[] #[]] none) σ Q := by
  rw [W_fn (fn := Tryz.f45) Tryz.func45 rfl rfl rfl]
  rcases hsl with ⟨rfl, rfl⟩ | ⟨i, off, cap, row, ro, rfl, hg, hin, hrow, hlen, hcap⟩
  · have := h 0 σ ⟨Nat.le_refl _, by simp, by simp⟩ (Grow.refl σ)
    simp [wops_cons]
    rw [W_loop]
    simp [wops_cons, wops_if', dstOf]
    have e : decide (∃ h : 0 < ([] : List Ver).length, ord ([] : List Ver)[0] = 0) = false := decide_eq_false fun ⟨h, _⟩ => absurd h (by simp)
    rw [e] at this
    exact this
  simp [wops_cons]
  refine W_loop_inv (fun n a σ' => ∃ tm lo hi, a = ⟨tm, 49, [], false⟩ ∧ tm.get 0 = some (.slice (some ⟨i, off, none⟩) l.length cap) ∧ tm.get 1 = some key ∧ tm.get 2 = some (.func (.func 46) #[] #[]) ∧ tm.get 8 = some (.int .i64 l.length) ∧ tm.get 9 = some (.int .i64 lo) ∧ tm.get 10 = some (.int .i64 hi) ∧
      (0 ≤ lo ∧ lo ≤ hi ∧ hi ≤ l.length ∧ n = (hi - lo).toNat ∧ (∀ j (h : j < l.length), (j : Int) < lo → ord l[j] < 0) ∧ (∀ j (h : j < l.length), hi ≤ j → 0 ≤ ord l[j])) ∧ Grow σ σ') ?_ l.length _ _ ?_
  · rintro n a σ' ⟨tm, lo, hi, rfl, h0, h1, h2, h8, h9, h10, ⟨hlo, hlh, hhi, hn, hl, hr⟩, hgr⟩
    have hgi := hgr.get hg hin
    by_cases hlt : lo < hi
    · have hm := mid_eq lo hi hlo hlt (by omega)
      obtain ⟨m, hmm⟩ : ∃ m : Nat, (lo + hi) / 2 = m := ⟨((lo + hi) / 2).toNat, by omega⟩
      have hm1 : m < l.length := by omega
      have hm2 : lo ≤ m ∧ (m : Int) < hi := by omega
      rw [hmm] at hm
      have hld := row_get (enc := encV) (fun _ => rfl) hrow m hm1
      have hle := row_le hlen m hm1
      have hw := i64n1 m (by omega)
      simp [wops_cons, h0, h1, h2, h8, h9, h10, hlt, hm, hm1, hgi, hld, hle, -List.length_flatMap]
      refine hcmp _ _ _ fun σ'' hgr2 => ?_
      by_cases hc : ord l[m] < 0
      · simp [wops_cons, hc, hw]
        refine ⟨_, ?_, h0, h1, h2, h8, hi, h10, ⟨by omega, by omega, hhi, rfl, fun j hjl hj => ?_, hr⟩, hgr.trans hgr2⟩
        · omega
        · by_cases hj' : j = m
          · subst hj'; exact hc
          · exact hmono j m hjl hm1 (by omega) hc
      · simp [wops_cons, hc]
        refine ⟨_, ?_, h0, h1, h2, h8, lo, h9, ⟨hlo, by omega, by omega, rfl, hl, fun j hjl hj => ?_⟩, hgr.trans hgr2⟩
        · omega
        · by_cases hj' : j = m
          · subst hj'; omega
          · have := hmono m j hm1 hjl (by omega)
            omega
    · obtain ⟨k, rfl⟩ := Int.eq_ofNat_of_zero_le hlo
      have hk : hi = k := by omega
      have hcut : Cut ord l k := ⟨by omega, fun j hj h => hl j hj (by omega), fun j hj h => hr j hj (by omega)⟩
      by_cases hkl : k < l.length
      · have hld := row_get (enc := encV) (fun _ => rfl) hrow k hkl
        have hle := row_le hlen k hkl
        simp [wops_cons, wops_if', dstOf, h0, h1, h2, h8, h9, h10, hlt, hkl, hgi, hld, hle, -List.length_flatMap]
        refine hcmp _ _ _ fun σ'' hgr2 => ?_
        have := h k σ'' hcut (hgr.trans hgr2)
        simp [wops_cons, wops_if', dstOf, hkl] at this ⊢
        exact this
      · have := h k σ' hcut hgr
        simp [wops_cons, wops_if', dstOf, h0, h1, h2, h8, h9, h10, hlt, hkl] at this ⊢
        exact this
  · refine ⟨_, 0, l.length, rfl, ?_⟩
    simp
    exact ⟨⟨fun j _ h => by omega, fun j h1 h2 => by omega⟩, Grow.refl σ⟩

end Go.Sm
/- Chains: copies, a version more. -/
set_option linter.unusedVariables false
set_option linter.unusedSimpArgs false
namespace Go.Sm
open Go Go.Proofs
set_option maxRecDepth 100000
set_option maxHeartbeats 1000000
theorem clone_29 (l : List Ver) (v : Value) (σ : CSt) (hsl : Sl σ 29 3 encV v l) (hbig : l.length < 2 ^ 40) (Q : Out → CSt → Prop)
    (h : ∀ (v' : Value) (σ' : CSt), Own σ.n σ' 29 encV v' l → Grow σ σ' → Q (.ret v' false) σ') : W E1 (.fn 18 #[v] none) σ Q := by
  rw [W_fn (fn := Tryz.f18) Tryz.func18 rfl rfl rfl]
  have h0 : (0 : Nat) ≠ openCap := by simp [openCap]
  rcases hsl with ⟨rfl, rfl⟩ | ⟨i, off, cap, row, ro, rfl, hg, hin, hrow, hlen, hcap⟩
  · have := h _ σ Own.nil (Grow.refl σ)
    simpa [wops_cons] using this
  by_cases hl : l.length = 0
  · have hnil : l = [] := List.eq_nil_of_length_eq_zero hl
    subst hnil
    have := h (.slice (some ⟨σ.n, 0, none⟩) 0 0) (σ.alloc (.cells [] 29 false)) (.inr ⟨σ.n, 0, rfl, Nat.le_refl _, by simp, by simp, .inr ⟨rfl, rfl⟩⟩) ((Grow.refl σ).alloc _)
    have hin' : ¬ i = σ.n := by omega
    have hoff : off ≤ row.length := by simp at hlen; omega
    simpa [wops_cons, appendOp_K, appK, appendF, hg, h0, hin', hoff] using this
  · have hn0 : ¬ l = [] := by rintro rfl; simp at hl
    have hb : l.length * 32 ≤ 140737488355328 := by omega
    have hrl : ((l.flatMap encV).length : Nat) = l.length * 3 := enc_length encV (fun _ => rfl) l
    have hck : cokL (l.flatMap encV) = true := cokL_enc (fun _ => rfl) l
    have := h (.slice (some ⟨σ.n + 1, 0, none⟩) l.length openCap) ((σ.alloc (.cells [] 29 false)).alloc (.cells (l.flatMap encV) 29 false))
      (.inr ⟨σ.n + 1, openCap, rfl, by omega, by simp, by simp, .inl rfl⟩) (((Grow.refl σ).alloc _).alloc _)
    have hin' : ¬ i = σ.n := by omega
    simpa [wops_cons, appendOp_K, appK, appendF, hg, h0, hin', hlen, hrow, hrl, hl, hb, hck, hn0, -List.length_flatMap] using this
theorem ins_own_29 (b : Nat) (l : List Ver) (x : Ver) (a : Nat) (ha : a ≤ l.length) (v : Value) (σ : CSt) (hb : b ≤ σ.n) (hown : Own b σ 29 encV v l) (j : Nat) (hj : σ.get j = some (.cells (encV x) 29 false))
    (hji : ∀ i off n c, v = .slice (some ⟨i, off, none⟩) n c → i ≠ j) (hbig : l.length < 2 ^ 40) (Q : Out → CSt → Prop)
    (h : ∀ (v' : Value) (σ' : CSt), Own b σ' 29 encV v' (l.take a ++ x :: l.drop a) → GrowB b σ σ' → Q (.ret v' false) σ') :
    W E1 (.fn 47 #[v, .int .i64 a, .slice (some ⟨j, 0, none⟩) 1 1] none) σ Q := by
  have hxl : (encV x).length = 3 := rfl
  rcases hown with ⟨rfl, rfl⟩ | ⟨i, cap, rfl, hbi, hin, hg, hcap⟩
  · have ha0 : a = 0 := by simpa using ha
    subst ha0
    rw [Int.natCast_zero, W_gam (E := E1) (f := 47) (g := insG 29 3 32) rfl rfl (v := .slice (some ⟨σ.n, 0, none⟩) 1 openCap) (σ' := σ.alloc (.cells (encV x) 29 false)) (insG_nil hj rfl rfl (by omega))]
    exact h _ _ (.inr ⟨σ.n, openCap, rfl, hb, by simp, by simp, .inl rfl⟩) ((GrowB.refl b σ).alloc hb _)
  · have hij := hji i 0 _ _ rfl
    have hrl : (l.flatMap encV).length = l.length * 3 := enc_length encV (fun _ => rfl) l
    have hck : cokL (l.flatMap encV) = true := cokL_enc (fun _ => rfl) l
    rcases hcap with rfl | ⟨rfl, rfl⟩
    · have he := insRow_enc (enc := encV) (l := l) (sz := 3) (fun _ => rfl) a ha x
      rw [W_gam (E := E1) (f := 47) (g := insG 29 3 32) rfl rfl (v := .slice (some ⟨σ.n, 0, none⟩) (l.length + 1) openCap) (σ' := (σ.put i .dead).alloc (.cells ((l.take a ++ x :: l.drop a).flatMap encV) 29 false)) (by
        rw [insG_some (sz := 3) hg hj rfl rfl (by omega) (by omega) hij (by omega) (cokL_take hck _) (by omega) (by omega) hbig, if_pos rfl, ← he]
        rfl)]
      refine h _ _ (.inr ⟨σ.n, openCap, ?_, hb, by simp, by simp, .inl rfl⟩) (((GrowB.refl b σ).put hbi _).alloc hb _)
      have : (l.take a ++ x :: l.drop a).length = l.length + 1 := by simp; omega
      rw [this]
    · have ha0 : a = 0 := by simpa using ha
      subst ha0
      rw [Int.natCast_zero, W_gam (E := E1) (f := 47) (g := insG 29 3 32) rfl rfl (v := .slice (some ⟨σ.n, 0, none⟩) 1 openCap) (σ' := σ.alloc (.cells (encV x) 29 false)) (by
        have hg' : σ.get i = some (.cells [] 29 false) := hg
        exact (insG_some (sz := 3) (n := 0) hg' hj rfl rfl (by omega) (by omega) hij (by simp) (by simp) (by omega) (by omega) (by omega)).trans ((if_neg (by simp [openCap])).trans (if_pos ⟨rfl, rfl⟩)))]
      exact h _ _ (.inr ⟨σ.n, openCap, rfl, hb, by simp, by simp, .inl rfl⟩) ((GrowB.refl b σ).alloc hb _)

end Go.Sm
/- Chains: Put, At, Purge. -/
set_option linter.unusedVariables false
set_option linter.unusedSimpArgs false
namespace Go.Sm
open Go Go.Proofs
set_option maxRecDepth 100000
set_option maxHeartbeats 1000000
theorem ordV_lt (t : Int) (v : Ver) : ordV t v < 0 ↔ v.at_ < t := by
  unfold ordV
  by_cases h1 : v.at_ < t
  · simp [h1]
  · by_cases h2 : t < v.at_ <;> simp [h1, h2]
theorem ordV_eq (t : Int) (v : Ver) : ordV t v = 0 ↔ v.at_ = t := by
  unfold ordV
  by_cases h1 : v.at_ < t
  · simp [h1]; omega
  · by_cases h2 : t < v.at_
    · simp [h1, h2]; omega
    · simp [h1, h2]; omega
theorem Cut.found {c : List Ver} {t : Int} {k : Nat} (h : Cut (ordV t) c k) : Found c t k := by
  refine ⟨h.le, fun v hv => ?_, fun v hv => ?_⟩
  · obtain ⟨j, hj, rfl⟩ := List.mem_iff_getElem.1 hv
    simp only [List.length_take] at hj
    have := h.lo j (by omega) (by omega)
    rw [ordV_lt] at this
    simpa using this
  · obtain ⟨j, hj, rfl⟩ := List.mem_iff_getElem.1 hv
    simp only [List.length_drop] at hj
    have := h.hi (k + j) (by omega) (by omega)
    simp only [List.getElem_drop]
    have h2 := ordV_lt t c[k + j]
    omega
theorem Srt.get_lt {c : List Ver} (h : Srt c) {j k : Nat} (hj : j < c.length) (hk : k < c.length) (hjk : j < k) : c[j].at_ < c[k].at_ := List.pairwise_iff_getElem.1 h j k hj hk hjk
theorem Srt.mono {c : List Ver} (h : Srt c) (t : Int) : ∀ j k (hj : j < c.length) (hk : k < c.length), j < k → ordV t c[k] < 0 → ordV t c[j] < 0 := by
  intro j k hj hk hjk ho
  rw [ordV_lt] at ho ⊢
  have := h.get_lt hj hk hjk
  omega
/-- Where a version of a time stands. -/
theorem find_chain (c : List Ver) (hs : Srt c) (v : Value) (t : Int) (σ : CSt) (hsl : Sl σ 29 3 encV v c) (hbig : c.length < 2 ^ 40) (Q : Out → CSt → Prop)
    (h : ∀ (k : Nat) (σ' : CSt), Found c t k → Grow σ σ' → Q (.ret (.tuple #[.int .i64 k, .bool (decide (∃ h : k < c.length, c[k].at_ = t))]) false) σ') :
    W E1 (.fn 45 #[v, .int .u64 t, .func (.func 46) #[] #[]] none) σ Q := by
  refine search_29 c v _ rfl (ordV t) σ hsl hbig (fun x σ Q h => order_spec t x σ Q h) (hs.mono t) Q fun k σ' hc hg => ?_
  have := h k σ' hc.found hg
  simpa only [ordV_eq] using this
theorem put_spec (c : List Ver) (hs : Srt c) (v : Value) (x : Ver) (σ : CSt) (hsl : Sl σ 29 3 encV v c) (hbig : c.length < 2 ^ 39) (Q : Out → CSt → Prop)
    (h : ∀ (v' : Value) (σ' : CSt), Own σ.n σ' 29 encV v' (putL c x) → Grow σ σ' → Q (.ret v' false) σ') : W E1 (.fn 19 #[v, .agg (encV x).toArray] none) σ Q := by
  rw [W_fn (fn := Tryz.f19) Tryz.func19 rfl rfl rfl]
  simp [wops_cons, encV]
  refine find_chain c hs v x.at_ _ (hsl.grow ((Grow.refl σ).alloc _)) (by omega) _ fun k σ1 hf hg1 => ?_
  have hg1' : Grow σ σ1 := ((Grow.refl σ).alloc _).trans hg1
  have hb1 : σ1.get σ.n = some (.cells (encV x) 29 false) := hg1.get (by simp [encV]) (by simp)
  simp [wops_cons]
  refine clone_29 c v σ1 (hsl.grow hg1') (by omega) _ fun v2 σ2 hown hg2 => ?_
  have hb2 : σ2.get σ.n = some (.cells (encV x) 29 false) := hg2.get hb1 (by have := hg1.n; simp at this; omega)
  have hn1 : σ.n + 1 ≤ σ1.n := by have := hg1.n; simpa using this
  have hg2' := hg1'.trans hg2
  by_cases hfo : ∃ hk : k < c.length, c[k].at_ = x.at_
  · obtain ⟨hk, he⟩ := hfo
    rw [decide_eq_true ⟨hk, he⟩]
    rcases hown with ⟨rfl, rfl⟩ | ⟨i, cap, rfl, hbi, hin, hgi, hcap⟩
    · simp at hk
    · have hki : (k : Int) < c.length := by omega
      have hlen : k * 3 + 3 ≤ (c.flatMap encV).length := by rw [enc_length encV (n := 3) (fun _ => rfl)]; omega
      have hset := enc_set encV (n := 3) (fun _ => rfl) c k x hk
      simp only [encV] at hset hb2
      simp [wops_cons, hgi, hk, hb2, hlen, -List.length_flatMap, -List.append_assoc, -List.cons_append]
      rw [hset]
      rw [hf.put_set hs hk he] at h
      have hl : (c.set k x).length = c.length := by simp
      refine h _ _ (.inr ⟨i, cap, by rw [hl], by omega, by simpa using hin, by simp, ?_⟩) (hg2'.put (by omega) _)
      rcases hcap with rfl | ⟨rfl, rfl⟩
      · exact .inl rfl
      · simp at hk
  · rw [decide_eq_false hfo]
    simp only [encV] at hb2
    simp [wops_cons, hb2]
    rw [hf.put_ins hs (fun hk he => hfo ⟨hk, he⟩)] at h
    have hji : ∀ i off n c, v2 = .slice (some ⟨i, off, none⟩) n c → i ≠ σ2.n := by
      rintro i off n c rfl
      rcases hown with ⟨h0, _⟩ | ⟨i', cap, h0, _, h1, _⟩
      · cases h0
      · cases h0; omega
    refine ins_own_29 σ1.n c x k hf.le v2 _ (by simp; have := hg2.n; omega) (hown.grow ((Grow.refl σ2).alloc _)) σ2.n (by simp [encV]) hji (by omega) _ fun v3 σ3 ho3 hg3 => ?_
    simp [wops_cons]
    refine h _ _ (ho3.weaken (by omega)) (Grow.thenB (hg2'.alloc _) hg3 (by omega))
/-- The last version up to a time; none. -/
def retV2 (o : Option Ver) : Value := match o with
  | some v => .tuple #[.agg (encV v).toArray, .bool true]
  | none => .tuple #[.agg #[.int .u64 0, .string ⟨#[]⟩, .bool false], .bool false]
theorem at_spec (c : List Ver) (hs : Srt c) (v : Value) (t : Int) (σ : CSt) (hsl : Sl σ 29 3 encV v c) (hbig : c.length < 2 ^ 39) (Q : Out → CSt → Prop)
    (h : ∀ (σ' : CSt), Grow σ σ' → Q (.ret (retV2 (atL c t)) false) σ') : W E1 (.fn 22 #[v, .int .u64 t] none) σ Q := by
  rw [W_fn (fn := Tryz.f22) Tryz.func22 rfl rfl rfl]
  simp [wops_cons]
  refine find_chain c hs v t _ (hsl.grow ((Grow.refl σ).alloc _)) (by omega) _ fun k σ1 hf hg1 => ?_
  have hg1' : Grow σ σ1 := ((Grow.refl σ).alloc _).trans hg1
  have hb1 := hg1.get (i := σ.n) (o := .cells [.int .u64 0, .string ⟨#[]⟩, .bool false] 29 false) (by simp) (by simp)
  have hsl1 := hsl.grow hg1'
  have fin := h _ (hg1'.put (Nat.le_refl σ.n) (.cells ((atL c t).elim [.int .u64 0, .string ⟨#[]⟩, .bool false] encV) 29 false))
  by_cases hfo : ∃ hk : k < c.length, c[k].at_ = t
  · rw [decide_eq_true hfo]
    obtain ⟨hk, he⟩ := hfo
    rw [hf.at_eq hs hk he] at fin
    rcases hsl1 with ⟨rfl, rfl⟩ | ⟨i, off, cap, row, ro, rfl, hg, hin, hrow, hlen, hcap⟩
    · simp at hk
    · have hld := row_get (enc := encV) (fun _ => rfl) hrow k hk
      have hle := row_le hlen k hk
      have hk0 : ¬ (k : Int) < 0 := by omega
      simp only [retV2, encV, Option.elim] at fin hld
      simpa [wops_cons, hg, hk, hk0, hld, hle, hb1] using fin
  · rw [decide_eq_false hfo]
    cases k with
    | zero =>
      rw [hf.at_zero hs hfo] at fin
      simp only [retV2, Option.elim] at fin
      have hw : IntKind.i64.wrap (-1) = -1 := by decide
      simpa [wops_cons, hb1, hw] using fin
    | succ k =>
      rw [hf.at_lt hs hfo] at fin
      have hk : k < c.length := by have := hf.le; omega
      rcases hsl1 with ⟨rfl, rfl⟩ | ⟨i, off, cap, row, ro, rfl, hg, hin, hrow, hlen, hcap⟩
      · simp at hk
      · have hld := row_get (enc := encV) (fun _ => rfl) hrow k hk
        have hle := row_le hlen k hk
        have hk0 : ¬ (k : Int) < 0 := by omega
        have hw := i64n k (by omega)
        simp only [retV2, encV, Option.elim] at fin hld
        simpa [wops_cons, hg, hk, hk0, hld, hle, hb1, hw] using fin
theorem purge_spec (c : List Ver) (hs : Srt c) (v : Value) (t : Int) (σ : CSt) (hsl : Sl σ 29 3 encV v c) (hbig : c.length < 2 ^ 39) (Q : Out → CSt → Prop)
    (h : ∀ (v' : Value) (σ' : CSt), Own σ.n σ' 29 encV v' (cutL c t) → Grow σ σ' → Q (.ret v' false) σ') : W E1 (.fn 21 #[v, .int .u64 t] none) σ Q := by
  rw [W_fn (fn := Tryz.f21) Tryz.func21 rfl rfl rfl]
  simp [wops_cons]
  refine find_chain c hs v t _ hsl (by omega) _ fun k σ1 hf hg1 => ?_
  have hsl1 := hsl.grow hg1
  -- behind the place
  have part : ∀ (m : Nat) (v' : Value), Sl σ1 29 3 encV v' (c.drop m) → cutL c t = c.drop m → W E1 (.fn 18 #[v'] none) σ1 (fun o σ' => ∃ v'', o = .ret v'' false ∧ Q (.ret v'' false) σ') := by
    intro m v' hsl' hc
    refine clone_29 (c.drop m) v' σ1 hsl' (by simp; omega) _ fun v2 σ2 hown hg2 => ⟨v2, rfl, ?_⟩
    rw [hc] at h
    exact h _ _ (hown.weaken hg1.n) (hg1.trans hg2)
  have go : ∀ (m : Nat) (v' : Value) (K : Out → CSt → Prop), Sl σ1 29 3 encV v' (c.drop m) → cutL c t = c.drop m → (∀ v'' σ', Q (.ret v'' false) σ' → K (.ret v'' false) σ') → W E1 (.fn 18 #[v'] none) σ1 K :=
    fun m v' K h1 h2 h3 => (part m v' h1 h2).weaken fun o s ⟨v'', e, hq⟩ => e ▸ h3 _ _ hq
  by_cases hfo : ∃ hk : k < c.length, c[k].at_ = t
  · rw [decide_eq_true hfo]
    obtain ⟨hk, he⟩ := hfo
    have hcut := hf.cut_eq hs hk he
    rcases hsl1 with ⟨rfl, rfl⟩ | ⟨i, off, cap, row, ro, rfl, hg, hin, hrow, hlen, hcap⟩
    · simp at hk
    · have hcell := row_cell (enc := encV) (fun _ => rfl) hrow k 2 hk (by omega)
      have hk0 : ¬ (k : Int) < 0 := by omega
      have hw := i64n1 k (by omega)
      have hw0 := i64n k (by omega)
      have hp : (0 : Int) ≤ (k : Int) + 1 ∧ ((k : Int) + 1).toNat = k + 1 := by omega
      have hsub : ∀ m, m ≤ c.length → ∀ cap', (cap' = openCap ∨ (c.length - m ≤ cap' ∧ cap' < openCap)) → ∀ off', (c.length - m = 0 ∨ off' = off + m * 3) → off' ≤ off + m * 3 → Sl σ1 29 3 encV (.slice (some ⟨i, off', none⟩) (c.length - m) cap') (c.drop m) := by
        intro m hm cap' hc' off' ho ho2
        have hml : m * 3 ≤ c.length * 3 := by omega
        refine .inr ⟨i, off', cap', row, ro, by simp, hg, hin, ?_, by simp; omega, by simpa using hc'⟩
        rcases ho with ho | rfl
        · rw [List.drop_of_length_le (by omega)]; simp
        · exact row_drop (enc := encV) (fun _ => rfl) hrow m hm
      simp only [encV] at hcell
      simp at hcell
      cases hgo : c[k].gone with
      | true =>
        rw [if_pos hgo] at hcut
        rw [hgo] at hcell
        rcases hcap with rfl | ⟨hc1, hc2⟩
        · simp [wops_cons, hg, hk, hk0, hcell, hw, hw0, hp, sliceOp_open, sliceO, Nat.succ_le_of_lt hk]
          exact go (k + 1) _ _ (hsub (k + 1) (by omega) _ (.inl rfl) _ (.inr rfl) (Nat.le_refl _)) hcut fun v'' σ' hq => by simpa [wops_cons] using hq
        · have hne : cap ≠ openCap := by omega
          have hq1 : k + 1 ≤ c.length ∧ c.length ≤ cap ∧ cap < openCap := by omega
          simp [wops_cons, hg, hk, hk0, hcell, hw, hw0, hp, sliceOp_cap, sliceC, hne, hq1]
          refine go (k + 1) _ _ (hsub (k + 1) (by omega) _ (.inr ⟨by omega, by omega⟩) _ ?_ ?_) hcut fun v'' σ' hq => by simpa [wops_cons] using hq
          · split
            · left; omega
            · right; rfl
          · split <;> omega
      | false =>
        rw [if_neg (by simp [hgo])] at hcut
        rw [hgo] at hcell
        rcases hcap with rfl | ⟨hc1, hc2⟩
        · simp [wops_cons, hg, hk, hk0, hcell, hw0, sliceOp_open, sliceO, Nat.le_of_lt hk]
          exact go k _ _ (hsub k (by omega) _ (.inl rfl) _ (.inr rfl) (Nat.le_refl _)) hcut fun v'' σ' hq => by simpa [wops_cons] using hq
        · have hne : cap ≠ openCap := by omega
          have hq1 : k ≤ c.length ∧ c.length ≤ cap ∧ cap < openCap := by omega
          simp [wops_cons, hg, hk, hk0, hcell, hw0, sliceOp_cap, sliceC, hne, hq1]
          refine go k _ _ (hsub k (by omega) _ (.inr ⟨by omega, by omega⟩) _ ?_ ?_) hcut fun v'' σ' hq => by simpa [wops_cons] using hq
          · split
            · left; omega
            · right; rfl
          · split <;> omega
  · rw [decide_eq_false hfo]
    cases k with
    | zero =>
      have hcut := hf.cut_zero hs hfo
      have hw : IntKind.i64.wrap (-1) = -1 := by decide
      simp [wops_cons, hw]
      exact go 0 v _ (by simpa using hsl1) (by simpa using hcut) fun v'' σ' hq => by simpa [wops_cons] using hq
    | succ k =>
      have hk : k < c.length := by have := hf.le; omega
      have hcut := hf.cut_lt hs hfo
      rcases hsl1 with ⟨rfl, rfl⟩ | ⟨i, off, cap, row, ro, rfl, hg, hin, hrow, hlen, hcap⟩
      · simp at hk
      · have hcell := row_cell (enc := encV) (fun _ => rfl) hrow k 2 hk (by omega)
        have hk0 : ¬ (k : Int) < 0 := by omega
        have hw := i64n1 k (by omega)
        have hw0 := i64n k (by omega)
        have hp : (0 : Int) ≤ (k : Int) + 1 ∧ ((k : Int) + 1).toNat = k + 1 := by omega
        have hsub : ∀ m, m ≤ c.length → ∀ cap', (cap' = openCap ∨ (c.length - m ≤ cap' ∧ cap' < openCap)) → ∀ off', (c.length - m = 0 ∨ off' = off + m * 3) → off' ≤ off + m * 3 → Sl σ1 29 3 encV (.slice (some ⟨i, off', none⟩) (c.length - m) cap') (c.drop m) := by
          intro m hm cap' hc' off' ho ho2
          have hml : m * 3 ≤ c.length * 3 := by omega
          refine .inr ⟨i, off', cap', row, ro, by simp, hg, hin, ?_, by simp; omega, by simpa using hc'⟩
          rcases ho with ho | rfl
          · rw [List.drop_of_length_le (by omega)]; simp
          · exact row_drop (enc := encV) (fun _ => rfl) hrow m hm
        simp only [encV] at hcell
        simp at hcell
        cases hgo : c[k].gone with
        | true =>
          rw [if_pos hgo] at hcut
          rw [hgo] at hcell
          rcases hcap with rfl | ⟨hc1, hc2⟩
          · simp [wops_cons, hg, hk, hk0, hcell, hw, hw0, hp, sliceOp_open, sliceO, Nat.succ_le_of_lt hk]
            exact go (k + 1) _ _ (hsub (k + 1) (by omega) _ (.inl rfl) _ (.inr rfl) (Nat.le_refl _)) hcut fun v'' σ' hq => by simpa [wops_cons] using hq
          · have hne : cap ≠ openCap := by omega
            have hq1 : k + 1 ≤ c.length ∧ c.length ≤ cap ∧ cap < openCap := by omega
            simp [wops_cons, hg, hk, hk0, hcell, hw, hw0, hp, sliceOp_cap, sliceC, hne, hq1]
            refine go (k + 1) _ _ (hsub (k + 1) (by omega) _ (.inr ⟨by omega, by omega⟩) _ ?_ ?_) hcut fun v'' σ' hq => by simpa [wops_cons] using hq
            · split
              · left; omega
              · right; rfl
            · split <;> omega
        | false =>
          rw [if_neg (by simp [hgo])] at hcut
          rw [hgo] at hcell
          rcases hcap with rfl | ⟨hc1, hc2⟩
          · simp [wops_cons, hg, hk, hk0, hcell, hw0, sliceOp_open, sliceO, Nat.le_of_lt hk]
            exact go k _ _ (hsub k (by omega) _ (.inl rfl) _ (.inr rfl) (Nat.le_refl _)) hcut fun v'' σ' hq => by simpa [wops_cons] using hq
          · have hne : cap ≠ openCap := by omega
            have hq1 : k ≤ c.length ∧ c.length ≤ cap ∧ cap < openCap := by omega
            simp [wops_cons, hg, hk, hk0, hcell, hw0, sliceOp_cap, sliceC, hne, hq1]
            refine go k _ _ (hsub k (by omega) _ (.inr ⟨by omega, by omega⟩) _ ?_ ?_) hcut fun v'' σ' hq => by simpa [wops_cons] using hq
            · split
              · left; omega
              · right; rfl
            · split <;> omega
end Go.Sm
/- Versions by small numbers; chains made of them; rows of versions compared. -/
set_option linter.unusedVariables false
set_option linter.unusedSimpArgs false
namespace Go.Sm
open Go Go.Proofs
set_option maxRecDepth 100000
set_option maxHeartbeats 1000000
structure VV where
  at_ : Int
  v : Int
  gone : Bool
def encU (x : VV) : List Value := [.int .u8 x.at_, .int .u8 x.v, .bool x.gone]
def nameOf : Nat → ByteArray
  | 0 => ⟨#[]⟩
  | 1 => ⟨#[120]⟩
  | 2 => ⟨#[121, 121]⟩
  | _ => ⟨#[118, 97, 108, 117, 101]⟩
def VV.ok (x : VV) : Prop := (0 ≤ x.at_ ∧ x.at_ < 256) ∧ 0 ≤ x.v ∧ x.v < 256
def verOf (x : VV) : Ver := if x.gone then ⟨x.at_, ⟨#[]⟩, true⟩ else ⟨x.at_, nameOf (x.v.tmod 4).toNat, false⟩
theorem verOf_at (x : VV) : (verOf x).at_ = x.at_ := by unfold verOf; split <;> rfl
theorem vmake_spec (x : VV) (hx : x.ok) (σ : CSt) (Q : Out → CSt → Prop) (h : ∀ σ', Grow σ σ' → Q (.ret (.agg (encV (verOf x)).toArray) false) σ') : W E1 (.fn 20 #[.agg (encU x).toArray] none) σ Q := by
  rw [W_fn (fn := Tryz.f20) Tryz.func20 rfl rfl rfl]
  obtain ⟨⟨ha0, ha1⟩, hv0, hv1⟩ := hx
  have hw : IntKind.u64.wrap x.at_ = x.at_ := IntWalk.u64_in _ (by omega)
  have g0 : Grow σ ((σ.alloc (.cells (encU x) 34 false)).alloc (.cells [.int .u64 0, .string ⟨#[]⟩, .bool false] 29 false)) := ((Grow.refl σ).alloc _).alloc _
  simp [wops_cons, encU]
  cases hgo : x.gone
  · simp
    refine W_drawn (l := [0, 1, 2, 4, 5, 6, 3, 7, 8, 9, 10]) (b := #[0, 1, 3, 0, 0, 16, 48, 120, 248, 511, 1023]) (by kernel_rfl) (by kernel_rfl) (by kernel_rfl) ?_
    have h1 : 0 ≤ x.v.tmod 4 := Int.tmod_nonneg 4 hv0
    have h2 : x.v.tmod 4 < 4 := Int.tmod_lt_of_pos x.v (by decide)
    obtain ⟨k, hk⟩ : ∃ k : Nat, x.v.tmod 4 = k := ⟨(x.v.tmod 4).toNat, by omega⟩
    have h4 : k < 4 := by omega
    have fin := fun g => h _ (((g0.alloc (.cells [.string ⟨#[]⟩, .string ⟨#[120]⟩, .string ⟨#[121, 121]⟩, .string ⟨#[118, 97, 108, 117, 101]⟩] 9 false))).put (i := σ.n + 1) (by omega) g)
    simp only [verOf, hgo, hk, Int.toNat_natCast, encV] at fin
    match k, hk, h4 with
    | 0, hk, _ =>
      have := fin (.cells [.int .u64 x.at_, .string ⟨#[]⟩, .bool false] 29 false)
      simpa [dopsR_cons, opAt, isEff, again, befBits, isRead, Nat.add_assoc, hk, hw, encU, nameOf, hgo] using this
    | 1, hk, _ =>
      have := fin (.cells [.int .u64 x.at_, .string ⟨#[120]⟩, .bool false] 29 false)
      simpa [dopsR_cons, opAt, isEff, again, befBits, isRead, Nat.add_assoc, hk, hw, encU, nameOf, hgo] using this
    | 2, hk, _ =>
      have := fin (.cells [.int .u64 x.at_, .string ⟨#[121, 121]⟩, .bool false] 29 false)
      simpa [dopsR_cons, opAt, isEff, again, befBits, isRead, Nat.add_assoc, hk, hw, encU, nameOf, hgo] using this
    | 3, hk, _ =>
      have := fin (.cells [.int .u64 x.at_, .string ⟨#[118, 97, 108, 117, 101]⟩, .bool false] 29 false)
      simpa [dopsR_cons, opAt, isEff, again, befBits, isRead, Nat.add_assoc, hk, hw, encU, nameOf, hgo] using this
  · have := h _ (g0.put (i := σ.n + 1) (by omega) (.cells [.int .u64 x.at_, .string ⟨#[]⟩, .bool true] 29 false))
    simp only [verOf, hgo, encV] at this
    simpa [wops_cons, hgo, hw, encU] using this
theorem kl_ver (v : Ver) : KL [.int .u64, .str, .bool] (encV v) := ⟨⟨_, rfl⟩, ⟨_, rfl⟩, ⟨_, rfl⟩, trivial⟩
theorem encV_inj {a b : Ver} : encV a = encV b ↔ a = b := by
  constructor
  · intro h
    cases a; cases b
    simp [encV] at h
    simp [h]
  · rintro rfl; rfl
theorem cmp_ver (a b : Ver) (σ : CSt) (x y : Operand) : binF Tryz.prog σ .eql 29 x y (.agg (encV a).toArray) (.agg (encV b).toArray) = .val (.bool (decide (a = b))) σ ∧ binF Tryz.prog σ .neq 29 x y (.agg (encV a).toArray) (.agg (encV b).toArray) = .val (.bool (!decide (a = b))) σ := by
  obtain ⟨c, h1, h2, h3⟩ := bin_struct (P := Tryz.prog) (f := 2) (t := 29) (ks := [.int .u64, .str, .bool]) (by kernel_rfl) (by kernel_rfl) (by omega) (by kernel_rfl) (by kernel_rfl) (kl_ver a) (kl_ver b) rfl rfl (σ := σ) (x := x) (y := y)
  have : c = decide (a = b) := by
    rw [encV_inj] at h3
    cases c <;> simp_all
  rw [h1, h2, this]
  exact ⟨rfl, rfl⟩
theorem neq_ver (a b : Ver) (σ : CSt) (x y : Operand) : binF Tryz.prog σ .neq 29 x y (.agg (encV a).toArray) (.agg (encV b).toArray) = .val (.bool (!decide (a = b))) σ := (cmp_ver a b σ x y).2
theorem make_len (l : List Ver) : (makeL l).length ≤ l.length := by
  refine rev_ind (P := fun l => (makeL l).length ≤ l.length) (by simp [makeL]) (fun l v ih => ?_) l
  rw [makeL_snoc]
  have h1 : (putL (makeL l) v).length ≤ (makeL l).length + 1 := by
    unfold putL
    have a := List.length_filter_le (fun u : Ver => decide (u.at_ < v.at_)) (makeL l)
    have : ∀ c : List Ver, (c.filter fun u => decide (u.at_ < v.at_)).length + (c.filter fun u => decide (v.at_ < u.at_)).length ≤ c.length := by
      intro c
      induction c with
      | nil => simp
      | cons x c ih =>
        simp only [List.filter_cons]
        by_cases h1 : x.at_ < v.at_
        · have h2 : ¬ v.at_ < x.at_ := by omega
          simp [h1, h2]; omega
        · by_cases h2 : v.at_ < x.at_
          · simp [h1, h2]; omega
          · simp [h1, h2]; omega
    have := this (makeL l)
    simp
    omega
  simp
  omega
/-- Make: a chain of versions, put one after the other. -/
theorem make_spec (l : List VV) (hok : ∀ x ∈ l, x.ok) (v : Value) (σ : CSt) (hsl : Sl σ 34 3 encU v l) (hbig : l.length < 2 ^ 38) (Q : Out → CSt → Prop)
    (h : ∀ (v' : Value) (σ' : CSt), Sl σ' 29 3 encV v' (makeL (l.map verOf)) → Grow σ σ' → Q (.ret v' false) σ') : W E1 (.fn 16 #[v] none) σ Q := by
  rw [W_fn (fn := Tryz.f16) Tryz.func16 rfl rfl rfl]
  rcases hsl with ⟨rfl, rfl⟩ | ⟨i, off, cap, row, ro, rfl, hg, hin, hrow, hle, hcap⟩
  · have := h _ σ Sl.nil (Grow.refl σ)
    simp [wops_cons]
    rw [W_loop]
    simpa [wops_cons] using this
  simp [wops_cons]
  refine W_loop_inv (fun n a σ' => ∃ tm k v', a = ⟨tm, 18, [], false⟩ ∧ tm.get 6 = some (.slice (some ⟨i, off, none⟩) l.length cap) ∧ tm.get 7 = some (.int .i64 l.length) ∧ tm.get 8 = some (.int .i64 (k : Nat)) ∧ tm.get 3 = some v' ∧ k ≤ l.length ∧ n = l.length - k ∧ Sl σ' 29 3 encV v' (makeL ((l.map verOf).take k)) ∧ Grow σ σ') ?_ l.length _ _ ?_
  · rintro n a σ' ⟨tm, k, v', rfl, h6, h7, h8, h3, hk, hn, hs, hgr⟩
    have hgi := hgr.get hg hin
    by_cases hlt : k < l.length
    · have hld := row_get (enc := encU) (fun _ => rfl) hrow k hlt
      have hl1 := row_le hle k hlt
      have hw := i64n1 k (by omega)
      simp [wops_cons, h6, h7, h8, h3, hlt, hgi, hld, hl1]
      simp [wops_cons, encU, h3]
      have hx := vmake_spec l[k] (hok _ (List.getElem_mem hlt))
      simp only [encU] at hx
      have hg2 : Grow σ' ((σ'.alloc (.cells [.int .u8 0, .int .u8 0, .bool false] 34 false)).put σ'.n (.cells [.int .u8 l[k].at_, .int .u8 l[k].v, .bool l[k].gone] 34 false)) := ((Grow.refl σ').alloc _).put (Nat.le_refl _) _
      refine hx _ _ fun σ2 hg3 => ?_
      have hg4 := hg2.trans hg3
      simp [wops_cons, h3]
      have hml := make_len ((l.map verOf).take k)
      refine put_spec _ (makeL_srt _) v' _ σ2 (hs.grow hg4) (by simp only [List.length_take, List.length_map] at hml; omega) _ fun v2 σ3 hown hg5 => ?_
      simp [wops_cons, h8, hw]
      refine ⟨_, ?_, h6, h7, k + 1, by simp, by omega, rfl, ?_, (hgr.trans hg4).trans hg5⟩
      · omega
      · have : (l.map verOf).take (k + 1) = (l.map verOf).take k ++ [verOf l[k]] := by rw [List.take_succ_eq_append_getElem (by simpa using hlt)]; simp
        rw [this, makeL_snoc]
        exact hown.sl (fun _ => rfl)
    · have hkl : k = l.length := by omega
      have := h v' σ' (by rw [hkl, List.take_of_length_le (by simp)] at hs; exact hs) hgr
      simpa [wops_cons, h7, h8, h3, hlt] using this
  · refine ⟨_, 0, .slice none 0 0, rfl, ?_⟩
    simp
    exact ⟨Sl.nil, Grow.refl σ⟩
/-- slices.Equal of two rows of versions. -/
theorem equal_ch (l m : List Ver) (v u : Value) (σ : CSt) (hsl : Sl σ 29 3 encV v l) (hsm : Sl σ 29 3 encV u m) (hbig : l.length < 2 ^ 40) (Q : Out → CSt → Prop)
    (h : ∀ (σ' : CSt), Grow σ σ' → Q (.ret (.bool (decide (l = m))) false) σ') : W E1 (.fn 15 #[v, u] none) σ Q := by
  rw [W_fn (fn := Tryz.f15) Tryz.func15 rfl rfl rfl]
  by_cases hlen : l.length = m.length
  · rcases hsl with ⟨rfl, rfl⟩ | ⟨i, off, cap, row, ro, rfl, hg, hin, hrow, hle, hcap⟩
    · have hm : m = [] := List.eq_nil_of_length_eq_zero hlen.symm
      subst hm
      have hu : ∃ p c, u = .slice p 0 c := by
        rcases hsm with ⟨rfl, _⟩ | ⟨i2, off2, cap2, row2, ro2, rfl, _⟩
        · exact ⟨_, _, rfl⟩
        · exact ⟨_, _, rfl⟩
      obtain ⟨p, c, rfl⟩ := hu
      have := h σ (Grow.refl σ)
      simp [wops_cons]
      rw [W_loop]
      simpa [wops_cons] using this
    rcases hsm with ⟨rfl, rfl⟩ | ⟨i2, off2, cap2, row2, ro2, rfl, hg2, hin2, hrow2, hle2, hcap2⟩
    · have hl : l = [] := List.eq_nil_of_length_eq_zero hlen
      subst hl
      have := h σ (Grow.refl σ)
      simp [wops_cons]
      rw [W_loop]
      simpa [wops_cons] using this
    simp [wops_cons, hlen]
    refine W_loop_inv (fun n a σ' => ∃ tm k, a = ⟨tm, 26, [], false⟩ ∧ tm.get 0 = some (.slice (some ⟨i, off, none⟩) l.length cap) ∧ tm.get 1 = some (.slice (some ⟨i2, off2, none⟩) m.length cap2) ∧ tm.get 12 = some (.int .i64 l.length) ∧ tm.get 13 = some (.int .i64 (k : Nat)) ∧ tm.get 4 = some (.bool false) ∧ k ≤ l.length ∧ n = l.length - k ∧ l.take k = m.take k ∧ Grow σ σ') ?_ l.length _ _ ?_
    · rintro n a σ' ⟨tm, k, rfl, h0, h1, h12, h13, h4, hk, hn, htk, hgr⟩
      have hgi := hgr.get hg hin
      have hgi2 := hgr.get hg2 hin2
      by_cases hlt : k < l.length
      · have hlt2 : k < m.length := by omega
        have hld := row_get (enc := encV) (fun _ => rfl) hrow k hlt
        have hl1 := row_le hle k hlt
        have hld2 := row_get (enc := encV) (fun _ => rfl) hrow2 k hlt2
        have hl2 := row_le hle2 k hlt2
        have hw := i64n1 k (by omega)
        have hneq := neq_ver l[k] m[k]
        simp [wops_cons, h0, h1, h12, h13, h4, hlt]
        refine W_calm (by kernel_rfl) ?_
        simp [dops_cons, h0, h1, h12, h13, h4, hlt, hlt2, hgi, hgi2, hld, hld2, hl1, hl2, hneq]
        by_cases he : l[k] = m[k]
        · simp [wops_cons, he, h13, hw]
          refine ⟨_, ?_, h0, h1, h12, k + 1, by simp, h4, by omega, rfl, ?_, hgr⟩
          · omega
          · rw [List.take_succ_eq_append_getElem hlt, List.take_succ_eq_append_getElem hlt2, htk, he]
        · have hne : l ≠ m := by rintro rfl; exact he rfl
          have := h σ' hgr
          rw [decide_eq_false hne] at this
          simpa [wops_cons, he] using this
      · have hkl : k = l.length := by omega
        have he : l = m := by
          have := htk
          rwa [List.take_of_length_le (by omega), List.take_of_length_le (by omega)] at this
        have := h σ' hgr
        rw [decide_eq_true he] at this
        simpa [wops_cons, h12, h13, hlt] using this
    · refine ⟨_, 0, rfl, ?_⟩
      simp [hlen]
      exact Grow.refl σ
  · have hu : ∀ {x : Value} {l : List Ver}, Sl σ 29 3 encV x l → ∃ p c, x = .slice p l.length c := by
      rintro x l (⟨rfl, rfl⟩ | ⟨i, off, cap, row, ro, rfl, _⟩)
      · exact ⟨_, _, rfl⟩
      · exact ⟨_, _, rfl⟩
    obtain ⟨p, c, rfl⟩ := hu hsl
    obtain ⟨p', c', rfl⟩ := hu hsm
    have hne : l ≠ m := by rintro rfl; exact hlen rfl
    have := h σ (Grow.refl σ)
    rw [decide_eq_false hne] at this
    have hi : ¬ ((l.length : Int) = m.length) := by omega
    simpa [wops_cons, hi] using this

end Go.Sm
/- Plain: the chain by definition. -/
set_option linter.unusedVariables false
set_option linter.unusedSimpArgs false
namespace Go.Sm
open Go Go.Proofs
set_option maxRecDepth 100000
set_option maxHeartbeats 2000000
def encO (o : Option Ver) : List Value := match o with | some v => encV v | none => [.int .u64 0, .string ⟨#[]⟩, .bool false]
def partL (L : List Ver) (k : Nat) : List Ver := (List.range k).filterMap fun t : Nat => lastAt L t
theorem partL_succ (L : List Ver) (k : Nat) : partL L (k + 1) = partL L k ++ (lastAt L k).toList := by
  simp only [partL, List.range_succ, List.filterMap_append]
  cases h : lastAt L (k : Int) <;> simp [h]
theorem partL_len (L : List Ver) (k : Nat) : (partL L k).length ≤ k := by
  have := List.length_filterMap_le (fun t : Nat => lastAt L t) (List.range k)
  simpa [partL] using this
theorem plain_spec (l : List VV) (hok : ∀ x ∈ l, x.ok) (v : Value) (σ : CSt) (hsl : Sl σ 34 3 encU v l) (hbig : l.length < 2 ^ 38) (Q : Out → CSt → Prop)
    (h : ∀ (v' : Value) (σ' : CSt), Own σ.n σ' 29 encV v' (plainL (l.map verOf)) → Grow σ σ' → Q (.ret v' false) σ') : W E1 (.fn 17 #[v] none) σ Q := by
  rw [W_fn (fn := Tryz.f17) Tryz.func17 rfl rfl rfl]
  obtain ⟨p, c, rfl⟩ := hsl.form
  simp [wops_cons]
  refine W_loop_inv (fun n a σ' => ∃ tm k v', a = ⟨tm, 33, [], false⟩ ∧ tm.get 0 = some (.slice p l.length c) ∧ tm.get 3 = some v' ∧ tm.get 9 = some (.int .i64 (k : Nat)) ∧ k ≤ 256 ∧ n = 256 - k ∧ Own σ.n σ' 29 encV v' (partL (l.map verOf) k) ∧ Grow σ σ') ?_ 256 _ _ ?_
  · rintro n a σ1 ⟨tm, k, v1, rfl, h0, h3, h9, hk, hn, hown, hgr⟩
    by_cases hlt : k < 256
    · have hk2 : (k : Int) < 256 := by omega
      have hw := i64n1 k (by omega)
      simp [wops_cons, h0, h3, h9, hk2]
      refine W_loop_inv (fun n2 a σ2 => ∃ tm j, a = ⟨tm, 33, [], false⟩ ∧ tm.get 0 = some (.slice p l.length c) ∧ tm.get 3 = some v1 ∧ tm.get 9 = some (.int .i64 (k : Nat)) ∧ tm.get 4 = some (.int .i64 (k : Nat)) ∧ tm.get 5 = some (.pointer (some ⟨σ1.n, 0, none⟩)) ∧
        tm.get 6 = some (.bool (lastAt ((l.map verOf).take j) k).isSome) ∧ tm.get 12 = some (.slice p l.length c) ∧ tm.get 13 = some (.int .i64 l.length) ∧ tm.get 14 = some (.int .i64 (j : Nat)) ∧ j ≤ l.length ∧ n2 = l.length - j ∧ σ2.get σ1.n = some (.cells (encO (lastAt ((l.map verOf).take j) k)) 29 false) ∧ σ1.n < σ2.n ∧ Grow σ1 σ2) ?_ l.length _ _ ?_
      · rintro n2 a σ2 ⟨tm, j, rfl, h0, h3, h9, h4, h5, h6, h12, h13, h14, hj, hn2, hlast, hln, hg2⟩
        by_cases hjl : j < l.length
        · obtain ⟨i, off, row, ro, rfl, hg, hin, hrow, hle⟩ := hsl.at hjl
          have hgi := (hgr.trans hg2).get hg hin
          have hld := row_get (enc := encU) (fun _ => rfl) hrow j hjl
          have hl1 := row_le hle j hjl
          have hw2 := i64n1 j (by omega)
          have hx := hok _ (List.getElem_mem hjl)
          have hwc : IntKind.i64.wrap l[j].at_ = l[j].at_ := IntWalk.i64_in _ (by have := hx.1; omega)
          have hne : ¬ (σ1.n = σ2.n) := by omega
          have hsn : (l.map verOf).take (j + 1) = (l.map verOf).take j ++ [verOf l[j]] := by rw [List.take_succ_eq_append_getElem (by simpa using hjl)]; simp
          simp [wops_cons, h0, h3, h9, h4, h5, h6, h12, h13, h14, hjl, hgi, hld, hl1]
          have hgw : Grow σ2 ((σ2.alloc (.cells [.int .u8 0, .int .u8 0, .bool false] 34 false)).put σ2.n (.cells [.int .u8 l[j].at_, .int .u8 l[j].v, .bool l[j].gone] 34 false)) := ((Grow.refl σ2).alloc _).put (Nat.le_refl _) _
          by_cases hat : l[j].at_ = k
          · simp [wops_cons, encU, h0, h3, h9, h4, h5, h6, h12, h13, h14, hwc, hat, i64n k (by omega)]
            have hv := vmake_spec l[j] hx
            simp only [encU, hat] at hv
            simp only [hat] at hgw
            refine hv _ _ fun σ3 hg3 => ?_
            have hg4 := hgw.trans hg3
            have hl3 := hg4.get hlast hln
            have hfin : lastAt ((l.map verOf).take (j + 1)) k = some (verOf l[j]) := by rw [hsn, lastAt_snoc, if_pos (by rw [verOf_at]; exact hat)]
            have hcl : (encO (lastAt ((l.map verOf).take j) k)).length = 3 := by cases lastAt ((l.map verOf).take j) k <;> rfl
            simp [wops_cons, h0, h3, h9, h4, h5, h6, h12, h13, h14, hl3, hw2, encV, hcl]
            refine ⟨_, ?_, j + 1, ?_, rfl, by omega, rfl, ?_, ?_, ?_⟩
            · omega
            · rw [hfin]; rfl
            · rw [hfin, List.drop_of_length_le (by omega)]; rfl
            · have := hg4.n; omega
            · exact (hg2.trans hg4).put (by omega) _
          · have hfin : lastAt ((l.map verOf).take (j + 1)) k = lastAt ((l.map verOf).take j) k := by rw [hsn, lastAt_snoc, if_neg (by rw [verOf_at]; exact hat)]
            simp [wops_cons, encU, h0, h3, h9, h4, h5, h6, h12, h13, h14, hwc, hat, hw2]
            refine ⟨_, ?_, j + 1, by rw [hfin], rfl, by omega, rfl, ?_, by omega, hg2.trans hgw⟩
            · omega
            · simp [hne, hfin, hlast]
        · have hjl' : j = l.length := by omega
          subst hjl'
          have hall : (l.map verOf).take l.length = l.map verOf := List.take_of_length_le (by simp)
          rw [hall] at h6 hlast
          have hpl := partL_succ (l.map verOf) k
          simp [wops_cons, h0, h3, h9, h4, h5, h6, h12, h13, h14]
          cases hla : lastAt (l.map verOf) (k : Int) with
          | none =>
            rw [hla] at hpl hlast h6
            simp [wops_cons, h0, h3, h9, hw]
            refine ⟨_, ?_, k + 1, rfl, by omega, rfl, ?_, hgr.trans hg2⟩
            · omega
            · rw [hpl]; simpa using hown.grow hg2
          | some w =>
            rw [hla] at hpl hlast h6
            simp only [encO, encV] at hlast
            simp [wops_cons, h3, h5, hlast]
            have hb := partL_len (l.map verOf) k
            have hsx : Sl (σ2.alloc (.cells (encV w) 29 false)) 29 3 encV (.slice (some ⟨σ2.n, 0, none⟩) 1 1) [w] := Sl.all (l := [w]) (ro := false) (fun _ => rfl) (by simp) (by simp) (.inr ⟨by simp, by simp [openCap]⟩)
            obtain ⟨v', σ', he, hown', hg'⟩ := append_own (P := Tryz.prog) (ts := #[25, 25]) (e := 29) (sz := 3) (enc := encV) (l := partL (l.map verOf) k) (m := [w]) (b := σ.n) ef25 (by simp) (fun _ => rfl) (fun _ => rfl) rfl (by decide) (by decide) rfl ((hown.grow hg2).grow ((Grow.refl σ2).alloc _)) (by have := hgr.n; have := hg2.n; simp; omega) hsx (by simp; omega) (by omega)
            simp only [encV] at he
            rw [he]
            simp [wops_cons, h0, h9, hw]
            refine ⟨_, ?_, k + 1, rfl, by omega, rfl, ?_, ?_⟩
            · omega
            · rw [hpl]; exact hown'
            · exact Grow.thenB ((hgr.trans hg2).alloc _) hg' (Nat.le_refl _)
      · refine ⟨_, 0, rfl, ?_⟩
        simp [h0, h3, h9]
        have e0 : lastAt ([] : List Ver) (k : Int) = none := rfl
        rw [e0]
        exact ⟨rfl, rfl, (Grow.refl σ1).alloc _⟩
    · have hk256 : k = 256 := by omega
      subst hk256
      have := h v1 σ1 hown hgr
      simpa [wops_cons, h3, h9] using this
  · refine ⟨_, 0, .slice none 0 0, rfl, ?_⟩
    simp
    exact ⟨Own.nil, Grow.refl σ⟩
end Go.Sm
/- Sorting strings: the comparison, insertion sort. -/
set_option linter.unusedVariables false
set_option linter.unusedSimpArgs false
namespace Go.Sm
open Go Go.Proofs
set_option maxRecDepth 100000
set_option maxHeartbeats 2000000
def encS (s : ByteArray) : List Value := [.string s]
theorem lenS (s : ByteArray) : (encS s).length = 1 := rfl
theorem cokS (s : ByteArray) : cokL (encS s) = true := rfl
/-- A row of strings that is sorted in place. -/
def SV (σ : CSt) (i : Nat) (pre post : List Value) (d : Array ByteArray) : Prop := σ.get i = some (.cells (rowD encS pre post d) 9 false) ∧ i < σ.n
theorem SV.put {σ : CSt} {i : Nat} {pre post : List Value} {d : Array ByteArray} (h : SV σ i pre post d) (d' : Array ByteArray) : SV (σ.put i (.cells (rowD encS pre post d') 9 false)) i pre post d' := ⟨by simp, h.2⟩
theorem rowS_get {pre post : List Value} {d : Array ByteArray} {j : Nat} (hj : j < d.size) : (rowD encS pre post d)[pre.length + j]? = some (.string (aget d j)) := rowD_get (v := Value.string) (fun _ => rfl) hj
theorem rowS_st {pre post : List Value} {d : Array ByteArray} {j : Nat} (hj : j < d.size) (x : ByteArray) : st (rowD encS pre post d) (pre.length + j) [.string x] = some (rowD encS pre post (aset d j x)) := rowD_st1 (v := Value.string) (fun _ => rfl) hj x
theorem isNaN_s (x : ByteArray) (σ : CSt) (Q : Out → CSt → Prop) (h : Q (.ret (.bool false) false) σ) : W E1 (.fn 114 #[.string x] none) σ Q := by
  rw [W_fn (fn := Tryz.f114) Tryz.func114 rfl rfl rfl]
  simpa [wops_cons] using h
theorem less_s (x y : ByteArray) (σ : CSt) (Q : Out → CSt → Prop) (h : Q (.ret (.bool (klt x y)) false) σ) : W E1 (.fn 94 #[.string x, .string y] none) σ Q := by
  rw [W_fn (fn := Tryz.f94) Tryz.func94 rfl rfl rfl]
  simp [wops_cons]
  refine isNaN_s _ _ _ ?_
  simpa [wops_cons, wops_if', dstOf] using h
theorem insSort_s (d : Array ByteArray) (i cap : Nat) (pre post : List Value) (a b : Nat) (σ : CSt) (hv : SV σ i pre post d) (hb : b ≤ d.size) (hbig : d.size < 2 ^ 40) (ha : a ≤ b) (Q : Out → CSt → Prop)
    (h : ∀ σ', SV σ' i pre post (Sort.insertionSort klt d a b) → But i σ σ' → Q (.ret (.tuple #[]) false) σ') :
    W E1 (.fn 88 #[.slice (some ⟨i, pre.length, none⟩) d.size cap, .int .i64 a, .int .i64 b] none) σ Q := by
  rw [W_fn (fn := Tryz.f88) Tryz.func88 rfl rfl rfl]
  have hwa := i64n1 a (by omega)
  simp [wops_cons, hwa]
  refine W_loop_inv (fun n A σ' => ∃ tm k d', A = ⟨tm, 49, [], false⟩ ∧ tm.get 0 = some (.slice (some ⟨i, pre.length, none⟩) d.size cap) ∧ tm.get 1 = some (.int .i64 a) ∧ tm.get 2 = some (.int .i64 b) ∧ tm.get 6 = some (.int .i64 (k : Nat)) ∧ a ≤ k ∧ n = b - k ∧ d'.size = d.size ∧ Sort.insOuter klt a b k d' = Sort.insertionSort klt d a b ∧ SV σ' i pre post d' ∧ But i σ σ') ?_ (b - (a + 1)) _ _ ?_
  · rintro n A σ1 ⟨tm, k, d1, rfl, e0, e1, e2, e6, hak, hn, hsz, hfin, hv1, hg1⟩
    by_cases hkb : k < b
    · have hout : Sort.insOuter klt a b (k + 1) (Sort.insInner klt a k d1) = Sort.insertionSort klt d a b := by
        rw [← hfin]
        conv => rhs; rw [Sort.insOuter]
        rw [if_pos hkb]
      simp [wops_cons, e0, e1, e2, e6, hkb]
      refine W_loop_inv (fun n' A σ' => ∃ tm j d', A = ⟨tm, 49, [], false⟩ ∧ tm.get 0 = some (.slice (some ⟨i, pre.length, none⟩) d.size cap) ∧ tm.get 1 = some (.int .i64 a) ∧ tm.get 2 = some (.int .i64 b) ∧ tm.get 6 = some (.int .i64 (k : Nat)) ∧ tm.get 7 = some (.int .i64 (j : Nat)) ∧ a ≤ j ∧ j ≤ k ∧ n' = j ∧ d'.size = d.size ∧ Sort.insInner klt a j d' = Sort.insInner klt a k d1 ∧ SV σ' i pre post d' ∧ But i σ σ') ?_ k _ _ ?_
      · rintro n' A σ2 ⟨tm, j, d2, rfl, e0, e1, e2, e6, e7, haj, hjk, hn', hsz2, hin, hv2, hg2⟩
        have hwk := i64n1 k (by omega)
        have hstop : (¬ a < j ∨ ∃ j', j = j' + 1 ∧ klt (aget d2 j) (aget d2 j') = false) → d2 = Sort.insInner klt a k d1 := by
          intro hh
          rw [← hin]
          cases j with
          | zero => rfl
          | succ j =>
            rw [Sort.insInner, if_neg]
            rcases hh with h1 | ⟨j', h1, h2⟩
            · simp; omega
            · cases h1
              unfold aget at h2
              simp [h2]
        by_cases hja : a < j
        · obtain ⟨j, rfl⟩ : ∃ j', j = j' + 1 := ⟨j - 1, by omega⟩
          have hj1 : j + 1 < d2.size := by omega
          have hj0 : j < d2.size := by omega
          have hj1' : j + 1 < d.size := by omega
          have hj0' : j < d.size := by omega
          have hwj := i64n j (by omega)
          have hr1 := rowS_get (pre := pre) (post := post) hj1
          have hr0 := rowS_get (pre := pre) (post := post) hj0
          have hja' : (a : Int) < (j : Int) + 1 := by omega
          have hi1 : (j : Int) + 1 < d.size := by omega
          have hi0 : (0 : Int) ≤ (j : Int) + 1 := by omega
          have hgi := hv2.1
          simp [wops_cons, e0, e1, e2, e6, e7, hja, hja', -Nat.not_lt]
          refine W_calm (by kernel_rfl) ?_
          simp [dops_cons, dops_if, dstOf, e0, e1, e2, e6, e7, hja, hja', hj1', hj0', hi1, hi0, hwj, hgi, hr1, hr0]
          refine less_s _ _ _ _ ?_
          cases hlt : klt (aget d2 (j + 1)) (aget d2 j)
          · have := hstop (.inr ⟨j, rfl, hlt⟩)
            subst this
            simp [wops_cons, dops_cons, dops_if, dstOf, e0, e1, e2, e6, e7, hlt, hwk]
            exact ⟨_, by omega, k + 1, rfl, by omega, rfl, _, hsz2, hout, hv2, hg2⟩
          · have hst1 := rowS_st (pre := pre) (post := post) hj1 (aget d2 j)
            have hst0 := rowS_st (pre := pre) (post := post) (d := aset d2 (j + 1) (aget d2 j)) (j := j) (by simpa using hj0) (aget d2 (j + 1))
            simp [wops_cons, dops_cons, dops_if, dstOf, e0, e1, e2, e6, e7, hlt, -st_eq, -ld_eq]
            refine W_calm (by kernel_rfl) ?_
            simp [wops_cons, dops_cons, dops_if, dstOf, e0, e1, e2, e6, e7, hj1', hj0', hi1, hi0, hwj, hgi, hr1, hr0, hst1, hst0, -st_eq, -ld_eq]
            rw [← swp_aset]
            refine ⟨_, ?_, j, rfl, by omega, by omega, rfl, _, ?_, ?_, (hv2.put _).put _, (hg2.putL _).putL _⟩
            · omega
            · simpa using hsz2
            · rw [← hin, Sort.insInner, if_pos]
              unfold aget at hlt
              simp [hlt]; omega
        · have := hstop (.inl hja)
          subst this
          have hja' : ¬ (a : Int) < j := by omega
          simp [wops_cons, e0, e1, e2, e6, e7, hja, hja', -Nat.not_lt]
          refine W_calm (by kernel_rfl) ?_
          simp [wops_cons, dops_cons, dops_if, dstOf, e0, e1, e2, e6, e7, hja, hja', hwk, -Nat.not_lt]
          exact ⟨_, by omega, k + 1, rfl, by omega, rfl, _, hsz2, hout, hv2, hg2⟩
      · refine ⟨_, k, d1, rfl, ?_⟩
        simp [e0, e1, e2, e6]
        exact ⟨hak, hsz, hv1, hg1⟩
    · have : Sort.insOuter klt a b k d1 = d1 := by rw [Sort.insOuter, if_neg hkb]
      rw [this] at hfin
      subst hfin
      have hkb' : ¬ (k : Int) < b := by omega
      simp [wops_cons, e0, e1, e2, e6, hkb, -Nat.not_lt]
      exact h σ1 hv1 hg1
  · refine ⟨_, a + 1, d, rfl, ?_⟩
    simp
    exact ⟨rfl, hv, But.refl i σ⟩
theorem insSort_n (n0 : Nat) (d : Array ByteArray) (hn0 : d.size = n0) (i cap : Nat) (pre post : List Value) (a b : Nat) (σ : CSt) (hv : SV σ i pre post d) (hb : b ≤ n0) (hbig : n0 < 2 ^ 40) (ha : a ≤ b) (Q : Out → CSt → Prop)
    (h : ∀ σ', SV σ' i pre post (Sort.insertionSort klt d a b) → But i σ σ' → Q (.ret (.tuple #[]) false) σ') :
    W E1 (.fn 88 #[.slice (some ⟨i, pre.length, none⟩) n0 cap, .int .i64 a, .int .i64 b] none) σ Q := by
  subst hn0
  exact insSort_s d i cap pre post a b σ hv hb hbig ha Q h
end Go.Sm
/- slices.Equal of []string, of []Version; StoreMerge's second closure: a store laid flat. -/
set_option linter.unusedVariables false
set_option linter.unusedSimpArgs false
namespace Go.Sm
open Go Go.Proofs
set_option maxRecDepth 100000
set_option maxHeartbeats 4000000
theorem blb (s u : ByteArray) : (s.toList == u.toList) = decide (s = u) := by
  by_cases e : s = u
  · subst e; simp
  · have : ¬ s.toList = u.toList := fun h => e (ba_list_inj h)
    simp [e, this]
/-- slices.Equal of two rows of versions. -/
theorem equal_chv (l m : List Ver) (v u : Value) (σ : CSt) (hsl : Sl σ 29 3 encV v l) (hsm : Sl σ 29 3 encV u m) (hbig : l.length < 2 ^ 40) (Q : Out → CSt → Prop)
    (h : ∀ (σ' : CSt), Grow σ σ' → Q (.ret (.bool (decide (l = m))) false) σ') : W E1 (.fn 43 #[v, u] none) σ Q := by
  rw [W_fn (fn := Tryz.f43) Tryz.func43 rfl rfl rfl]
  by_cases hlen : l.length = m.length
  · rcases hsl with ⟨rfl, rfl⟩ | ⟨i, off, cap, row, ro, rfl, hg, hin, hrow, hle, hcap⟩
    · have hm : m = [] := List.eq_nil_of_length_eq_zero hlen.symm
      subst hm
      have hu : ∃ p c, u = .slice p 0 c := by
        rcases hsm with ⟨rfl, _⟩ | ⟨i2, off2, cap2, row2, ro2, rfl, _⟩
        · exact ⟨_, _, rfl⟩
        · exact ⟨_, _, rfl⟩
      obtain ⟨p, c, rfl⟩ := hu
      have := h σ (Grow.refl σ)
      simp [wops_cons]
      rw [W_loop]
      simpa [wops_cons] using this
    rcases hsm with ⟨rfl, rfl⟩ | ⟨i2, off2, cap2, row2, ro2, rfl, hg2, hin2, hrow2, hle2, hcap2⟩
    · have hl : l = [] := List.eq_nil_of_length_eq_zero hlen
      subst hl
      have := h σ (Grow.refl σ)
      simp [wops_cons]
      rw [W_loop]
      simpa [wops_cons] using this
    simp [wops_cons, hlen]
    refine W_loop_inv (fun n a σ' => ∃ tm k, a = ⟨tm, 26, [], false⟩ ∧ tm.get 0 = some (.slice (some ⟨i, off, none⟩) l.length cap) ∧ tm.get 1 = some (.slice (some ⟨i2, off2, none⟩) m.length cap2) ∧ tm.get 12 = some (.int .i64 l.length) ∧ tm.get 13 = some (.int .i64 (k : Nat)) ∧ tm.get 4 = some (.bool false) ∧ k ≤ l.length ∧ n = l.length - k ∧ l.take k = m.take k ∧ Grow σ σ') ?_ l.length _ _ ?_
    · rintro n a σ' ⟨tm, k, rfl, h0, h1, h12, h13, h4, hk, hn, htk, hgr⟩
      have hgi := hgr.get hg hin
      have hgi2 := hgr.get hg2 hin2
      by_cases hlt : k < l.length
      · have hlt2 : k < m.length := by omega
        have hld := row_get (enc := encV) (fun _ => rfl) hrow k hlt
        have hl1 := row_le hle k hlt
        have hld2 := row_get (enc := encV) (fun _ => rfl) hrow2 k hlt2
        have hl2 := row_le hle2 k hlt2
        have hw := i64n1 k (by omega)
        have hneq := fun σ x y => neq_ver l[k] m[k] σ x y
        simp [wops_cons, h0, h1, h12, h13, h4, hlt]
        refine W_calm (by kernel_rfl) ?_
        simp [dops_cons, h0, h1, h12, h13, h4, hlt, hlt2, hgi, hgi2, hld, hld2, hl1, hl2, hneq]
        by_cases he : l[k] = m[k]
        · simp [wops_cons, he, h13, hw]
          refine ⟨_, ?_, h0, h1, h12, k + 1, by simp, h4, by omega, rfl, ?_, hgr⟩
          · omega
          · rw [List.take_succ_eq_append_getElem hlt, List.take_succ_eq_append_getElem hlt2, htk, he]
        · have hne : l ≠ m := by rintro rfl; exact he rfl
          have := h σ' hgr
          rw [decide_eq_false hne] at this
          simpa [wops_cons, he] using this
      · have hkl : k = l.length := by omega
        have he : l = m := by
          have := htk
          rwa [List.take_of_length_le (by omega), List.take_of_length_le (by omega)] at this
        have := h σ' hgr
        rw [decide_eq_true he] at this
        simpa [wops_cons, h12, h13, hlt] using this
    · refine ⟨_, 0, rfl, ?_⟩
      simp [hlen]
      exact Grow.refl σ
  · have hu : ∀ {x : Value} {l : List Ver}, Sl σ 29 3 encV x l → ∃ p c, x = .slice p l.length c := by
      rintro x l (⟨rfl, rfl⟩ | ⟨i, off, cap, row, ro, rfl, _⟩)
      · exact ⟨_, _, rfl⟩
      · exact ⟨_, _, rfl⟩
    obtain ⟨p, c, rfl⟩ := hu hsl
    obtain ⟨p', c', rfl⟩ := hu hsm
    have hne : l ≠ m := by rintro rfl; exact hlen rfl
    have := h σ (Grow.refl σ)
    rw [decide_eq_false hne] at this
    have hi : ¬ ((l.length : Int) = m.length) := by omega
    simpa [wops_cons, hi] using this
/-- slices.Equal of two rows of versions. -/
theorem equal_keys (l m : List ByteArray) (v u : Value) (σ : CSt) (hsl : Sl σ 9 1 encS v l) (hsm : Sl σ 9 1 encS u m) (hbig : l.length < 2 ^ 40) (Q : Out → CSt → Prop)
    (h : ∀ (σ' : CSt), Grow σ σ' → Q (.ret (.bool (decide (l = m))) false) σ') : W E1 (.fn 42 #[v, u] none) σ Q := by
  rw [W_fn (fn := Tryz.f42) Tryz.func42 rfl rfl rfl]
  by_cases hlen : l.length = m.length
  · rcases hsl with ⟨rfl, rfl⟩ | ⟨i, off, cap, row, ro, rfl, hg, hin, hrow, hle, hcap⟩
    · have hm : m = [] := List.eq_nil_of_length_eq_zero hlen.symm
      subst hm
      have hu : ∃ p c, u = .slice p 0 c := by
        rcases hsm with ⟨rfl, _⟩ | ⟨i2, off2, cap2, row2, ro2, rfl, _⟩
        · exact ⟨_, _, rfl⟩
        · exact ⟨_, _, rfl⟩
      obtain ⟨p, c, rfl⟩ := hu
      have := h σ (Grow.refl σ)
      simp [wops_cons]
      rw [W_loop]
      simpa [wops_cons] using this
    rcases hsm with ⟨rfl, rfl⟩ | ⟨i2, off2, cap2, row2, ro2, rfl, hg2, hin2, hrow2, hle2, hcap2⟩
    · have hl : l = [] := List.eq_nil_of_length_eq_zero hlen
      subst hl
      have := h σ (Grow.refl σ)
      simp [wops_cons]
      rw [W_loop]
      simpa [wops_cons] using this
    simp [wops_cons, hlen]
    refine W_loop_inv (fun n a σ' => ∃ tm k, a = ⟨tm, 26, [], false⟩ ∧ tm.get 0 = some (.slice (some ⟨i, off, none⟩) l.length cap) ∧ tm.get 1 = some (.slice (some ⟨i2, off2, none⟩) m.length cap2) ∧ tm.get 12 = some (.int .i64 l.length) ∧ tm.get 13 = some (.int .i64 (k : Nat)) ∧ tm.get 4 = some (.bool false) ∧ k ≤ l.length ∧ n = l.length - k ∧ l.take k = m.take k ∧ Grow σ σ') ?_ l.length _ _ ?_
    · rintro n a σ' ⟨tm, k, rfl, h0, h1, h12, h13, h4, hk, hn, htk, hgr⟩
      have hgi := hgr.get hg hin
      have hgi2 := hgr.get hg2 hin2
      by_cases hlt : k < l.length
      · have hlt2 : k < m.length := by omega
        have hld := row_get (enc := encS) (fun _ => rfl) hrow k hlt
        have hl1 := row_le hle k hlt
        have hld2 := row_get (enc := encS) (fun _ => rfl) hrow2 k hlt2
        have hl2 := row_le hle2 k hlt2
        have hc1 := row_cell (enc := encS) lenS hrow k 0 hlt (by omega)
        have hc2 := row_cell (enc := encS) lenS hrow2 k 0 hlt2 (by omega)
        have hc1' : row[off + k]? = some (.string l[k]) := by simpa [encS] using hc1
        have hc2' : row2[off2 + k]? = some (.string m[k]) := by simpa [encS] using hc2
        have hw := i64n1 k (by omega)
        have hneq := blb l[k] m[k]
        simp [wops_cons, h0, h1, h12, h13, h4, hlt]
        refine W_calm (by kernel_rfl) ?_
        simp [dops_cons, h0, h1, h12, h13, h4, hlt, hlt2, hgi, hgi2, hc1', hc2', hneq]
        by_cases he : l[k] = m[k]
        · simp [wops_cons, he, h13, hw]
          refine ⟨_, ?_, h0, h1, h12, k + 1, by simp, h4, by omega, rfl, ?_, hgr⟩
          · omega
          · rw [List.take_succ_eq_append_getElem hlt, List.take_succ_eq_append_getElem hlt2, htk, he]
        · have hne : l ≠ m := by rintro rfl; exact he rfl
          have := h σ' hgr
          rw [decide_eq_false hne] at this
          simpa [wops_cons, he] using this
      · have hkl : k = l.length := by omega
        have he : l = m := by
          have := htk
          rwa [List.take_of_length_le (by omega), List.take_of_length_le (by omega)] at this
        have := h σ' hgr
        rw [decide_eq_true he] at this
        simpa [wops_cons, h12, h13, hlt] using this
    · refine ⟨_, 0, rfl, ?_⟩
      simp [hlen]
      exact Grow.refl σ
  · have hu : ∀ {x : Value} {l : List ByteArray}, Sl σ 9 1 encS x l → ∃ p c, x = .slice p l.length c := by
      rintro x l (⟨rfl, rfl⟩ | ⟨i, off, cap, row, ro, rfl, _⟩)
      · exact ⟨_, _, rfl⟩
      · exact ⟨_, _, rfl⟩
    obtain ⟨p, c, rfl⟩ := hu hsl
    obtain ⟨p', c', rfl⟩ := hu hsm
    have hne : l ≠ m := by rintro rfl; exact hlen rfl
    have := h σ (Grow.refl σ)
    rw [decide_eq_false hne] at this
    have hi : ¬ ((l.length : Int) = m.length) := by omega
    simpa [wops_cons, hi] using this
end Go.Sm
/- Stores: rows; the comparison, the search; keys. -/
set_option linter.unusedVariables false
set_option linter.unusedSimpArgs false
namespace Go.Sm
open Go Go.Proofs
set_option maxRecDepth 100000
set_option maxHeartbeats 1000000
/-- A row: a key, and where its chain lies. -/
structure RV where
  key : ByteArray
  p : Option Addr
  n : Nat
  c : Nat
def encR (r : RV) : List Value := [.string r.key, .slice r.p r.n r.c]
theorem lenR (r : RV) : (encR r).length = 2 := rfl
theorem cokR (r : RV) : cokL (encR r) = true := rfl
open Classical in
noncomputable def ordR (k : ByteArray) (r : RV) : Int := if klt r.key k = true then -1 else if r.key = k then 0 else 1
theorem orderR_spec (k : ByteArray) (r : RV) (σ : CSt) (Q : Out → CSt → Prop) (h : ∀ σ', Grow σ σ' → Q (.ret (.int .i64 (ordR k r)) false) σ') : W E1 (.fn 52 #[.agg (encR r).toArray, .string k] none) σ Q := by
  rw [W_fn (fn := Tryz.f52) Tryz.func52 rfl rfl rfl]
  have hg := h _ ((Grow.refl σ).alloc (CObj.cells (encR r) 95 false))
  simp only [encR, ordR] at hg
  simp [wops_cons, encR]
  cases h1 : klt r.key k
  · by_cases h2 : r.key = k
    · have h3 : r.key.toList = k.toList := by rw [h2]
      have h4 : klt k k = false := bl_irrefl _
      simpa [h1, h2, h3, h4] using hg
    · have h3 : ¬ r.key.toList = k.toList := fun e => h2 (ba_list_inj e)
      simpa [h1, h2, h3] using hg
  · simpa [h1] using hg
theorem search_95 (l : List RV) (v key : Value) (hkey : flat0 key = true) (ord : RV → Int) (σ : CSt) (hsl : Sl σ 95 2 encR v l) (hbig : l.length < 2 ^ 40)
    (hcmp : ∀ (x : RV) (σ : CSt) (Q : Out → CSt → Prop), (∀ σ', Grow σ σ' → Q (.ret (.int .i64 (ord x)) false) σ') → W E1 (.fn 52 #[.agg (encR x).toArray, key] none) σ Q)
    (hmono : ∀ j k (hj : j < l.length) (hk : k < l.length), j < k → ord l[k] < 0 → ord l[j] < 0) (Q : Out → CSt → Prop)
    (h : ∀ (k : Nat) (σ' : CSt), Cut ord l k → Grow σ σ' → Q (.ret (.tuple #[.int .i64 k, .bool (decide (∃ h : k < l.length, ord l[k] = 0))]) false) σ') :
    W E1 (.fn 51 #[v, key, .func (.func 52) #[] #[]] none) σ Q := by
  rw [W_fn (fn := Tryz.f51) Tryz.func51 rfl rfl rfl]
  rcases hsl with ⟨rfl, rfl⟩ | ⟨i, off, cap, row, ro, rfl, hg, hin, hrow, hlen, hcap⟩
  · have := h 0 σ ⟨Nat.le_refl _, by simp, by simp⟩ (Grow.refl σ)
    simp [wops_cons]
    rw [W_loop]
    simp [wops_cons, wops_if', dstOf]
    have e : decide (∃ h : 0 < ([] : List RV).length, ord ([] : List RV)[0] = 0) = false := decide_eq_false fun ⟨h, _⟩ => absurd h (by simp)
    rw [e] at this
    exact this
  simp [wops_cons]
  refine W_loop_inv (fun n a σ' => ∃ tm lo hi, a = ⟨tm, 49, [], false⟩ ∧ tm.get 0 = some (.slice (some ⟨i, off, none⟩) l.length cap) ∧ tm.get 1 = some key ∧ tm.get 2 = some (.func (.func 52) #[] #[]) ∧ tm.get 8 = some (.int .i64 l.length) ∧ tm.get 9 = some (.int .i64 lo) ∧ tm.get 10 = some (.int .i64 hi) ∧
      (0 ≤ lo ∧ lo ≤ hi ∧ hi ≤ l.length ∧ n = (hi - lo).toNat ∧ (∀ j (h : j < l.length), (j : Int) < lo → ord l[j] < 0) ∧ (∀ j (h : j < l.length), hi ≤ j → 0 ≤ ord l[j])) ∧ Grow σ σ') ?_ l.length _ _ ?_
  · rintro n a σ' ⟨tm, lo, hi, rfl, h0, h1, h2, h8, h9, h10, ⟨hlo, hlh, hhi, hn, hl, hr⟩, hgr⟩
    have hgi := hgr.get hg hin
    by_cases hlt : lo < hi
    · have hm := mid_eq lo hi hlo hlt (by omega)
      obtain ⟨m, hmm⟩ : ∃ m : Nat, (lo + hi) / 2 = m := ⟨((lo + hi) / 2).toNat, by omega⟩
      have hm1 : m < l.length := by omega
      have hm2 : lo ≤ m ∧ (m : Int) < hi := by omega
      rw [hmm] at hm
      have hld := row_get (enc := encR) (fun _ => rfl) hrow m hm1
      have hle := row_le hlen m hm1
      have hw := i64n1 m (by omega)
      simp [wops_cons, h0, h1, h2, h8, h9, h10, hlt, hm, hm1, hgi, hld, hle, -List.length_flatMap]
      refine hcmp _ _ _ fun σ'' hgr2 => ?_
      by_cases hc : ord l[m] < 0
      · simp [wops_cons, hc, hw]
        refine ⟨_, ?_, h0, h1, h2, h8, hi, h10, ⟨by omega, by omega, hhi, rfl, fun j hjl hj => ?_, hr⟩, hgr.trans hgr2⟩
        · omega
        · by_cases hj' : j = m
          · subst hj'; exact hc
          · exact hmono j m hjl hm1 (by omega) hc
      · simp [wops_cons, hc]
        refine ⟨_, ?_, h0, h1, h2, h8, lo, h9, ⟨hlo, by omega, by omega, rfl, hl, fun j hjl hj => ?_⟩, hgr.trans hgr2⟩
        · omega
        · by_cases hj' : j = m
          · subst hj'; omega
          · have := hmono m j hm1 hjl (by omega)
            omega
    · obtain ⟨k, rfl⟩ := Int.eq_ofNat_of_zero_le hlo
      have hk : hi = k := by omega
      have hcut : Cut ord l k := ⟨by omega, fun j hj h => hl j hj (by omega), fun j hj h => hr j hj (by omega)⟩
      by_cases hkl : k < l.length
      · have hld := row_get (enc := encR) (fun _ => rfl) hrow k hkl
        have hle := row_le hlen k hkl
        simp [wops_cons, wops_if', dstOf, h0, h1, h2, h8, h9, h10, hlt, hkl, hgi, hld, hle, -List.length_flatMap]
        refine hcmp _ _ _ fun σ'' hgr2 => ?_
        have := h k σ'' hcut (hgr.trans hgr2)
        simp [wops_cons, wops_if', dstOf, hkl] at this ⊢
        exact this
      · have := h k σ' hcut hgr
        simp [wops_cons, wops_if', dstOf, h0, h1, h2, h8, h9, h10, hlt, hkl] at this ⊢
        exact this
  · refine ⟨_, 0, l.length, rfl, ?_⟩
    simp
    exact ⟨⟨fun j _ h => by omega, fun j h1 h2 => by omega⟩, Grow.refl σ⟩

/-- A key, by a number. -/
def keyOf (n : Int) : ByteArray := match n.toNat with
  | 0 => ⟨#[97]⟩ | 1 => ⟨#[98]⟩ | 2 => ⟨#[98, 97]⟩ | 3 => ⟨#[98, 98]⟩ | 4 => ⟨#[99]⟩ | 5 => ⟨#[122, 122]⟩ | 6 => ⟨#[]⟩ | _ => ⟨#[255]⟩
theorem key_spec (n : Int) (h0 : 0 ≤ n) (h1 : n < 256) (σ : CSt) (Q : Out → CSt → Prop) (h : ∀ σ', Grow σ σ' → Q (.ret (.string (keyOf (n.tmod 8))) false) σ') : W E1 (.fn 30 #[.int .u8 n] none) σ Q := by
  rw [W_fn (fn := Tryz.f30) Tryz.func30 rfl rfl rfl]
  have h2 : 0 ≤ n.tmod 8 := Int.tmod_nonneg 8 h0
  have h3 : n.tmod 8 < 8 := Int.tmod_lt_of_pos n (by decide)
  obtain ⟨k, hk⟩ : ∃ k : Nat, n.tmod 8 = k := ⟨(n.tmod 8).toNat, by omega⟩
  have h4 : k < 8 := by omega
  rw [hk] at h
  have hg := fun o => h _ ((Grow.refl σ).alloc o)
  match k, hk, h4, hg with
  | 0, hk, _, hg => have := hg (.cells [.string ⟨#[97]⟩, .string ⟨#[98]⟩, .string ⟨#[98, 97]⟩, .string ⟨#[98, 98]⟩, .string ⟨#[99]⟩, .string ⟨#[122, 122]⟩, .string ⟨#[]⟩, .string ⟨#[255]⟩] 9 false); simpa [wops_cons, hk, keyOf] using this
  | 1, hk, _, hg => have := hg (.cells [.string ⟨#[97]⟩, .string ⟨#[98]⟩, .string ⟨#[98, 97]⟩, .string ⟨#[98, 98]⟩, .string ⟨#[99]⟩, .string ⟨#[122, 122]⟩, .string ⟨#[]⟩, .string ⟨#[255]⟩] 9 false); simpa [wops_cons, hk, keyOf] using this
  | 2, hk, _, hg => have := hg (.cells [.string ⟨#[97]⟩, .string ⟨#[98]⟩, .string ⟨#[98, 97]⟩, .string ⟨#[98, 98]⟩, .string ⟨#[99]⟩, .string ⟨#[122, 122]⟩, .string ⟨#[]⟩, .string ⟨#[255]⟩] 9 false); simpa [wops_cons, hk, keyOf] using this
  | 3, hk, _, hg => have := hg (.cells [.string ⟨#[97]⟩, .string ⟨#[98]⟩, .string ⟨#[98, 97]⟩, .string ⟨#[98, 98]⟩, .string ⟨#[99]⟩, .string ⟨#[122, 122]⟩, .string ⟨#[]⟩, .string ⟨#[255]⟩] 9 false); simpa [wops_cons, hk, keyOf] using this
  | 4, hk, _, hg => have := hg (.cells [.string ⟨#[97]⟩, .string ⟨#[98]⟩, .string ⟨#[98, 97]⟩, .string ⟨#[98, 98]⟩, .string ⟨#[99]⟩, .string ⟨#[122, 122]⟩, .string ⟨#[]⟩, .string ⟨#[255]⟩] 9 false); simpa [wops_cons, hk, keyOf] using this
  | 5, hk, _, hg => have := hg (.cells [.string ⟨#[97]⟩, .string ⟨#[98]⟩, .string ⟨#[98, 97]⟩, .string ⟨#[98, 98]⟩, .string ⟨#[99]⟩, .string ⟨#[122, 122]⟩, .string ⟨#[]⟩, .string ⟨#[255]⟩] 9 false); simpa [wops_cons, hk, keyOf] using this
  | 6, hk, _, hg => have := hg (.cells [.string ⟨#[97]⟩, .string ⟨#[98]⟩, .string ⟨#[98, 97]⟩, .string ⟨#[98, 98]⟩, .string ⟨#[99]⟩, .string ⟨#[122, 122]⟩, .string ⟨#[]⟩, .string ⟨#[255]⟩] 9 false); simpa [wops_cons, hk, keyOf] using this
  | 7, hk, _, hg => have := hg (.cells [.string ⟨#[97]⟩, .string ⟨#[98]⟩, .string ⟨#[98, 97]⟩, .string ⟨#[98, 98]⟩, .string ⟨#[99]⟩, .string ⟨#[122, 122]⟩, .string ⟨#[]⟩, .string ⟨#[255]⟩] 9 false); simpa [wops_cons, hk, keyOf] using this
end Go.Sm
/- Purged chains: plain facts. -/
set_option linter.unusedSimpArgs false
namespace Go.Sm

theorem Srt.upto {t : Int} : ∀ {c : List Ver}, Srt c → ∃ m, m ≤ c.length ∧ (∀ i (h : i < c.length), c[i].at_ ≤ t ↔ i < m) ∧ (c.filter fun v => decide (v.at_ ≤ t)) = c.take m
  | [], _ => ⟨0, Nat.le_refl _, fun i h => absurd h (by simp), rfl⟩
  | v :: c, h => by
    obtain ⟨m, h1, h2, h3⟩ := Srt.upto (t := t) h.tail
    by_cases hv : v.at_ ≤ t
    · refine ⟨m + 1, by simpa using h1, fun i hi => ?_, ?_⟩
      · cases i with
        | zero => simpa using hv
        | succ i => simpa using h2 i (by simpa using hi)
      · simp [hv, h3]
    · have hall : ∀ u ∈ c, ¬ u.at_ ≤ t := fun u hu => by have := h.head u hu; omega
      refine ⟨0, Nat.zero_le _, fun i hi => ?_, ?_⟩
      · cases i with
        | zero => simpa using hv
        | succ i =>
          have hi' : i < c.length := by simpa using hi
          have := hall c[i] (List.getElem_mem hi')
          simp only [List.getElem_cons_succ, Nat.not_lt_zero, iff_false]
          exact this
      · rw [List.filter_cons, if_neg (by simpa using hv), List.take_zero, List.filter_eq_nil_iff]
        intro u hu
        simpa using hall u hu
/-- Where the part that stays begins. -/
theorem cut_start {c : List Ver} (hs : Srt c) (t : Int) : ∃ s, cutL c t = c.drop s ∧ ∀ i (h : i < c.length), (t < c[i].at_ ∨ (¬ (∃ h : i + 1 < c.length, c[i + 1].at_ ≤ t) ∧ c[i].gone = false)) ↔ s ≤ i := by
  obtain ⟨m, h1, h2, h3⟩ := hs.upto (t := t)
  have hl : (c.filter fun v => decide (v.at_ ≤ t)).length = m := by rw [h3, List.length_take]; omega
  cases m with
  | zero =>
    refine ⟨0, by unfold cutL; rw [hl]; rfl, fun i hi => ?_⟩
    have := h2 i hi
    simp only [Nat.zero_le, iff_true]
    left
    omega
  | succ n =>
    have hn : n < c.length := by omega
    have hcut : cutL c t = if c[n].gone then c.drop (n + 1) else c.drop n := cut_of hn h3
    cases hg : c[n].gone with
    | true =>
      refine ⟨n + 1, by rw [hcut, hg]; rfl, fun i hi => ?_⟩
      have a1 := h2 i hi
      constructor
      · rintro (h | ⟨h, h'⟩)
        · omega
        · by_cases e : i < n
          · exact absurd ⟨by omega, (h2 (i + 1) (by omega)).2 (by omega)⟩ h
          · by_cases e2 : i = n
            · subst e2; rw [hg] at h'; cases h'
            · omega
      · intro h; left; omega
    | false =>
      refine ⟨n, by rw [hcut, hg]; rfl, fun i hi => ?_⟩
      have a1 := h2 i hi
      constructor
      · rintro (h | ⟨h, h'⟩)
        · omega
        · by_cases e : i < n
          · exact absurd ⟨by omega, (h2 (i + 1) (by omega)).2 (by omega)⟩ h
          · omega
      · intro h
        by_cases e : i = n
        · subst e
          right
          refine ⟨?_, hg⟩
          rintro ⟨h4, h5⟩
          have := (h2 (i + 1) h4).1 h5
          omega
        · left; omega
/-- What the loop gathers. -/
def keepB (c : List Ver) (t : Int) (i : Nat) : Bool := match c[i]? with | some v => decide (t < v.at_) || (!((c[i + 1]?.map fun u => decide (u.at_ ≤ t)).getD false) && !v.gone) | none => false
def wantL (c : List Ver) (t : Int) : Nat → List Ver
  | 0 => []
  | n + 1 => wantL c t n ++ (if keepB c t n then c[n]?.toList else [])
theorem keepB_eq {c : List Ver} (t : Int) (i : Nat) (h : i < c.length) : keepB c t i = true ↔ (t < c[i].at_ ∨ (¬ (∃ h : i + 1 < c.length, c[i + 1].at_ ≤ t) ∧ c[i].gone = false)) := by
  unfold keepB
  rw [List.getElem?_eq_getElem h]
  by_cases h2 : i + 1 < c.length
  · simp [h2, List.getElem?_eq_getElem h2]
  · simp [h2, List.getElem?_eq_none (Nat.le_of_not_lt h2)]
theorem want_eq {c : List Ver} (hs : Srt c) (t : Int) : wantL c t c.length = cutL c t := by
  obtain ⟨s, h1, h2⟩ := cut_start hs t
  have : ∀ n, n ≤ c.length → wantL c t n = (c.take n).drop s := by
    intro n
    induction n with
    | zero => intro _; simp [wantL]
    | succ n ih =>
      intro hn
      have hk := (keepB_eq t n (by omega)).trans (h2 n (by omega))
      rw [wantL, ih (by omega), List.take_succ_eq_append_getElem (by omega)]
      by_cases e : s ≤ n
      · rw [if_pos (hk.2 e), List.drop_append_of_le_length (by rw [List.length_take]; omega), List.getElem?_eq_getElem (by omega)]; rfl
      · rw [if_neg (fun h => e (hk.1 h)), List.append_nil, List.drop_of_length_le (by rw [List.length_take]; omega), List.drop_of_length_le (by simp; omega)]
  rw [this _ (Nat.le_refl _), List.take_length, h1]
theorem want_len (c : List Ver) (t : Int) : ∀ n, (wantL c t n).length ≤ n
  | 0 => by simp [wantL]
  | n + 1 => by
    have := want_len c t n
    rw [wantL, List.length_append]
    split
    · cases c[n]? <;> simp <;> omega
    · simp; omega
theorem want_succ (c : List Ver) (t : Int) (n : Nat) (h : n < c.length) : wantL c t (n + 1) = if keepB c t n then wantL c t n ++ [c[n]] else wantL c t n := by
  rw [wantL, List.getElem?_eq_getElem h]
  split <;> simp
theorem atL_take {c : List Ver} (hs : Srt c) (t : Int) : ∃ m, m ≤ c.length ∧ (∀ i (h : i < c.length), c[i].at_ ≤ t ↔ i < m) ∧ (∀ s, atL (c.drop s) t = ((c.take m).drop s).getLast?) := by
  obtain ⟨m, h1, h2, h3⟩ := hs.upto (t := t)
  refine ⟨m, h1, h2, fun s => ?_⟩
  unfold atL
  congr 1
  have hd : ∀ i (h : i < (c.drop s).length), (c.drop s)[i].at_ ≤ t ↔ i < m - s := by
    intro i h
    simp only [List.length_drop] at h
    rw [List.getElem_drop]
    have := h2 (s + i) (by omega)
    omega
  have hs2 : Srt (c.drop s) := List.Pairwise.sublist (List.drop_sublist s c) hs
  obtain ⟨m', h1', h2', h3'⟩ := hs2.upto (t := t)
  have : m' = min (m - s) (c.drop s).length := by
    simp only [List.length_drop] at h1' ⊢
    rcases Nat.lt_trichotomy m' (min (m - s) (c.length - s)) with h | h | h
    · have a := h2' m' (by simp; omega)
      have b := hd m' (by simp; omega)
      omega
    · exact h
    · have a := h2' (min (m - s) (c.length - s)) (by simp; omega)
      have b := hd (min (m - s) (c.length - s)) (by simp; omega)
      omega
  rw [h3', this, List.drop_take, Nat.min_comm, ← List.take_take, List.take_of_length_le (by simp; omega)]
theorem purge_law {c : List Ver} (hs : Srt c) {t u : Int} (htu : t ≤ u) : (atL (cutL c t) u = atL c u) ∨ (atL (cutL c t) u = none ∧ ∀ v, atL c u = some v → v.gone = true) := by
  obtain ⟨s, h1, h2⟩ := cut_start hs t
  obtain ⟨m, h3, h4, h5⟩ := atL_take hs u
  have h6 := h5 0
  simp only [List.drop_zero] at h6
  rw [h1, h5, h6]
  by_cases e : s < m
  · left
    rw [List.getLast?_drop, if_neg (by rw [List.length_take]; omega)]
  · right
    refine ⟨by rw [List.drop_of_length_le (by rw [List.length_take]; omega)]; rfl, fun v hv => ?_⟩
    cases m with
    | zero => simp at hv
    | succ n =>
      rw [take_last (by omega)] at hv
      cases hv
      have a := h2 n (by omega)
      have b := (h4 n (by omega)).2 (by omega)
      cases hg : c[n].gone with
      | true => rfl
      | false =>
        exfalso
        rw [hg] at a
        have : s ≤ n := a.1 (.inr ⟨fun ⟨h7, h8⟩ => by have := (h4 (n + 1) h7).1 (by omega); omega, rfl⟩)
        omega
end Go.Sm
/- A chain with one more: plain facts. -/
set_option linter.unusedSimpArgs false
namespace Go.Sm
theorem mem_put {c : List Ver} {x u : Ver} : u ∈ putL c x ↔ u = x ∨ (u ∈ c ∧ u.at_ ≠ x.at_) := by
  unfold putL
  simp only [List.mem_append, List.mem_filter, List.mem_cons, decide_eq_true_eq]
  constructor
  · rintro (⟨h, h2⟩ | rfl | ⟨h, h2⟩)
    · exact .inr ⟨h, by omega⟩
    · exact .inl rfl
    · exact .inr ⟨h, by omega⟩
  · rintro (rfl | ⟨h, h2⟩)
    · exact .inr (.inl rfl)
    · by_cases e : u.at_ < x.at_
      · exact .inl ⟨h, e⟩
      · exact .inr (.inr ⟨h, by omega⟩)
theorem Srt.inj {c : List Ver} (h : Srt c) {u v : Ver} (hu : u ∈ c) (hv : v ∈ c) (e : u.at_ = v.at_) : u = v := by
  have a := h.lk_mem hu
  have b := h.lk_mem hv
  rw [e, b] at a
  exact (Option.some.inj a).symm
theorem atL_none {c : List Ver} {t : Int} : atL c t = none ↔ ∀ u ∈ c, ¬ u.at_ ≤ t := by
  unfold atL
  rw [List.getLast?_eq_none_iff, List.filter_eq_nil_iff]
  simp
theorem atL_max {c : List Ver} (hs : Srt c) {t : Int} {a : Ver} (h : atL c t = some a) : a ∈ c ∧ a.at_ ≤ t ∧ ∀ u ∈ c, u.at_ ≤ t → u.at_ ≤ a.at_ := by
  unfold atL at h
  have hm := List.mem_of_getLast? h
  rw [List.mem_filter, decide_eq_true_eq] at hm
  refine ⟨hm.1, hm.2, fun u hu hut => ?_⟩
  have hF : Srt (c.filter fun v => decide (v.at_ ≤ t)) := hs.filter _
  have hu' : u ∈ (c.filter fun v => decide (v.at_ ≤ t)) := List.mem_filter.2 ⟨hu, by simpa using hut⟩
  obtain ⟨ys, hys⟩ := List.getLast?_eq_some_iff.1 h
  rw [hys] at hF hu'
  rcases List.mem_append.1 hu' with h1 | h1
  · have := (List.pairwise_append.1 hF).2.2 u h1 a (by simp)
    omega
  · rw [List.mem_singleton] at h1; rw [h1]; exact Int.le_refl _
theorem atL_some {c : List Ver} (hs : Srt c) {t : Int} {a : Ver} (h1 : a ∈ c) (h2 : a.at_ ≤ t) (h3 : ∀ u ∈ c, u.at_ ≤ t → u.at_ ≤ a.at_) : atL c t = some a := by
  cases h : atL c t with
  | none => exact absurd h2 (atL_none.1 h a h1)
  | some b =>
    obtain ⟨g1, g2, g3⟩ := atL_max hs h
    have a1 := g3 a h1 h2
    have a2 := h3 b g1 g2
    rw [hs.inj g1 h1 (by omega)]
theorem put_before {c : List Ver} (hs : Srt c) {x : Ver} {t : Int} (h : t < x.at_) : atL (putL c x) t = atL c t := by
  cases ha : atL c t with
  | none =>
    rw [atL_none] at ha ⊢
    intro u hu
    rcases mem_put.1 hu with rfl | ⟨h1, h2⟩
    · omega
    · exact ha u h1
  | some a =>
    obtain ⟨g1, g2, g3⟩ := atL_max hs ha
    refine atL_some (hs.put x) (mem_put.2 (.inr ⟨g1, by omega⟩)) g2 fun u hu hut => ?_
    rcases mem_put.1 hu with rfl | ⟨h1, h2⟩
    · omega
    · exact g3 u h1 hut
theorem put_after {c : List Ver} (hs : Srt c) {x a : Ver} {t : Int} (h : atL c t = some a) (hx : x.at_ < a.at_) : atL (putL c x) t = some a := by
  obtain ⟨g1, g2, g3⟩ := atL_max hs h
  refine atL_some (hs.put x) (mem_put.2 (.inr ⟨g1, by omega⟩)) g2 fun u hu hut => ?_
  rcases mem_put.1 hu with rfl | ⟨h1, h2⟩
  · omega
  · exact g3 u h1 hut
theorem put_here {c : List Ver} (hs : Srt c) {x : Ver} {t : Int} (h : x.at_ ≤ t) (ha : ∀ a, atL c t = some a → a.at_ ≤ x.at_) : atL (putL c x) t = some x := by
  refine atL_some (hs.put x) (mem_put.2 (.inl rfl)) h fun u hu hut => ?_
  rcases mem_put.1 hu with rfl | ⟨h1, h2⟩
  · exact Int.le_refl _
  · cases hc : atL c t with
    | none => exact absurd hut (atL_none.1 hc u h1)
    | some a =>
      have := (atL_max hs hc).2.2 u h1 hut
      have := ha a hc
      omega
end Go.Sm
/- Stores as lists: plain facts. -/
set_option linter.unusedSimpArgs false
namespace Go.Sm
theorem klt_irrefl (k : ByteArray) : klt k k = false := bl_irrefl _
theorem klt_trans {a b c : ByteArray} (h : klt a b = true) (h' : klt b c = true) : klt a c = true := bl_trans h h'
theorem klt_tri {a b : ByteArray} (h : klt a b = false) (h' : klt b a = false) : a = b := ba_list_inj (bl_tri h h')
/-- A store as a list: the keys, and their chains. -/
abbrev Stl := List (ByteArray × List Ver)
def KS (S : Stl) : Prop := S.Pairwise fun a c => klt a.1 c.1 = true
/-- Where a key stands, or would. -/
structure Pos (S : Stl) (k : ByteArray) (n : Nat) : Prop where
  le : n ≤ S.length
  lo : ∀ j (h : j < S.length), j < n → klt S[j].1 k = true
  hi : ∀ j (h : j < S.length), n ≤ j → klt S[j].1 k = false
def putAt (S : Stl) (k : ByteArray) (x : Ver) (n : Nat) : Stl :=
  match S[n]? with
  | some s => if s.1 = k then S.set n (k, putL s.2 x) else S.take n ++ (k, putL [] x) :: S.drop n
  | none => S.take n ++ (k, putL [] x) :: S.drop n
def getS (S : Stl) (k : ByteArray) : Option (List Ver) := (S.find? fun s => decide (s.1 = k)).map (·.2)
end Go.Sm
/- Ranges over functions, as equations. -/
set_option linter.unusedVariables false
set_option linter.unusedSimpArgs false
namespace Go.Sm
open Go
variable {E : Env} {σ : CSt}
/-- Behind the function that is ranged over. -/
def krange (E : Env) (x : Ctx) (a : CAct) (L : Nat) (Q : Out → CSt → Prop) : Out → CSt → Prop := fun o σ =>
  match o with
  | .ret _ _ =>
    match σ.get L with
    | some (.loop st pend fn tm sz ps asg body) =>
      if st = .busy then False else
      match pend with
      | none => Q (.code .normal a) (σ.put L (.loop .exhausted pend fn tm sz ps asg body))
      | some c => W E (.code x c a) (σ.put L (.loop .exhausted pend fn tm sz ps asg body)) Q
    | _ => False
  | .pan v => Q (.code (.panic v) a) σ
  | _ => False
/-- Behind the assignments of a round. -/
def kround1 (E : Env) (L : Nat) (fn : FuncId) (body : Code) (Q : Out → CSt → Prop) : Out → CSt → Prop := fun o σ =>
  match o with
  | .code .normal a =>
    match σ.get L with
    | some (.loop .ready pend fn' tm' sz' ps' asg' body') =>
      W E (.code ⟨fn, some L, none⟩ body a) (σ.put L (.loop .busy pend fn' tm' sz' ps' asg' body')) fun o σ2 =>
        match o with
        | .code e a2 =>
          match jumpOf e with
          | some j =>
            match σ2.get L with
            | some (.loop st _ fn' tm' sz' ps' asg' body') => Q (.ret (.bool j.isNone) false) (σ2.put L (.loop (if j.isNone then .ready else .done) j fn' tm' sz' ps' asg' body'))
            | _ => False
          | none => match e with | .panic v => if a2.df.isEmpty then (match E.P.funcs[fn]? with | some _ => Q (.pan v) σ2 | none => False) else False | _ => False
        | _ => False
    | _ => False
  | _ => False
theorem W_rangeFunc {x : Ctx} {f : Operand} {ps : Array Tmp} {asg body : Code} {a : CAct} {σ : CSt} {Q : Out → CSt → Prop} {g : FuncId} {fs cs : Array Value} (hf : a.eval f = .func (.func g) fs cs) (ha : aroundOk σ x.rnd = true) :
    W E (.code x (.rangeFunc f ps asg body) a) σ Q = W E (.fn g (fs ++ #[.func (.yield σ.n) #[] #[]] ++ cs) none) (σ.alloc (.loop .ready none x.f a.tm a.sz ps asg body)) (krange E x a σ.n Q) := by
  rw [W_eq]
  simp only [F, ha, hf, callv, Bool.not_true, Bool.false_eq_true, if_false]
  rfl
theorem W_round {L : Nat} {args : Array Value} {σ : CSt} {Q : Out → CSt → Prop} {st : LoopState} {pend : Option Code} {fn : FuncId} {tm : Tr Value} {sz : Nat} {ps : Array Tmp} {asg body : Code} (hg : σ.get L = some (.loop st pend fn tm sz ps asg body)) (hs : args.size = ps.size) :
    W E (.round L args) σ Q = W E (.code ⟨fn, some L, none⟩ asg { tm := (ps.toList.zip args.toList).foldl (fun t p => if p.1 < sz then t.set p.1 p.2 else t) tm, sz := sz, df := [], tk := false }) σ (kround1 E L fn body Q) := by
  rw [W_eq]
  simp only [F, hg, hs, if_true]
  rfl
@[simp] theorem wres_yield (x : Ctx) (a : CAct) (d : Option Tmp) (K : CAct → CSt → Prop) (Q : Out → CSt → Prop) (L : Nat) (fs cs args : Array Value) (h : extOf E (.func (.yield L) fs cs) args σ = none) :
    wres E x a d K Q σ (.call (.func (.yield L) fs cs) args) = W E (.round L (fs ++ args)) σ (kret a d K Q) := by
  simp only [wres, h, callv]
  rfl
@[simp] theorem dres_yield (ops : Array Oper) (a0 a : CAct) (d : Option Tmp) (K : CAct → CSt → Prop) (Q : Out → CSt → Prop) (L : Nat) (fs cs args : Array Value) (h : extOf E (.func (.yield L) fs cs) args σ = none) :
    dres E ops a0 a d K Q σ (.call (.func (.yield L) fs cs) args) = W E (.round L (fs ++ args)) σ (kretd ops a0 a d K Q) := by
  simp only [dres, h, callv]
  rfl
@[simp] theorem ext_yield (L : Nat) (fs cs args : Array Value) (σ : CSt) : extOf E (.func (.yield L) fs cs) args σ = none := (rfl)
end Go.Sm
/- Maps: their entries as a list; ranges over them. -/
set_option linter.unusedVariables false
set_option linter.unusedSimpArgs false
namespace Go.Sm
open Go
/-- A map's entries. -/
abbrev MlG (κ : Type) := List (κ × Value)
abbrev Ml := MlG ByteArray
section
variable {κ : Type} [DecidableEq κ]
def EntsG (key : κ → Value) (es : List MapEntry) (M : MlG κ) : Prop := es.map (fun e => (e.key, e.val)) = M.map fun p => (key p.1, p.2)
def posM (k : κ) : MlG κ → Nat → Option (Nat × Value)
  | [], _ => none
  | p :: M, i => if p.1 = k then some (i, p.2) else posM k M (i + 1)
/-- Keys of a kind: the model finds them. -/
structure Keyed (key : κ → Value) (kd : TypeDesc) : Prop where
  flat : ∀ k, flat0 (key k) = true
  same : ∀ k k', Instr.sameNow kd (key k) (key k') = some (decide (k' = k))
  inj : ∀ k k', key k = key k' → k = k'
theorem keyed_str : Keyed Value.string .string := by
  refine ⟨fun k => rfl, fun k k' => ?_, fun k k' h => by cases h; rfl⟩
  by_cases e1 : k' = k
  · subst e1; simp [Instr.sameNow, ba_self]
  · have hne : (k == k') = false := by
      cases h : (k == k') with
      | false => rfl
      | true => exact absurd (ba_eq h).symm e1
    simp [Instr.sameNow, hne, e1]
theorem keyed_int (ik : IntKind) : Keyed (Value.int ik) (.int ik) := by
  refine ⟨fun k => rfl, fun k k' => ?_, fun k k' h => by cases h; rfl⟩
  by_cases e1 : k' = k
  · subst e1; simp [Instr.sameNow]
  · have : ¬ k = k' := fun h => e1 h.symm
    simp [Instr.sameNow, e1, this]
theorem find_entsG {key : κ → Value} {kd : TypeDesc} (hk : Keyed key kd) (k : κ) : ∀ (es : List MapEntry) (M : MlG κ) (i : Nat), EntsG key es M → Instr.findNow kd (key k) es i = some (posM k M i)
  | [], [], _, _ => rfl
  | [], p :: M, _, h => by simp [EntsG] at h
  | e :: es, [], _, h => by simp [EntsG] at h
  | e :: es, p :: M, i, h => by
    simp only [EntsG, List.map_cons, List.cons.injEq, Prod.mk.injEq] at h
    obtain ⟨⟨h1, h2⟩, h3⟩ := h
    have ih := find_entsG hk k es M (i + 1) h3
    unfold Instr.findNow posM
    rw [h1, hk.same]
    by_cases e1 : p.1 = k
    · simp [e1, h2]
    · simp [e1]
      exact ih
def getM (M : MlG κ) (k : κ) : Option Value := (M.find? fun p => decide (p.1 = k)).map (·.2)
def setM : MlG κ → κ → Value → MlG κ
  | [], k, v => [(k, v)]
  | p :: M, k, v => if p.1 = k then (k, v) :: M else p :: setM M k v
theorem posM_none {k : κ} {v : Value} : ∀ {M : MlG κ} {i : Nat}, posM k M i = none → getM M k = none ∧ setM M k v = M ++ [(k, v)] ∧ ∀ p ∈ M, p.1 ≠ k
  | [], _, _ => ⟨rfl, rfl, by simp⟩
  | p :: M, i, h => by
    unfold posM at h
    by_cases e : p.1 = k
    · rw [if_pos e] at h; cases h
    · rw [if_neg e] at h
      obtain ⟨h1, h2, h3⟩ := posM_none (v := v) h
      unfold getM setM
      rw [if_neg e, h2]
      refine ⟨?_, rfl, fun q hq => ?_⟩
      · rw [List.find?_cons]
        simp only [e, decide_false]
        exact h1
      · rcases List.mem_cons.1 hq with rfl | hq
        · exact e
        · exact h3 q hq
theorem posM_some {k : κ} {v w : Value} {j : Nat} : ∀ {M : MlG κ} {i : Nat}, posM k M i = some (j, w) → i ≤ j ∧ j - i < M.length ∧ getM M k = some w ∧ setM M k v = M.set (j - i) (k, v) ∧ (M[j - i]?).map (·.1) = some k
  | [], _, h => by cases h
  | p :: M, i, h => by
    unfold posM at h
    by_cases e : p.1 = k
    · rw [if_pos e] at h
      cases h
      refine ⟨Nat.le_refl _, by simp, ?_, ?_, by simp [e]⟩
      · unfold getM; rw [List.find?_cons]; simp [e]
      · unfold setM; rw [if_pos e]; simp
    · rw [if_neg e] at h
      obtain ⟨h0, h1, h2, h3, h4⟩ := posM_some (v := v) h
      have hj : j - i = (j - (i + 1)) + 1 := by omega
      refine ⟨by omega, by simp; omega, ?_, ?_, by rw [hj]; simpa using h4⟩
      · unfold getM; rw [List.find?_cons]; simp only [e, decide_false]; exact h2
      · unfold setM; rw [if_neg e, h3, hj, List.set_cons_succ]
/-- The entries; their births are of their own, before the clock; no key twice. -/
structure EntsOk (key : κ → Value) (es : List MapEntry) (clock : Nat) (M : MlG κ) : Prop where
  ents : EntsG key es M
  nodup : (es.map (·.born)).Nodup
  born : ∀ e ∈ es, e.born < clock
  keys : (M.map (·.1)).Nodup
def MpG (key : κ → Value) (σ : CSt) (m : Nat) (M : MlG κ) : Prop := ∃ es clock, σ.get m = some (.map es clock) ∧ EntsOk key es.toList clock M
theorem EntsG.length {κ : Type} {key : κ → Value} {es : List MapEntry} {M : MlG κ} (h : EntsG key es M) : es.length = M.length := by have := congrArg List.length h; simpa using this
theorem entsOk_nil {κ : Type} (key : κ → Value) (c : Nat) : EntsOk key [] c ([] : MlG κ) := ⟨rfl, by simp, by simp, by simp⟩
theorem setM_keys {k : κ} {v : Value} : ∀ {M : MlG κ}, (M.map (·.1)).Nodup → ((setM M k v).map (·.1)).Nodup ∧ ∀ q, q ∈ (setM M k v).map (·.1) ↔ q = k ∨ q ∈ M.map (·.1)
  | [], _ => by simp [setM]
  | p :: M, h => by
    rw [List.map_cons, List.nodup_cons] at h
    obtain ⟨h1, h2⟩ := setM_keys (k := k) (v := v) h.2
    unfold setM
    by_cases e : p.1 = k
    · rw [if_pos e, List.map_cons, List.nodup_cons]
      refine ⟨⟨by rw [← e]; exact h.1, h.2⟩, fun q => ?_⟩
      simp [e]
    · rw [if_neg e, List.map_cons, List.nodup_cons]
      refine ⟨⟨fun hm => ?_, h1⟩, fun q => ?_⟩
      · rcases (h2 p.1).1 hm with h3 | h3
        · exact e h3
        · exact h.1 h3
      · rw [List.mem_cons, h2, List.map_cons, List.mem_cons]
        exact or_left_comm
theorem getM_none {k : κ} {M : MlG κ} (h : ∀ p ∈ M, p.1 ≠ k) : getM M k = none := by
  unfold getM
  rw [List.find?_eq_none.2 fun p hp => by simpa using h p hp]
  rfl
theorem getM_mem {k : κ} {v : Value} : ∀ {M : MlG κ}, (M.map (·.1)).Nodup → (k, v) ∈ M → getM M k = some v
  | [], _, h => by cases h
  | p :: M, hn, h => by
    rw [List.map_cons, List.nodup_cons] at hn
    unfold getM
    rw [List.find?_cons]
    rcases List.mem_cons.1 h with rfl | h
    · simp
    · have : p.1 ≠ k := fun e => hn.1 (by rw [e]; exact List.mem_map_of_mem (f := (·.1)) h)
      simp only [this, decide_false]
      exact getM_mem hn.2 h
theorem getM_setM (k : κ) (v : Value) (q : κ) : ∀ M : MlG κ, getM (setM M k v) q = if k = q then some v else getM M q
  | [] => by
    unfold setM getM
    by_cases e : k = q <;> simp [e]
  | p :: M => by
    have ih := getM_setM k v q M
    unfold getM at ih ⊢
    unfold setM
    by_cases e1 : p.1 = k
    · rw [if_pos e1]
      by_cases e : k = q
      · simp [e]
      · have : ¬ p.1 = q := fun h => e (by rw [← e1, h])
        simp [e, this]
    · rw [if_neg e1]
      simp only [List.find?_cons]
      by_cases e2 : p.1 = q
      · have e : ¬ k = q := fun h => e1 (by rw [e2, h])
        simp [e2, e]
      · simp only [e2, decide_false]
        exact ih
section
variable {P : Program} {σ : CSt} {t kt et : TypeId} {m : Nat} {M : MlG κ} {k : κ} {key : κ → Value} {kd : TypeDesc}
theorem lookup_mpG (ht : P.underlying t = some (.map kt et)) (hk : keyKind P kt = some kd) (hK : Keyed key kd) {z : Value} (hz : zeroOf? P et = some z) (h : MpG key σ m M) (ok : Bool) : lookupOp P σ t (.map (some m)) (key k) ok = some (if ok then .tuple #[(getM M k).getD z, .bool (getM M k).isSome] else (getM M k).getD z) := by
  obtain ⟨es, clock, hg, he⟩ := h
  have hf : findK P kt (key k) es = some (posM k M 0) := by unfold findK; rw [hk]; exact find_entsG hK k _ M 0 he.ents
  unfold lookupOp
  rw [ht]
  simp only [CSt.maps, hg, Option.map_some, hf, hK.flat, if_true]
  cases hp : posM k M 0 with
  | none => rw [(posM_none (v := z) hp).1]; simp [hz]
  | some jw => obtain ⟨j, w⟩ := jw; rw [(posM_some (v := z) hp).2.2.1]; simp
theorem lookup_nilG (ht : P.underlying t = some (.map kt et)) (hk : keyKind P kt = some kd) (hK : Keyed key kd) {z : Value} (hz : zeroOf? P et = some z) (ok : Bool) : lookupOp P σ t (.map none) (key k) ok = some (if ok then .tuple #[z, .bool false] else z) := by
  have hf : findK P kt (key k) #[] = some none := by unfold findK; rw [hk]; rfl
  unfold lookupOp
  rw [ht]
  simp only [hf, hK.flat, if_true, hz, Option.map_some]
theorem update_mpG (ht : P.underlying t = some (.map kt et)) (hk : keyKind P kt = some kd) (hK : Keyed key kd) (h : MpG key σ m M) (v : Value) : ∃ o, updateOp P σ t (.map (some m)) (key k) v = some (σ.put m o) ∧ MpG key (σ.put m o) m (setM M k v) := by
  obtain ⟨es, clock, hg, he⟩ := h
  have hf : findK P kt (key k) es = some (posM k M 0) := by unfold findK; rw [hk]; exact find_entsG hK k _ M 0 he.ents
  unfold updateOp
  rw [ht]
  simp only [CSt.maps, hg, hf, hK.flat, if_true]
  have hkeys := (setM_keys (k := k) (v := v) he.keys).1
  cases hp : posM k M 0 with
  | none =>
    refine ⟨_, rfl, _, _, by rw [CSt.get_put, if_pos rfl], ?_⟩
    have hset := (posM_none (v := v) hp).2.1
    rw [hset] at hkeys
    rw [hset]
    have he1 := he.ents
    refine ⟨?_, ?_, fun e h => ?_, hkeys⟩
    · unfold EntsG at he1 ⊢
      simp [he1]
    · rw [Array.toList_push, List.map_append, List.nodup_append]
      refine ⟨he.nodup, by simp, fun a ha b hb => ?_⟩
      obtain ⟨e, h1, rfl⟩ := List.mem_map.1 ha
      simp at hb
      have := he.born e h1
      omega
    · rw [Array.toList_push] at h
      rcases List.mem_append.1 h with h | h
      · have := he.born e h; omega
      · rw [List.mem_singleton] at h; rw [h]; exact Nat.lt_succ_self _
  | some jw =>
    obtain ⟨j, w⟩ := jw
    obtain ⟨h1, h2, h3, h4, h5⟩ := posM_some (v := v) hp
    refine ⟨_, rfl, _, _, by rw [CSt.get_put, if_pos rfl], ?_⟩
    rw [h4] at hkeys
    rw [h4]
    have he1 := he.ents
    have hb : (es.modify j fun e => { e with key := key k, val := v }).toList.map (·.born) = es.toList.map (·.born) := by
      rw [Array.toList_modify]
      apply List.ext_getElem?
      intro n
      simp only [List.getElem?_map, List.getElem?_modify]
      by_cases e : j = n
      · subst e; simp [Option.map_map, Function.comp_def]
      · simp [e]
    refine ⟨?_, by rw [hb]; exact he.nodup, fun e h => ?_, hkeys⟩
    · unfold EntsG at he1 ⊢
      rw [Array.toList_modify, Nat.sub_zero]
      apply List.ext_getElem?
      intro n
      have hn := congrArg (·[n]?) he1
      simp only [List.getElem?_map, List.getElem?_modify, List.getElem?_set] at hn ⊢
      by_cases e : j = n
      · subst e
        rw [Nat.sub_zero] at h2
        have hl := EntsG.length he1
        simp [h2, List.getElem?_eq_getElem (show j < es.toList.length by omega)]
      · simp [e]
        simpa using hn
    · have h6 : e.born ∈ (es.modify j fun e => { e with key := key k, val := v }).toList.map (·.born) := List.mem_map_of_mem h
      rw [hb] at h6
      obtain ⟨e', h7, h8⟩ := List.mem_map.1 h6
      rw [← h8]
      exact he.born e' h7
end
end
abbrev Mp (σ : CSt) (m : Nat) (M : Ml) : Prop := MpG Value.string σ m M
section
variable {P : Program} {σ : CSt} {t kt et : TypeId} {m : Nat} {M : Ml} {k : ByteArray}
theorem lookup_mp (ht : P.underlying t = some (.map kt et)) (hk : keyKind P kt = some .string) {z : Value} (hz : zeroOf? P et = some z) (h : Mp σ m M) : lookupOp P σ t (.map (some m)) (.string k) false = some ((getM M k).getD z) := by
  have := lookup_mpG (k := k) ht hk keyed_str hz h false
  simpa using this
theorem update_mp (ht : P.underlying t = some (.map kt et)) (hk : keyKind P kt = some .string) (h : Mp σ m M) (v : Value) : ∃ o, updateOp P σ t (.map (some m)) (.string k) v = some (σ.put m o) ∧ Mp (σ.put m o) m (setM M k v) := update_mpG ht hk keyed_str h v
end
/-! ### Ranges -/
section
variable {κ : Type} [DecidableEq κ]
/-- A range over a map: what is yet to come. -/
def MIt (key : κ → Value) (σ : CSt) (r m : Nat) (M S : MlG κ) : Prop := ∃ es clock seen, σ.get m = some (.map es clock) ∧ EntsOk key es.toList clock M ∧ σ.get r = some (.miter (some m) clock seen clock) ∧ r ≠ m ∧ EntsG key (es.toList.filter fun e => !seen.contains e.born) S
theorem MIt.congr {κ : Type} {key : κ → Value} {σ σ' : CSt} {r m : Nat} {M S : MlG κ} (h : MIt key σ r m M S) (h1 : σ'.get r = σ.get r) (h2 : σ'.get m = σ.get m) : MIt key σ' r m M S := by
  obtain ⟨es, clock, seen, a, b, c, d⟩ := h
  exact ⟨es, clock, seen, by rw [h2]; exact a, b, by rw [h1]; exact c, d⟩
theorem MIt.mp {κ : Type} {key : κ → Value} {σ : CSt} {r m : Nat} {M S : MlG κ} (h : MIt key σ r m M S) : MpG key σ m M := by
  obtain ⟨es, clock, seen, a, b, c, d⟩ := h
  exact ⟨es, clock, a, b⟩
variable {P : Program} {σ : CSt} {ev : Operand → Value} {dst : Option Tmp} {ty : TypeId} {pos : String} {after : Array Edge} {g : Option (Nat × Bool)}
@[simp] theorem copE_range (t : TypeId) (x : Operand) : cop P σ ev ⟨dst, .range t x, ty, pos, after, g⟩ = OpR.ofP (rangeOp P σ t (ev x)) := (rfl)
@[simp] theorem copE_next (it : Operand) (s : Bool) : cop P σ ev ⟨dst, .next it s, ty, pos, after, g⟩ = nextOp σ (ev it) s := (rfl)
@[simp] theorem copE_entry (it : Operand) : cop P σ ev ⟨dst, .entry it, ty, pos, after, g⟩ = OpR.ofV σ (entryOp σ (ev it)) := (rfl)
theorem range_mpG {κ : Type} {key : κ → Value} {t kt et : TypeId} {m : Nat} {M : MlG κ} (ht : P.underlying t = some (.map kt et)) (h : MpG key σ m M) (hm : m < σ.n) : ∃ o, rangeOp P σ t (.map (some m)) = some (.pointer (some ⟨σ.n, 0, none⟩), σ.alloc o) ∧ MIt key (σ.alloc o) σ.n m M M := by
  obtain ⟨es, clock, hg, he⟩ := h
  refine ⟨.miter (some m) clock #[] clock, ?_, es, clock, #[], ?_, he, by rw [CSt.get_alloc, if_pos rfl], by omega, ?_⟩
  · unfold rangeOp
    rw [ht]
    simp only [CSt.maps, hg]
  · rw [CSt.get_alloc, if_neg (by omega)]; exact hg
  · have : (es.toList.filter fun e => !(#[] : Array Nat).contains e.born) = es.toList := List.filter_eq_self.2 fun e _ => by simp
    rw [this]; exact he.ents
theorem filter_erase_born : ∀ (l : List MapEntry) (j : Nat) (h : j < l.length), (l.map (·.born)).Nodup → l.filter (fun e => !(e.born == l[j].born)) = l.eraseIdx j
  | [], j, h, _ => by simp at h
  | e :: l, 0, h, hn => by
    rw [List.map_cons, List.nodup_cons] at hn
    simp only [List.getElem_cons_zero, List.eraseIdx_zero, List.tail_cons]
    rw [List.filter_cons]
    simp
    intro a ha e2
    exact hn.1 (by rw [← e2]; exact List.mem_map_of_mem ha)
  | e :: l, j + 1, h, hn => by
    rw [List.map_cons, List.nodup_cons] at hn
    have hj : j < l.length := by simpa using h
    have ih := filter_erase_born l j hj hn.2
    simp only [List.getElem_cons_succ, List.eraseIdx_cons_succ]
    rw [List.filter_cons, ih]
    have : (!(e.born == l[j].born)) = true := by
      simp
      intro e2
      exact hn.1 (by rw [e2]; exact List.mem_map_of_mem (List.getElem_mem hj))
    rw [this]; rfl
theorem wres_next {κ : Type} {E : Env} {x : Ctx} {a : CAct} {d : Option Tmp} {K : CAct → CSt → Prop} {Q : Out → CSt → Prop} {key : κ → Value} {r m : Nat} {M S : MlG κ} (h : MIt key σ r m M S)
    (h0 : S = [] → K (a.put d (.tuple #[.bool false])) σ)
    (h1 : ∀ (j : Nat) (hj : j < S.length) (o : CObj), MIt key (σ.put r o) r m M (S.eraseIdx j) → entryOp (σ.put r o) (.pointer (some ⟨r, 0, none⟩)) = some (.tuple #[key S[j].1, S[j].2]) → K (a.put d (.tuple #[.bool true, key S[j].1, S[j].2])) (σ.put r o)) :
    wres E x a d K Q σ (nextOp σ (.pointer (some ⟨r, 0, none⟩)) false) := by
  obtain ⟨es, clock, seen, hm, he, hr, hrm, hS⟩ := h
  have hlast : (!seen.isEmpty && !es.isEmpty && es.all (·.born ≥ clock)) = false := by
    cases hz : es.isEmpty with
    | true => simp
    | false =>
      have : es.all (·.born ≥ clock) = false := by
        rw [Bool.eq_false_iff]
        intro hall
        have hne : es.toList ≠ [] := by
          intro h
          rw [Array.toList_eq_nil_iff] at h
          rw [h] at hz; simp at hz
        obtain ⟨e, l, hl⟩ := List.exists_cons_of_ne_nil hne
        have hmem : e ∈ es.toList := by rw [hl]; simp
        have h1 := he.born e hmem
        have h2 := Array.all_eq_true_iff_forall_mem.1 hall e (Array.mem_toList_iff.1 hmem)
        simp at h2
        omega
      rw [this]; simp
  have hmn : mapNext es clock seen = (if (es.toList.filter fun e => !seen.contains e.born).isEmpty then #[none] else #[]) ++ ((es.toList.filter fun e => !seen.contains e.born).map some).toArray := by
    unfold mapNext
    have e1 : ((es.filter fun e => !seen.contains e.born).filter fun e => decide (e.born < clock)) = es.filter fun e => !seen.contains e.born := by
      apply Array.filter_eq_self.2
      intro e h
      have := he.born e (Array.mem_toList_iff.2 (Array.mem_filter.1 h).1)
      simpa using this
    have e2 : ((es.filter fun e => !seen.contains e.born).filter fun e => decide (e.born ≥ clock)) = #[] := by
      apply Array.filter_eq_empty_iff.2
      intro e h
      have := he.born e (Array.mem_toList_iff.2 (Array.mem_filter.1 h).1)
      simp; omega
    simp only
    rw [e1, e2]
    have e3 : (es.filter fun e => !seen.contains e.born) = (es.toList.filter fun e => !seen.contains e.born).toArray := by
      rw [← Array.toList_filter]
    rw [e3]
    simp
  have hlen := EntsG.length hS
  unfold nextOp
  simp only [hr, CSt.maps, hm]
  rw [hlast, hmn]
  simp only [Bool.false_eq_true, if_false]
  generalize hL : (es.toList.filter fun e => !seen.contains e.born) = L at hS hlen ⊢
  unfold wres picks
  cases L with
  | nil =>
    have hS0 : S = [] := List.eq_nil_of_length_eq_zero (by simpa using hlen.symm)
    simp
    exact h0 hS0
  | cons e0 L =>
    have hpick : ∀ j, j < (e0 :: L).length → K (a.put d (.tuple #[.bool true, (e0 :: L)[j]!.key, (e0 :: L)[j]!.val])) (σ.put r (.miter (some m) clock (seen.push (e0 :: L)[j]!.born) clock)) := by
      intro j hj
      have hjS : j < S.length := by omega
      have hnd : ((e0 :: L).map (·.born)).Nodup := by rw [← hL]; exact List.Nodup.sublist (List.Sublist.map _ List.filter_sublist) he.nodup
      have hfe := filter_erase_born (e0 :: L) j hj hnd
      have hgj : (e0 :: L)[j]! = (e0 :: L)[j] := by rw [getElem!_pos]
      have hmem : (e0 :: L)[j] ∈ es.toList := (List.mem_filter.1 (by rw [hL]; exact List.getElem_mem hj : (e0 :: L)[j] ∈ es.toList.filter fun e => !seen.contains e.born)).1
      rw [hgj]
      generalize hej : (e0 :: L)[j] = ej at hfe hmem ⊢
      have hS' := hS
      unfold EntsG at hS'
      have hp := congrArg (·[j]?) hS'
      simp only [List.getElem?_map, List.getElem?_eq_getElem hj, List.getElem?_eq_getElem hjS, hej, Option.map_some, Option.some.injEq, Prod.mk.injEq] at hp
      rw [hp.1, hp.2]
      refine h1 j hjS _ ⟨es, clock, seen.push ej.born, by rw [CSt.get_put, if_neg (Ne.symm hrm)]; exact hm, he, by rw [CSt.get_put, if_pos rfl], hrm, ?_⟩ ?_
      · have e1 : (es.toList.filter fun e => !(seen.push ej.born).contains e.born) = (e0 :: L).eraseIdx j := by
          rw [← hfe, ← hL, List.filter_filter]
          apply List.filter_congr
          intro e _
          by_cases e2 : e.born = ej.born <;> simp [Array.contains_push, e2]
        rw [e1]
        unfold EntsG at hS ⊢
        rw [List.eraseIdx_eq_take_drop_succ, List.eraseIdx_eq_take_drop_succ, List.map_append, List.map_append, List.map_take, List.map_drop, List.map_take, List.map_drop, hS]
      · unfold entryOp
        have hb : (seen.push ej.born).back? = some ej.born := by simp
        simp only [CSt.get_put, if_true, CSt.maps, if_neg (Ne.symm hrm), hm, hb]
        have hf : es.find? (fun e => e.born == ej.born) = some ej := by
          rw [← Array.find?_toList]
          have : ∀ (l : List MapEntry), (l.map (·.born)).Nodup → ej ∈ l → l.find? (fun e => e.born == ej.born) = some ej := by
            intro l
            induction l with
            | nil => intro _ h; cases h
            | cons a l ih =>
              intro hn h
              rw [List.map_cons, List.nodup_cons] at hn
              rw [List.find?_cons]
              rcases List.mem_cons.1 h with rfl | h
              · simp
              · have : (a.born == ej.born) = false := by
                  simp
                  intro e2
                  exact hn.1 (by rw [e2]; exact List.mem_map_of_mem h)
                rw [this]
                exact ih hn.2 h
          exact this es.toList he.nodup hmem
        rw [hf]
        simp [hp.1, hp.2]
    simp
    split
    · rename_i h
      have hL0 : L = [] := h
      have := hpick 0 (by simp)
      simpa [hL0] using this
    · intro i hi
      have hi' : i < (e0 :: L).length := by simpa using hi
      have := hpick i hi'
      have hq : ((e0 :: L).map some)[i]? = some (some (e0 :: L)[i]!) := by
        rw [List.getElem?_map, List.getElem?_eq_getElem hi', getElem!_pos (e0 :: L) i hi']; rfl
      simp only [List.map_cons] at hq
      rw [hq]
      exact this
end
end Go.Sm
/- Slices of one's own that have more room behind them. -/
set_option linter.unusedVariables false
set_option linter.unusedSimpArgs false
namespace Go.Sm
open Go
/-- A slice that is one's own: the first part of an object that was made behind a point. -/
def OwnZ {α : Type} (b : Nat) (σ : CSt) (e : TypeId) (enc : α → List Value) (v : Value) (l : List α) : Prop :=
  (v = .slice none 0 0 ∧ l = []) ∨ ∃ i cap zs, v = .slice (some ⟨i, 0, none⟩) l.length cap ∧ b ≤ i ∧ i < σ.n ∧ σ.get i = some (.cells (l.flatMap enc ++ zs) e false) ∧ cokL zs = true ∧ (cap = openCap ∨ (l = [] ∧ cap = 0 ∧ zs = []))
section
variable {α : Type} {σ σ' : CSt} {e : TypeId} {sz : Nat} {enc : α → List Value} {v : Value} {l : List α} {b : Nat}
theorem OwnZ.nil : OwnZ b σ e enc (.slice none 0 0) ([] : List α) := .inl ⟨rfl, rfl⟩
theorem Own.z (h : Own b σ e enc v l) : OwnZ b σ e enc v l := by
  rcases h with h | ⟨i, cap, h1, hb, hi, h2, h3⟩
  · exact .inl h
  · refine .inr ⟨i, cap, [], h1, hb, hi, by rw [List.append_nil]; exact h2, rfl, ?_⟩
    rcases h3 with h3 | ⟨h3, h4⟩
    · exact .inl h3
    · exact .inr ⟨h3, h4, rfl⟩
theorem OwnZ.sl (hsz : ∀ x, (enc x).length = sz) (h : OwnZ b σ e enc v l) : Sl σ e sz enc v l := by
  rcases h with h | ⟨i, cap, zs, rfl, hb, hi, hg, hz, hc⟩
  · exact .inl h
  · have hl := enc_length enc hsz l
    refine .inr ⟨i, 0, cap, _, false, rfl, hg, hi, ?_, ?_, ?_⟩
    · rw [List.drop_zero, ← hl, List.take_left]
    · rw [List.length_append]; omega
    · rcases hc with rfl | ⟨rfl, rfl, _⟩
      · exact .inl rfl
      · exact .inr ⟨by simp, by simp [openCap]⟩
theorem OwnZ.grow (h : OwnZ b σ e enc v l) (hg : Grow σ σ') : OwnZ b σ' e enc v l := by
  rcases h with h | ⟨i, cap, zs, h1, hb, hi, h2, h3⟩
  · exact .inl h
  · exact .inr ⟨i, cap, zs, h1, hb, Nat.lt_of_lt_of_le hi hg.n, hg.get h2 hi, h3⟩
theorem OwnZ.keep (h : OwnZ b σ e enc v l) (hn : σ.n ≤ σ'.n) (hg : ∀ i, b ≤ i → i < σ.n → σ'.get i = σ.get i) : OwnZ b σ' e enc v l := by
  rcases h with h | ⟨i, cap, zs, h1, hb, hi, h2, h3⟩
  · exact .inl h
  · exact .inr ⟨i, cap, zs, h1, hb, Nat.lt_of_lt_of_le hi hn, by rw [hg i hb hi]; exact h2, h3⟩
theorem OwnZ.put (h : OwnZ b σ e enc v l) {i : Nat} (hi : i < b) (o : CObj) : OwnZ b (σ.put i o) e enc v l :=
  h.keep (Nat.le_refl _) fun j hj _ => by rw [CSt.get_put, if_neg (by omega)]
theorem OwnZ.weaken {b' : Nat} (h : OwnZ b σ e enc v l) (hb : b' ≤ b) : OwnZ b' σ e enc v l := by
  rcases h with h | ⟨i, cap, zs, h1, hb', h2⟩
  · exact .inl h
  · exact .inr ⟨i, cap, zs, h1, Nat.le_trans hb hb', h2⟩
theorem OwnZ.fr {T : TypeId → Prop} {b' : Nat} {s0 s1 : CSt} (h : OwnZ b' s0 e enc v l) (ht : ¬ T e) (hg : Fr T b s0 s1) : OwnZ b' s1 e enc v l := by
  rcases h with h | ⟨i, cap, zs, h1, hb, hi, h2, h3⟩
  · exact .inl h
  · exact .inr ⟨i, cap, zs, h1, hb, Nat.lt_of_lt_of_le hi hg.1, hg.get h2 hi (.inr fun row' e' ro' he => by cases he; exact ht), h3⟩
theorem insRow_encZ (hsz : ∀ x, (enc x).length = sz) (a : Nat) (ha : a ≤ l.length) (x : α) (zs : List Value) : insRow sz a l.length (l.flatMap enc ++ zs) (enc x) = (l.take a ++ x :: l.drop a).flatMap enc := by
  have hl := enc_length enc hsz l
  rw [← insRow_enc hsz a ha x]
  unfold insRow
  have h1 : a * sz ≤ (l.flatMap enc).length := by rw [hl]; exact Nat.mul_le_mul_right _ ha
  rw [List.take_append_of_le_length h1, List.take_append_of_le_length (Nat.le_of_eq hl.symm)]
end
end Go.Sm
namespace Go.Sm
open Go
def objOf : Value → Option Nat
  | .slice (some ⟨i, _, _⟩) _ _ => some i
  | _ => none
/-- All but a slice's object is as it was. -/
def ButV (v : Value) (s0 s1 : CSt) : Prop := s0.n ≤ s1.n ∧ ∀ j, j < s0.n → objOf v ≠ some j → s1.get j = s0.get j
theorem ButV.refl (v : Value) (s : CSt) : ButV v s s := ⟨Nat.le_refl _, fun _ _ _ => rfl⟩
theorem Grow.butV {v : Value} {s0 s1 : CSt} (h : Grow s0 s1) : ButV v s0 s1 := ⟨h.n, fun j hj _ => h.old j hj⟩
theorem ButV.trans {v : Value} {s0 s1 s2 : CSt} (h : ButV v s0 s1) (h' : ButV v s1 s2) : ButV v s0 s2 := ⟨Nat.le_trans h.1 h'.1, fun j hj hne => by rw [h'.2 j (Nat.lt_of_lt_of_le hj h.1) hne, h.2 j hj hne]⟩
theorem ButV.putV {v : Value} {i : Nat} {s0 s1 : CSt} (h : ButV v s0 s1) (hi : objOf v = some i) (o : CObj) : ButV v s0 (s1.put i o) := ⟨h.1, fun j hj hne => by rw [CSt.get_put, if_neg (by rintro rfl; exact hne hi)]; exact h.2 j hj hne⟩
theorem ButV.put {v : Value} {i : Nat} {s0 s1 : CSt} (h : ButV v s0 s1) (hi : s0.n ≤ i) (o : CObj) : ButV v s0 (s1.put i o) := ⟨h.1, fun j hj hne => by rw [CSt.get_put, if_neg (by omega)]; exact h.2 j hj hne⟩
theorem ButV.alloc {v : Value} {s0 s1 : CSt} (h : ButV v s0 s1) (o : CObj) : ButV v s0 (s1.alloc o) := ⟨by have := h.1; simp; omega, fun j hj hne => by have := h.1; rw [CSt.get_alloc, if_neg (by omega)]; exact h.2 j hj hne⟩
/-! ### What is filtered in place -/
section
variable {α : Type} {enc : α → List Value} {sz : Nat}
theorem take_filter_step {p : α → Bool} {l d : List α} {i j : Nat} (hj : j < l.length) (hd : d.length = l.length) (h1 : d.take i = (l.take j).filter fun x => !p x) (h2 : i = ((l.take j).filter fun x => !p x).length) (h3 : d.drop j = l.drop j) (h4 : i ≤ j) (hp : p l[j] = false) :
    (d.set i l[j]).length = l.length ∧ (d.set i l[j]).take (i + 1) = (l.take (j + 1)).filter (fun x => !p x) ∧ i + 1 = ((l.take (j + 1)).filter fun x => !p x).length ∧ (d.set i l[j]).drop (j + 1) = l.drop (j + 1) := by
  have e : (l.take (j + 1)).filter (fun x => !p x) = (l.take j).filter (fun x => !p x) ++ [l[j]] := by
    rw [List.take_succ_eq_append_getElem hj, List.filter_append]
    simp [hp]
  refine ⟨by simpa using hd, ?_, by rw [e, List.length_append, ← h2]; rfl, ?_⟩
  · have h5 : i < d.length := by omega
    have hs : (d.set i l[j])[i]'(by simpa using h5) = l[j] := by simp
    rw [List.take_succ_eq_append_getElem (by simpa using h5), hs, e, ← h1]
    congr 1
    rw [List.take_set_of_le (Nat.le_refl _)]
  · rw [List.drop_set_of_lt (by omega)]
    have := congrArg (List.drop 1) h3
    simpa [List.drop_drop] using this
theorem take_filter_skip {p : α → Bool} {l d : List α} {i j : Nat} (hj : j < l.length) (h1 : d.take i = (l.take j).filter fun x => !p x) (h2 : i = ((l.take j).filter fun x => !p x).length) (h3 : d.drop j = l.drop j) (hp : p l[j] = true) :
    d.take i = (l.take (j + 1)).filter (fun x => !p x) ∧ i = ((l.take (j + 1)).filter fun x => !p x).length ∧ d.drop (j + 1) = l.drop (j + 1) := by
  have e : (l.take (j + 1)).filter (fun x => !p x) = (l.take j).filter (fun x => !p x) := by
    rw [List.take_succ_eq_append_getElem hj, List.filter_append]
    simp [hp]
  refine ⟨by rw [e]; exact h1, by rw [e]; exact h2, ?_⟩
  have := congrArg (List.drop 1) h3
  simpa [List.drop_drop] using this
theorem drop_get {l d : List α} {j : Nat} (hj : j < l.length) (hd : d.length = l.length) (h3 : d.drop j = l.drop j) : d[j]'(by omega) = l[j] := by
  have := congrArg (·[0]?) h3
  simpa [List.getElem?_drop, List.getElem?_eq_getElem hj, List.getElem?_eq_getElem (show j < d.length by omega)] using this
theorem first_take {p : α → Bool} {l : List α} {k : Nat} (hk : k < l.length) (h : ∀ i (hi : i < l.length), i < k → p l[i] = false) (hp : p l[k] = true) : (l.take (k + 1)).filter (fun x => !p x) = l.take k := by
  rw [List.take_succ_eq_append_getElem hk, List.filter_append]
  have : (l.take k).filter (fun x => !p x) = l.take k := by
    rw [List.filter_eq_self]
    intro x hx
    obtain ⟨i, hi, rfl⟩ := List.mem_iff_getElem.1 hx
    rw [List.length_take] at hi
    rw [List.getElem_take, h i (by omega) (by omega)]
    rfl
  rw [this]
  simp [hp]
/-- An element is written; more stands behind. -/
theorem enc_setZ (hsz : ∀ x, (enc x).length = sz) (l : List α) (i : Nat) (x : α) (h : i < l.length) (zs : List Value) : (l.flatMap enc ++ zs).take (i * sz) ++ enc x ++ (l.flatMap enc ++ zs).drop (i * sz + sz) = (l.set i x).flatMap enc ++ zs := by
  have hl := enc_length enc hsz l
  have h1 : i * sz + sz ≤ l.length * sz := by rw [← Nat.succ_mul]; exact Nat.mul_le_mul_right _ h
  rw [List.take_append_of_le_length (by omega), List.drop_append_of_le_length (by omega), ← List.append_assoc, enc_set enc hsz l i x h]
theorem rowZ (hsz : ∀ x, (enc x).length = sz) (l : List α) (zs : List Value) : ((l.flatMap enc ++ zs).drop 0).take (l.length * sz) = l.flatMap enc := by
  rw [List.drop_zero, ← enc_length enc hsz l, List.take_left]
/-- What is left, when the rest is made zero. -/
theorem clearZ (hsz : ∀ x, (enc x).length = sz) (d : List α) (i : Nat) (hi : i ≤ d.length) (zs os : List Value) (ho : os.length = (d.length - i) * sz) : (d.flatMap enc ++ zs).take (i * sz) ++ os ++ (d.flatMap enc ++ zs).drop (i * sz + os.length) = (d.take i).flatMap enc ++ (os ++ zs) := by
  have hl := enc_length enc hsz d
  have h1 : i * sz ≤ d.length * sz := Nat.mul_le_mul_right _ hi
  have h2 : i * sz + os.length = d.length * sz := by rw [ho, ← Nat.add_mul]; congr 1; omega
  rw [h2, List.take_append_of_le_length (by omega), enc_take enc hsz, ← hl, List.drop_left, List.append_assoc]
end
end Go.Sm
namespace Go.Sm
open Go
theorem OwnZ.frV {α : Type} {b : Nat} {s s2 : CSt} {e : TypeId} {enc : α → List Value} {v : Value} {l : List α} (h : OwnZ b s e enc v l) (hb : ButV v s s2) : Fr (fun t => t = e) b s s2 := by
  refine ⟨hb.1, fun j hj hc => hb.2 j hj fun ho => ?_⟩
  rcases h with ⟨rfl, _⟩ | ⟨i, cap, zs, rfl, hbi, hi, hg, _⟩
  · cases ho
  · cases ho
    rcases hc with hc | hc
    · omega
    · exact hc _ _ _ hg rfl
end Go.Sm
namespace Go.Sm
open Go
theorem len_mp {κ : Type} {key : κ → Value} {P : Program} {σ : CSt} {t kt et : TypeId} {m : Nat} {M : MlG κ} (ht : P.underlying t = some (.map kt et)) (h : MpG key σ m M) : lenF P σ (some t) (.map (some m)) = .val (.int .i64 (List.length M)) σ := by
  obtain ⟨es, clock, hg, he⟩ := h
  have hl := EntsG.length he.ents
  unfold lenF lenOp
  simp [ht, CSt.maps, hg, ← hl]
end Go.Sm
/- Stores: a row more; the store itself. -/
set_option linter.unusedVariables false
set_option linter.unusedSimpArgs false
namespace Go.Sm
open Go Go.Proofs
set_option maxRecDepth 100000
set_option maxHeartbeats 1000000
theorem ins_own_95 (b : Nat) (l : List RV) (x : RV) (a : Nat) (ha : a ≤ l.length) (v : Value) (σ : CSt) (hb : b ≤ σ.n) (hown : OwnZ b σ 95 encR v l) (j : Nat) (hj : σ.get j = some (.cells (encR x) 95 false))
    (hji : ∀ i off n c, v = .slice (some ⟨i, off, none⟩) n c → i ≠ j) (hbig : l.length < 2 ^ 40) (Q : Out → CSt → Prop)
    (h : ∀ (v' : Value) (σ' : CSt), Own b σ' 95 encR v' (l.take a ++ x :: l.drop a) → Fr (fun t => t = 95) b σ σ' → Q (.ret v' false) σ') :
    W E1 (.fn 58 #[v, .int .i64 a, .slice (some ⟨j, 0, none⟩) 1 1] none) σ Q := by
  have hxl : (encR x).length = 2 := rfl
  rcases hown with ⟨rfl, rfl⟩ | ⟨i, cap, zs, rfl, hbi, hin, hg, hzs, hcap⟩
  · have ha0 : a = 0 := by simpa using ha
    subst ha0
    rw [Int.natCast_zero, W_gam (E := E1) (f := 58) (g := insG 95 2 40) rfl rfl (v := .slice (some ⟨σ.n, 0, none⟩) 1 openCap) (σ' := σ.alloc (.cells (encR x) 95 false)) (insG_nil hj rfl rfl (by omega))]
    exact h _ _ (.inr ⟨σ.n, openCap, rfl, hb, by simp, by simp, .inl rfl⟩) ((Fr.refl (fun t => t = 95) b σ).alloc _)
  · have hij := hji i 0 _ _ rfl
    have hrl : (l.flatMap encR).length = l.length * 2 := enc_length encR (fun _ => rfl) l
    have hck : cokL (l.flatMap encR) = true := cokL_enc (fun _ => rfl) l
    have hck2 : cokL (l.flatMap encR ++ zs) = true := by rw [cokL_append, hck, hzs]; rfl
    have hrl2 : (l.flatMap encR ++ zs).length = l.length * 2 + zs.length := by rw [List.length_append, hrl]
    rcases hcap with rfl | ⟨rfl, rfl, rfl⟩
    · have he := insRow_encZ (enc := encR) (l := l) (sz := 2) (fun _ => rfl) a ha x zs
      rw [W_gam (E := E1) (f := 58) (g := insG 95 2 40) rfl rfl (v := .slice (some ⟨σ.n, 0, none⟩) (l.length + 1) openCap) (σ' := (σ.put i .dead).alloc (.cells ((l.take a ++ x :: l.drop a).flatMap encR) 95 false)) (by
        rw [insG_some (sz := 2) hg hj rfl rfl (by omega) (by omega) hij (by omega) (cokL_take hck2 _) (by omega) (by omega) hbig, if_pos rfl, ← he]
        rfl)]
      refine h _ _ (.inr ⟨σ.n, openCap, ?_, hb, by simp, by simp, .inl rfl⟩) (((Fr.refl (fun t => t = 95) b σ).put hbi hg rfl _).alloc _)
      have : (l.take a ++ x :: l.drop a).length = l.length + 1 := by simp; omega
      rw [this]
    · have ha0 : a = 0 := by simpa using ha
      subst ha0
      rw [Int.natCast_zero, W_gam (E := E1) (f := 58) (g := insG 95 2 40) rfl rfl (v := .slice (some ⟨σ.n, 0, none⟩) 1 openCap) (σ' := σ.alloc (.cells (encR x) 95 false)) (by
        have hg' : σ.get i = some (.cells [] 95 false) := hg
        exact (insG_some (sz := 2) (n := 0) hg' hj rfl rfl (by omega) (by omega) hij (by simp) (by simp) (by omega) (by omega) (by omega)).trans ((if_neg (by simp [openCap])).trans (if_pos ⟨rfl, rfl⟩)))]
      exact h _ _ (.inr ⟨σ.n, openCap, rfl, hb, by simp, by simp, .inl rfl⟩) ((Fr.refl (fun t => t = 95) b σ).alloc _)

def Rws (σ : CSt) (R : List RV) (S : Stl) : Prop := R.length = S.length ∧ ∀ j (h : j < R.length) (h' : j < S.length), R[j].key = S[j].1 ∧ Sl σ 29 3 encV (.slice R[j].p R[j].n R[j].c) S[j].2
theorem Rws.fr {T : TypeId → Prop} {b : Nat} {σ σ' : CSt} {R : List RV} {S : Stl} (h : Rws σ R S) (ht : ¬ T 29) (hg : Fr T b σ σ') : Rws σ' R S := ⟨h.1, fun j h1 h2 => ⟨(h.2 j h1 h2).1, (h.2 j h1 h2).2.fr ht hg⟩⟩
theorem Rws.grow {σ σ' : CSt} {R : List RV} {S : Stl} (h : Rws σ R S) (hg : Grow σ σ') : Rws σ' R S := ⟨h.1, fun j h1 h2 => ⟨(h.2 j h1 h2).1, (h.2 j h1 h2).2.grow hg⟩⟩
theorem Rws.ins {σ : CSt} {R : List RV} {S : Stl} (h : Rws σ R S) (a : Nat) (ha : a ≤ R.length) (r : RV) (s : ByteArray × List Ver) (hr : r.key = s.1) (hs : Sl σ 29 3 encV (.slice r.p r.n r.c) s.2) : Rws σ (R.take a ++ r :: R.drop a) (S.take a ++ s :: S.drop a) := by
  have hl := h.1
  refine ⟨by simp; omega, fun j h1 h2 => ?_⟩
  rcases Nat.lt_trichotomy j a with hj | hj | hj
  · have e1 : (R.take a ++ r :: R.drop a)[j] = R[j] := by rw [List.getElem_append_left (by simp; omega), List.getElem_take]
    have e2 : (S.take a ++ s :: S.drop a)[j] = S[j] := by rw [List.getElem_append_left (by simp; omega), List.getElem_take]
    rw [e1, e2]; exact h.2 j _ _
  · subst hj
    have e1 : (R.take j ++ r :: R.drop j)[j] = r := by rw [List.getElem_append_right (by simp; omega)]; simp [Nat.min_eq_left ha]
    have e2 : (S.take j ++ s :: S.drop j)[j] = s := by rw [List.getElem_append_right (by simp; omega)]; simp [Nat.min_eq_left (hl ▸ ha)]
    rw [e1, e2]; exact ⟨hr, hs⟩
  · obtain ⟨k, rfl⟩ : ∃ k, j = a + 1 + k := ⟨j - (a + 1), by omega⟩
    have hk : a + k < R.length := by simp at h1; omega
    have e1 : (R.take a ++ r :: R.drop a)[a + 1 + k] = R[a + k] := by
      rw [List.getElem_append_right (by simp; omega)]
      have : a + 1 + k - (R.take a).length = k + 1 := by simp; omega
      simp only [this, List.getElem_cons_succ, List.getElem_drop]
    have e2 : (S.take a ++ s :: S.drop a)[a + 1 + k] = S[a + k] := by
      rw [List.getElem_append_right (by simp; omega)]
      have : a + 1 + k - (S.take a).length = k + 1 := by simp; omega
      simp only [this, List.getElem_cons_succ, List.getElem_drop]
    rw [e1, e2]; exact h.2 (a + k) _ _
theorem Rws.set {σ : CSt} {R : List RV} {S : Stl} (h : Rws σ R S) (a : Nat) (r : RV) (s : ByteArray × List Ver) (hr : r.key = s.1) (hs : Sl σ 29 3 encV (.slice r.p r.n r.c) s.2) : Rws σ (R.set a r) (S.set a s) := by
  have hl := h.1
  refine ⟨by simp; omega, fun j h1 h2 => ?_⟩
  by_cases e : a = j
  · subst e; simp; exact ⟨hr, hs⟩
  · rw [List.getElem_set_ne e, List.getElem_set_ne e]; exact h.2 j _ _
/-- A store that was made behind a point. -/
def St (b : Nat) (σ : CSt) (i : Nat) (S : Stl) : Prop := ∃ vr R, b ≤ i ∧ i < σ.n ∧ σ.get i = some (.cells [vr] 97 false) ∧ OwnZ b σ 95 encR vr R ∧ Rws σ R S
def stT (t : TypeId) : Prop := t = 95 ∨ t = 97
theorem St.grow {b : Nat} {σ σ' : CSt} {i : Nat} {S : Stl} (h : St b σ i S) (hg : Grow σ σ') : St b σ' i S := by
  obtain ⟨vr, R, h1, h2, h3, h4, h5⟩ := h
  exact ⟨vr, R, h1, Nat.lt_of_lt_of_le h2 hg.n, hg.get h3 h2, h4.grow hg, h5.grow hg⟩
theorem new_spec (σ : CSt) (Q : Out → CSt → Prop) (h : ∀ σ', St σ.n σ' σ.n [] → Grow σ σ' → Q (.ret (.pointer (some ⟨σ.n, 0, none⟩)) false) σ') : W E1 (.fn 50 #[] none) σ Q := by
  rw [W_fn (fn := Tryz.f50) Tryz.func50 rfl rfl rfl]
  have := h (σ.alloc (.cells [.slice none 0 0] 97 false)) ⟨.slice none 0 0, [], Nat.le_refl _, by simp, by simp, OwnZ.nil, rfl, fun j h => by simp at h⟩ ((Grow.refl σ).alloc _)
  simpa [wops_cons] using this
theorem find_store (S : Stl) (hk : KS S) (R : List RV) (v : Value) (k : ByteArray) (σ : CSt) (hr : Rws σ R S) (hsl : Sl σ 95 2 encR v R) (hbig : S.length < 2 ^ 40) (Q : Out → CSt → Prop)
    (h : ∀ (n : Nat) (σ' : CSt), Pos S k n → Grow σ σ' → Q (.ret (.tuple #[.int .i64 n, .bool (decide (∃ h : n < S.length, S[n].1 = k))]) false) σ') :
    W E1 (.fn 51 #[v, .string k, .func (.func 52) #[] #[]] none) σ Q := by
  have hl := hr.1
  have hlt : ∀ r : RV, ordR k r < 0 ↔ klt r.key k = true := by
    intro r
    unfold ordR
    cases h1 : klt r.key k
    · by_cases h2 : r.key = k <;> simp [h2]
    · simp
  have hz : ∀ r : RV, ordR k r = 0 ↔ r.key = k := by
    intro r
    unfold ordR
    cases h1 : klt r.key k
    · by_cases h2 : r.key = k <;> simp [h2]
    · simp
      intro e
      rw [e, klt_irrefl] at h1
      cases h1
  refine search_95 R v _ rfl (ordR k) σ hsl (by omega) (fun x σ Q h => orderR_spec k x σ Q h) (fun j m hj hm hjm ho => ?_) Q fun n σ' hc hg => ?_
  · rw [hlt] at ho ⊢
    have h1 := (hr.2 j hj (by omega)).1
    have h2 := (hr.2 m hm (by omega)).1
    have h3 := List.pairwise_iff_getElem.1 hk j m (by omega) (by omega) hjm
    rw [h2] at ho
    rw [h1]
    exact klt_trans h3 ho
  · have hp : Pos S k n := by
      refine ⟨by have := hc.le; omega, fun j hj hjn => ?_, fun j hj hjn => ?_⟩
      · have := hc.lo j (by omega) hjn
        rw [hlt, (hr.2 j (by omega) hj).1] at this
        exact this
      · have := hc.hi j (by omega) hjn
        cases h1 : klt S[j].1 k
        · rfl
        · have h2 := (hlt R[j]).2 (by rw [(hr.2 j (by omega) hj).1]; exact h1)
          omega
    have := h n σ' hp hg
    have e : (∃ h : n < R.length, ordR k R[n] = 0) ↔ ∃ h : n < S.length, S[n].1 = k :=
      ⟨fun ⟨h1, h2⟩ => ⟨by omega, by rw [← (hr.2 n h1 (by omega)).1]; exact (hz _).1 h2⟩, fun ⟨h1, h2⟩ => ⟨by omega, (hz _).2 (by rw [(hr.2 n (by omega) h1).1]; exact h2)⟩⟩
    rw [decide_eq_decide.2 e]
    exact this
end Go.Sm
