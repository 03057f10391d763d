/- Part C of the proof. -/
import Derived.Lib.Overlaps
import Derived.Laws.Externs
import Derived.IntWalk
import Derived.ChangeSlices
import Derived.Test.YtkcljmaklingoaaGreatDoorPartA
import Derived.Test.YtkcljmaklingoaaGreatDoorPartB
/- Equations that 'simp' runs the rules by. -/
set_option linter.unusedVariables false
set_option linter.unusedSimpArgs false
namespace Go.Sm
open Go

attribute [simp] W_skip W_label W_exit W_goto W_ret W_seq W_block W_scope W_scoped kseq_normal kseq_exit kseq_goto kseq_ret kseq_panic kloop_normal kloop_exit kloop_goto kloop_ret kloop_panic
  kblock_normal kblock_exit kblock_goto kblock_ret kblock_panic kscope_normal kscope_exit kscope_ret kscope_panic kfn_normal kfn_ret kfn_panic W_region wops_nil wres_val wres_panic
@[simp] theorem kblock_exit_ne' {id i : Nat} {a : CAct} {σ : CSt} {Q : Out → CSt → Prop} (h : i ≠ id) : kblock id Q (.code (.exit i) a) σ = Q (.code (.exit i) a) σ := by simp [kblock, h]

/-! ### Acts -/
@[simp] theorem enterAct_def (fn : Func) (args : Array Value) : enterAct fn args = { tm := enterTm args.toList 0 .nil, sz := max args.size fn.ntmps, df := [], tk := false } := (rfl)
@[simp] theorem enterTm_nil (i : Nat) (t : Tr Value) : enterTm [] i t = t := (rfl)
@[simp] theorem enterTm_cons (v : Value) (l : List Value) (i : Nat) (t : Tr Value) : enterTm (v :: l) i t = enterTm l (i + 1) (t.set i v) := (rfl)
@[simp] theorem get_mk (tm : Tr Value) (sz : Nat) (df : List CDef) (tk : Bool) (i : Nat) : CAct.get ⟨tm, sz, df, tk⟩ i = (tm.get i).getD undef := (rfl)
@[simp] theorem put_some (tm : Tr Value) (sz : Nat) (df : List CDef) (tk : Bool) (d : Nat) (v : Value) (h : d < sz) : CAct.put ⟨tm, sz, df, tk⟩ (some d) v = ⟨tm.set d v, sz, df, tk⟩ := by simp [CAct.put, h]
@[simp] theorem put_none (a : CAct) (v : Value) : a.put none v = a := (rfl)
@[simp] theorem eval_tmp (a : CAct) (t : Tmp) : a.eval (.tmp t) = a.get t := (rfl)
@[simp] theorem eval_const (a : CAct) (v : Value) : a.eval (.const v) = if flat v then v else undef := (rfl)
@[simp] theorem eval_global (a : CAct) (g : Nat) : a.eval (.global g) = if g < globalLimit then .pointer (some ⟨g, 0, none⟩) else undef := (rfl)
@[simp] theorem eval_func (a : CAct) (f : FuncId) : a.eval (.func f) = .func (.func f) #[] #[] := (rfl)
@[simp] theorem tr_same {α : Type} (t : Tr α) (i : Nat) (v : α) : (t.set i v).get i = some v := by rw [Tr.get_set, if_pos rfl]
@[simp] theorem tr_ne {α : Type} (t : Tr α) (i j : Nat) (v : α) (h : j ≠ i) : (t.set i v).get j = t.get j := by rw [Tr.get_set, if_neg h]

/-! ### Values -/
@[simp] theorem cells_agg (cs : Array Value) : (Value.agg cs).cells = cs := (rfl)
@[simp] theorem cells_int (k : IntKind) (n : Int) : (Value.int k n).cells = #[.int k n] := (rfl)
@[simp] theorem cells_bool (b : Bool) : (Value.bool b).cells = #[.bool b] := (rfl)
@[simp] theorem cells_string (s : ByteArray) : (Value.string s).cells = #[.string s] := (rfl)
@[simp] theorem cells_pointer (p : Option Addr) : (Value.pointer p).cells = #[.pointer p] := (rfl)
@[simp] theorem cells_slice (p : Option Addr) (n c : Nat) : (Value.slice p n c).cells = #[.slice p n c] := (rfl)
@[simp] theorem cells_map (p : Option Nat) : (Value.map p).cells = #[.map p] := (rfl)
/-- A value's cells, as a list; may each of them be a cell. -/
def clist (v : Value) : List Value := v.cells.toList
def cokL (l : List Value) : Bool := l.all cellv
@[simp] theorem cokL_nil : cokL [] = true := (rfl)
@[simp] theorem cokL_cons (v : Value) (l : List Value) : cokL (v :: l) = (cellv v && cokL l) := (rfl)
@[simp] theorem cokL_append (l m : List Value) : cokL (l ++ m) = (cokL l && cokL m) := by simp [cokL]
theorem cokL_take {l : List Value} (h : cokL l = true) (n : Nat) : cokL (l.take n) = true := by
  simp only [cokL, List.all_eq_true] at h ⊢
  exact fun v hv => h v (List.mem_of_mem_take hv)
theorem cokL_drop {l : List Value} (h : cokL l = true) (n : Nat) : cokL (l.drop n) = true := by
  simp only [cokL, List.all_eq_true] at h ⊢
  exact fun v hv => h v (List.mem_of_mem_drop hv)
def cok (v : Value) : Bool := cokL (clist v)
@[simp] theorem cv_bool (b : Bool) : cellv (.bool b) = true := (rfl)
@[simp] theorem cv_int (k : IntKind) (n : Int) : cellv (.int k n) = true := (rfl)
@[simp] theorem cv_float (k : FloatKind) (n : Nat) : cellv (.float k n) = true := (rfl)
@[simp] theorem cv_complex (k : FloatKind) (n m : Nat) : cellv (.complex k n m) = true := (rfl)
@[simp] theorem cv_string (s : ByteArray) : cellv (.string s) = true := (rfl)
@[simp] theorem cv_pointer (p : Option Addr) : cellv (.pointer p) = true := (rfl)
@[simp] theorem cv_slice (p : Option Addr) (n c : Nat) : cellv (.slice p n c) = true := (rfl)
@[simp] theorem cv_map (p : Option Nat) : cellv (.map p) = true := (rfl)
@[simp] theorem cv_func (f : Fn) (as0 cs : Array Value) : cellv (.func f as0 cs) = true := (rfl)
@[simp] theorem cv_nilFunc : cellv .nilFunc = true := (rfl)
@[simp] theorem cv_iface (t : TypeId) (v : Value) : cellv (.iface t v) = true := (rfl)
@[simp] theorem cv_nilIface : cellv .nilIface = true := (rfl)
@[simp] theorem clist_agg (cs : Array Value) : clist (.agg cs) = cs.toList := (rfl)
@[simp] theorem clist_int (k : IntKind) (n : Int) : clist (.int k n) = [.int k n] := (rfl)
@[simp] theorem clist_bool (b : Bool) : clist (.bool b) = [.bool b] := (rfl)
@[simp] theorem clist_string (s : ByteArray) : clist (.string s) = [.string s] := (rfl)
@[simp] theorem clist_pointer (p : Option Addr) : clist (.pointer p) = [.pointer p] := (rfl)
@[simp] theorem clist_slice (p : Option Addr) (n c : Nat) : clist (.slice p n c) = [.slice p n c] := (rfl)
@[simp] theorem clist_map (p : Option Nat) : clist (.map p) = [.map p] := (rfl)
@[simp] theorem clist_func (f : Fn) (as0 cs : Array Value) : clist (.func f as0 cs) = [.func f as0 cs] := (rfl)
@[simp] theorem clist_nilFunc : clist .nilFunc = [.nilFunc] := (rfl)
@[simp] theorem clist_iface (t : TypeId) (v : Value) : clist (.iface t v) = [.iface t v] := (rfl)
@[simp] theorem clist_nilIface : clist .nilIface = [.nilIface] := (rfl)
@[simp] theorem cok_agg (cs : Array Value) : cok (.agg cs) = cokL cs.toList := (rfl)
@[simp] theorem cok_int (k : IntKind) (n : Int) : cok (.int k n) = true := (rfl)
@[simp] theorem cok_bool (b : Bool) : cok (.bool b) = true := (rfl)
@[simp] theorem cok_string (s : ByteArray) : cok (.string s) = true := (rfl)
@[simp] theorem cok_pointer (p : Option Addr) : cok (.pointer p) = true := (rfl)
@[simp] theorem cok_slice (p : Option Addr) (n c : Nat) : cok (.slice p n c) = true := (rfl)
@[simp] theorem cok_map (p : Option Nat) : cok (.map p) = true := (rfl)
@[simp] theorem cok_func (f : Fn) (as0 cs : Array Value) : cok (.func f as0 cs) = true := (rfl)
@[simp] theorem cok_nilFunc : cok .nilFunc = true := (rfl)
@[simp] theorem cok_iface (t : TypeId) (v : Value) : cok (.iface t v) = true := (rfl)
@[simp] theorem cok_nilIface : cok .nilIface = true := (rfl)
attribute [simp] flat flat0

/-! ### States -/
@[simp] theorem alloc_n (σ : CSt) (o : CObj) : (σ.alloc o).n = σ.n + 1 := (rfl)
@[simp] theorem put_n (σ : CSt) (i : Nat) (o : CObj) : (σ.put i o).n = σ.n := (rfl)
@[simp] theorem alloc_get (σ : CSt) (o : CObj) (i : Nat) : (σ.alloc o).get i = if i = σ.n then some o else σ.get i := CSt.get_alloc ..
@[simp] theorem put_get (σ : CSt) (i j : Nat) (o : CObj) : (σ.put i o).get j = if j = i then some o else σ.get j := CSt.get_put ..
@[simp] theorem cells_of (σ : CSt) (i : Nat) {c : List Value} {e : TypeId} {ro : Bool} (h : σ.get i = some (.cells c e ro)) : σ.cells i = some (c, e, ro) := by simp [CSt.cells, h]

/-! ### What 'simp' leaves alone -/
section
variable {E : Env}
@[congr] theorem wres_congr (E : Env) (x : Ctx) (a : CAct) (d : Option Tmp) (K : CAct → CSt → Prop) (Q : Out → CSt → Prop) (σ : CSt) {r r' : OpR} (h : r = r') : wres E x a d K Q σ r = wres E x a d K Q σ r' := by rw [h]
@[congr] theorem wops_congr (E : Env) (x : Ctx) (ops : Array Oper) (Q : Out → CSt → Prop) (l : List Oper) {a a' : CAct} {σ σ' : CSt} (h : a = a') (h' : σ = σ') : wops E x ops Q l a σ = wops E x ops Q l a' σ' := by rw [h, h']
@[congr] theorem code_congr (x : Ctx) (c : Code) {a a' : CAct} (h : a = a') : Task.code x c a = Task.code x c a' := by rw [h]
@[congr] theorem scope_congr (x : Ctx) (b c : Code) {a a' : CAct} (h : a = a') : Task.scope x b c a = Task.scope x b c a' := by rw [h]
@[congr] theorem W_congr (E : Env) {t t' : Task} {σ σ' : CSt} (Q : Out → CSt → Prop) (h : t = t') (h' : σ = σ') : W E t σ Q = W E t' σ' Q := by rw [h, h']
@[congr] theorem kseq_congr (E : Env) (x : Ctx) (d : Code) (Q : Out → CSt → Prop) {o o' : Out} {σ σ' : CSt} (h : o = o') (h' : σ = σ') : kseq E x d Q o σ = kseq E x d Q o' σ' := by rw [h, h']
@[congr] theorem kloop_congr (E : Env) (x : Ctx) (d : Code) (Q : Out → CSt → Prop) {o o' : Out} {σ σ' : CSt} (h : o = o') (h' : σ = σ') : kloop E x d Q o σ = kloop E x d Q o' σ' := by rw [h, h']
@[congr] theorem kblock_congr (id : Nat) (Q : Out → CSt → Prop) {o o' : Out} {σ σ' : CSt} (h : o = o') (h' : σ = σ') : kblock id Q o σ = kblock id Q o' σ' := by rw [h, h']

/-- A condition's two ways. -/
def condK (v : Value) (p q : Prop) : Prop := match v with | .bool b => if b = true then p else q | _ => False
@[congr] theorem condK_congr {v v' : Value} (p q : Prop) (h : v = v') : condK v p q = condK v' p q := by rw [h]
@[simp] theorem W_condK {x : Ctx} {c : Operand} {t e : Code} {a : CAct} {σ : CSt} {Q : Out → CSt → Prop} : W E (.code x (.cond c t e) a) σ Q = condK (a.eval c) (W E (.code x t a) σ Q) (W E (.code x e a) σ Q) := by
  rw [W_eq]
  simp only [F, condK]
  cases a.eval c <;> try rfl
  rename_i b
  cases b <;> rfl
@[simp] theorem condK_bool {b : Bool} {p q : Prop} : condK (.bool b) p q = if b = true then p else q := (rfl)

/-- A result. -/
def retK (P : Program) (σ : CSt) (a : CAct) (fn : Option Func) (Q : Value → Prop) : Prop :=
  match fn with | some fn => (match resultsOf P σ fn a with | some v => Q v | none => False) | none => False
@[simp] theorem W_unwK {f : FuncId} {dk : Option (Option Value)} {tm : Tr Value} {sz : Nat} {tk : Bool} {σ : CSt} {Q : Out → CSt → Prop} :
    W E (.unw ⟨f, none, dk⟩ ⟨tm, sz, [], tk⟩ none) σ Q = retK E.P σ ⟨tm, sz, [], tk⟩ E.P.funcs[f]? fun v => Q (.ret v tk) σ := by
  rw [W_eq]
  rfl
def retV (P : Program) (σ : CSt) (a : CAct) (l : List ResultVar) : Option Value :=
  match resultsL P σ a l with
  | some [v] => some v
  | some l => some (.tuple l.toArray)
  | none => none
@[simp] theorem retK_some {P : Program} {σ : CSt} {a : CAct} {fn : Func} {Q : Value → Prop} : retK P σ a (some fn) Q = match retV P σ a fn.results.toList with | some v => Q v | none => False := (rfl)
@[simp] theorem resultsL_nil {P : Program} {σ : CSt} {a : CAct} : resultsL P σ a [] = some [] := (rfl)
@[simp] theorem resultsL_tmp {P : Program} {σ : CSt} {a : CAct} {t : Tmp} {l : List ResultVar} : resultsL P σ a (.tmp t :: l) = (resultsL P σ a l).map fun r => a.get t :: r := (rfl)
@[simp] theorem resultsL_cell {P : Program} {σ : CSt} {a : CAct} {t : Tmp} {ty : TypeId} {l : List ResultVar} : resultsL P σ a (.cell t ty :: l) = match loadAt P σ ty (a.get t) with | some v => (resultsL P σ a l).map fun r => v :: r | none => none := (rfl)
attribute [simp] retV
end
end Go.Sm
/- What operations do, by short facts of types. -/
set_option linter.unusedVariables false
set_option linter.unusedSimpArgs false
namespace Go.Sm
open Go

/-- What is asked of a type. -/
structure TF where
  size : Nat
  bytes : Nat
  zero : Option (List Value)
  agg : Bool
  und : Bool
def tf (P : Program) (t : TypeId) : Option TF := (P.info? t).map fun inf => ⟨inf.size, inf.bytes, inf.zero.map (·.cells.toList), isAggT P t, (P.underlying t).isSome⟩
def elemT (P : Program) (t : TypeId) : Option TypeId := match P.underlying t with | some (.slice e) => some e | _ => none
/-- Where a field lies. -/
def fieldT (P : Program) (s : TypeId) (f : Nat) : Option Nat :=
  match P.underlying s with
  | some (.struct fs) => match fs[f]? with
    | some fl => match P.info? fl.type with
      | some inf => if inf.size = 0 then none else some fl.offset
      | none => none
    | none => none
  | _ => none
/-- A struct's fields: where, how many cells. -/
def partsT (P : Program) (t : TypeId) : Option (List (Nat × Nat)) :=
  match P.underlying t with
  | some (.struct fs) => partsOf P fs.toList
  | _ => none

section
variable {P : Program} {σ : CSt}

/-! ### Loads and stores -/
def loadK : Option TF → Option CObj → Nat → Option Value
  | some f, some (.cells c _ _), off => if f.agg then (ld c off f.size).map (fun l => .agg l.toArray) else if f.und then c[off]? else none
  | _, _, _ => none
@[simp] theorem loadK_sc (s b : Nat) (z : Option (List Value)) (c : List Value) (e : TypeId) (ro : Bool) (off : Nat) : loadK (some ⟨s, b, z, false, true⟩) (some (.cells c e ro)) off = c[off]? := by simp [loadK]
@[simp] theorem loadK_ag (s b : Nat) (z : Option (List Value)) (c : List Value) (e : TypeId) (ro u : Bool) (off : Nat) : loadK (some ⟨s, b, z, true, u⟩) (some (.cells c e ro)) off = (ld c off s).map fun l => .agg l.toArray := by simp [loadK]
@[simp] theorem loadAt_eq (t : TypeId) (i off : Nat) : loadAt P σ t (.pointer (some ⟨i, off, none⟩)) = loadK (tf P t) (σ.get i) off := by
  simp only [loadAt, CSt.cells, tf]
  generalize σ.get i = o
  cases P.info? t with
  | none =>
    cases o with
    | none => rfl
    | some o => cases o <;> rfl
  | some inf =>
    cases o with
    | none => rfl
    | some o =>
      cases o with
      | cells c e ro =>
        simp only [Option.map_some, loadK]
        cases P.underlying t <;> simp
      | _ => rfl
def storeK : Option TF → Option CObj → Nat → Value → Option CObj
  | some f, some (.cells c e false), off, v => if (clist v).length = f.size ∧ cok v = true then (st c off (clist v)).map (fun c' => .cells c' e false) else none
  | _, _, _, _ => none
@[simp] theorem storeK_eq (s b : Nat) (z : Option (List Value)) (g u : Bool) (c : List Value) (e : TypeId) (off : Nat) (v : Value) :
    storeK (some ⟨s, b, z, g, u⟩) (some (.cells c e false)) off v = if (clist v).length = s ∧ cok v = true then (st c off (clist v)).map (fun c' => .cells c' e false) else none := (rfl)
@[simp] theorem storeAt_eq (t : TypeId) (i off : Nat) (v : Value) : storeAt P σ t (.pointer (some ⟨i, off, none⟩)) v = (storeK (tf P t) (σ.get i) off v).map (σ.put i ·) := by
  simp only [storeAt, CSt.cells, tf]
  generalize σ.get i = o
  cases o with
  | none => cases P.info? t <;> rfl
  | some o =>
    cases o with
    | cells c e ro =>
      cases P.info? t with
      | none => rfl
      | some inf =>
        cases ro with
        | true => simp [storeK]
        | false =>
          simp only [Option.map_some, storeK, true_and]
          by_cases hc : (clist v).length = inf.size ∧ cok v = true
          · have hc' : v.cells.size = inf.size ∧ v.cells.toList.all cellv = true := hc
            rw [if_pos hc, if_pos hc', Option.map_map]
            rfl
          · have hc' : ¬ (v.cells.size = inf.size ∧ v.cells.toList.all cellv = true) := hc
            rw [if_neg hc, if_neg hc']
            rfl
    | _ => cases P.info? t <;> rfl
@[simp] theorem ld_eq (c : List Value) (off n : Nat) : ld c off n = if off + n ≤ c.length then some ((c.drop off).take n) else none := (rfl)
@[simp] theorem st_eq (c : List Value) (off : Nat) (vs : List Value) : st c off vs = if off + vs.length ≤ c.length then some (c.take off ++ vs ++ c.drop (off + vs.length)) else none := (rfl)

/-! ### Addresses -/
@[simp] theorem fieldAt_eq (s : TypeId) (i off f : Nat) : fieldAt P s (.pointer (some ⟨i, off, none⟩)) f = (fieldT P s f).map fun o => .pointer (some ⟨i, off + o, none⟩) := by
  unfold fieldAt fieldT
  cases P.underlying s with
  | none => rfl
  | some d =>
    cases d with
    | struct fs =>
      simp only
      cases fs[f]? with
      | none => rfl
      | some fl =>
        simp only
        cases P.info? fl.type with
        | none => rfl
        | some inf =>
          simp only
          split <;> rfl
    | _ => rfl
def idxK : Option TF → Nat → Nat → Nat → Int → Option Value
  | some f, i, off, len, n => if 0 ≤ n ∧ n < len then some (.pointer (some ⟨i, off + n.toNat * f.size, none⟩)) else none
  | none, _, _, _, _ => none
@[simp] theorem idxK_eq (s b : Nat) (z : Option (List Value)) (g u : Bool) (i off len : Nat) (n : Int) : idxK (some ⟨s, b, z, g, u⟩) i off len n = if 0 ≤ n ∧ n < len then some (.pointer (some ⟨i, off + n.toNat * s, none⟩)) else none := (rfl)
theorem indexAt_sl {t e : TypeId} (h : elemT P t = some e) (i off len cap : Nat) (k : IntKind) (n : Int) : indexAt P t (.slice (some ⟨i, off, none⟩) len cap) (.int k n) = idxK (tf P e) i off len n := by
  unfold elemT at h
  split at h
  · rename_i e' hu
    cases h
    unfold indexAt
    simp only [hu, tf]
    cases P.info? e <;> rfl
  · cases h

/-! ### Operations -/
variable {ev : Operand → Value} {dst : Option Tmp} {ty : TypeId} {pos : String} {after : Array Edge} {g : Option (Nat × Bool)}
@[simp] theorem ofV_some (v : Value) : OpR.ofV σ (some v) = .val v σ := (rfl)
@[simp] theorem ofV_none : OpR.ofV σ none = .fail := (rfl)
@[simp] theorem ofS_some (σ' : CSt) : OpR.ofS (some σ') = .val undef σ' := (rfl)
@[simp] theorem ofP_some (v : Value) (σ' : CSt) : OpR.ofP (some (v, σ')) = .val v σ' := (rfl)
@[simp] theorem or_val' (v : Value) (σ' : CSt) (r : OpR) : (OpR.val v σ').or r = .val v σ' := (rfl)
@[simp] theorem or_fail (r : OpR) : OpR.fail.or r = r := (rfl)

@[simp] theorem copE_move (x : Operand) : cop P σ ev ⟨dst, .move x, ty, pos, after, g⟩ = .val (ev x) σ := (rfl)
@[simp] theorem copE_assign (x : Operand) : cop P σ ev ⟨dst, .assign x, ty, pos, after, g⟩ = .val (ev x) σ := (rfl)
@[simp] theorem copE_box (e : TypeId) (x : Operand) : cop P σ ev ⟨dst, .box e x, ty, pos, after, g⟩ = if cok (ev x) = true then .val (.pointer (some ⟨σ.n, 0, none⟩)) (σ.alloc (.cells (clist (ev x)) e false)) else .fail := (rfl)
@[simp] theorem copE_load (t : TypeId) (a : Operand) : cop P σ ev ⟨dst, .load t a, ty, pos, after, g⟩ = OpR.ofV σ (loadAt P σ t (ev a)) := (rfl)
@[simp] theorem copE_store (t : TypeId) (a x : Operand) : cop P σ ev ⟨dst, .store t a x, ty, pos, after, g⟩ = OpR.ofS (storeAt P σ t (ev a) (ev x)) := (rfl)
@[simp] theorem copE_fieldAddr (s : TypeId) (x : Operand) (f : Nat) : cop P σ ev ⟨dst, .fieldAddr s x f, ty, pos, after, g⟩ = OpR.ofV σ (fieldAt P s (ev x) f) := (rfl)
@[simp] theorem copE_indexAddr (t : TypeId) (x ix : Operand) : cop P σ ev ⟨dst, .indexAddr t x ix, ty, pos, after, g⟩ = OpR.ofV σ (indexAt P t (ev x) (ev ix)) := (rfl)

/-! ### Arithmetic -/
/-- Two operands that have no address. -/
def binF (P : Program) (σ : CSt) (op : BinOp) (t : TypeId) (x y : Operand) (a b : Value) : OpR :=
  if flat a && flat b then
    match pureRun P (do eqGuard op t x y a b; binOp op t a b) with
    | some v => if flat v then .val v σ else .fail
    | none => .fail
  else .fail
theorem pureRun_v {s : Sem Value} : pureRun P (do pure (Next.value (← s))) = (pureRun P s).map Next.value := by
  induction s with
  | pure a => rfl
  | program k ih => exact ih P
  | _ => rfl
@[simp] theorem copE_bin (op : BinOp) (t u : TypeId) (x y : Operand) : cop P σ ev ⟨dst, .binOp op t x y u, ty, pos, after, g⟩ = match isNilCmp P op t (ev x) (ev y) with | some v => .val v σ | none => binF P σ op t x y (ev x) (ev y) := by
  simp only [cop]
  congr 1
  funext
  simp only [flatOp, binF, Op.operands, execOp]
  simp only [List.all_cons, List.all_nil, Bool.and_true]
  rw [pureRun_v]
  cases pureRun P (do eqGuard op t x y (ev x) (ev y); binOp op t (ev x) (ev y)) <;> rfl
theorem nilPair_of {t : TypeId} {x y : Value} (h : match x with | .int _ _ | .string _ | .bool _ | .agg _ | .float _ _ => True | _ => False) : nilPair P t x y = false := by
  unfold nilPair
  cases x <;> simp only at h <;> (split <;> simp_all)
@[simp] theorem isNil_int (op : BinOp) (t : TypeId) (k : IntKind) (a : Int) (y : Value) : isNilCmp P op t (.int k a) y = none := by simp [isNilCmp, nilPair_of]
@[simp] theorem isNil_string (op : BinOp) (t : TypeId) (a : ByteArray) (y : Value) : isNilCmp P op t (.string a) y = none := by simp [isNilCmp, nilPair_of]
@[simp] theorem isNil_bool (op : BinOp) (t : TypeId) (a : Bool) (y : Value) : isNilCmp P op t (.bool a) y = none := by simp [isNilCmp, nilPair_of]
@[simp] theorem isNil_agg (op : BinOp) (t : TypeId) (a : Array Value) (y : Value) : isNilCmp P op t (.agg a) y = none := by simp [isNilCmp, nilPair_of]

@[simp] theorem pureRun_pure {α : Type} (a : α) : pureRun P (pure a) = some a := (rfl)
variable {t : TypeId} {x y : Operand} {k : IntKind} {a b : Int} {s u : ByteArray}
@[simp] theorem bin_add : binF P σ .add t x y (.int k a) (.int k b) = .val (.int k (k.wrap (a + b))) σ := by simp [binF, eqGuard, binOp, Op.intArith]
@[simp] theorem bin_sub : binF P σ .sub t x y (.int k a) (.int k b) = .val (.int k (k.wrap (a - b))) σ := by simp [binF, eqGuard, binOp, Op.intArith]
@[simp] theorem bin_mul : binF P σ .mul t x y (.int k a) (.int k b) = .val (.int k (k.wrap (a * b))) σ := by simp [binF, eqGuard, binOp, Op.intArith]
@[simp] theorem bin_quo (h : b ≠ 0) : binF P σ .quo t x y (.int k a) (.int k b) = .val (.int k (k.wrap (a.tdiv b))) σ := by simp [binF, eqGuard, binOp, Op.intDiv, h]
@[simp] theorem bin_rem (h : b ≠ 0) : binF P σ .rem t x y (.int k a) (.int k b) = .val (.int k (a.tmod b)) σ := by simp [binF, eqGuard, binOp, Op.intDiv, h]
@[simp] theorem bin_eql : binF P σ .eql t x y (.int k a) (.int k b) = .val (.bool (decide (a = b))) σ := by simp [binF, eqGuard, binOp, Op.intCmp]; rfl
@[simp] theorem bin_neq : binF P σ .neq t x y (.int k a) (.int k b) = .val (.bool (!decide (a = b))) σ := by simp [binF, eqGuard, binOp, Op.intCmp]; rfl
@[simp] theorem bin_lss : binF P σ .lss t x y (.int k a) (.int k b) = .val (.bool (decide (a < b))) σ := by simp [binF, eqGuard, binOp, Op.intCmp]
@[simp] theorem bin_leq : binF P σ .leq t x y (.int k a) (.int k b) = .val (.bool (decide (a ≤ b))) σ := by simp [binF, eqGuard, binOp, Op.intCmp]
@[simp] theorem bin_gtr : binF P σ .gtr t x y (.int k a) (.int k b) = .val (.bool (decide (b < a))) σ := by simp [binF, eqGuard, binOp, Op.intCmp]
@[simp] theorem bin_geq : binF P σ .geq t x y (.int k a) (.int k b) = .val (.bool (decide (b ≤ a))) σ := by simp [binF, eqGuard, binOp, Op.intCmp]

end
end Go.Sm
/- Regions that draw their order, run by 'simp'. -/
set_option linter.unusedVariables false
set_option linter.unusedSimpArgs false
namespace Go.Sm
open Go

section
variable {E : Env}

def dres (E : Env) (ops : Array Oper) (a0 a : CAct) (d : Option Tmp) (K : CAct → CSt → Prop) (Q : Out → CSt → Prop) (σ : CSt) : OpR → Prop
  | .val v σ' => K (a.put d v) σ'
  | .call fv args =>
    match extOf E fv args σ with
    | some _ => False
    | none => callv latP (W E) fv args none σ fun out σ' =>
      match out with
      | .ret v _ => K (a.put d v) σ'
      | .pan v => Q (.code (.panic v) (eraseAll ops a0)) σ'
      | _ => False
  | _ => False
@[congr] theorem dres_congr (E : Env) (ops : Array Oper) (a0 a : CAct) (d : Option Tmp) (K : CAct → CSt → Prop) (Q : Out → CSt → Prop) (σ : CSt) {r r' : OpR} (h : r = r') : dres E ops a0 a d K Q σ r = dres E ops a0 a d K Q σ r' := by rw [h]
@[simp] theorem dres_val {ops : Array Oper} {a0 a : CAct} {d : Option Tmp} {K : CAct → CSt → Prop} {Q : Out → CSt → Prop} {σ σ' : CSt} {v : Value} : dres E ops a0 a d K Q σ (.val v σ') = K (a.put d v) σ' := (rfl)

/-- In the order of the text. -/
def dops (E : Env) (ops : Array Oper) (Q : Out → CSt → Prop) (a0 : CAct) : List Oper → CAct → CSt → Prop
  | [], a, σ => Q (.code .normal a) σ
  | o :: rest, a, σ =>
    match wantedC ops a o with
    | some true => dres E ops a0 a o.dst (dops E ops Q a0 rest) Q σ (cop E.P σ a.eval o)
    | some false => dops E ops Q a0 rest (a.put o.dst nope) σ
    | none => False
@[congr] theorem dops_congr (E : Env) (ops : Array Oper) (Q : Out → CSt → Prop) (a0 : CAct) (l : List Oper) {a a' : CAct} {σ σ' : CSt} (h : a = a') (h' : σ = σ') : dops E ops Q a0 l a σ = dops E ops Q a0 l a' σ' := by rw [h, h']
@[simp] theorem dops_nil {ops : Array Oper} {a0 a : CAct} {σ : CSt} {Q : Out → CSt → Prop} : dops E ops Q a0 [] a σ = Q (.code .normal a) σ := (rfl)
theorem dops_cons {ops : Array Oper} {a0 a : CAct} {σ : CSt} {Q : Out → CSt → Prop} {o : Oper} {rest : List Oper} (hg : o.guard = none) :
    dops E ops Q a0 (o :: rest) a σ = dres E ops a0 a o.dst (dops E ops Q a0 rest) Q σ (cop E.P σ a.eval o) := by
  rw [dops]
  simp only [wantedC, hg]

def calmGo (P : Program) (ops : Array Oper) (b : Array Nat) : List Nat → List Nat → Bool
  | [], _ => true
  | i :: rest, dn => (!isEff P (opAt ops i) || dn.all (fun r => befBits b i r || !isRead (opAt ops r) || isEff P (opAt ops r))) && calmGo P ops b rest (i :: dn)
def calmId (P : Program) (ops : Array Oper) : Bool :=
  planOf P ops == List.range ops.size && planOk P ops (List.range ops.size) && calmGo P ops (bef ops) (List.range ops.size) []

theorem call_eff {P : Program} {σ : CSt} {ev : Operand → Value} {o : Oper} {fv : Value} {args : Array Value} (h : cop P σ ev o = .call fv args) : isEff P o = true := by
  have := cop_inv P σ ev o
  rw [h] at this
  obtain ⟨c, f, hop, hf, _, _⟩ := this
  simp [isEff, hop, hf]

theorem calm_go {ops : Array Oper} {b : Array Nat} {Q : Out → CSt → Prop} {a0 : CAct} : ∀ (l dn : List Nat) (a : CAct) (σ : CSt) (rs : List Rec), calmGo E.P ops b l dn = true → (∀ r ∈ rs, r.i ∈ dn ∧ isEff E.P (opAt ops r.i) = false) →
    dops E ops Q a0 (l.map (opAt ops)) a σ → dgo latP E (W E) ops b a0 Q l a σ rs
  | [], dn, a, σ, rs, hc, hr, h => h
  | i :: rest, dn, a, σ, rs, hc, hr, h => by
    simp only [calmGo, Bool.and_eq_true] at hc
    obtain ⟨hc1, hc2⟩ := hc
    have hr' : ∀ r ∈ rs, r.i ∈ i :: dn ∧ isEff E.P (opAt ops r.i) = false := fun r h => ⟨by simp [(hr r h).1], (hr r h).2⟩
    unfold dgo
    simp only [List.map_cons, dops] at h ⊢
    cases hw : wantedC ops a (opAt ops i) with
    | none => rw [hw] at h; exact h.elim
    | some wb =>
      rw [hw] at h
      cases wb with
      | false => exact calm_go rest (i :: dn) _ _ rs hc2 hr' h
      | true =>
        simp only at h ⊢
        by_cases he : isEff E.P (opAt ops i) = true
        · rw [if_pos he]
          have hre : ∀ σ', recheck E.P ops b σ' i rs = true := by
            intro σ'
            simp only [recheck, List.all_eq_true]
            intro r hrm
            obtain ⟨h1, h2⟩ := hr r hrm
            simp only [he, Bool.not_true, Bool.false_or, List.all_eq_true] at hc1
            have := hc1 _ h1
            rw [h2, Bool.or_false] at this
            rw [this, Bool.true_or]
          cases hcp : cop E.P σ a.eval (opAt ops i) with
          | val v σ' =>
            rw [hcp] at h
            simp only [hre, if_true]
            exact calm_go rest (i :: dn) _ _ rs hc2 hr' h
          | call fv args =>
            rw [hcp] at h
            simp only [dres] at h ⊢
            cases hx : extOf E fv args σ with
            | some v => rw [hx] at h; exact h.elim
            | none =>
              rw [hx] at h
              simp only at h ⊢
              refine callv_rel (tr := id) (N := latP) (fun h => h) (fun t σ Q Q' hq h => W.mono t σ Q Q' hq h) (fun out σ' hq => ?_) h
              cases out with
              | ret v tk =>
                simp only [hre, if_true]
                exact calm_go rest (i :: dn) _ _ rs hc2 hr' hq
              | pan v => exact hq
              | code e a => exact hq
          | _ => rw [hcp] at h; exact h.elim
        · rw [if_neg he]
          have he' : isEff E.P (opAt ops i) = false := by simpa using he
          cases hcp : cop E.P σ a.eval (opAt ops i) with
          | val v σ' =>
            rw [hcp] at h
            have := cop_quiet he' hcp
            subst this
            refine calm_go rest (i :: dn) _ _ _ hc2 (fun r hrm => ?_) h
            rcases List.mem_cons.1 hrm with rfl | hrm
            · exact ⟨by simp, he'⟩
            · exact hr' r hrm
          | call fv args => exact absurd (call_eff hcp) he
          | _ => rw [hcp] at h; exact h.elim

theorem W_calm {x : Ctx} {id : Nat} {ops : Array Oper} {a : CAct} {σ : CSt} {Q : Out → CSt → Prop} (hk : calmId E.P ops = true) (h : dops E ops Q a ops.toList a σ) : W E (.code x (.region id ops true) a) σ Q := by
  simp only [calmId, Bool.and_eq_true, beq_iff_eq] at hk
  obtain ⟨⟨h1, h2⟩, h3⟩ := hk
  rw [W_eq]
  simp only [F, h1, h2, if_true]
  refine calm_go _ [] _ _ _ h3 (by simp) ?_
  have : (List.range ops.size).map (opAt ops) = ops.toList := by
    apply List.ext_getElem
    · simp
    · intro i h1 h2
      simp at h1
      simp [opAt, h1]
  rw [this]
  exact h

/-! ### With what was read looked at again -/
def isVal (v : Value) : OpR → Prop
  | .val u _ => u = v
  | _ => False
@[simp] theorem isVal_val (v u : Value) (σ : CSt) : isVal v (.val u σ) = (u = v) := (rfl)
/-- What was read is the same behind it. -/
def again (P : Program) (ops : Array Oper) (b : Array Nat) (σ : CSt) (e : Nat) : List Rec → Prop
  | [] => True
  | r :: rs => ((befBits b e r.i || !isRead (opAt ops r.i)) = true ∨ isVal r.v (cop P σ r.a.eval (opAt ops r.i))) ∧ again P ops b σ e rs

mutual
theorem vbeq_self : ∀ v : Value, vbeq v v = true
  | .bool a => by simp [vbeq]
  | .int k a => by simp [vbeq]
  | .float k a => by simp [vbeq]
  | .complex k a c => by simp [vbeq]
  | .string ⟨⟨a⟩⟩ => by simp [vbeq]
  | .pointer a => by simp [vbeq]
  | .slice a n c => by simp [vbeq]
  | .map a => by simp [vbeq]
  | .chan a => by simp [vbeq]
  | .func f ⟨x⟩ ⟨y⟩ => by simp [vbeq, vbeqL_self x, vbeqL_self y]
  | .nilFunc => by simp [vbeq]
  | .iface t v => by simp [vbeq, vbeq_self v]
  | .nilIface => by simp [vbeq]
  | .agg ⟨x⟩ => by simp [vbeq, vbeqL_self x]
  | .tuple ⟨x⟩ => by simp [vbeq, vbeqL_self x]
theorem vbeqL_self : ∀ l : List Value, vbeqL l l = true
  | [] => by simp [vbeqL]
  | x :: l => by simp [vbeqL, vbeq_self x, vbeqL_self l]
end

theorem again_recheck {ops : Array Oper} {b : Array Nat} {σ : CSt} {e : Nat} : ∀ {rs : List Rec}, again E.P ops b σ e rs → recheck E.P ops b σ e rs = true
  | [], h => rfl
  | r :: rs, h => by
    obtain ⟨h1, h2⟩ := h
    have ih := again_recheck h2
    simp only [recheck, List.all_cons, Bool.and_eq_true] at ih ⊢
    refine ⟨?_, ih⟩
    rcases h1 with h1 | h1
    · rw [h1, Bool.true_or]
    · unfold isVal at h1
      split at h1
      · rename_i u s hu
        rw [hu, h1]
        simp [vbeq_self]
      · exact h1.elim

def rres (K : Value → Prop) : OpR → Prop
  | .val v _ => K v
  | _ => False
@[congr] theorem rres_congr (K : Value → Prop) {r r' : OpR} (h : r = r') : rres K r = rres K r' := by rw [h]
@[simp] theorem rres_val (K : Value → Prop) (v : Value) (σ : CSt) : rres K (.val v σ) = K v := (rfl)
/-- A region's operations in the order of a plan. -/
def dopsR (E : Env) (ops : Array Oper) (b : Array Nat) (Q : Out → CSt → Prop) (a0 : CAct) : List (Nat × Oper) → CAct → CSt → List Rec → Prop
  | [], a, σ, _ => Q (.code .normal a) σ
  | (i, o) :: rest, a, σ, rs =>
    match wantedC ops a o with
    | some true =>
      if isEff E.P o = true then dres E ops a0 a o.dst (fun a' σ' => again E.P ops b σ' i rs ∧ dopsR E ops b Q a0 rest a' σ' rs) Q σ (cop E.P σ a.eval o)
      else rres (fun v => dopsR E ops b Q a0 rest (a.put o.dst v) σ (⟨i, a, v⟩ :: rs)) (cop E.P σ a.eval o)
    | some false => dopsR E ops b Q a0 rest (a.put o.dst nope) σ rs
    | none => False

@[simp] theorem dopsR_nil {ops : Array Oper} {b : Array Nat} {a0 a : CAct} {σ : CSt} {Q : Out → CSt → Prop} {rs : List Rec} : dopsR E ops b Q a0 [] a σ rs = Q (.code .normal a) σ := (rfl)
theorem dopsR_cons {ops : Array Oper} {b : Array Nat} {a0 a : CAct} {σ : CSt} {Q : Out → CSt → Prop} {rs : List Rec} {i : Nat} {o : Oper} {rest : List (Nat × Oper)} (hg : o.guard = none) :
    dopsR E ops b Q a0 ((i, o) :: rest) a σ rs = if isEff E.P o = true then dres E ops a0 a o.dst (fun a' σ' => again E.P ops b σ' i rs ∧ dopsR E ops b Q a0 rest a' σ' rs) Q σ (cop E.P σ a.eval o)
      else rres (fun v => dopsR E ops b Q a0 rest (a.put o.dst v) σ (⟨i, a, v⟩ :: rs)) (cop E.P σ a.eval o) := by
  rw [dopsR]
  simp only [wantedC, hg]
theorem dopsR_go {ops : Array Oper} {b : Array Nat} {Q : Out → CSt → Prop} {a0 : CAct} : ∀ (l : List Nat) (a : CAct) (σ : CSt) (rs : List Rec), dopsR E ops b Q a0 (l.map fun i => (i, opAt ops i)) a σ rs → dgo latP E (W E) ops b a0 Q l a σ rs
  | [], a, σ, rs, h => h
  | i :: rest, a, σ, rs, h => by
    unfold dgo
    simp only [List.map_cons, dopsR] at h ⊢
    cases hw : wantedC ops a (opAt ops i) with
    | none => rw [hw] at h; exact h.elim
    | some wb =>
      rw [hw] at h
      cases wb with
      | false => exact dopsR_go rest _ _ rs h
      | true =>
        simp only at h ⊢
        by_cases he : isEff E.P (opAt ops i) = true
        · rw [if_pos he] at h ⊢
          cases hcp : cop E.P σ a.eval (opAt ops i) with
          | val v σ' =>
            rw [hcp] at h
            obtain ⟨h1, h2⟩ := h
            simp only [again_recheck h1, if_true]
            exact dopsR_go rest _ _ rs h2
          | call fv args =>
            rw [hcp] at h
            simp only [dres] at h ⊢
            cases hx : extOf E fv args σ with
            | some v => rw [hx] at h; exact h.elim
            | none =>
              rw [hx] at h
              simp only at h ⊢
              refine callv_rel (tr := id) (N := latP) (fun h => h) (fun t σ Q Q' hq h => W.mono t σ Q Q' hq h) (fun out σ' hq => ?_) h
              cases out with
              | ret v tk =>
                obtain ⟨h1, h2⟩ := hq
                simp only [again_recheck h1, if_true]
                exact dopsR_go rest _ _ rs h2
              | pan v => exact hq
              | code e a => exact hq
          | _ => rw [hcp] at h; exact h.elim
        · rw [if_neg he] at h ⊢
          cases hcp : cop E.P σ a.eval (opAt ops i) with
          | val v σ' => rw [hcp] at h; exact dopsR_go rest _ _ _ h
          | _ => rw [hcp] at h; exact h.elim

theorem W_drawn {l : List Nat} {b : Array Nat} {x : Ctx} {id : Nat} {ops : Array Oper} {a : CAct} {σ : CSt} {Q : Out → CSt → Prop} (hp : planOf E.P ops = l) (hb : bef ops = b) (hk : planOk E.P ops l = true)
    (h : dopsR E ops b Q a (l.map fun i => (i, opAt ops i)) a σ []) : W E (.code x (.region id ops true) a) σ Q := by
  rw [W_eq]
  simp only [F, hp, hb, hk, if_true]
  exact dopsR_go _ _ _ _ h
end
end Go.Sm
/- More operations as equations. -/
set_option linter.unusedVariables false
set_option linter.unusedSimpArgs false
namespace Go.Sm
open Go

/-! ### Structs and rows that are built -/
def fillL (place : Nat → Option (Nat × Nat)) : List Value → List (Nat × Value) → Option (List Value)
  | cells, [] => some cells
  | cells, (i, v) :: rest =>
    match place i with
    | none => none
    | some (off, size) => if (clist v).length = size ∧ off + size ≤ cells.length then fillL place (cells.take off ++ clist v ++ cells.drop (off + size)) rest else none

theorem set_fold : ∀ (l : List Value) (k off : Nat) (cs : Array Value), off + k + l.length ≤ cs.size →
    ((l.zipIdx k).foldl (fun cs p => cs.setIfInBounds (off + p.2) p.1) cs).toList = cs.toList.take (off + k) ++ l ++ cs.toList.drop (off + k + l.length)
  | [], k, off, cs, h => by simp
  | v :: l, k, off, cs, h => by
    simp only [List.length_cons] at h
    rw [List.zipIdx_cons, List.foldl_cons, set_fold l (k + 1) off _ (by simp; omega)]
    simp only [Array.toList_setIfInBounds, List.length_cons]
    apply List.ext_getElem?
    intro j
    simp only [List.getElem?_append, List.getElem?_take, List.getElem?_drop, List.length_append, List.length_take, List.length_set, Array.length_toList, List.getElem?_set, List.length_cons, List.getElem?_cons]
    have a1 : min (off + (k + 1)) cs.size = off + k + 1 := by omega
    have a2 : min (off + k) cs.size = off + k := by omega
    rw [a1, a2]
    by_cases h1 : j < off + k
    · rw [if_pos (by omega), if_pos (by omega), if_pos (by omega), if_neg (by omega), if_pos (by omega), if_pos h1, if_pos h1]
    · by_cases h2 : j = off + k
      · subst h2
        rw [if_pos (by omega), if_pos (by omega), if_pos (by omega), if_pos rfl, if_pos (by omega), if_pos (by omega), if_neg (by omega), if_pos (by omega)]
      · by_cases h3 : j < off + k + 1 + l.length
        · rw [if_pos (by omega), if_neg (by omega), if_pos (by omega), if_neg (by omega), if_neg (by omega)]
          congr 1 <;> omega
        · rw [if_neg (by omega), if_neg (by omega), if_neg (by omega)]
          congr 1 <;> omega

theorem fill_eq (place : Nat → Option (Nat × Nat)) : ∀ (parts : List (Nat × Value)) (cells : Array Value), (Instr.fill place cells parts).map Array.toList = fillL place cells.toList parts
  | [], cells => rfl
  | (i, v) :: rest, cells => by
    unfold Instr.fill fillL
    cases place i with
    | none => rfl
    | some p =>
      obtain ⟨off, size⟩ := p
      simp only
      by_cases hc : v.cells.size = size ∧ off + size ≤ cells.size
      · obtain ⟨rfl, h2⟩ := hc
        have : (decide (v.cells.size ≠ v.cells.size) || decide (off + v.cells.size > cells.size)) = false := by simp; omega
        rw [this]
        simp only [Bool.false_eq_true, if_false]
        rw [fill_eq place rest]
        rw [if_pos (show (clist v).length = v.cells.size ∧ off + v.cells.size ≤ cells.toList.length from ⟨rfl, by simpa using h2⟩)]
        congr 1
        have := set_fold v.cells.toList 0 off cells (by simpa using h2)
        simp only [Nat.add_zero, Array.length_toList] at this
        rw [show clist v = v.cells.toList from rfl, ← this, ← Array.foldl_toList]
        congr 1
        simp [Array.toList_zipIdx]
      · have : (decide (v.cells.size ≠ size) || decide (off + v.cells.size > cells.size)) = true := by
          simp only [Bool.or_eq_true, decide_eq_true_eq]
          by_cases h1 : v.cells.size = size
          · right; subst h1; have := fun h => hc ⟨rfl, h⟩; omega
          · exact .inl h1
        rw [this]
        simp only [if_true, Option.map_none]
        rw [if_neg (show ¬ ((clist v).length = size ∧ off + size ≤ cells.toList.length) from hc)]

section
variable {P : Program} {σ : CSt} {ev : Operand → Value} {dst : Option Tmp} {ty : TypeId} {pos : String} {after : Array Edge} {g : Option (Nat × Bool)}

def allocK : Option TF → TypeId → CSt → OpR
  | some ⟨_, _, some z, _, _⟩, e, σ => if z.all flat0 then .val (.pointer (some ⟨σ.n, 0, none⟩)) (σ.alloc (.cells z e false)) else .fail
  | _, _, _ => .fail
@[simp] theorem allocK_some (s b : Nat) (z : List Value) (a u : Bool) (e : TypeId) : allocK (some ⟨s, b, some z, a, u⟩) e σ = if z.all flat0 then .val (.pointer (some ⟨σ.n, 0, none⟩)) (σ.alloc (.cells z e false)) else .fail := (rfl)
@[simp] theorem copE_alloc (e : TypeId) : cop P σ ev ⟨dst, .alloc e, ty, pos, after, g⟩ = allocK (tf P e) e σ := by
  simp only [cop, allocOp, tf]
  cases P.info? e with
  | none => rfl
  | some inf =>
    cases hz : inf.zero with
    | none => simp [allocK, OpR.ofP, hz]
    | some z =>
      simp only [Option.map_some, allocK, hz]
      split <;> rfl

/-- A struct's value out of its parts. -/
def buildK (pl : Option (List (Nat × Nat))) (f : Option TF) (parts : List (Nat × Value)) : Option Value :=
  match pl, f with
  | some pl, some ⟨_, _, some z, _, _⟩ => if parts.all (fun p => cok p.2) ∧ z.all flat0 then (fillL (pl.toArray[·]?) z parts).map fun l => .agg l.toArray else none
  | _, _ => none
@[simp] theorem buildK_some (pl : List (Nat × Nat)) (s b : Nat) (z : List Value) (a u : Bool) (parts : List (Nat × Value)) :
    buildK (some pl) (some ⟨s, b, some z, a, u⟩) parts = if parts.all (fun p => cok p.2) ∧ z.all flat0 then (fillL (pl.toArray[·]?) z parts).map fun l => .agg l.toArray else none := (rfl)
theorem buildOp_st {t : TypeId} {pl : List (Nat × Nat)} (h : partsT P t = some pl) (parts : Array (Nat × Value)) : buildOp P t parts = buildK (partsT P t) (tf P t) parts.toList := by
  have hp := h
  unfold partsT at h
  split at h
  · rename_i fs hu
    simp only [buildOp, hp, tf]
    cases P.info? t with
    | none => simp [buildK]
    | some inf =>
      cases hz : inf.zero with
      | none => simp [buildK, hz]
      | some z =>
        simp only [Option.map_some, buildK, hu, h, hz]
        by_cases h1 : (parts.toList.all fun p => p.2.cells.toList.all cellv) = true
        · by_cases h2 : z.cells.toList.all flat0 = true
          · rw [if_pos h1, if_pos h2, if_pos ⟨h1, h2⟩, ← fill_eq]
            simp [Option.map_map, Function.comp_def]
          · rw [if_pos h1, if_neg h2, if_neg (fun h => h2 h.2)]
        · rw [if_neg h1, if_neg (fun h => h1 h.1)]
  · cases h
@[simp] theorem copE_build (t : TypeId) (parts : Array (Nat × Operand)) (h : (partsT P t).isSome = true) : cop P σ ev ⟨dst, .build t parts, ty, pos, after, g⟩ = OpR.ofV σ (buildK (partsT P t) (tf P t) (parts.map fun p => (p.1, ev p.2)).toList) := by
  obtain ⟨pl, hpl⟩ := Option.isSome_iff_exists.1 h
  simp only [cop]
  rw [buildOp_st hpl]
@[simp] theorem fillL_nil (place : Nat → Option (Nat × Nat)) (cells : List Value) : fillL place cells [] = some cells := (rfl)
@[simp] theorem fillL_cons (place : Nat → Option (Nat × Nat)) (cells : List Value) (i : Nat) (v : Value) (rest : List (Nat × Value)) : fillL place cells ((i, v) :: rest) =
    match place i with
    | none => none
    | some (off, size) => if (clist v).length = size ∧ off + size ≤ cells.length then fillL place (cells.take off ++ clist v ++ cells.drop (off + size)) rest else none := (rfl)

/-! ### A literal row -/
def bsliceK (e : Option TypeId) (f : Option TF) (σ : CSt) (len : Nat) (parts : List (Nat × Value)) : OpR :=
  match e, f with
  | some e, some ⟨s, _, some z, _, _⟩ =>
    if len ≤ 2 ^ 24 ∧ len * s ≤ 2 ^ 24 ∧ 0 < len * s ∧ z.length = s ∧ parts.all (fun p => cok p.2) ∧ z.all flat0 then
      match fillL (fun i => some (i * s, s)) ((List.replicate len z).flatten) parts with
      | some cs => .val (.slice (some ⟨σ.n, 0, none⟩) len len) (σ.alloc (.cells cs e false))
      | none => .fail
    else .fail
  | _, _ => .fail

theorem range_flatten (z : Array Value) : ∀ n, (((Array.range (n * z.size)).map (z[· % z.size]!)).toList : List Value) = (List.replicate n z.toList).flatten
  | 0 => by simp
  | n + 1 => by
    have ih := range_flatten z n
    simp only [Array.toList_map, Array.toList_range] at ih ⊢
    rw [Nat.add_mul, Nat.one_mul, Nat.add_comm, List.range_add, List.map_append, List.replicate_succ, List.flatten_cons, ← ih, List.map_map]
    congr 1
    · apply List.ext_getElem
      · simp
      · intro i h1 h2
        simp at h1
        simp [Nat.mod_eq_of_lt h1, h1]
    · apply List.map_congr_left
      intro j hj
      simp

def bsOk (e : Option TypeId) (f : Option TF) (len : Nat) : Bool :=
  match e, f with
  | some _, some ⟨s, _, some z, _, _⟩ => decide (0 < len * s) && decide (z.length = s)
  | _, _ => false
@[simp] theorem bsOk_some (e : TypeId) (s b : Nat) (z : List Value) (a u : Bool) (len : Nat) : bsOk (some e) (some ⟨s, b, some z, a, u⟩) len = (decide (0 < len * s) && decide (z.length = s)) := (rfl)
@[simp] theorem bsliceK_some (e : TypeId) (s b : Nat) (z : List Value) (a u : Bool) (len : Nat) (parts : List (Nat × Value)) : bsliceK (some e) (some ⟨s, b, some z, a, u⟩) σ len parts =
    if len ≤ 2 ^ 24 ∧ len * s ≤ 2 ^ 24 ∧ 0 < len * s ∧ z.length = s ∧ parts.all (fun p => cok p.2) ∧ z.all flat0 then
      match fillL (fun i => some (i * s, s)) ((List.replicate len z).flatten) parts with
      | some cs => .val (.slice (some ⟨σ.n, 0, none⟩) len len) (σ.alloc (.cells cs e false))
      | none => .fail
    else .fail := (rfl)
@[simp] theorem copE_buildSlice (t : TypeId) (len : Nat) (parts : Array (Nat × Operand)) (h : bsOk (elemT P t) ((elemT P t).bind (tf P)) len = true) :
    cop P σ ev ⟨dst, .buildSlice t len parts, ty, pos, after, g⟩ = bsliceK (elemT P t) ((elemT P t).bind (tf P)) σ len (parts.map fun p => (p.1, ev p.2)).toList := by
  simp only [cop]
  generalize parts.map (fun p => (p.1, ev p.2)) = pa
  have he : ∃ e, P.underlying t = some (.slice e) ∧ elemT P t = some e := by
    unfold elemT at h ⊢
    split at h
    · rename_i e hu
      exact ⟨e, hu, by simp [hu]⟩
    · simp [bsOk] at h
  obtain ⟨e, hu, hel⟩ := he
  rw [hel] at h ⊢
  simp only [Option.bind_some, tf] at h ⊢
  simp only [buildSliceOp, elemOf?, hu]
  cases hi : P.info? e with
  | none => rw [hi] at h; simp [bsOk] at h
  | some inf =>
    rw [hi] at h
    cases hz : inf.zero with
    | none => simp [bsOk, hz] at h
    | some z =>
      simp only [Option.map_some, hz, bsOk_some, Bool.and_eq_true, decide_eq_true_eq, Array.length_toList] at h
      obtain ⟨h1, h2⟩ := h
      have h1' : ¬ (len * inf.size = 0) := by omega
      simp only [Option.map_some, hz, bsliceK_some, h1, h2, Array.length_toList, true_and, h1', if_false]
      by_cases c1 : len ≤ 2 ^ 24 ∧ len * inf.size ≤ 2 ^ 24 ∧ (pa.toList.all fun p => p.2.cells.toList.all cellv) = true
      · by_cases c2 : z.cells.toList.all flat0 = true
        · have hr := range_flatten z.cells len
          rw [h2] at hr
          rw [if_pos c1]
          simp only [c2, if_true, h2, and_true]
          rw [if_pos (show len ≤ 2 ^ 24 ∧ len * inf.size ≤ 2 ^ 24 ∧ (pa.toList.all fun p => cok p.2) = true from c1), ← hr, ← fill_eq]
          cases Instr.fill (fun i => some (i * inf.size, inf.size)) (Array.map (fun x => z.cells[x % inf.size]!) (Array.range (len * inf.size))) pa.toList <;> rfl
        · rw [if_pos c1]
          simp [c2, OpR.ofP]
      · rw [if_neg c1, if_neg (fun h => c1 ⟨h.1, h.2.1, h.2.2.1⟩)]
        rfl
end
end Go.Sm
/- Conversions, slices, calls as equations. -/
set_option linter.unusedVariables false
set_option linter.unusedSimpArgs false
namespace Go.Sm
open Go

section
variable {P : Program} {σ : CSt} {ev : Operand → Value} {dst : Option Tmp} {ty : TypeId} {pos : String} {after : Array Edge} {g : Option (Nat × Bool)}

theorem pureRun_bind {α β : Type} (s : Sem α) (k : α → Sem β) : pureRun P (s >>= k) = (pureRun P s).bind fun a => pureRun P (k a) := by
  induction s with
  | pure a => rfl
  | program k' ih => exact ih P
  | _ => rfl

def intT (P : Program) (t : TypeId) : Option IntKind := match P.underlying t with | some (.int k) => some k | _ => none
def convF (P : Program) (σ : CSt) (s d : TypeId) (v : Value) : OpR :=
  (convertOp P σ s d v).or (if flat v then match pureRun P (convert s d v) with | some u => if flat u then .val u σ else .fail | none => .fail else .fail)
@[simp] theorem copE_convert (s d : TypeId) (x : Operand) : cop P σ ev ⟨dst, .convert s d x, ty, pos, after, g⟩ = convF P σ s d (ev x) := by
  simp only [cop, convF]
  congr 1
  simp only [flatOp, Op.operands, execOp, List.all_cons, List.all_nil, Bool.and_true]
  rw [pureRun_v]
  cases pureRun P (convert s d (ev x)) <;> rfl
def intK : Option IntKind → Int → CSt → OpR
  | some k, n, σ => .val (.int k (k.wrap n)) σ
  | none, _, _ => .fail
@[simp] theorem intK_some (k : IntKind) (n : Int) : intK (some k) n σ = .val (.int k (k.wrap n)) σ := (rfl)
theorem pureRun_underlying (t : TypeId) : pureRun P (underlying t) = P.underlying t := by
  unfold underlying
  rw [pureRun_bind]
  have : pureRun P program = some P := (rfl)
  rw [this, Option.bind_some]
  cases P.underlying t <;> rfl
theorem convF_int {s d : TypeId} (hs : (P.underlying s).isSome = true) (hd : (intT P d).isSome = true) (k : IntKind) (n : Int) : convF P σ s d (.int k n) = intK (intT P d) n σ := by
  obtain ⟨us, hs⟩ := Option.isSome_iff_exists.1 hs
  unfold intT at hd ⊢
  cases hu : P.underlying d with
  | none => rw [hu] at hd; cases hd
  | some u =>
    cases u with
    | int k' =>
      have h1 : convertOp P σ s d (.int k n) = .fail := by
        unfold convertOp
        rw [hs, hu]
        cases us <;> rfl
      simp only [convF, h1, or_fail, flat, flat0, if_true, convert, pureRun_bind, pureRun_underlying, hs, hu, Option.bind_some, intK]
      rfl
    | _ => rw [hu] at hd; cases hd

/-! ### Slices -/
@[simp] theorem bound_none (d : Nat) : bound? d none = some d := (rfl)
@[simp] theorem bound_int (d : Nat) (k : IntKind) (n : Int) : bound? d (some (.int k n)) = if 0 ≤ n then some n.toNat else none := (rfl)
@[simp] theorem copE_slice (t : TypeId) (x : Operand) (lo hi mx : Option Operand) : cop P σ ev ⟨dst, .slice t x lo hi mx, ty, pos, after, g⟩ = (OpR.ofV σ (sliceOp P σ t (ev x) (lo.map ev) (hi.map ev) (mx.map ev))).or (flatOp P σ ev ⟨dst, .slice t x lo hi mx, ty, pos, after, g⟩) := (rfl)
/-! ### Calls -/
@[simp] theorem copE_call (c : Call) : cop P σ ev ⟨dst, .call c, ty, pos, after, g⟩ = callOp P σ ev ⟨dst, .call c, ty, pos, after, g⟩ c := (rfl)
@[simp] theorem callOp_value (o : Oper) (f : Operand) (args : Array Operand) (ts : Array TypeId) : callOp P σ ev o ⟨.value f, args, ts⟩ = .call (ev f) (args.map ev) := (rfl)
/-- Behind a call. -/
def kret (a : CAct) (d : Option Tmp) (K : CAct → CSt → Prop) (Q : Out → CSt → Prop) : Out → CSt → Prop := fun out σ =>
  match out with
  | .ret v _ => K (a.put d v) σ
  | .pan v => Q (.code (.panic v) a) σ
  | _ => False
@[simp] theorem kret_ret (a : CAct) (d : Option Tmp) (K : CAct → CSt → Prop) (Q : Out → CSt → Prop) (v : Value) (tk : Bool) : kret a d K Q (.ret v tk) σ = K (a.put d v) σ := (rfl)
@[simp] theorem kret_pan (a : CAct) (d : Option Tmp) (K : CAct → CSt → Prop) (Q : Out → CSt → Prop) (v : Value) : kret a d K Q (.pan v) σ = Q (.code (.panic v) a) σ := (rfl)
@[congr] theorem kret_congr (a : CAct) (d : Option Tmp) (K : CAct → CSt → Prop) (Q : Out → CSt → Prop) {o o' : Out} {σ σ' : CSt} (h : o = o') (h' : σ = σ') : kret a d K Q o σ = kret a d K Q o' σ' := by rw [h, h']
variable {E : Env}
@[simp] theorem wres_call (x : Ctx) (a : CAct) (d : Option Tmp) (K : CAct → CSt → Prop) (Q : Out → CSt → Prop) (f : FuncId) (fs cs args : Array Value) (h : extOf E (.func (.func f) fs cs) args σ = none) :
    wres E x a d K Q σ (.call (.func (.func f) fs cs) args) = W E (.fn f (fs ++ args ++ cs) none) σ (kret a d K Q) := by
  simp only [wres, h, callv]
  rfl
/-- Behind a call in a region that draws its order. -/
def kretd (ops : Array Oper) (a0 a : CAct) (d : Option Tmp) (K : CAct → CSt → Prop) (Q : Out → CSt → Prop) : Out → CSt → Prop := fun out σ =>
  match out with
  | .ret v _ => K (a.put d v) σ
  | .pan v => Q (.code (.panic v) (eraseAll ops a0)) σ
  | _ => False
@[simp] theorem kretd_ret (ops : Array Oper) (a0 a : CAct) (d : Option Tmp) (K : CAct → CSt → Prop) (Q : Out → CSt → Prop) (v : Value) (tk : Bool) : kretd ops a0 a d K Q (.ret v tk) σ = K (a.put d v) σ := (rfl)
@[simp] theorem kretd_pan (ops : Array Oper) (a0 a : CAct) (d : Option Tmp) (K : CAct → CSt → Prop) (Q : Out → CSt → Prop) (v : Value) : kretd ops a0 a d K Q (.pan v) σ = Q (.code (.panic v) (eraseAll ops a0)) σ := (rfl)
@[simp] theorem dres_call (ops : Array Oper) (a0 a : CAct) (d : Option Tmp) (K : CAct → CSt → Prop) (Q : Out → CSt → Prop) (f : FuncId) (fs cs args : Array Value) (h : extOf E (.func (.func f) fs cs) args σ = none) :
    dres E ops a0 a d K Q σ (.call (.func (.func f) fs cs) args) = W E (.fn f (fs ++ args ++ cs) none) σ (kretd ops a0 a d K Q) := by
  simp only [dres, h, callv]
  rfl

/-! ### Lengths -/
def lenF (P : Program) (σ : CSt) (t : Option TypeId) (v : Value) : OpR :=
  match t with | some t => OpR.ofV σ (lenOp P σ #[t] v) | none => .fail
@[simp] theorem callOp_len (o : Oper) (x : Operand) (ts : Array TypeId) : callOp P σ ev o ⟨.builtin .len, #[x], ts⟩ = lenF P σ ts[0]? (ev x) := by
  have : (Array.map ev #[x]).toList = [ev x] := by simp
  simp only [callOp, this, lenF, lenOp]
  cases h : ts[0]? with
  | none => rfl
  | some t =>
    simp only
    have : (#[t] : Array TypeId)[0]? = some t := (rfl)
    rw [this]
theorem len_slice {t : TypeId} (h : (elemT P t).isSome = true) (p : Option Addr) (n c : Nat) : lenF P σ (some t) (.slice p n c) = .val (.int .i64 n) σ := by
  unfold elemT at h
  split at h
  · rename_i e hu
    simp [lenF, lenOp, hu]
  · cases h
def strT (P : Program) (t : TypeId) : Bool := match P.underlying t with | some .string => true | _ => false
theorem len_string {t : TypeId} (h : strT P t = true) (s : ByteArray) : lenF P σ (some t) (.string s) = .val (.int .i64 s.size) σ := by
  unfold strT at h
  split at h
  · rename_i hu
    simp [lenF, lenOp, hu]
  · cases h
attribute [simp] len_slice len_string convF_int indexAt_sl
end
end Go.Sm
/- Slices, append, copy as equations. -/
set_option linter.unusedVariables false
set_option linter.unusedSimpArgs false
namespace Go.Sm
open Go

section
variable {P : Program} {σ : CSt} {ev : Operand → Value} {dst : Option Tmp} {ty : TypeId} {pos : String} {after : Array Edge} {g : Option (Nat × Bool)}

/-- An element's type and its facts. -/
def elemF (P : Program) (t : TypeId) : Option (TypeId × TF) := (elemT P t).bind fun e => (tf P e).map fun f => (e, f)
/-! ### s[l:h] -/
def sliceO : Option (TypeId × TF) → Option CObj → Nat → Nat → Nat → Option Nat → Option Nat → Option Value
  | some (e, f), some (.cells c e' _), i, off, len, some l, some h => if e' = e ∧ 0 < f.size ∧ l ≤ h ∧ (h ≤ len ∨ off + h * f.size ≤ c.length) then some (.slice (some ⟨i, off + l * f.size, none⟩) (h - l) openCap) else none
  | _, _, _, _, _, _, _ => none
theorem elemOf_some {t : TypeId} {e : TypeId} {f : TF} (h : elemF P t = some (e, f)) : ∃ inf, elemOf? P t = some (e, inf) ∧ inf.size = f.size ∧ inf.bytes = f.bytes ∧ inf.zero.map (·.cells.toList) = f.zero := by
  unfold elemF elemT at h
  cases hu : P.underlying t with
  | none => rw [hu] at h; cases h
  | some d =>
    cases d with
    | slice e0 =>
      rw [hu] at h
      simp only [Option.bind_some, tf] at h
      cases hi : P.info? e0 with
      | none => rw [hi] at h; cases h
      | some inf =>
        rw [hi] at h
        simp only [Option.map_some, Option.some.injEq, Prod.mk.injEq] at h
        obtain ⟨rfl, rfl⟩ := h
        exact ⟨inf, by simp [elemOf?, hu, hi], rfl, rfl, rfl⟩
    | _ => rw [hu] at h; cases h
theorem sliceOp_open {t : TypeId} (he : (elemF P t).isSome = true) (i off len : Nat) (lo hi : Option Value) :
    sliceOp P σ t (.slice (some ⟨i, off, none⟩) len openCap) lo hi none = sliceO (elemF P t) (σ.get i) i off len (bound? 0 lo) (bound? len hi) := by
  obtain ⟨⟨e, f⟩, hf⟩ := Option.isSome_iff_exists.1 he
  obtain ⟨inf, h1, h2, h3, h4⟩ := elemOf_some hf
  rw [hf]
  simp only [sliceOp, h1, if_true, CSt.cells]
  generalize σ.get i = o
  cases o with
  | none => rfl
  | some o =>
    cases o with
    | cells c e' ro =>
      simp only [sliceO, h2]
      by_cases hc : e' = e ∧ 0 < f.size
      · rw [if_pos hc]
        cases bound? 0 lo with
        | none => cases bound? len hi <;> rfl
        | some l =>
          cases bound? len hi with
          | none => rfl
          | some h => simp only [sliceO, hc, true_and]
      · rw [if_neg hc]
        cases bound? 0 lo with
        | none => cases bound? len hi <;> rfl
        | some l =>
          cases bound? len hi with
          | none => rfl
          | some h => simp only [sliceO]; rw [if_neg (fun hh => hc ⟨hh.1, hh.2.1⟩)]
    | _ => rfl

/-! ### append -/
def appendF (σ : CSt) (e : TypeId) (f : TF) (s : Value) (n : Nat) (new : List Value) : Option (Value × CSt) :=
  if new.length = n * f.size ∧ cokL new ∧ 0 < f.size ∧ 0 < f.bytes ∧ f.zero.map List.length = some f.size then
  match s with
  | .slice none 0 0 =>
    if n = 0 then some (s, σ)
    else if n * f.bytes ≤ 2 ^ 47 then some (.slice (some ⟨σ.n, 0, none⟩) n openCap, σ.alloc (.cells new e false)) else none
  | .slice (some ⟨i, off, none⟩) len cap =>
    if n = 0 then (if len ≤ cap then some (s, σ) else none) else
    match σ.get i with
    | some (.cells c e' ro) =>
      if cap = openCap then
        if e' = e ∧ ro = false then
          if off + (len + n) * f.size ≤ c.length then
            (st c (off + len * f.size) new).map fun c' => (.slice (some ⟨i, off, none⟩) (len + n) openCap, σ.put i (.cells c' e' ro))
          else if (len + n) * f.bytes ≤ 2 ^ 47 then
            (ld c off (len * f.size)).map fun old => (.slice (some ⟨σ.n, 0, none⟩) (len + n) openCap, (σ.put i .dead).alloc (.cells (old ++ new) e false))
          else none
        else none
      else if len + n ≤ cap then
        if ro = false then (st c (off + len * f.size) new).map fun c' => (.slice (some ⟨i, off, none⟩) (len + n) cap, σ.put i (.cells c' e' ro)) else none
      else if (len + n) * f.bytes ≤ 2 ^ 47 then
        (ld c off (len * f.size)).map fun old => (.slice (some ⟨σ.n, 0, none⟩) (len + n) openCap, σ.alloc (.cells (old ++ new) e false))
      else none
    | _ => none
  | _ => none
  else none
theorem appendTo_F {e : TypeId} {inf : TypeInfo} {f : TF} (h2 : inf.size = f.size) (h3 : inf.bytes = f.bytes) (h4 : inf.zero.map (·.cells.toList) = f.zero) (s : Value) (n : Nat) (new : List Value) :
    appendTo P σ e inf s n new = appendF σ e f s n new := by
  have hz : ((inf.zero.map fun z => z.cells.size) = some inf.size) ↔ (f.zero.map List.length = some f.size) := by
    rw [← h4, ← h2, Option.map_map]
    rfl
  unfold appendTo appendF
  simp only [h2, h3] at hz ⊢
  by_cases hc : new.length = n * f.size ∧ cokL new ∧ 0 < f.size ∧ 0 < f.bytes ∧ f.zero.map List.length = some f.size
  · rw [if_pos hc, if_pos ⟨hc.1, hc.2.1, hc.2.2.1, hc.2.2.2.1, hz.2 hc.2.2.2.2⟩]
    split
    · rfl
    · rename_i i off len cap
      simp only [CSt.cells]
      by_cases hn : n = 0
      · rw [if_pos hn, if_pos hn]
      · rw [if_neg hn, if_neg hn]
        generalize σ.get i = o
        cases o with
        | none => rfl
        | some o => cases o <;> rfl
    · rename_i h1 h2'
      split
      · exact absurd rfl h1
      · exact absurd rfl (h2' _ _ _ _)
      · rfl
  · rw [if_neg hc, if_neg (fun h => hc ⟨h.1, h.2.1, h.2.2.1, h.2.2.2.1, hz.1 h.2.2.2.2⟩)]
def firstK : Option CObj → Nat → Nat → Option (List Value)
  | some (.cells c _ _), off, n => ld c off n
  | _, _, _ => none
@[simp] theorem firstK_some (c : List Value) (e : TypeId) (ro : Bool) (off n : Nat) : firstK (some (.cells c e ro)) off n = ld c off n := (rfl)
@[simp] theorem firstOf_sl (size n i off a b : Nat) : firstOf σ size n (.slice (some ⟨i, off, none⟩) a b) = firstK (σ.get i) off (n * size) := by
  simp only [firstOf, CSt.cells]
  generalize σ.get i = o
  cases o with
  | none => rfl
  | some o => cases o <;> rfl
@[simp] theorem firstOf_nil (size n : Nat) : firstOf σ size n (.slice none 0 0) = some [] := (rfl)
@[simp] theorem lenOf_slice (p : Option Addr) (n c : Nat) : lenOf? (.slice p n c) = some n := (rfl)
@[simp] theorem lenOf_string (s : ByteArray) : lenOf? (.string s) = some s.size := (rfl)
def appK : Option (TypeId × TF) → CSt → Value → Value → Option (Value × CSt)
  | some (e, f), σ, s, x => match lenOf? x with | some n => (firstOf σ f.size n x).bind fun new => appendF σ e f s n new | none => none
  | none, _, _, _ => none
theorem appendOp_K {ts : Array TypeId} {s x : Value} (h : (ts[0]?.bind (elemF P)).isSome = true) (h' : (ts[1]?.bind (elemT P)).isSome = true) : appendOp P σ ts s x = appK (ts[0]?.bind (elemF P)) σ s x := by
  obtain ⟨⟨e, f⟩, hf⟩ := Option.isSome_iff_exists.1 h
  obtain ⟨e1, hf1⟩ := Option.isSome_iff_exists.1 h'
  rw [hf]
  simp only [Option.bind_eq_some_iff] at hf hf1
  obtain ⟨t, ht, hf⟩ := hf
  obtain ⟨u, hu, hf1⟩ := hf1
  obtain ⟨inf, g1, g2, g3, g4⟩ := elemOf_some hf
  have hund : P.underlying u = some (.slice e1) := by
    unfold elemT at hf1
    split at hf1
    · rename_i e2 h2; cases hf1; exact h2
    · cases hf1
  simp only [appendOp, ht, hu, g1, hund, appK]
  cases lenOf? x with
  | none => rfl
  | some n =>
    simp only [g2]
    congr 1
    funext new
    exact appendTo_F g2 g3 g4 s n new
@[simp] theorem callOp_append (o : Oper) (s x : Operand) (ts : Array TypeId) : callOp P σ ev o ⟨.builtin .append, #[s, x], ts⟩ = OpR.ofP (appendOp P σ ts (ev s) (ev x)) := by
  have : (Array.map ev #[s, x]).toList = [ev s, ev x] := by simp
  simp only [callOp, this]
@[simp] theorem callOp_copy (o : Oper) (s x : Operand) (ts : Array TypeId) : callOp P σ ev o ⟨.builtin .copy, #[s, x], ts⟩ = OpR.ofP (copyOp P σ ts (ev s) (ev x)) := by
  have : (Array.map ev #[s, x]).toList = [ev s, ev x] := by simp
  simp only [callOp, this]
end
end Go.Sm
/- Loops, and states that have grown. -/
set_option linter.unusedVariables false
set_option linter.unusedSimpArgs false
namespace Go.Sm
open Go

/-- New objects alone; what was there is as it was. -/
structure Grow (σ σ' : CSt) : Prop where
  n : σ.n ≤ σ'.n
  old : ∀ i, i < σ.n → σ'.get i = σ.get i
theorem Grow.refl (σ : CSt) : Grow σ σ := ⟨Nat.le_refl _, fun _ _ => rfl⟩
theorem Grow.trans {a b c : CSt} (h : Grow a b) (k : Grow b c) : Grow a c := ⟨Nat.le_trans h.n k.n, fun i hi => (k.old i (Nat.lt_of_lt_of_le hi h.n)).trans (h.old i hi)⟩
theorem Grow.alloc {a b : CSt} (h : Grow a b) (o : CObj) : Grow a (b.alloc o) := ⟨by have := h.n; simp; omega, fun i hi => by
  have := h.n
  rw [CSt.get_alloc, if_neg (by omega)]
  exact h.old i hi⟩
theorem Grow.put {a b : CSt} (h : Grow a b) {i : Nat} (hi : a.n ≤ i) (o : CObj) : Grow a (b.put i o) := ⟨h.n, fun j hj => by
  rw [CSt.get_put, if_neg (by omega)]
  exact h.old j hj⟩
theorem Grow.get {a b : CSt} (h : Grow a b) {i : Nat} {o : CObj} (hi : a.get i = some o) (hl : i < a.n) : b.get i = some o := (h.old i hl).trans hi

section
variable {E : Env}
/-- Behind a round of a loop: the invariant holds again, of less. -/
def kinv (I : Nat → CAct → CSt → Prop) (n : Nat) (Q : Out → CSt → Prop) : Out → CSt → Prop := fun o σ =>
  match o with
  | .code .normal a => ∃ m, m < n ∧ I m a σ
  | o => Q o σ
@[simp] theorem kinv_normal (I : Nat → CAct → CSt → Prop) (n : Nat) (Q : Out → CSt → Prop) (a : CAct) (σ : CSt) : kinv I n Q (.code .normal a) σ = ∃ m, m < n ∧ I m a σ := (rfl)
@[simp] theorem kinv_exit (I : Nat → CAct → CSt → Prop) (n : Nat) (Q : Out → CSt → Prop) (a : CAct) (σ : CSt) (i : Nat) : kinv I n Q (.code (.exit i) a) σ = Q (.code (.exit i) a) σ := (rfl)
@[simp] theorem kinv_goto (I : Nat → CAct → CSt → Prop) (n : Nat) (Q : Out → CSt → Prop) (a : CAct) (σ : CSt) (i : Nat) : kinv I n Q (.code (.goto i) a) σ = Q (.code (.goto i) a) σ := (rfl)
@[simp] theorem kinv_ret (I : Nat → CAct → CSt → Prop) (n : Nat) (Q : Out → CSt → Prop) (a : CAct) (σ : CSt) : kinv I n Q (.code .ret a) σ = Q (.code .ret a) σ := (rfl)
@[simp] theorem kinv_panic (I : Nat → CAct → CSt → Prop) (n : Nat) (Q : Out → CSt → Prop) (a : CAct) (σ : CSt) (v : Value) : kinv I n Q (.code (.panic v) a) σ = Q (.code (.panic v) a) σ := (rfl)
@[congr] theorem kinv_congr (I : Nat → CAct → CSt → Prop) (n : Nat) (Q : Out → CSt → Prop) {o o' : Out} {σ σ' : CSt} (h : o = o') (h' : σ = σ') : kinv I n Q o σ = kinv I n Q o' σ' := by rw [h, h']

theorem W_loop_inv {x : Ctx} {c : Code} {Q : Out → CSt → Prop} (I : Nat → CAct → CSt → Prop) (hstep : ∀ n a σ, I n a σ → W E (.code x c a) σ (kinv I n Q)) : ∀ n a σ, I n a σ → W E (.code x (.loop c) a) σ Q := by
  intro n
  induction n using Nat.strongRecOn with
  | _ n ih =>
    intro a σ h
    rw [W_loop]
    refine (hstep n a σ h).weaken fun o s ho => ?_
    cases o with
    | code e a' => cases e with
      | normal =>
        obtain ⟨m, hm, hI⟩ := ho
        exact ih m hm a' s hI
      | _ => exact ho
    | _ => exact ho
end
end Go.Sm
/- Shifts, strings, truth values as equations. -/
set_option linter.unusedVariables false
set_option linter.unusedSimpArgs false
namespace Go.Sm
open Go

section
variable {P : Program} {σ : CSt} {ev : Operand → Value} {dst : Option Tmp} {ty : TypeId} {pos : String} {after : Array Edge} {g : Option (Nat × Bool)}
variable {t : TypeId} {x y : Operand} {k k' : IntKind} {a b : Int} {s u : ByteArray}
@[simp] theorem bin_shr (h : 0 ≤ b) : binF P σ .shr t x y (.int k a) (.int k' b) = .val (.int k (a.fdiv (2 ^ min b.toNat k.bits))) σ := by
  have : ¬ (b < 0) := by omega
  simp [binF, eqGuard, binOp, Op.shift, this]
@[simp] theorem bin_shl (h : 0 ≤ b) : binF P σ .shl t x y (.int k a) (.int k' b) = .val (.int k (k.wrap (a * 2 ^ min b.toNat k.bits))) σ := by
  have : ¬ (b < 0) := by omega
  simp [binF, eqGuard, binOp, Op.shift, this]
@[simp] theorem bin_streq : binF P σ .eql t x y (.string s) (.string u) = .val (.bool (s.toList == u.toList)) σ := by simp [binF, eqGuard, binOp, Op.stringOp]
@[simp] theorem bin_strne : binF P σ .neq t x y (.string s) (.string u) = .val (.bool (!(s.toList == u.toList))) σ := by simp [binF, eqGuard, binOp, Op.stringOp]
/-- One operand without an address. -/
def unF (P : Program) (σ : CSt) (op : UnOp) (v : Value) : OpR := if flat v then match pureRun P (Op.unary op v) with | some u => if flat u then .val u σ else .fail | none => .fail else .fail
@[simp] theorem copE_un (op : UnOp) (t : TypeId) (x : Operand) : cop P σ ev ⟨dst, .unOp op t x, ty, pos, after, g⟩ = unF P σ op (ev x) := by
  simp only [cop, unF, flatOp, Op.operands, execOp, List.all_cons, List.all_nil, Bool.and_true]
  rw [pureRun_v]
  cases pureRun P (Op.unary op (ev x)) <;> rfl
@[simp] theorem un_not (c : Bool) : unF P σ .not (.bool c) = .val (.bool (!c)) σ := by simp [unF, Op.unary]
@[simp] theorem un_neg : unF P σ .neg (.int k a) = .val (.int k (k.wrap (0 - a))) σ := by simp [unF, Op.unary, Op.intArith]
def pickK (v a b : Value) (σ : CSt) : OpR := match v with | .bool t => .val (if t then a else b) σ | _ => .fail
@[simp] theorem copE_pick (c u v : Operand) : cop P σ ev ⟨dst, .pick c u v, ty, pos, after, g⟩ = pickK (ev c) (ev u) (ev v) σ := (rfl)
@[simp] theorem pickK_bool (c : Bool) (u v : Value) : pickK (.bool c) u v σ = .val (if c then u else v) σ := (rfl)
def exK (v : Value) (i : Nat) (σ : CSt) : OpR := match v with | .tuple vs => OpR.ofV σ vs[i]? | _ => .fail
@[simp] theorem copE_extract (u : Operand) (i : Nat) : cop P σ ev ⟨dst, .extract u i, ty, pos, after, g⟩ = exK (ev u) i σ := (rfl)
@[simp] theorem exK_tuple (vs : Array Value) (i : Nat) : exK (.tuple vs) i σ = OpR.ofV σ vs[i]? := (rfl)

theorem und_of_elem {t : TypeId} (h : (elemT P t).isSome = true) : ∃ e, P.underlying t = some (.slice e) := by
  unfold elemT at h
  split at h
  · rename_i e hu; exact ⟨e, hu⟩
  · cases h
@[simp] theorem isNil_sl_eq {t : TypeId} (h : (elemT P t).isSome = true) (p : Addr) (n c : Nat) : isNilCmp P .eql t (.slice (some p) n c) (.slice none 0 0) = some (.bool false) := by
  obtain ⟨e, hu⟩ := und_of_elem h
  simp [isNilCmp, nilPair, hu]
@[simp] theorem isNil_sl_ne {t : TypeId} (h : (elemT P t).isSome = true) (p : Addr) (n c : Nat) : isNilCmp P .neq t (.slice (some p) n c) (.slice none 0 0) = some (.bool true) := by
  obtain ⟨e, hu⟩ := und_of_elem h
  simp [isNilCmp, nilPair, hu]
@[simp] theorem isNil_nil {t : TypeId} {op : BinOp} (h : (elemT P t).isSome = true) : isNilCmp P op t (.slice none 0 0) (.slice none 0 0) = none := by
  obtain ⟨e, hu⟩ := und_of_elem h
  simp [isNilCmp, nilPair, hu]
theorem equal_nil {t : TypeId} (h : (elemT P t).isSome = true) : pureRun P (Op.equal t (.slice none 0 0) (.slice none 0 0)) = some true := by
  obtain ⟨e, hu⟩ := und_of_elem h
  unfold Op.equal Op.equalIn
  simp only [Op.maxDepth, pureRun_bind, pureRun_underlying, hu, Option.bind_some]
  rfl
@[simp] theorem bin_nil_eq {t : TypeId} (h : (elemT P t).isSome = true) {x y : Operand} : binF P σ .eql t x y (.slice none 0 0) (.slice none 0 0) = .val (.bool true) σ := by
  have : pureRun P (do eqGuard .eql t x y (.slice none 0 0) (.slice none 0 0); binOp .eql t (.slice none 0 0) (.slice none 0 0)) = some (.bool true) := by
    have h1 : binOp .eql t (.slice none 0 0) (.slice none 0 0) = (do pure (.bool (← Op.equal t (.slice none 0 0) (.slice none 0 0))) : Sem Value) := rfl
    have h2 : pureRun P (eqGuard .eql t x y (.slice none 0 0) (.slice none 0 0)) = some () := rfl
    rw [pureRun_bind, h2, Option.bind_some, h1, pureRun_bind, equal_nil h, Option.bind_some]
    rfl
  simp only [binF, flat, flat0, Bool.and_self, if_true, this]
@[simp] theorem bin_nil_ne {t : TypeId} (h : (elemT P t).isSome = true) {x y : Operand} : binF P σ .neq t x y (.slice none 0 0) (.slice none 0 0) = .val (.bool false) σ := by
  have : pureRun P (do eqGuard .neq t x y (.slice none 0 0) (.slice none 0 0); binOp .neq t (.slice none 0 0) (.slice none 0 0)) = some (.bool false) := by
    have h1 : binOp .neq t (.slice none 0 0) (.slice none 0 0) = (do pure (.bool (!(← Op.equal t (.slice none 0 0) (.slice none 0 0)))) : Sem Value) := rfl
    have h2 : pureRun P (eqGuard .neq t x y (.slice none 0 0) (.slice none 0 0)) = some () := rfl
    rw [pureRun_bind, h2, Option.bind_some, h1, pureRun_bind, equal_nil h, Option.bind_some]
    rfl
  simp only [binF, flat, flat0, Bool.and_self, if_true, this]
/-! ### Operations that are passed over -/
def guardK (v : Value) (want : Bool) (p q : Prop) : Prop := match v with | .bool b => if b = want then p else q | .chan none => q | _ => False
@[congr] theorem guardK_congr {v v' : Value} (want : Bool) (p q : Prop) (h : v = v') : guardK v want p q = guardK v' want p q := by rw [h]
@[simp] theorem guardK_bool (b want : Bool) (p q : Prop) : guardK (.bool b) want p q = if b = want then p else q := (rfl)
@[simp] theorem guardK_nope (want : Bool) (p q : Prop) : guardK nope want p q = q := (rfl)
variable {E : Env}
theorem wops_if {ops : Array Oper} {Q : Out → CSt → Prop} {x : Ctx} {a : CAct} {dst : Option Tmp} {op : Op} {ty : TypeId} {pos : String} {after : Array Edge} {j : Nat} {want : Bool} {rest : List Oper} (d : Tmp) (hd : (ops[j]?).bind (·.dst) = some d) (hs : d < a.sz) :
    wops E x ops Q (⟨dst, op, ty, pos, after, some (j, want)⟩ :: rest) a σ =
      guardK (a.get d) want (wres E x a dst (wops E x ops Q rest) Q σ (cop E.P σ a.eval ⟨dst, op, ty, pos, after, some (j, want)⟩)) (wops E x ops Q rest (a.put dst nope) σ) := by
  rw [wops]
  simp only [wantedC, hd, hs, if_true]
  unfold guardK
  generalize a.get d = v
  cases v with
  | bool b => cases b <;> cases want <;> rfl
  | chan c => cases c <;> rfl
  | _ => rfl
def dstOf (ops : Array Oper) (j : Nat) : Tmp := ((ops[j]?).bind (·.dst)).getD 0
theorem wops_if' {ops : Array Oper} {Q : Out → CSt → Prop} {x : Ctx} {a : CAct} {dst : Option Tmp} {op : Op} {ty : TypeId} {pos : String} {after : Array Edge} {j : Nat} {want : Bool} {rest : List Oper} (hd : ((ops[j]?).bind (·.dst)).isSome = true) (hs : dstOf ops j < a.sz) :
    wops E x ops Q (⟨dst, op, ty, pos, after, some (j, want)⟩ :: rest) a σ =
      guardK (a.get (dstOf ops j)) want (wres E x a dst (wops E x ops Q rest) Q σ (cop E.P σ a.eval ⟨dst, op, ty, pos, after, some (j, want)⟩)) (wops E x ops Q rest (a.put dst nope) σ) := by
  obtain ⟨d, hd⟩ := Option.isSome_iff_exists.1 hd
  have : dstOf ops j = d := by simp [dstOf, hd]
  rw [this] at hs ⊢
  exact wops_if d hd hs
end
end Go.Sm
/- Rows of elements that have several cells each. -/
set_option linter.unusedVariables false
set_option linter.unusedSimpArgs false
namespace Go.Sm
open Go

section
variable {α : Type} (enc : α → List Value) {n : Nat} (hn : ∀ x, (enc x).length = n)
include hn
theorem enc_length (l : List α) : (l.flatMap enc).length = l.length * n := by
  induction l with
  | nil => simp
  | cons x l ih => rw [List.flatMap_cons, List.length_append, hn, ih, List.length_cons, Nat.add_mul, Nat.one_mul, Nat.add_comm]
theorem enc_drop (l : List α) (i : Nat) : (l.flatMap enc).drop (i * n) = (l.drop i).flatMap enc := by
  induction l generalizing i with
  | nil => simp
  | cons x l ih =>
    cases i with
    | zero => simp
    | succ i =>
      rw [List.flatMap_cons, Nat.add_mul, Nat.one_mul, Nat.add_comm, ← List.drop_drop, List.drop_left' (hn x), ih, List.drop_succ_cons]
theorem enc_take (l : List α) (i : Nat) : (l.flatMap enc).take (i * n) = (l.take i).flatMap enc := by
  induction l generalizing i with
  | nil => simp
  | cons x l ih =>
    cases i with
    | zero => simp
    | succ i =>
      rw [List.flatMap_cons, Nat.add_mul, Nat.one_mul, Nat.add_comm (i * n), List.take_append, hn, Nat.add_sub_cancel_left, ih, List.take_succ_cons, List.flatMap_cons, List.take_of_length_le (by rw [hn]; omega)]
/-- One element. -/
theorem enc_get (l : List α) (i : Nat) (h : i < l.length) : ((l.flatMap enc).drop (i * n)).take n = enc l[i] := by
  rw [enc_drop enc hn, List.drop_eq_getElem_cons h, List.flatMap_cons]
  exact List.take_left' (hn _)
/-- An element is written. -/
theorem enc_set (l : List α) (i : Nat) (x : α) (h : i < l.length) : (l.flatMap enc).take (i * n) ++ enc x ++ (l.flatMap enc).drop (i * n + n) = (l.set i x).flatMap enc := by
  have h1 : i * n + n = (i + 1) * n := by rw [Nat.add_mul, Nat.one_mul]
  rw [h1, enc_take enc hn, enc_drop enc hn, List.set_eq_take_append_cons_drop, if_pos h, List.flatMap_append, List.flatMap_cons, List.append_assoc]
end
end Go.Sm
/- Slices with a capacity that is known (does not build yet). -/
set_option linter.unusedVariables false
set_option linter.unusedSimpArgs false
namespace Go.Sm
open Go

/-! ### s[l:h:m], and slices whose capacity is known -/
section
variable {P : Program} {σ : CSt}
def slice3O : Option (TypeId × TF) → Option CObj → Nat → Nat → Nat → Option Nat → Option Nat → Option Nat → Option Value
  | some (e, f), some (.cells c e' _), i, off, len, some l, some h, some m =>
    if e' = e ∧ 0 < f.size ∧ l ≤ h ∧ h ≤ m ∧ (m ≤ len ∨ off + m * f.size ≤ c.length) ∧ m < openCap then some (.slice (some ⟨i, if m = l then off else off + l * f.size, none⟩) (h - l) (m - l)) else none
  | _, _, _, _, _, _, _, _ => none
theorem sliceOp_open3 {t : TypeId} (he : (elemF P t).isSome = true) (i off len : Nat) (lo : Option Value) (hi mx : Value) :
    sliceOp P σ t (.slice (some ⟨i, off, none⟩) len openCap) lo (some hi) (some mx) = slice3O (elemF P t) (σ.get i) i off len (bound? 0 lo) (bound? len (some hi)) (bound? 0 (some mx)) := by
  obtain ⟨⟨e, f⟩, hf⟩ := Option.isSome_iff_exists.1 he
  obtain ⟨inf, h1, h2, h3, h4⟩ := elemOf_some hf
  rw [hf]
  simp only [sliceOp, h1, if_true, CSt.cells]
  generalize σ.get i = o
  generalize bound? len (some hi) = bh
  cases o with
  | none => rfl
  | some o =>
    cases o with
    | cells c e' ro =>
      simp only [h2]
      by_cases hc : e' = e ∧ 0 < f.size
      · rw [if_pos hc]
        cases bound? 0 lo with
        | none => cases bh <;> cases hbm : bound? 0 (some mx) <;> rfl
        | some l =>
          cases bh with
          | none => cases hbm : bound? 0 (some mx) <;> rfl
          | some h =>
            cases hbm : bound? 0 (some mx) with
            | none => simp only [hbm]; rfl
            | some m => simp only [hbm, slice3O, hc, true_and, Option.isSome_some]
      · rw [if_neg hc]
        cases bound? 0 lo with
        | none => cases bh <;> cases hbm : bound? 0 (some mx) <;> rfl
        | some l =>
          cases bh with
          | none => cases hbm : bound? 0 (some mx) <;> rfl
          | some h =>
            cases hbm : bound? 0 (some mx) with
            | none => rfl
            | some m => simp only [slice3O]; rw [if_neg (fun hh => hc ⟨hh.1, hh.2.1⟩)]
    | _ => rfl
def sliceC : Option (TypeId × TF) → Nat → Nat → Bool → Option Nat → Option Nat → Option Nat → Option Value
  | some (_, f), i, off, ok, some l, some h, some m => if l ≤ h ∧ h ≤ m ∧ ok = true ∧ m < openCap then some (.slice (some ⟨i, if m = l then off else off + l * f.size, none⟩) (h - l) (m - l)) else none
  | _, _, _, _, _, _, _ => none
theorem sliceOp_cap {t : TypeId} (he : (elemF P t).isSome = true) (i off len cap : Nat) (hc : cap ≠ openCap) (lo hi : Option Value) :
    sliceOp P σ t (.slice (some ⟨i, off, none⟩) len cap) lo hi none = sliceC (elemF P t) i off true (bound? 0 lo) (bound? len hi) (some cap) := by
  obtain ⟨⟨e, f⟩, hf⟩ := Option.isSome_iff_exists.1 he
  obtain ⟨inf, h1, h2, h3, h4⟩ := elemOf_some hf
  rw [hf]
  have hb : bound? cap none = some cap := rfl
  simp only [sliceOp, h1, if_neg hc, h2, hb]
  generalize bound? len hi = bh
  cases bound? 0 lo with
  | none => cases bh <;> rfl
  | some l =>
    cases bh with
    | none => rfl
    | some h => simp [sliceC]

variable {ev : Operand → Value} {dst : Option Tmp} {ty : TypeId} {pos : String} {after : Array Edge} {g : Option (Nat × Bool)}
@[simp] theorem copE_bs0 (t : TypeId) (h : (elemF P t).isSome = true) : cop P σ ev ⟨dst, .buildSlice t 0 #[], ty, pos, after, g⟩ = .val (.slice (some ⟨σ.n, 0, none⟩) 0 0) (σ.alloc (.cells [] (((elemF P t).map (·.1)).getD 0) false)) := by
  obtain ⟨⟨e, f⟩, hf⟩ := Option.isSome_iff_exists.1 h
  obtain ⟨inf, h1, h2, h3, h4⟩ := elemOf_some hf
  rw [hf]
  simp [cop, buildSliceOp, h1, Instr.fill, OpR.ofP]
end
end Go.Sm
/- More operations as equations: copy, append of so many, cap, clear; rows written. -/
set_option linter.unusedVariables false
set_option linter.unusedSimpArgs false
namespace Go.Sm
open Go

/-- A row, written from a place on. -/
def wr (c : List Value) (off : Nat) (vs : List Value) : List Value := c.take off ++ vs ++ c.drop (off + vs.length)
theorem st_wr {c : List Value} {off : Nat} {vs : List Value} (h : off + vs.length ≤ c.length) : st c off vs = some (wr c off vs) := by simp [st, h, wr]
theorem wr_length {c : List Value} {off : Nat} {vs : List Value} (h : off + vs.length ≤ c.length) : (wr c off vs).length = c.length := by simp [wr]; omega
theorem wr_get {c : List Value} {off : Nat} {vs : List Value} (h : off + vs.length ≤ c.length) (k : Nat) : (wr c off vs)[k]? = if k < off then c[k]? else if k < off + vs.length then vs[k - off]? else c[k]? := by
  unfold wr
  by_cases h1 : k < off
  · rw [if_pos h1, List.append_assoc, List.getElem?_append_left (by simp; omega), List.getElem?_take, if_pos h1]
  · rw [if_neg h1]
    have hl : (c.take off).length = off := by simp; omega
    by_cases h2 : k < off + vs.length
    · rw [if_pos h2, List.append_assoc, List.getElem?_append_right (by omega), hl, List.getElem?_append_left (by omega)]
    · rw [if_neg h2, List.getElem?_append_right (by simp; omega)]
      simp only [List.length_append, hl, List.getElem?_drop]
      congr 1
      omega

@[simp] theorem rep_cok (n : Nat) (z : List Value) (h : cokL z = true) : cokL (List.replicate n z).flatten = true := by
  induction n with
  | zero => rfl
  | succ n ih => rw [List.replicate_succ, List.flatten_cons, cokL_append, h, ih]; rfl
section
variable {P : Program} {σ : CSt} {ev : Operand → Value} {dst : Option Tmp} {ty : TypeId} {pos : String} {after : Array Edge} {g : Option (Nat × Bool)}

/-! ### copy -/
def copyIK (σ : CSt) : Option Addr → Nat → List Value → Option CSt
  | some ⟨i, off, none⟩, n, new => if n = 0 then some σ else match σ.get i with
    | some (.cells c e false) => (st c off new).map fun c' => σ.put i (.cells c' e false)
    | _ => none
  | _, n, _ => if n = 0 then some σ else none
def copyK : Option (TypeId × TF) → CSt → Value → Value → Option (Value × CSt)
  | some (_, f), σ, .slice base dl _, s =>
    match lenOf? s with
    | some sl => (firstOf σ f.size (min sl dl) s).bind fun new => if new.length = min sl dl * f.size ∧ cokL new = true then (copyIK σ base (min sl dl) new).map fun σ' => (.int .i64 (min sl dl : Nat), σ') else none
    | none => none
  | _, _, _, _ => none
theorem copyIK_eq (base : Option Addr) (n : Nat) (new : List Value) : copyInto σ base n new = copyIK σ base n new := by
  unfold copyInto copyIK
  by_cases h0 : n = 0
  · simp only [h0, if_true]
    split <;> rfl
  · simp only [h0, if_false]
    split
    · rename_i i off
      simp only [h0, if_false, CSt.cells]
      generalize σ.get i = o
      cases o with
      | none => rfl
      | some o =>
        cases o with
        | cells c e ro => cases ro <;> rfl
        | _ => rfl
    · rename_i h
      split
      · rename_i i off
        exact absurd rfl (h _ _)
      · rw [if_neg h0]
theorem copyOp_K {ts : Array TypeId} {d s : Value} (h : (ts[0]?.bind (elemF P)).isSome = true) : copyOp P σ ts d s = copyK (ts[0]?.bind (elemF P)) σ d s := by
  obtain ⟨⟨e, f⟩, hf⟩ := Option.isSome_iff_exists.1 h
  rw [hf]
  simp only [Option.bind_eq_some_iff] at hf
  obtain ⟨t, ht, hf⟩ := hf
  obtain ⟨inf, g1, g2, g3, g4⟩ := elemOf_some hf
  unfold copyOp
  rw [ht]
  cases d with
  | slice base dl c =>
    cases hs : lenOf? s with
    | none => simp [copyK, hs]
    | some sl =>
      simp only [g1, copyK, hs, g2, copyIK_eq]
      show (match firstOf σ f.size (min sl dl) s with | some new => _ | none => none) = _
      cases firstOf σ f.size (min sl dl) s <;> rfl
  | _ => cases hs : lenOf? s <;> rfl

/-! ### nil[l:h] -/
def sliceN : Option Nat → Option Nat → Option Value
  | some l, some h => if l ≤ h ∧ h ≤ 0 then some (.slice none 0 0) else none
  | _, _ => none
@[simp] theorem sliceN_eq (l h : Nat) : sliceN (some l) (some h) = if l ≤ h ∧ h ≤ 0 then some (.slice none 0 0) else none := (rfl)
theorem sliceOp_nil {t : TypeId} (he : (elemF P t).isSome = true) (lo hi : Option Value) : sliceOp P σ t (.slice none 0 0) lo hi none = sliceN (bound? 0 lo) (bound? 0 hi) := by
  obtain ⟨⟨e, f⟩, hf⟩ := Option.isSome_iff_exists.1 he
  obtain ⟨inf, h1, h2, h3, h4⟩ := elemOf_some hf
  have hb : bound? 0 none = some 0 := rfl
  simp only [sliceOp, h1, hb]
  generalize bound? 0 hi = bh
  cases bound? 0 lo with
  | none => cases bh <;> rfl
  | some l =>
    cases bh with
    | none => rfl
    | some h => simp [sliceN]
/-! ### append(s, make(..)...) -/
def appNK : Option (TypeId × TF) → CSt → Value → Int → Option (Value × CSt)
  | some (e, f), σ, s, n => match f.zero with
    | some z => if 0 ≤ n ∧ n * f.bytes ≤ 2 ^ 47 ∧ z.length = f.size ∧ z.all flat0 = true then appendF σ e f s n.toNat ((List.replicate n.toNat z).flatten) else none
    | none => none
  | none, _, _, _ => none
theorem zerosOf_eq (z : Array Value) (n : Nat) : zerosOf z n = (List.replicate n z.toList).flatten := range_flatten z n
theorem appendOp_N {ts : Array TypeId} {s : Value} {k : IntKind} {n : Int} (h : (ts[0]?.bind (elemF P)).isSome = true) (h' : (ts[1]?.bind (intT P)).isSome = true) : appendOp P σ ts s (.int k n) = appNK (ts[0]?.bind (elemF P)) σ s n := by
  obtain ⟨⟨e, f⟩, hf⟩ := Option.isSome_iff_exists.1 h
  obtain ⟨e1, hf1⟩ := Option.isSome_iff_exists.1 h'
  rw [hf]
  simp only [Option.bind_eq_some_iff] at hf hf1
  obtain ⟨t, ht, hf⟩ := hf
  obtain ⟨u, hu, hf1⟩ := hf1
  obtain ⟨inf, g1, g2, g3, g4⟩ := elemOf_some hf
  have hund : ∃ k, P.underlying u = some (.int k) := by
    unfold intT at hf1
    split at hf1
    · rename_i e2 h2; exact ⟨_, h2⟩
    · cases hf1
  obtain ⟨k', hund⟩ := hund
  simp only [appendOp, ht, hu, g1, hund, appNK]
  cases hz : inf.zero with
  | none =>
    rw [hz] at g4
    simp only [Option.map_none] at g4
    rw [← g4]
  | some z =>
    rw [hz] at g4
    simp only [Option.map_some] at g4
    rw [← g4]
    simp only [g2, g3, Array.length_toList]
    by_cases hc : 0 ≤ n ∧ n * (f.bytes : Int) ≤ 2 ^ 47 ∧ z.cells.size = f.size ∧ z.cells.toList.all flat0 = true
    · rw [if_pos hc, if_pos hc, appendTo_F g2 g3 (by rw [hz]; exact g4), zerosOf_eq]
    · rw [if_neg hc, if_neg hc]

/-! ### cap -/
def capV (P : Program) (σ : CSt) (ts : Array TypeId) (fl : OpR) : Value → OpR
  | .slice none 0 0 => if (ts[0]?.bind (elemT P)).isSome = true then .val (.int .i64 0) σ else fl
  | .slice (some ⟨i, off, none⟩) n k => if k = openCap then capOp P σ ts i off n else if (ts[0]?.bind (elemT P)).isSome = true then .val (.int .i64 k) σ else .fail
  | _ => .fail
@[simp] theorem capV_nil (ts : Array TypeId) (fl : OpR) (h : (ts[0]?.bind (elemT P)).isSome = true) : capV P σ ts fl (.slice none 0 0) = .val (.int .i64 0) σ := by simp [capV, h]
@[simp] theorem capV_known (ts : Array TypeId) (fl : OpR) (i off n k : Nat) (hk : k ≠ openCap) (h : (ts[0]?.bind (elemT P)).isSome = true) : capV P σ ts fl (.slice (some ⟨i, off, none⟩) n k) = .val (.int .i64 k) σ := by simp [capV, h, hk]
theorem und_isSome {ts : Array TypeId} (h : (ts[0]?.bind (elemT P)).isSome = true) : ∃ t e, ts[0]? = some t ∧ P.underlying t = some (.slice e) := by
  cases ht : ts[0]? with
  | none => rw [ht] at h; cases h
  | some t =>
    rw [ht] at h
    obtain ⟨e, he⟩ := und_of_elem (show (elemT P t).isSome = true from h)
    exact ⟨t, e, rfl, he⟩
@[simp] theorem callOp_capV {x : Operand} {ts : Array TypeId} : callOp P σ ev ⟨dst, .call ⟨.builtin .cap, #[x], ts⟩, ty, pos, after, g⟩ ⟨.builtin .cap, #[x], ts⟩ =
    capV P σ ts (flatOp P σ ev ⟨dst, .call ⟨.builtin .cap, #[x], ts⟩, ty, pos, after, g⟩) (ev x) := by
  have ha : (Array.map ev #[x]).toList = [ev x] := by simp
  unfold capV
  split
  · rename_i hx
    simp only [callOp, ha, hx]
    split
    · rename_i h
      obtain ⟨t, e, ht, hu⟩ := und_isSome h
      have h1 : pureRun P (execOp ev ⟨dst, .call ⟨.builtin .cap, #[x], ts⟩, ty, pos, after, g⟩) = some (.value (.int .i64 0)) := by
        have h2 : execOp ev ⟨dst, .call ⟨.builtin .cap, #[x], ts⟩, ty, pos, after, g⟩ = (do pure (Next.value (← Builtin.cap_ ts ty #[.slice none 0 0])) : Sem Next) := by
          simp only [execOp, resolve]
          have : (Array.map ev #[x]) = #[.slice none 0 0] := by simp [hx]
          simp only [this]
          rfl
        rw [h2, pureRun_v]
        have h3 : pureRun P (Builtin.cap_ ts ty #[.slice none 0 0]) = some (.int .i64 0) := by
          simp [Builtin.cap_, ht, pureRun_bind, pureRun_underlying, hu, goInt]
        rw [h3]
        rfl
      simp only [flatOp, Op.operands, Call.operands, h1]
      simp [hx]
    · rfl
  · rename_i i off n k hx
    simp only [callOp, ha, hx]
    by_cases hk : k = openCap
    · rw [if_pos hk, if_pos hk]
    · rw [if_neg hk, if_neg hk]
      by_cases h : (ts[0]?.bind (elemT P)).isSome = true
      · obtain ⟨t, e, ht, hu⟩ := und_isSome h
        rw [if_pos h]
        simp only [ht, hu]
      · rw [if_neg h]
        cases ht : ts[0]? with
        | none => rfl
        | some t =>
          rw [ht] at h
          simp only [Option.bind_some, elemT] at h
          cases hu : P.underlying t with
          | none => simp [hu]
          | some d =>
            cases d with
            | slice e => rw [hu] at h; simp at h
            | _ => simp [hu]
  · rename_i h1 h2
    simp only [callOp, ha]
    split <;> simp_all
variable {E : Env}
theorem wres_ext (x : Ctx) (a : CAct) (d : Option Tmp) (K : CAct → CSt → Prop) (Q : Out → CSt → Prop) {fv : Value} {args : Array Value} {v : Value} (h : extOf E fv args σ = some v) : wres E x a d K Q σ (.call fv args) = K (a.put d v) σ := by simp only [wres, h]
/-! ### clear -/
@[simp] theorem callOp_clear (o : Oper) (x : Operand) (ts : Array TypeId) : callOp P σ ev o ⟨.builtin .clear, #[x], ts⟩ = OpR.ofP (clearOp P σ ts (ev x)) := by
  have : (Array.map ev #[x]).toList = [ev x] := by simp
  simp only [callOp, this]
end
end Go.Sm
/- slices.overlaps of two rows; slices.Insert as one step: what its code leaves, with the rest forgotten. -/
set_option linter.unusedVariables false
set_option linter.unusedSimpArgs false
namespace Go.Sm
open Go

/-! ### slices.overlaps -/
def apartX (e : TypeId) (args : Array Value) (σ : CSt) : Option Value :=
  match args with
  | ⟨[.slice (some ⟨i, _, none⟩) _ _, .slice (some ⟨j, _, none⟩) _ _]⟩ =>
    if i ≠ j then
      match σ.get i, σ.get j with
      | some (.cells _ e' false), some (.cells (_ :: _) _ false) => if e' = e then some (.bool false) else none
      | _, _ => none
    else none
  | _ => none

section
variable {P : Program} {w : World} {tS tR e : TypeId} {size : Nat}
theorem overlaps_zero (ht : P.underlying tS = some (.slice e)) (hz : ∀ w, (Go.sizeOf e).run P w = .ok size w) (a b : Addr) (la ca lb cb : Nat) (h : la = 0 ∨ lb = 0) :
    (Extern.SlicesOverlaps.overlaps #[tS, tS] #[tR] #[.slice (some a) la ca, .slice (some b) lb cb]).run P w = .ok (.bool false) w := by
  change Sem.run P (α := Value) (do
    let some t := (#[tS, tS] : Array TypeId)[0]? | stuck "slices.overlaps: no parameter types"
    let .slice elem ← underlying t | stuck "slices.overlaps: slice type expected"
    let size ← sizeOf elem
    match (some a : Option Addr), (some b : Option Addr) with
    | some a, some b =>
      if la = 0 ∨ lb = 0 ∨ size = 0 then pure (Value.bool false)
      else if a.block != b.block && (← frozen a) && (← frozen b) then unsupported .addressObserved
      else do
        if a.block != b.block then do
          noView a; noView b
          if ← mayBeOne a b then return Value.bool ((← choose (.extern "sameAddr.stringBytes" 2)) == 1)
        pure (Value.bool (a.block == b.block && a.off < b.off + lb * size && b.off < a.off + la * size))
    | _, _ => pure (Value.bool false)) w = _
  have h0 : la = 0 ∨ lb = 0 ∨ size = 0 := by rcases h with h | h <;> simp [h]
  simp [run_underlying ht, hz, h0]

theorem VR.sliceForm {ρ : Rho} {i off n c : Nat} {v : Value} (h : VR ρ (.slice (some ⟨i, off, none⟩) n c) v) :
    (∃ p c', ρ i = some p ∧ v = .slice (some ⟨p.b, p.o + off, none⟩) n c') ∨ (n = 0 ∧ ∃ a, v = .slice (some a) 0 0) := by
  cases h with
  | plain v hf => simp [flat0] at hf
  | slc _ _ _ _ p hp hc => exact .inl ⟨p, _, hp, rfl⟩
  | slo _ _ _ _ p hp _ _ _ => exact .inl ⟨p, _, hp, rfl⟩
  | sle _ _ a p hp _ => exact .inr ⟨rfl, a, rfl⟩
  | slz _ _ a p hp => exact .inr ⟨rfl, a, rfl⟩

theorem apart_ok {f : FuncId} {fn : Func} (hf : P.funcs[f]? = some fn) (hname : (fn.name == "runtime.NumGoroutine") = false) (hb : fn.body.isNone = true) (hn : Extern.findNext fn = none)
    (he : Extern.find fn = some (Extern.SlicesOverlaps.overlaps #[tS, tS] #[tR])) (ht : P.underlying tS = some (.slice e)) (hz : ∀ w, (Go.sizeOf e).run P w = .ok size w) (hu : P.underlying e ≠ some (.int .u8))
    {args : Array Value} {σ : CSt} {v : Value} (h : apartX e args σ = some v) {ρ : Rho} {args' : Array Value} (hR : R P ρ σ w) (ha : AsR ρ args args') :
    ∃ v' w', Sw w w' ∧ (callFunc f args').run P w = .ok (.value v') w' ∧ VR ρ v v' := by
  unfold apartX at h
  split at h
  · rename_i i oi ni ci j oj nj cj
    split at h
    · rename_i hne
      split at h
      · rename_i ca ea x cb eb hgi hgj
        split at h
        · rename_i hee
          subst hee
          cases h
          have hl := ha.toList
          obtain ⟨x, y, rfl, hx, hy⟩ : ∃ x y, args' = #[x, y] ∧ VR ρ (.slice (some ⟨i, oi, none⟩) ni ci) x ∧ VR ρ (.slice (some ⟨j, oj, none⟩) nj cj) y := by
            have h1 := hl.1
            match hy : args'.toList, h1 with
            | [x, y], _ =>
              rw [hy] at hl
              exact ⟨x, y, by rw [← Array.toArray_toList (xs := args'), hy], hl.head, hl.tail.head⟩
          obtain ⟨p, hp, hop⟩ := hR.live_of_get hgi (by simp)
          obtain ⟨q, hq, hoq⟩ := hR.live_of_get hgj (by simp)
          have hpq : p.b ≠ q.b := hR.inj i j p q hne hp hq ⟨_, hgi, rfl, by simp⟩ ⟨_, hgj, by simp⟩
          have key : (Extern.SlicesOverlaps.overlaps #[tS, tS] #[tR] #[x, y]).run P w = .ok (.bool false) w := by
            rcases hx.sliceForm with ⟨p1, c1, h1, rfl⟩ | ⟨rfl, a1, rfl⟩
            · rcases hy.sliceForm with ⟨q1, c2, h2, rfl⟩ | ⟨rfl, a2, rfl⟩
              · rw [hp] at h1; cases h1
                rw [hq] at h2; cases h2
                obtain ⟨z1, cc, fz, g1, g2, g3, g4, g5⟩ := hop
                obtain ⟨z2, cc2, fz2, k1, k2, k3, k4, k5⟩ := hoq
                have hfz : fz.1 = fz.2 := by
                  rcases g5 with g | g
                  · exact g
                  · exact absurd g.2 hu
                refine Lib.run_overlaps_apart w tS tR _ ht size hz _ _ _ _ _ _ hpq ea eb cc.size cc2.size (by simp [World.shape?, g1]) (by simp [World.shape?, k1]) ?_ ?_ ?_
                · simp at k3; omega
                · simp only [World.frozen?, g1, Bool.and_eq_false_iff, decide_eq_false_iff_not]; omega
                · simp only [World.frozen?, g1, Bool.and_eq_false_iff, decide_eq_false_iff_not]; omega
              · exact overlaps_zero ht hz _ _ _ _ _ _ (.inr rfl)
            · rcases hy.sliceForm with ⟨q1, c2, h2, rfl⟩ | ⟨rfl, a2, rfl⟩
              · exact overlaps_zero ht hz _ _ _ _ _ _ (.inl rfl)
              · exact overlaps_zero ht hz _ _ _ _ _ _ (.inl rfl)
          refine ⟨.bool false, w, Sw.refl w, ?_, .plain _ rfl⟩
          rw [run_callFunc_extern hf hname hb hn he, key]
          rfl
        · cases h
      · cases h
    · cases h
  · cases h
end

/-! ### Objects are forgotten -/
theorem VR.back {ρ ρ' : Rho} (hr : ρ.le ρ') {v u : Value} (h : VR ρ v u) : ∀ {v' : Value}, VR ρ' v v' → VR ρ v v' := by
  have same : ∀ {i : Nat} {p q : Place}, ρ i = some p → ρ' i = some q → q = p := fun h1 h2 => by rw [hr _ _ h1] at h2; exact (Option.some.inj h2).symm
  induction h with
  | junk v => intro v' h'; exact .junk v'
  | nope => intro v' h'; cases h' with
    | nope => exact .nope
    | plain v hf => simp [flat0] at hf
  | plain v hf => intro v' h'; have := h'.flat_eq hf; subst this; exact .plain _ hf
  | ptr i off p hp => intro v' h'; cases h' with
    | plain v hf => simp [flat0] at hf
    | ptr _ _ q hq => have := same hp hq; subst this; exact .ptr i off _ hp
  | slc i off n c p hp hc => intro v' h'; cases h' with
    | plain v hf => simp [flat0] at hf
    | slc _ _ _ _ q hq _ => have := same hp hq; subst this; exact .slc i off n c _ hp hc
    | slo => exact absurd rfl hc
    | sle => exact absurd rfl hc
    | slz _ _ a q hq => have := same hp hq; subst this; exact .slz i off a _ hp
  | slo i off n c p hp hn hc hb => intro v' h'; cases h' with
    | plain v hf => simp [flat0] at hf
    | slc _ _ _ _ q hq hcc => exact absurd rfl hcc
    | slo _ _ _ c2 q hq h1 h2 h3 => have := same hp hq; subst this; exact .slo i off n c2 _ hp h1 h2 h3
    | sle _ _ a q hq h1 => have := same hp hq; subst this; exact .sle i off a _ hp h1
  | sle i off a p hp he => intro v' h'; cases h' with
    | plain v hf => simp [flat0] at hf
    | slc _ _ _ _ q hq hcc => exact absurd rfl hcc
    | slo _ _ _ c2 q hq h1 h2 h3 => have := same hp hq; subst this; exact .slo i off 0 c2 _ hp h1 h2 h3
    | sle _ _ a q hq h1 => have := same hp hq; subst this; exact .sle i off a _ hp h1
  | slz i off a p hp => intro v' h'; cases h' with
    | plain v hf => simp [flat0] at hf
    | slc _ _ _ _ q hq hcc => have := same hp hq; subst this; exact .slc i off 0 0 _ hp hcc
    | slz _ _ a q hq => have := same hp hq; subst this; exact .slz i off a _ hp
  | map i p hp => intro v' h'; cases h' with
    | plain v hf => simp [flat0] at hf
    | map _ q hq => have := same hp hq; subst this; exact .map i _ hp
  | func f g as0 bs cs ds hf h1 h2 h3 h4 i2 i4 => intro v' h'; cases h' with
    | plain v hf => simp [flat0] at hf
    | func _ g2 _ bs2 _ ds2 hf2 k1 k2 k3 k4 =>
      refine .func f g2 as0 bs2 cs ds2 ?_ k1 (fun i u v => i2 i u (by omega) (k2 i u v)) k3 (fun i u v => i4 i u (by omega) (k4 i u v))
      cases hf with
      | same f h => cases hf2 with
        | same _ h' => exact .same _ h
        | yield l p hp => exact absurd rfl (h l)
      | yield l p hp => cases hf2 with
        | same _ h' => exact absurd rfl (h' l)
        | yield _ q hq => have := same hp hq; subst this; exact .yield l _ hp
  | iface t v w h ih => intro v' h'; cases h' with
    | plain v hf => simp [flat0] at hf
    | iface _ _ w2 h2 => exact .iface t v w2 (ih h2)
  | agg as0 bs h1 h2 ih => intro v' h'; cases h' with
    | plain v hf => simp [flat0] at hf
    | agg _ bs2 k1 k2 => exact .agg as0 bs2 k1 fun i u v => ih i u (by omega) (k2 i u v)
  | tuple as0 bs h1 h2 ih => intro v' h'; cases h' with
    | junk => exact .junk _
    | plain v hf => simp [flat0] at hf
    | tuple _ bs2 k1 k2 => exact .tuple as0 bs2 k1 fun i u v => ih i u (by omega) (k2 i u v)

theorem OR.back {P : Program} {ρ ρ' : Rho} (hr : ρ.le ρ') {p : Place} {w w' : World} {o : CObj} (h : OR P ρ p w o) (h' : OR P ρ' p w' o) : OR P ρ p w' o := by
  cases o with
  | cells c e ro =>
    cases ro with
    | true =>
      refine ⟨h'.1, fun k u => ?_⟩
      obtain ⟨_, _, g⟩ := h.2 k u
      obtain ⟨v', g1, g2⟩ := h'.2 k u
      exact ⟨v', g1, g.back hr g2⟩
    | false =>
      obtain ⟨z, cc, fz, h1, h2, h3, h4, h5⟩ := h'
      obtain ⟨_, _, _, _, _, _, k4, _⟩ := h
      refine ⟨z, cc, fz, h1, h2, h3, fun k u => ?_, h5⟩
      obtain ⟨_, _, g⟩ := k4 k u
      obtain ⟨v', g1, g2⟩ := h4 k u
      exact ⟨v', g1, g.back hr g2⟩
  | map es n =>
    obtain ⟨es', h1, h2, h3⟩ := h'
    obtain ⟨es0, _, k2, k3⟩ := h
    refine ⟨es', h1, h2, fun i u v => ?_⟩
    obtain ⟨a, b, c, d⟩ := h3 i u v
    exact ⟨a, b, c, (k3 i u (by omega)).val.back hr d⟩
  | siter s n => exact h'
  | miter m since seen stp =>
    obtain ⟨h1, m', h2, h3⟩ := h'
    obtain ⟨_, m0, _, k3⟩ := h
    refine ⟨h1, m', h2, ?_⟩
    cases m with
    | none => exact h3
    | some i =>
      obtain ⟨q, hq, rfl⟩ := h3
      obtain ⟨q0, hq0, _⟩ := k3
      have := hr _ _ hq0
      rw [hq] at this
      cases this
      exact ⟨q, hq0, rfl⟩
  | loop st pend fn tm sz ps asg body =>
    obtain ⟨r, h1, h2, h3, h4, h5, h6, h7, h8⟩ := h'
    obtain ⟨r0, _, _, _, _, _, _, _, k8⟩ := h
    refine ⟨r, h1, h2, h3, h4, h5, h6, h7, h8.1, fun i => (k8.2 i).back hr (h8.2 i)⟩
  | dead => trivial

/-- What was made behind a state is forgotten, but for one row that has a new number; one object that was there is struck. -/
theorem R.forget {P : Program} {ρ ρ' : Rho} {σ σ' : CSt} {w w' : World} (h : R P ρ σ w) (h' : R P ρ' σ' w') (hr : ρ.le ρ') {k : Option Nat} (hk : ∀ i, k = some i → i < σ.n) (hold : ∀ y, y < σ.n → k ≠ some y → σ'.get y = σ.get y)
    {x : Nat} {p : Place} {c want : List Value} {e : TypeId} (hx : σ'.get x = some (.cells c e false)) (hp : ρ' x = some p) (hxk : x < σ.n → k = some x) (hw : want = c.take want.length) (hv : ∀ v ∈ want, ∃ u, VR ρ v u) :
    let σf := (match k with | some i => σ.put i .dead | none => σ).alloc (.cells want e false)
    let ρf : Rho := fun y => if y = σ.n then some p else if y < σ.n then ρ y else none
    R P ρf σf w' ∧ ρ.le ρf := by
  intro σf ρf
  have hgn := h.gn
  have hle : ρ.le ρf := fun y r hy => by
    have : y < σ.n := by
      by_cases hl : y < σ.n
      · exact hl
      · rw [h.dom y (by omega)] at hy; cases hy
    simp only [ρf]
    rw [if_neg (by omega), if_pos this]
    exact hy
  have hn : (match k with | some i => σ.put i .dead | none => σ).n = σ.n := by cases k <;> rfl
  have hget : ∀ y, y ≠ σ.n → σf.get y = if k = some y then some .dead else σ.get y := fun y hy => by
    simp only [σf]
    rw [CSt.get_alloc, hn, if_neg hy]
    cases k with
    | none => simp
    | some i =>
      rw [CSt.get_put]
      by_cases e : y = i
      · simp [e]
      · rw [if_neg e, if_neg (by intro h; cases h; exact e rfl)]
  have hself : σf.get σ.n = some (.cells want e false) := by simp only [σf]; rw [CSt.get_alloc, hn, if_pos rfl]
  have hlive : ∀ y, y ≠ σ.n → live σf y → live σ y ∧ k ≠ some y ∧ y < σ.n := fun y hy hl => by
    obtain ⟨o, ho, hd⟩ := hl
    rw [hget y hy] at ho
    by_cases e : k = some y
    · rw [if_pos e] at ho; cases ho; exact absurd rfl hd
    · rw [if_neg e] at ho
      refine ⟨⟨o, ho, hd⟩, e, ?_⟩
      obtain ⟨r, hr⟩ := h.tot y ⟨o, ho, hd⟩
      by_cases hl : y < σ.n
      · exact hl
      · rw [h.dom y (by omega)] at hr; cases hr
  have hlive' : ∀ y, y ≠ σ.n → live σf y → live σ' y := fun y hy hl => by
    obtain ⟨⟨o, ho, hd⟩, hk, hlt⟩ := hlive y hy hl
    exact ⟨o, by rw [hold y hlt hk]; exact ho, hd⟩
  have hrw : ∀ y, y ≠ σ.n → rw_ σf y → rw_ σ' y := fun y hy hl => by
    have h1 := hlive y hy (live_of_rw hl)
    obtain ⟨o, ho, hro, hd⟩ := hl
    rw [hget y hy, if_neg h1.2.1] at ho
    exact ⟨o, by rw [hold y h1.2.2 h1.2.1]; exact ho, hro, hd⟩
  have hρn : ρf σ.n = some p := if_pos rfl
  have hrx : rw_ σ' x := ⟨_, hx, rfl, by simp⟩
  have hρ : ∀ y r, y ≠ σ.n → ρf y = some r → ρ y = some r ∧ ρ' y = some r := fun y r hy hr' => by
    simp only [ρf] at hr'
    rw [if_neg hy] at hr'
    split at hr'
    · exact ⟨hr', hr _ _ hr'⟩
    · cases hr'
  have hnx : ∀ y, y ≠ σ.n → live σf y → y ≠ x := fun y hy hl e => by
    subst e
    have h1 := hlive y hy hl
    exact h1.2.1 (hxk h1.2.2)
  refine ⟨⟨fun y hy => ?_, fun y hy => ?_, fun y r hy hl => ?_, fun y o r ho hy => ?_, fun a b r s hne ha hb hra hlb => ?_, fun g hg => ?_, ?_⟩, hle⟩
  · have : σ.n + 1 ≤ y := by simpa [σf, hn] using hy
    simp only [ρf]
    rw [if_neg (by omega), if_neg (by omega)]
  · by_cases e : y = σ.n
    · exact ⟨_, by simp only [ρf]; rw [if_pos e]⟩
    · obtain ⟨h1, h2, h3⟩ := hlive y e hy
      obtain ⟨r, h4⟩ := h.tot y h1
      exact ⟨r, hle _ _ h4⟩
  · by_cases e : y = σ.n
    · subst e
      rw [hρn] at hy
      cases hy
      exact h'.lt x p hp (live_of_rw hrx)
    · exact h'.lt y r (hρ y r e hy).2 (hlive' y e hl)
  · by_cases e : y = σ.n
    · subst e
      rw [hself] at ho
      cases ho
      rw [hρn] at hy
      cases hy
      obtain ⟨z, cc, fz, h1, h2, h3, h4, h5⟩ := h'.obj x _ p hx hp
      have hlen : want.length ≤ c.length := by rw [hw]; simp; omega
      refine ⟨z, cc, fz, h1, h2, by omega, fun j u => ?_, h5⟩
      obtain ⟨v', g1, g2⟩ := h4 j (by omega)
      have hwj : want[j] = c[j] := by
        have : want[j]? = (c.take want.length)[j]? := by rw [← hw]
        rw [List.getElem?_take, if_pos u, List.getElem?_eq_getElem u, List.getElem?_eq_getElem (by omega)] at this
        exact Option.some.inj this
      obtain ⟨u0, hu0⟩ := hv want[j] (List.getElem_mem u)
      rw [← hwj] at g2
      exact ⟨v', g1, (hu0.back hr g2).mono hle⟩
    · by_cases hd : o = .dead
      · subst hd; trivial
      · obtain ⟨h1, h2, h3⟩ := hlive y e ⟨o, ho, hd⟩
        have h4 := hρ y r e hy
        rw [hget y e, if_neg h2] at ho
        have := (h.obj y o r ho h4.1).back hr (h'.obj y o r (by rw [hold y h3 h2]; exact ho) h4.2)
        exact this.mono hle
  · by_cases ea : a = σ.n
    · subst ea
      have eb : b ≠ σ.n := fun e => hne e.symm
      rw [hρn] at ha
      cases ha
      exact h'.inj x b p s (Ne.symm (hnx b eb hlb)) hp (hρ b s eb hb).2 hrx (hlive' b eb hlb)
    · by_cases eb : b = σ.n
      · subst eb
        rw [hρn] at hb
        cases hb
        exact h'.inj a x r p (hnx a ea (live_of_rw hra)) (hρ a r ea ha).2 hp (hrw a ea hra) (live_of_rw hrx)
      · exact h'.inj a b r s hne (hρ a r ea ha).2 (hρ b s eb hb).2 (hrw a ea hra) (hlive' b eb hlb)
  · obtain ⟨r, h1, h2⟩ := h.glob g hg
    exact ⟨r, hle _ _ h1, h2⟩
  · simp [σf, hn]; omega
end Go.Sm
/- slices.Insert of one element as one step. -/
set_option linter.unusedVariables false
set_option linter.unusedSimpArgs false
namespace Go.Sm
open Go

def insRow (sz a n : Nat) (row new : List Value) : List Value := row.take (a * sz) ++ new ++ (row.take (n * sz)).drop (a * sz)
def insG (e sz bytes : Nat) (args : Array Value) (σ : CSt) : Option (Value × CSt) :=
  match args with
  | ⟨[s, .int .i64 a, .slice (some ⟨j, 0, none⟩) 1 1]⟩ =>
    match σ.get j with
    | some (.cells new e1 false) =>
      if e1 = e ∧ new.length = sz ∧ new.all cellv = true ∧ 0 ≤ a ∧ bytes ≤ 2 ^ 47 then
        match s with
        | .slice none 0 0 => if a = 0 then some (.slice (some ⟨σ.n, 0, none⟩) 1 openCap, σ.alloc (.cells new e false)) else none
        | .slice (some ⟨i, 0, none⟩) n c =>
          match σ.get i with
          | some (.cells row e2 false) =>
            if e2 = e ∧ i ≠ j ∧ n * sz ≤ row.length ∧ (row.take (n * sz)).all cellv = true ∧ a ≤ n ∧ (n + 1) * bytes ≤ 2 ^ 47 ∧ n < 2 ^ 40 then
              if c = openCap then some (.slice (some ⟨σ.n, 0, none⟩) (n + 1) openCap, (σ.put i .dead).alloc (.cells (insRow sz a.toNat n row new) e false))
              else if n = 0 ∧ c = 0 then some (.slice (some ⟨σ.n, 0, none⟩) 1 openCap, σ.alloc (.cells new e false)) else none
            else none
          | _ => none
        | _ => none
      else none
    | _ => none
  | _ => none

theorem insG_nil {e sz bytes j : Nat} {σ : CSt} {new : List Value} (hj : σ.get j = some (.cells new e false)) (hl : new.length = sz) (hc : new.all cellv = true) (hb : bytes ≤ 2 ^ 47) :
    insG e sz bytes #[.slice none 0 0, .int .i64 0, .slice (some ⟨j, 0, none⟩) 1 1] σ = some (.slice (some ⟨σ.n, 0, none⟩) 1 openCap, σ.alloc (.cells new e false)) := by
  have hcc : e = e ∧ new.length = sz ∧ new.all cellv = true ∧ (0 : Int) ≤ 0 ∧ bytes ≤ 2 ^ 47 := ⟨rfl, hl, hc, by omega, hb⟩
  show (match σ.get j with | some (.cells new e1 false) => if e1 = e ∧ new.length = sz ∧ new.all cellv = true ∧ (0 : Int) ≤ 0 ∧ bytes ≤ 2 ^ 47 then (if (0 : Int) = 0 then some (Value.slice (some ⟨σ.n, 0, none⟩) 1 openCap, σ.alloc (.cells new e false)) else none) else none | _ => none) = _
  rw [hj]
  show (if _ then _ else _) = _
  rw [if_pos hcc, if_pos rfl]
theorem insG_some {e sz bytes i j n c : Nat} {a : Int} {σ : CSt} {row new : List Value} (hi : σ.get i = some (.cells row e false)) (hj : σ.get j = some (.cells new e false)) (hl : new.length = sz) (hc : new.all cellv = true) (hb : bytes ≤ 2 ^ 47)
    (ha : 0 ≤ a) (h1 : i ≠ j) (h2 : n * sz ≤ row.length) (h3 : (row.take (n * sz)).all cellv = true) (h4 : a ≤ n) (h5 : (n + 1) * bytes ≤ 2 ^ 47) (h6 : n < 2 ^ 40) :
    insG e sz bytes #[.slice (some ⟨i, 0, none⟩) n c, .int .i64 a, .slice (some ⟨j, 0, none⟩) 1 1] σ =
      if c = openCap then some (.slice (some ⟨σ.n, 0, none⟩) (n + 1) openCap, (σ.put i .dead).alloc (.cells (insRow sz a.toNat n row new) e false))
      else if n = 0 ∧ c = 0 then some (.slice (some ⟨σ.n, 0, none⟩) 1 openCap, σ.alloc (.cells new e false)) else none := by
  have hcc : e = e ∧ new.length = sz ∧ new.all cellv = true ∧ 0 ≤ a ∧ bytes ≤ 2 ^ 47 := ⟨rfl, hl, hc, ha, hb⟩
  have hcd : e = e ∧ i ≠ j ∧ n * sz ≤ row.length ∧ (row.take (n * sz)).all cellv = true ∧ a ≤ n ∧ (n + 1) * bytes ≤ 2 ^ 47 ∧ n < 2 ^ 40 := ⟨rfl, h1, h2, h3, h4, h5, h6⟩
  show (match σ.get j with | some (.cells new e1 false) => if e1 = e ∧ new.length = sz ∧ new.all cellv = true ∧ 0 ≤ a ∧ bytes ≤ 2 ^ 47 then (match σ.get i with
          | some (.cells row e2 false) =>
            if e2 = e ∧ i ≠ j ∧ n * sz ≤ row.length ∧ (row.take (n * sz)).all cellv = true ∧ a ≤ n ∧ (n + 1) * bytes ≤ 2 ^ 47 ∧ n < 2 ^ 40 then
              if c = openCap then some (Value.slice (some ⟨σ.n, 0, none⟩) (n + 1) openCap, (σ.put i .dead).alloc (.cells (insRow sz a.toNat n row new) e false))
              else if n = 0 ∧ c = 0 then some (Value.slice (some ⟨σ.n, 0, none⟩) 1 openCap, σ.alloc (.cells new e false)) else none
            else none
          | _ => none) else none | _ => none) = _
  rw [hj]
  show (if _ then _ else _) = _
  rw [if_pos hcc, hi]
  show (if _ then _ else _) = _
  rw [if_pos hcd]
/-- What its code leaves. -/
def InsPost (σ : CSt) (k : Option Nat) (cap : Nat) (e : TypeId) (want : List Value) (n1 : Nat) (o : Out) (σ' : CSt) : Prop :=
  ∃ x c kk, o = .ret (.slice (some ⟨x, 0, none⟩) n1 kk) false ∧ σ'.get x = some (.cells c e false) ∧ want = c.take want.length ∧ ((σ.n ≤ x ∧ kk = openCap) ∨ (k = some x ∧ kk = cap ∧ n1 ≤ cap)) ∧
    ∀ y, y < σ.n → k ≠ some y → σ'.get y = σ.get y
def insEnd (σ : CSt) (k : Option Nat) (o : CObj) : CSt := (match k with | some i => σ.put i .dead | none => σ).alloc o

theorem ins_fin {P : Program} {f : FuncId} {cs : List Frame} {ρ : Rho} {σ σ2 : CSt} {w : World} (hR : R P ρ σ w) (hn : σ2.n = σ.n) {k : Option Nat} (hk : ∀ i, k = some i → i < σ.n) (hs : ∀ y, k ≠ some y → σ2.get y = σ.get y)
    (hrw : ∀ y, rw_ σ2 y → rw_ σ y) {m : Machine} {want : List Value} {e : TypeId} {n1 cap : Nat} (hn1 : 0 < n1) (hv : ∀ v ∈ want, ∃ u, VR ρ v u) (hcap : ∀ i, k = some i → ∃ p, ρ i = some p ∧ cap * p.z = p.e ∧ cap < openCap)
    (h : FnOk w.heap.size P m f cs none ρ σ2 w (InsPost σ2 k cap e want n1)) {Q : Out → CSt → Prop} (hq : Q (.ret (.slice (some ⟨σ.n, 0, none⟩) n1 openCap) false) (insEnd σ k (.cells want e false))) : FnOk w.heap.size P m f cs none ρ σ w Q := by
  rcases h with ⟨v, tk, σ', ρ', w', v', fr, hp, hR', hF, hvr, h1, h2, h3, h4, h5, h6, h7⟩ | ⟨v, σ', ρ', w', v', fr, hp, _⟩
  · obtain ⟨x, c, kk, ho, hx, hw, hkk, hold⟩ := hp
    cases ho
    rw [hn] at hold hkk
    obtain ⟨p, hpx⟩ : ∃ p, ρ' x = some p := hR'.tot x ⟨_, hx, by simp⟩
    have hxk : x < σ.n → k = some x := fun hl => by
      rcases hkk with h | h
      · omega
      · exact h.1
    obtain ⟨r1, r2⟩ := hR.forget hR' hF.le hk (fun y hy hyk => by rw [hold y hy hyk, hs y hyk]) hx hpx hxk hw hv
    refine .inl ⟨_, false, _, _, w', v', fr, hq, r1, ?_, ?_, h1, fun _ => rfl, h3, h4, h5, h6, h7⟩
    · refine ⟨r2, hF.os, hF.tape, hF.output, hF.size, fun b hb hno => hF.keep b hb fun i p hi hri => hno i p hi (hrw i hri), fun y p0 hy hyr => ?_⟩
      by_cases e0 : y = σ.n
      · subst e0
        rw [if_pos rfl] at hy
        cases hy
        rcases hF.fresh x p hpx ⟨_, hx, rfl, by simp⟩ with h | ⟨j, q, a, b, c⟩
        · exact .inl h
        · exact .inr ⟨j, q, a, hrw j b, c⟩
      · rw [if_neg e0] at hy
        split at hy
        · refine .inr ⟨y, p0, hy, ?_, rfl⟩
          obtain ⟨o, ho, a, b⟩ := hyr
          have hn' : (match k with | some i => σ.put i .dead | none => σ).n = σ.n := by cases k <;> rfl
          unfold insEnd at ho
          rw [CSt.get_alloc, hn', if_neg e0] at ho
          cases k with
          | none => exact ⟨o, ho, a, b⟩
          | some i =>
            simp only [CSt.get_put] at ho
            split at ho
            · cases ho; exact absurd rfl b
            · exact ⟨o, ho, a, b⟩
        · cases hy
    · have hself : (fun y => if y = σ.n then some p else if y < σ.n then ρ y else none : Rho) σ.n = some p := if_pos rfl
      rcases hkk with ⟨hxn, rfl⟩ | ⟨hkx, rfl, hle⟩
      · cases hvr with
        | plain v hf => simp [flat0] at hf
        | slc _ _ _ _ q hq2 hcc => exact absurd rfl hcc
        | slo _ _ _ c2 q hq2 a b d => rw [hpx] at hq2; cases hq2; exact .slo _ _ _ _ _ hself a b d
        | sle => omega
      · obtain ⟨p2, hp2, hc1, hc2⟩ := hcap x hkx
        have := hF.le _ _ hp2
        rw [hpx] at this
        cases this
        cases hvr with
        | plain v hf => simp [flat0] at hf
        | slc _ _ _ _ q hq2 hcc => rw [hpx] at hq2; cases hq2; exact .slo _ _ _ _ _ hself hle (by omega) hc2
        | slo _ _ _ c2 q hq2 a b d => exact absurd hc2 (by omega)
        | sle => omega
        | slz => omega
  · obtain ⟨x, c, kk, ho, _⟩ := hp
    cases ho

/-- What the code is to leave: of a nil slice, of one without room, of one whose room is known. -/
structure InsW (E : Env) (f : FuncId) (e : TypeId) (sz bytes : Nat) : Prop where
  nil : ∀ (σ : CSt) (j : Nat) (new : List Value), j < σ.n → σ.get j = some (.cells new e false) → new.length = sz → new.all cellv = true → bytes ≤ 2 ^ 47 →
    W E (.fn f #[.slice none 0 0, .int .i64 0, .slice (some ⟨j, 0, none⟩) 1 1] none) σ (InsPost σ none 0 e new 1)
  zero : ∀ (σ : CSt) (i j : Nat) (row new : List Value), i < σ.n → j < σ.n → i ≠ j → σ.get i = some (.cells row e false) → σ.get j = some (.cells new e false) → new.length = sz → new.all cellv = true → bytes ≤ 2 ^ 47 →
    W E (.fn f #[.slice (some ⟨i, 0, none⟩) 0 0, .int .i64 0, .slice (some ⟨j, 0, none⟩) 1 1] none) σ (InsPost σ none 0 e new 1)
  some_ : ∀ (σ : CSt) (i j n a k : Nat) (row new : List Value), i < σ.n → j < σ.n → i ≠ j → σ.get i = some (.cells row e false) → σ.get j = some (.cells new e false) → new.length = sz → new.all cellv = true →
    n * sz ≤ row.length → k * sz ≤ row.length → (row.take (n * sz)).all cellv = true → a ≤ n → (n + 1) * bytes ≤ 2 ^ 47 → n < 2 ^ 40 → n ≤ k → k < openCap →
    W E (.fn f #[.slice (some ⟨i, 0, none⟩) n k, .int .i64 a, .slice (some ⟨j, 0, none⟩) 1 1] none) σ (InsPost σ (some i) k e (insRow sz a n row new) (n + 1))

theorem row_vals {P : Program} {ρ : Rho} {σ : CSt} {w : World} (hR : R P ρ σ w) {i : Nat} {row : List Value} {e : TypeId} (hg : σ.get i = some (.cells row e false)) : ∀ v ∈ row, ∃ u, VR ρ v u := by
  intro v hv
  obtain ⟨p, hp, hor⟩ := hR.live_of_get hg (by simp)
  obtain ⟨j, hj, rfl⟩ := List.mem_iff_getElem.1 hv
  obtain ⟨_, cc, fz, h1, h2, h3, h4, h5⟩ := hor
  obtain ⟨v', _, h⟩ := h4 j hj
  exact ⟨v', h⟩
theorem R.lt_of_get {P : Program} {ρ : Rho} {σ : CSt} {w : World} (hR : R P ρ σ w) {i : Nat} {o : CObj} (hg : σ.get i = some o) (hd : o ≠ .dead) : i < σ.n := by
  obtain ⟨p, hp, _⟩ := hR.live_of_get hg hd
  by_cases h : i < σ.n
  · exact h
  · rw [hR.dom i (by omega)] at hp; cases hp
theorem SimFn.of_R {P : Program} {f : FuncId} {args : Array Value} {σ : CSt} {Q : Out → CSt → Prop} (hb : ∃ fn, P.funcs[f]? = some fn ∧ fn.body.isSome = true) (h : ∀ (ρ : Rho) (w : World), R P ρ σ w → SimFn P f args none σ Q) : SimFn P f args none σ Q :=
  ⟨hb, fun ρ w args' cs hR => (h ρ w hR).2 ρ w args' cs hR⟩

theorem ins_gam {E : Env} (G : Good E.P) (HE : ExtOk E) (HG : GamOk E) {f : FuncId} {e : TypeId} {sz bytes : Nat} (hbody : ∃ fn, E.P.funcs[f]? = some fn ∧ fn.body.isSome = true) (hce : E.P.cellsOf e = sz) (hsz : 0 < sz) (H : InsW E f e sz bytes)
    {args : Array Value} {σ : CSt} {v : Value} {σ' : CSt} (h : insG e sz bytes args σ = some (v, σ')) {Q : Out → CSt → Prop} (hq : Q (.ret v false) σ') : SimFn E.P f args none σ Q := by
  unfold insG at h
  split at h
  · rename_i s a j
    split at h
    · rename_i new e1 hgj
      split at h
      · rename_i hc
        obtain ⟨rfl, hl, hcv, ha0, hby⟩ := hc
        refine SimFn.of_R hbody fun ρ0 w0 hR0 => ?_
        have hjn := hR0.lt_of_get hgj (by simp)
        split at h
        · split at h
          · rename_i ha
            subst ha
            cases h
            have hs := (H.nil σ j new hjn hgj hl hcv hby).sim G HE HG
            exact ⟨hbody, fun ρ w args' cs hR hA hd => ins_fin (k := none) hR rfl (by simp) (fun _ _ => rfl) (fun _ h => h) (by omega) (row_vals hR hgj) (by simp) (hs.2 ρ w args' cs hR hA hd) hq⟩
          · cases h
        · rename_i i n c
          split at h
          · rename_i row e2 hgi
            split at h
            · rename_i hc2
              obtain ⟨rfl, hij, hrl, hrc, han, hbn, hn40⟩ := hc2
              have hin := hR0.lt_of_get hgi (by simp)
              obtain ⟨a, rfl⟩ := Int.eq_ofNat_of_zero_le ha0
              have han' : a ≤ n := by omega
              split at h
              · rename_i ho
                subst ho
                cases h
                refine ⟨hbody, fun ρ w args' cs hR hA hd => ?_⟩
                obtain ⟨p, hp, hor⟩ := hR.live_of_get hgi (by simp)
                have hsz0 : 0 < args'.size := by rw [← hA.1]; simp
                have hv := hA.2 0 (by simp) hsz0
                generalize hx : args'[0] = x at hv
                have hvals : ∀ v ∈ insRow sz a n row new, ∃ u, VR ρ v u := by
                  intro v hv
                  simp only [insRow, List.mem_append] at hv
                  rcases hv with (h1 | h1) | h1
                  · exact row_vals hR hgi v (List.mem_of_mem_take h1)
                  · exact row_vals hR hgj v h1
                  · exact row_vals hR hgi v (List.mem_of_mem_take (List.mem_of_mem_drop h1))
                have go : ∀ k, n ≤ k → k < openCap → k * p.z = p.e → VR ρ (.slice (some ⟨i, 0, none⟩) n k) x → FnOk w.heap.size E.P (lone (Frame.enter E.P f args' (kindOf none)) cs w) f cs none ρ σ w Q := by
                  intro k h1 h2 h3 h4
                  have hb := hR.bare (off := 0) hgi hp (cc := k) (.inr (by omega))
                  rw [hce] at hb
                  have hbr : (bareRow row 0 sz k).take (n * sz) = row.take (n * sz) := by
                    unfold bareRow
                    split
                    · rfl
                    · rw [List.take_append_of_le_length hrl]
                  have hbr2 : (bareRow row 0 sz k).take (a * sz) = row.take (a * sz) := by
                    have hle : a * sz ≤ row.length := Nat.le_trans (Nat.mul_le_mul_right _ han') hrl
                    unfold bareRow
                    split
                    · rfl
                    · rw [List.take_append_of_le_length hle]
                  have hbl : n * sz ≤ (bareRow row 0 sz k).length ∧ k * sz ≤ (bareRow row 0 sz k).length := by
                    unfold bareRow
                    split
                    · rename_i h0; subst h0; simp; omega
                    · simp; omega
                  have hW := H.some_ (σ.put i (.cells (bareRow row 0 sz k) e2 false)) i j n a k (bareRow row 0 sz k) new hin hjn hij (by simp) (by rw [put_get, if_neg (Ne.symm hij)]; exact hgj) hl hcv hbl.1 hbl.2 (by rw [hbr]; exact hrc) han' hbn hn40 h1 h2
                  have hs := hW.sim G HE HG
                  have hA2 : AsR ρ #[.slice (some ⟨i, 0, none⟩) n k, .int .i64 a, .slice (some ⟨j, 0, none⟩) 1 1] args' := hA.put1 h4 hx
                  have hF := hs.2 ρ w args' cs hb.1 hA2 hd
                  have hrow : insRow sz a n (bareRow row 0 sz k) new = insRow sz a n row new := by simp only [insRow, hbr, hbr2]
                  rw [hrow] at hF
                  refine ins_fin (σ2 := σ.put i (.cells (bareRow row 0 sz k) e2 false)) (k := some i) (cap := k) hR rfl (fun y hy => by cases hy; exact hin) (fun y hy => by rw [CSt.get_put, if_neg (by intro e; exact hy (by rw [e]))]) (fun y hy => ?_) (by omega) hvals (fun y hy => by cases hy; exact ⟨p, hp, h3, h2⟩) hF hq
                  rw [rw_put] at hy
                  by_cases e : y = i
                  · subst e; exact ⟨_, hgi, rfl, by simp⟩
                  · rw [if_neg e] at hy; exact hy
                cases hv with
                | plain v hf => simp [flat0] at hf
                | slc _ _ _ _ q hq hcc => exact absurd rfl hcc
                | slo _ _ _ cc q hq hnn hcc hbb =>
                  rw [hp] at hq
                  cases hq
                  exact go cc hnn hbb (by omega) (.slc _ _ _ _ p hp (by omega))
                | sle _ _ ad q hq2 hee =>
                  rw [hp] at hq2
                  cases hq2
                  exact go 0 (Nat.le_refl _) (by simp [openCap]) (by omega) (.slz _ _ _ p hp)
              · split at h
                · rename_i h0
                  obtain ⟨rfl, rfl⟩ := h0
                  cases h
                  have ha : a = 0 := by omega
                  subst ha
                  have hs := (H.zero σ i j row new hin hjn hij hgi hgj hl hcv hby).sim G HE HG
                  exact ⟨hbody, fun ρ w args' cs hR hA hd => ins_fin (k := none) hR rfl (by simp) (fun _ _ => rfl) (fun _ h => h) (by omega) (row_vals hR hgj) (by simp) (hs.2 ρ w args' cs hR hA hd) hq⟩
                · cases h
            · cases h
          · cases h
        · cases h
      · cases h
    · cases h
  · cases h
end Go.Sm
/- The row with one element more: plain facts of lists. -/
set_option linter.unusedVariables false
namespace Go.Sm
open Go
section
variable {sz a n : Nat} {row new : List Value}
theorem insRow_get (hl : new.length = sz) (ha : a ≤ n) (hn : n * sz ≤ row.length) (k : Nat) :
    (insRow sz a n row new)[k]? = if k < a * sz then row[k]? else if k < a * sz + sz then new[k - a * sz]? else if k < n * sz + sz then row[k - sz]? else none := by
  have h1 : a * sz ≤ n * sz := Nat.mul_le_mul_right _ ha
  have hlen : (row.take (a * sz)).length = a * sz := by simp; omega
  unfold insRow
  by_cases c1 : k < a * sz
  · rw [if_pos c1, List.append_assoc, List.getElem?_append_left (by omega), List.getElem?_take, if_pos c1]
  · rw [if_neg c1]
    by_cases c2 : k < a * sz + sz
    · rw [if_pos c2, List.append_assoc, List.getElem?_append_right (by omega), hlen, List.getElem?_append_left (by omega)]
    · rw [if_neg c2, List.getElem?_append_right (by simp only [List.length_append, hlen]; omega)]
      simp only [List.length_append, hlen, hl, List.getElem?_drop, List.getElem?_take]
      have e : a * sz + (k - (a * sz + sz)) = k - sz := by omega
      rw [e]
      by_cases c3 : k < n * sz + sz
      · rw [if_pos c3, if_pos (by omega)]
      · rw [if_neg c3, if_neg (by omega)]
theorem insRow_len (hl : new.length = sz) (ha : a ≤ n) (hn : n * sz ≤ row.length) : (insRow sz a n row new).length = n * sz + sz := by
  have h1 : a * sz ≤ n * sz := Nat.mul_le_mul_right _ ha
  simp only [insRow, List.length_append, List.length_take, List.length_drop, hl]
  omega
/-- At the end, where there is room. -/
theorem insA (hl : new.length = sz) (hn : n * sz + sz ≤ row.length) : insRow sz n n row new = (wr row (n * sz) new).take (insRow sz n n row new).length := by
  rw [insRow_len hl (Nat.le_refl _) (by omega)]
  apply List.ext_getElem?
  intro k
  rw [insRow_get hl (Nat.le_refl _) (by omega), List.getElem?_take, wr_get (by omega), hl]
  by_cases c1 : k < n * sz
  · rw [if_pos c1, if_pos (by omega), if_pos c1]
  · rw [if_neg c1]
    by_cases c2 : k < n * sz + sz
    · rw [if_pos c2, if_pos c2, if_neg c1, if_pos c2]
    · rw [if_neg c2, if_neg c2, if_neg c2]
/-- At the end, anew. -/
theorem insB (hl : new.length = sz) (hn : n * sz ≤ row.length) : insRow sz n n row new = (row.take (n * sz) ++ new).take (insRow sz n n row new).length := by
  rw [insRow_len hl (Nat.le_refl _) hn]
  have : insRow sz n n row new = row.take (n * sz) ++ new := by simp [insRow]
  have hl2 : (row.take (n * sz)).length = n * sz := by simp; omega
  rw [this]
  exact (List.take_of_length_le (by rw [List.length_append, hl2, hl]; exact Nat.le_refl _)).symm
theorem seg_get {l m : Nat} (k : Nat) : ((row.drop l).take m)[k]? = if k < m then row[l + k]? else none := by rw [List.getElem?_take, List.getElem?_drop]
/-- Within, anew. -/
theorem insC {z : List Value} (hl : new.length = sz) (ha : a < n) (hn : n * sz ≤ row.length) (hz : z.length = n * sz + sz - a * sz) :
    insRow sz a n row new = (wr (wr (row.take (a * sz) ++ z) (a * sz) new) (a * sz + sz) ((row.drop (a * sz)).take (n * sz - a * sz))).take (insRow sz a n row new).length := by
  have h1 : a * sz + sz ≤ n * sz := by have := Nat.mul_le_mul_right sz ha; rw [Nat.succ_mul] at this; exact this
  have h2 : (row.take (a * sz)).length = a * sz := by simp; omega
  have h3 : a * sz + new.length ≤ (row.take (a * sz) ++ z).length := by simp only [List.length_append, h2]; omega
  have h4 : ((row.drop (a * sz)).take (n * sz - a * sz)).length = n * sz - a * sz := by simp; omega
  rw [insRow_len hl (by omega) hn]
  apply List.ext_getElem?
  intro k
  rw [insRow_get hl (by omega) hn, List.getElem?_take, wr_get (by rw [wr_length h3]; simp only [List.length_append, h2, h4]; omega), wr_get h3, hl, h4, seg_get]
  by_cases c1 : k < a * sz
  · rw [if_pos c1, if_pos (by omega), if_pos (by omega), if_pos c1, List.getElem?_append_left (by omega), List.getElem?_take, if_pos c1]
  · rw [if_neg c1]
    by_cases c2 : k < a * sz + sz
    · rw [if_pos c2, if_pos (by omega), if_pos c2, if_neg c1, if_pos c2]
    · rw [if_neg c2]
      by_cases c3 : k < n * sz + sz
      · rw [if_pos c3, if_pos c3, if_neg c2, if_pos (by omega), if_pos (by omega)]
        congr 1
        omega
      · rw [if_neg c3, if_neg c3]
/-- Within, where there is room. -/
theorem insD (hl : new.length = sz) (ha : a < n) (hn : n * sz + sz ≤ row.length) :
    insRow sz a n row new = (wr (wr row (a * sz + sz) ((row.drop (a * sz)).take (n * sz - a * sz))) (a * sz) new).take (insRow sz a n row new).length := by
  have h1 : a * sz + sz ≤ n * sz := by have := Nat.mul_le_mul_right sz ha; rw [Nat.succ_mul] at this; exact this
  have h4 : ((row.drop (a * sz)).take (n * sz - a * sz)).length = n * sz - a * sz := by simp; omega
  have h3 : a * sz + sz + ((row.drop (a * sz)).take (n * sz - a * sz)).length ≤ row.length := by rw [h4]; omega
  rw [insRow_len hl (by omega) (by omega)]
  apply List.ext_getElem?
  intro k
  rw [insRow_get hl (by omega) (by omega), List.getElem?_take, wr_get (by rw [wr_length h3]; omega), wr_get h3, hl, h4, seg_get]
  by_cases c1 : k < a * sz
  · rw [if_pos c1, if_pos (by omega), if_pos c1, if_pos (by omega)]
  · rw [if_neg c1]
    by_cases c2 : k < a * sz + sz
    · rw [if_pos c2, if_pos (by omega), if_neg c1, if_pos c2]
    · rw [if_neg c2]
      by_cases c3 : k < n * sz + sz
      · rw [if_pos c3, if_pos c3, if_neg c1, if_neg c2, if_neg c2, if_pos (by omega), if_pos (by omega)]
        congr 1
        omega
      · rw [if_neg c3, if_neg c3]
end

theorem i64n1 (a : Nat) (h : a < 2 ^ 61) : IntKind.i64.wrap ((a : Int) + 1) = ((a + 1 : Nat) : Int) := by rw [IntWalk.i64_in _ (by omega)]; omega
theorem apartX_ne {e i oi ni ci j oj nj cj : Nat} {σ : CSt} {c d : List Value} {ed : TypeId} (hne : i ≠ j) (hi : σ.get i = some (.cells c e false)) (hj : σ.get j = some (.cells d ed false)) (hd : 0 < d.length) :
    apartX e #[.slice (some ⟨i, oi, none⟩) ni ci, .slice (some ⟨j, oj, none⟩) nj cj] σ = some (.bool false) := by
  cases d with
  | nil => simp at hd
  | cons x d => simp [apartX, hne, hi, hj]
end Go.Sm
/- Arguments that are plain data: how they lie in the abstract state. -/
set_option linter.unusedVariables false
set_option linter.unusedSimpArgs false
namespace Go.Sm
open Go Go.WideShapes Go.ChangeShapes

/-- A cell's kind. -/
inductive PK where
  | int (k : IntKind)
  | bool
  | str
def okK : PK → Value → Prop
  | .int k, v => ∃ n, v = .int k n ∧ (Lit.int k n).wf = true
  | .bool, v => ∃ b, v = .bool b
  | .str, v => ∃ s : ByteArray, v = .string s ∧ s.size ≤ maxLen
def OkL : List PK → List Value → Prop
  | [], [] => True
  | k :: ks, v :: vs => okK k v ∧ OkL ks vs
  | _, _ => False
theorem OkL.length : ∀ {ks : List PK} {vs : List Value}, OkL ks vs → vs.length = ks.length
  | [], [], _ => rfl
  | _ :: ks, _ :: vs, h => by simp [OkL.length h.2]
theorem OkL.append : ∀ {ks ls : List PK} {vs ws : List Value}, OkL ks vs → OkL ls ws → OkL (ks ++ ls) (vs ++ ws)
  | [], _, [], _, _, h => h
  | _ :: _, _, _ :: _, _, h, k => ⟨h.1, OkL.append h.2 k⟩
theorem okK.flat {k : PK} {v : Value} (h : okK k v) : flat0 v = true := by
  cases k with
  | int k => obtain ⟨n, rfl, _⟩ := h; rfl
  | bool => obtain ⟨b, rfl⟩ := h; rfl
  | str => obtain ⟨s, rfl, _⟩ := h; rfl
theorem okK.cellv {k : PK} {v : Value} (h : okK k v) : Sm.cellv v = true := by
  cases k with
  | int k => obtain ⟨n, rfl, _⟩ := h; rfl
  | bool => obtain ⟨b, rfl⟩ := h; rfl
  | str => obtain ⟨s, rfl, _⟩ := h; rfl
theorem OkL.flat : ∀ {ks : List PK} {vs : List Value}, OkL ks vs → ∀ v ∈ vs, flat0 v = true
  | [], [], _ => by simp
  | _ :: ks, _ :: vs, h => fun v hv => by
    rcases List.mem_cons.1 hv with rfl | hv
    · exact h.1.flat
    · exact OkL.flat h.2 v hv

def kindsL (P : Program) (g : TypeId → Option (List PK)) : List Field → Nat → Option (List PK)
  | [], _ => some []
  | fl :: l, off =>
    if fl.offset = off then
      match g fl.type with
      | some ks => if ks.length = P.cellsOf fl.type then (kindsL P g l (off + ks.length)).map (ks ++ ·) else none
      | none => none
    else none
def kindsF (P : Program) : Nat → TypeId → Option (List PK)
  | 0, _ => none
  | f + 1, t =>
    match P.underlying t with
    | some (.int k) => some [.int k]
    | some .bool => some [.bool]
    | some .string => some [.str]
    | some (.struct fs) => match kindsL P (kindsF P f) fs.toList 0 with | some ks => if ks.length = P.cellsOf t then some ks else none | none => none
    | _ => none

section
variable {H : Type} {enc : TypeId × Value → H} {P : Program} {w : World} {base : Nat} {spare : Nat → Bool} {held : Bool}

theorem kindsL_ok {g : TypeId → Option (List PK)} {fuel : Nat} {cs : List Value} (hg : ∀ t ks, g t = some ks → ∀ cs x, DataW.trod enc P w base spare held fuel t cs = some x → OkL ks cs) :
    ∀ (l : List Field) (off : Nat) (ks : List PK), kindsL P g l off = some ks → (∀ fl ∈ l, ∃ x, DataW.trod enc P w base spare held fuel fl.type ((cs.drop fl.offset).take (P.cellsOf fl.type)) = some x) → off + ks.length = cs.length → OkL ks (cs.drop off)
  | [], off, ks, h, _, hl => by
    simp only [kindsL, Option.some.injEq] at h
    subst h
    rw [List.drop_of_length_le (by simpa using Nat.le_of_eq hl.symm)]
    trivial
  | fl :: l, off, ks, h, hx, hl => by
    unfold kindsL at h
    split at h
    · rename_i ho
      split at h
      · rename_i k1 hk1
        split at h
        · rename_i hc
          rw [Option.map_eq_some_iff] at h
          obtain ⟨k2, h2, rfl⟩ := h
          obtain ⟨x, hx1⟩ := hx fl (by simp)
          have a1 := hg _ _ hk1 _ _ hx1
          rw [ho, ← hc] at a1
          have a2 := kindsL_ok hg l (off + k1.length) k2 h2 (fun f hf => hx f (by simp [hf])) (by simp at hl; omega)
          have : cs.drop off = (cs.drop off).take k1.length ++ cs.drop (off + k1.length) := by
            rw [← List.drop_drop, List.take_append_drop]
          rw [this]
          exact a1.append a2
        · cases h
      · cases h
    · cases h

theorem trod_kinds : ∀ (f : Nat) (t : TypeId) (ks : List PK), kindsF P f t = some ks → ∀ (fuel : Nat) (cs : List Value) (x : DataW H × List MemPlace), DataW.trod enc P w base spare held fuel t cs = some x → OkL ks cs
  | 0, _, _, h, _, _, _, _ => by cases h
  | f + 1, t, ks, h, fuel, cs, x, hx => by
    unfold kindsF at h
    cases hu : P.underlying t with
    | none => rw [hu] at h; cases h
    | some d =>
      rw [hu] at h
      cases d with
      | int k =>
        cases h
        obtain ⟨n, rfl, _, hw⟩ := DataW.trod_int hu hx
        exact ⟨⟨n, rfl, hw⟩, trivial⟩
      | bool =>
        cases h
        obtain ⟨b, rfl, _⟩ := DataW.trod_bool hu hx
        exact ⟨⟨b, rfl⟩, trivial⟩
      | string =>
        cases h
        obtain ⟨s, rfl, _, hs⟩ := DataW.trod_string hu hx
        exact ⟨⟨s, rfl, hs⟩, trivial⟩
      | struct fs =>
        simp only at h
        split at h
        · rename_i k1 hk1
          split at h
          · rename_i hc
            cases h
            obtain ⟨xs, n, rfl, _, hlen, hxl, hf⟩ := DataW.trod_struct hu hx
            have := kindsL_ok (cs := cs) (fuel := n) (fun t ks ht cs x hx => trod_kinds f t ks ht n cs x hx) fs.toList 0 ks hk1 (fun fl hfl => ?_) (by omega)
            · simpa using this
            · obtain ⟨i, hi, rfl⟩ := List.mem_iff_getElem.1 hfl
              have h1 := hf i fs.toList[i] (by simp at hi ⊢)
              have : i < xs.length := by simpa [hxl] using hi
              rw [List.getElem?_eq_getElem this] at h1
              exact ⟨_, h1⟩
          · cases h
        · cases h
      | _ => cases h

/-- A slice of plain elements. -/
theorem open_rows {t e : TypeId} {f fuel : Nat} {ks : List PK} {cs : List Value} {x : DataW H × List MemPlace} (ht : P.underlying t = some (.slice e)) (hk : kindsF P f e = some ks) (hc : P.cellsOf e = ks.length)
    (h : DataW.trod enc P w base spare held fuel t cs = some x) :
    cs = [.slice none 0 0] ∨ ∃ (a : Addr) (len cap : Nat) (rows : List (List Value)), cs = [.slice (some a) len cap] ∧ len ≤ cap ∧ cap ≤ maxLen ∧ rows.length = len ∧ (∀ r ∈ rows, OkL ks r) ∧
      ∀ i j, i < len → j < ks.length → ∃ v, (rows.flatten)[i * ks.length + j]? = some v ∧ w.cell? ((a.add (i * ks.length)).add j) = some v := by
  rcases DataW.trod_slice ht h with ⟨h0, _⟩ | ⟨a, len, cap, elems, rest, n, _, rfl, rfl, hb, hl, hm, hlen, hel, hsp, hns⟩
  · exact .inl h0
  refine .inr ⟨a, len, cap, ?_⟩
  have each : ∀ i, i < len → ∃ r, w.cells? base (a.add (i * ks.length)) ks.length = some r ∧ OkL ks r := by
    intro i hi
    have := hel i hi
    rw [List.getElem?_eq_getElem (by omega), Option.bind_eq_some_iff] at this
    obtain ⟨r, h1, h2⟩ := this
    rw [hc] at h1
    exact ⟨r, h1, trod_kinds f e ks hk n r _ h2⟩
  let row : Nat → List Value := fun i => if hi : i < len then (each i hi).choose else []
  have hrow : ∀ i (hi : i < len), w.cells? base (a.add (i * ks.length)) ks.length = some (row i) ∧ OkL ks (row i) := fun i hi => by
    simp only [row, hi, dif_pos]
    exact (each i hi).choose_spec
  have hrl : ∀ i, i < len → (row i).length = ks.length := fun i hi => (hrow i hi).2.length
  refine ⟨(List.range len).map row, rfl, hl, hm, by simp, fun r hr => ?_, fun i j hi hj => ?_⟩
  · simp only [List.mem_map, List.mem_range] at hr
    obtain ⟨i, hi, rfl⟩ := hr
    exact (hrow i hi).2
  · have hflat : ∀ (m : Nat), m ≤ len → (((List.range len).map row).flatten)[i * ks.length + j]? = ((List.range len).map row).flatten[i * ks.length + j]? := fun _ _ => rfl
    have key : (((List.range len).map row).flatten)[i * ks.length + j]? = (row i)[j]? := by
      have e1 : (List.range len).map row = (List.range len).map row := rfl
      have gen : ∀ (l : List (List Value)) (i : Nat), (∀ r ∈ l, r.length = ks.length) → (hi : i < l.length) → l.flatten[i * ks.length + j]? = (l[i])[j]? := by
        intro l
        induction l with
        | nil => intro i _ hi; simp at hi
        | cons r l ih =>
          intro i hr hi
          cases i with
          | zero =>
            simp only [List.flatten_cons, Nat.zero_mul, Nat.zero_add, List.getElem_cons_zero]
            rw [List.getElem?_append_left (by rw [hr r (by simp)]; exact hj)]
          | succ i =>
            simp only [List.flatten_cons, List.getElem_cons_succ]
            rw [List.getElem?_append_right (by rw [hr r (by simp), Nat.add_mul]; omega), hr r (by simp)]
            have : (i + 1) * ks.length + j - ks.length = i * ks.length + j := by rw [Nat.add_mul]; omega
            rw [this]
            exact ih i (fun r h => hr r (by simp [h])) (by simpa using hi)
      rw [gen _ i (fun r hr => by
        simp only [List.mem_map, List.mem_range] at hr
        obtain ⟨i, hi, rfl⟩ := hr
        exact hrl i hi) (by simpa using hi)]
      simp
    rw [key]
    have hlt : j < (row i).length := by rw [hrl i hi]; exact hj
    refine ⟨(row i)[j], List.getElem?_eq_getElem hlt, ?_⟩
    have := (World.cells?_some (hrow i hi).1).2.2 j hj
    rw [this, List.getElem?_eq_getElem hlt]
end
end Go.Sm
/- Slices as lists. -/
set_option linter.unusedVariables false
namespace Go.Sm
open Go

/-- A slice's elements, as they lie. -/
def Sl {α : Type} (σ : CSt) (e : TypeId) (sz : Nat) (enc : α → List Value) (v : Value) (l : List α) : Prop :=
  (v = .slice none 0 0 ∧ l = []) ∨ ∃ i off cap row ro, v = .slice (some ⟨i, off, none⟩) l.length cap ∧ σ.get i = some (.cells row e ro) ∧ i < σ.n ∧ (row.drop off).take (l.length * sz) = l.flatMap enc ∧ off + l.length * sz ≤ row.length ∧
    (cap = openCap ∨ (l.length ≤ cap ∧ cap < openCap))

section
variable {α : Type} {σ σ' : CSt} {e : TypeId} {sz : Nat} {enc : α → List Value} {v : Value} {l : List α}
theorem Sl.nil : Sl σ e sz enc (.slice none 0 0) ([] : List α) := .inl ⟨rfl, rfl⟩
theorem Sl.grow (h : Sl σ e sz enc v l) (hg : Grow σ σ') : Sl σ' e sz enc v l := by
  rcases h with h | ⟨i, off, cap, row, ro, h1, h2, h3, h4⟩
  · exact .inl h
  · exact .inr ⟨i, off, cap, row, ro, h1, hg.get h2 h3, Nat.lt_of_lt_of_le h3 hg.n, h4⟩
/-- A slice that is all of its object. -/
theorem Sl.all {i cap : Nat} {ro : Bool} (hsz : ∀ x, (enc x).length = sz) (hg : σ.get i = some (.cells (l.flatMap enc) e ro)) (hi : i < σ.n) (hc : cap = openCap ∨ (l.length ≤ cap ∧ cap < openCap)) : Sl σ e sz enc (.slice (some ⟨i, 0, none⟩) l.length cap) l := by
  have := enc_length enc hsz l
  exact .inr ⟨i, 0, cap, _, ro, rfl, hg, hi, by rw [List.drop_zero, List.take_of_length_le (by omega)], by omega, hc⟩
theorem Sl.form (h : Sl σ e sz enc v l) : ∃ p c, v = .slice p l.length c := by
  rcases h with ⟨rfl, rfl⟩ | ⟨i, off, cap, row, ro, rfl, _⟩
  · exact ⟨_, _, rfl⟩
  · exact ⟨_, _, rfl⟩
/-- One of its elements. -/
theorem Sl.at {p : Option Addr} {n c : Nat} (h : Sl σ e sz enc (.slice p n c) l) {k : Nat} (hk : k < l.length) : ∃ i off row ro, p = some ⟨i, off, none⟩ ∧ σ.get i = some (.cells row e ro) ∧ i < σ.n ∧ (row.drop off).take (l.length * sz) = l.flatMap enc ∧ off + l.length * sz ≤ row.length := by
  rcases h with ⟨h1, rfl⟩ | ⟨i, off, cap, row, ro, h1, h2, h3, h4, h5, _⟩
  · simp at hk
  · cases h1; exact ⟨i, off, row, ro, rfl, h2, h3, h4, h5⟩
/-- One element of a row. -/
theorem row_get (hsz : ∀ x, (enc x).length = sz) {row : List Value} {off : Nat} (h : (row.drop off).take (l.length * sz) = l.flatMap enc) (k : Nat) (hk : k < l.length) : (row.drop (off + k * sz)).take sz = enc l[k] := by
  have := enc_get enc hsz l k hk
  rw [← h] at this
  rw [← this, List.drop_take, List.drop_drop, List.take_take]
  congr 1
  have : (k + 1) * sz ≤ l.length * sz := Nat.mul_le_mul_right _ hk
  rw [Nat.succ_mul] at this
  omega
theorem row_le {row : List Value} {off : Nat} (h : off + l.length * sz ≤ row.length) (k : Nat) (hk : k < l.length) : off + k * sz + sz ≤ row.length := by
  have : (k + 1) * sz ≤ l.length * sz := Nat.mul_le_mul_right _ hk
  rw [Nat.succ_mul] at this
  omega
/-- One cell of one element. -/
theorem row_cell (hsz : ∀ x, (enc x).length = sz) {row : List Value} {off : Nat} (h : (row.drop off).take (l.length * sz) = l.flatMap enc) (k j : Nat) (hk : k < l.length) (hj : j < sz) : row[off + k * sz + j]? = (enc l[k])[j]? := by
  have := congrArg (·[j]?) (row_get hsz h k hk)
  simp only [List.getElem?_take, hj, if_true, List.getElem?_drop] at this
  exact this
/-- Of a slice from an element on. -/
theorem row_drop (hsz : ∀ x, (enc x).length = sz) {row : List Value} {off : Nat} (h : (row.drop off).take (l.length * sz) = l.flatMap enc) (k : Nat) (hk : k ≤ l.length) : (row.drop (off + k * sz)).take ((l.drop k).length * sz) = (l.drop k).flatMap enc := by
  rw [← enc_drop enc hsz, ← h, List.drop_take, List.drop_drop, List.length_drop, Nat.sub_mul]
theorem row_take (hsz : ∀ x, (enc x).length = sz) {row : List Value} {off : Nat} (h : (row.drop off).take (l.length * sz) = l.flatMap enc) (k : Nat) (hk : k ≤ l.length) : (row.drop off).take ((l.take k).length * sz) = (l.take k).flatMap enc := by
  rw [← enc_take enc hsz, ← h, List.take_take, List.length_take]
  congr 1
  rw [Nat.min_eq_left hk]
  exact (Nat.min_eq_left (Nat.mul_le_mul_right _ hk)).symm
end

/-- A slice that is one's own: all of an object that was made behind a point. -/
def Own {α : Type} (b : Nat) (σ : CSt) (e : TypeId) (enc : α → List Value) (v : Value) (l : List α) : Prop :=
  (v = .slice none 0 0 ∧ l = []) ∨ ∃ i cap, v = .slice (some ⟨i, 0, none⟩) l.length cap ∧ b ≤ i ∧ i < σ.n ∧ σ.get i = some (.cells (l.flatMap enc) e false) ∧ (cap = openCap ∨ (l = [] ∧ cap = 0))
section
variable {α : Type} {σ σ' : CSt} {e : TypeId} {sz : Nat} {enc : α → List Value} {v : Value} {l : List α} {b : Nat}
theorem Own.nil : Own b σ e enc (.slice none 0 0) ([] : List α) := .inl ⟨rfl, rfl⟩
theorem Own.sl (hsz : ∀ x, (enc x).length = sz) (h : Own b σ e enc v l) : Sl σ e sz enc v l := by
  rcases h with h | ⟨i, cap, rfl, hb, hi, hg, hc⟩
  · exact .inl h
  · refine Sl.all hsz hg hi ?_
    rcases hc with rfl | ⟨rfl, rfl⟩
    · exact .inl rfl
    · exact .inr ⟨by simp, by simp [openCap]⟩
theorem Own.grow (h : Own b σ e enc v l) (hg : Grow σ σ') : Own b σ' e enc v l := by
  rcases h with h | ⟨i, cap, h1, hb, hi, h2, h3⟩
  · exact .inl h
  · exact .inr ⟨i, cap, h1, hb, Nat.lt_of_lt_of_le hi hg.n, hg.get h2 hi, h3⟩
theorem Own.keep (h : Own b σ e enc v l) (hn : σ.n ≤ σ'.n) (hg : ∀ i, b ≤ i → i < σ.n → σ'.get i = σ.get i) : Own b σ' e enc v l := by
  rcases h with h | ⟨i, cap, h1, hb, hi, h2, h3⟩
  · exact .inl h
  · exact .inr ⟨i, cap, h1, hb, Nat.lt_of_lt_of_le hi hn, by rw [hg i hb hi]; exact h2, h3⟩
theorem Own.put (h : Own b σ e enc v l) {i : Nat} (hi : i < b) (o : CObj) : Own b (σ.put i o) e enc v l :=
  h.keep (Nat.le_refl _) fun j hj _ => by rw [CSt.get_put, if_neg (by omega)]
theorem Own.weaken {b' : Nat} (h : Own b σ e enc v l) (hb : b' ≤ b) : Own b' σ e enc v l := by
  rcases h with h | ⟨i, cap, h1, hb', h2⟩
  · exact .inl h
  · exact .inr ⟨i, cap, h1, Nat.le_trans hb hb', h2⟩
theorem insRow_enc (hsz : ∀ x, (enc x).length = sz) (a : Nat) (ha : a ≤ l.length) (x : α) : insRow sz a l.length (l.flatMap enc) (enc x) = (l.take a ++ x :: l.drop a).flatMap enc := by
  have := enc_length enc hsz l
  unfold insRow
  rw [List.take_of_length_le (Nat.le_of_eq this), enc_take enc hsz, enc_drop enc hsz]
  simp
theorem cokL_enc (hc : ∀ x, cokL (enc x) = true) (l : List α) : cokL (l.flatMap enc) = true := by
  induction l with
  | nil => rfl
  | cons x l ih => rw [List.flatMap_cons, cokL_append, hc, ih]; rfl
/-- New objects, and changes to those that were made behind a point. -/
def GrowB (b : Nat) (σ σ' : CSt) : Prop := σ.n ≤ σ'.n ∧ ∀ i, i < b → σ'.get i = σ.get i
theorem GrowB.refl (b : Nat) (σ : CSt) : GrowB b σ σ := ⟨Nat.le_refl _, fun _ _ => rfl⟩
theorem GrowB.trans {a b c : CSt} {k : Nat} (h : GrowB k a b) (h' : GrowB k b c) : GrowB k a c := ⟨Nat.le_trans h.1 h'.1, fun i hi => (h'.2 i hi).trans (h.2 i hi)⟩
theorem Grow.toB {a b : CSt} {k : Nat} (h : Grow a b) (hk : k ≤ a.n) : GrowB k a b := ⟨h.n, fun i hi => h.old i (Nat.lt_of_lt_of_le hi hk)⟩
theorem Grow.thenB {a b c : CSt} {k : Nat} (h : Grow a b) (h' : GrowB k b c) (hk : a.n ≤ k) : Grow a c := ⟨Nat.le_trans h.n h'.1, fun i hi => (h'.2 i (Nat.lt_of_lt_of_le hi hk)).trans (h.old i hi)⟩
theorem GrowB.alloc {a b : CSt} {k : Nat} (h : GrowB k a b) (hk : k ≤ b.n) (o : CObj) : GrowB k a (b.alloc o) := ⟨by have := h.1; simp; omega, fun i hi => by rw [CSt.get_alloc, if_neg (by omega)]; exact h.2 i hi⟩
theorem GrowB.put {a b : CSt} {k i : Nat} (h : GrowB k a b) (hi : k ≤ i) (o : CObj) : GrowB k a (b.put i o) := ⟨h.1, fun j hj => by rw [CSt.get_put, if_neg (by omega)]; exact h.2 j hj⟩
end
/-- How a search ends: so many are below. -/
structure Cut {α : Type} (ord : α → Int) (l : List α) (k : Nat) : Prop where
  le : k ≤ l.length
  lo : ∀ j (h : j < l.length), j < k → ord l[j] < 0
  hi : ∀ j (h : j < l.length), k ≤ j → 0 ≤ ord l[j]
end Go.Sm
/- append to a slice of one's own. -/
set_option linter.unusedVariables false
namespace Go.Sm
open Go
section
variable {α : Type} {P : Program} {σ : CSt} {e : TypeId} {sz b : Nat} {enc : α → List Value} {v x : Value} {l m : List α} {f : TF} {ts : Array TypeId}

theorem first_sl (hsz : ∀ x, (enc x).length = sz) (h : Sl σ e sz enc x m) : lenOf? x = some m.length ∧ firstOf σ sz m.length x = some (m.flatMap enc) := by
  rcases h with ⟨rfl, rfl⟩ | ⟨i, off, cap, row, ro, rfl, hg, hi, hrow, hlen, hcap⟩
  · exact ⟨rfl, rfl⟩
  · refine ⟨rfl, ?_⟩
    rw [firstOf_sl, hg]
    simp only [firstK_some, ld, if_pos hlen, hrow]
end
end Go.Sm
/- append into room that is there. -/
set_option linter.unusedVariables false
namespace Go.Sm
open Go
section
variable {α : Type} {P : Program} {σ : CSt} {e : TypeId} {sz b : Nat} {enc : α → List Value} {v x : Value} {l m : List α} {f : TF} {ts : Array TypeId}
theorem append_fit (hf : ts[0]?.bind (elemF P) = some (e, f)) (hu : (ts[1]?.bind (elemT P)).isSome = true) (hsz : ∀ x, (enc x).length = sz) (hc : ∀ x, cokL (enc x) = true) (hfs : f.size = sz) (h0 : 0 < sz) (h1 : 0 < f.bytes) (h2 : f.zero.map List.length = some sz)
    {g : Nat} {zs : List Value} (hg : σ.get g = some (.cells (l.flatMap enc ++ zs) e false)) (hx : Sl σ e sz enc x m) (hz : m.length * sz ≤ zs.length) (hl : l.length < 2 ^ 62) :
    ∃ σ', appendOp P σ ts (.slice (some ⟨g, 0, none⟩) l.length openCap) x = some (.slice (some ⟨g, 0, none⟩) (l ++ m).length openCap, σ') ∧ σ'.get g = some (.cells ((l ++ m).flatMap enc ++ zs.drop (m.length * sz)) e false) ∧ σ'.n = σ.n ∧ ∀ j, j ≠ g → σ'.get j = σ.get j := by
  obtain ⟨g1, g2⟩ := first_sl hsz hx
  have hml := enc_length enc hsz m
  have hll := enc_length enc hsz l
  rw [appendOp_K (by rw [hf]; rfl) hu, hf]
  simp only [appK, g1, hfs, g2, Option.bind_some]
  have hcond : (m.flatMap enc).length = m.length * f.size ∧ cokL (m.flatMap enc) = true ∧ 0 < f.size ∧ 0 < f.bytes ∧ f.zero.map List.length = some f.size := by
    rw [hfs]; exact ⟨hml, cokL_enc hc m, h0, h1, h2⟩
  unfold appendF
  rw [if_pos hcond]
  by_cases hm : m.length = 0
  · have : m = [] := List.eq_nil_of_length_eq_zero hm
    subst this
    refine ⟨σ, ?_, by simpa using hg, rfl, fun _ _ => rfl⟩
    simp only [List.length_nil, if_true, List.append_nil]
    rw [if_pos (by simp only [openCap]; omega)]
  · refine ⟨σ.put g (.cells ((l ++ m).flatMap enc ++ zs.drop (m.length * sz)) e false), ?_, by simp, rfl, fun j hj => by rw [CSt.get_put, if_neg hj]⟩
    simp only [hm, if_false, hg, if_true, and_self]
    have hle : 0 + (l.length + m.length) * f.size ≤ (l.flatMap enc ++ zs).length := by
      rw [List.length_append, hll, hfs, Nat.add_mul]; omega
    rw [if_pos hle]
    have hst : st (l.flatMap enc ++ zs) (0 + l.length * f.size) (m.flatMap enc) = some ((l ++ m).flatMap enc ++ zs.drop (m.length * sz)) := by
      unfold st
      rw [if_pos (by rw [List.length_append, hll, hml, hfs]; omega), hfs, Nat.zero_add, ← hll, List.take_left, ← List.drop_drop, List.drop_left, hml, List.flatMap_append]
    rw [hst]
    simp
end
section
variable {P : Program} {σ : CSt} {ev : Operand → Value} {dst : Option Tmp} {ty : TypeId} {pos : String} {after : Array Edge} {g : Option (Nat × Bool)}
@[simp] theorem copE_makeFunc (f : FuncId) (first captured : Array Operand) : cop P σ ev ⟨dst, .makeFunc (.func f) first captured, ty, pos, after, g⟩ = .val (.func (.func f) (first.map ev) (captured.map ev)) σ := (rfl)
end
end Go.Sm
/- Strings in order. -/
set_option linter.unusedVariables false
set_option linter.unusedSimpArgs false
namespace Go.Sm
open Go
def bl : List UInt8 → List UInt8 → Bool := Op.bytesLess
theorem bl_irrefl : ∀ x : List UInt8, bl x x = false
  | [] => rfl
  | a :: x => by
    have h := bl_irrefl x
    unfold bl at h ⊢
    simp [Op.bytesLess, h]
theorem bl_trans : ∀ {x y z : List UInt8}, bl x y = true → bl y z = true → bl x z = true
  | _, [], _, h, _ => by unfold bl at h; simp [Op.bytesLess] at h
  | _, _ :: _, [], _, h => by unfold bl at h; simp [Op.bytesLess] at h
  | [], _ :: _, _ :: _, _, _ => rfl
  | a :: x, b :: y, c :: z, h1, h2 => by
    have ih := @bl_trans x y z
    unfold bl at h1 h2 ih ⊢
    simp only [Op.bytesLess, Bool.or_eq_true, decide_eq_true_eq, Bool.and_eq_true, beq_iff_eq] at h1 h2 ⊢
    rcases h1 with h1 | ⟨rfl, h1⟩
    · rcases h2 with h2 | ⟨rfl, h2⟩
      · exact .inl (UInt8.lt_trans h1 h2)
      · exact .inl h1
    · rcases h2 with h2 | ⟨rfl, h2⟩
      · exact .inl h2
      · exact .inr ⟨rfl, ih h1 h2⟩
theorem bl_tri : ∀ {x y : List UInt8}, bl x y = false → bl y x = false → x = y
  | [], [], _, _ => rfl
  | [], _ :: _, h, _ => by unfold bl at h; simp [Op.bytesLess] at h
  | _ :: _, [], _, h => by unfold bl at h; simp [Op.bytesLess] at h
  | a :: x, b :: y, h1, h2 => by
    have ih := @bl_tri x y
    unfold bl at h1 h2 ih
    simp only [Op.bytesLess, Bool.or_eq_false_iff, decide_eq_false_iff_not, Bool.and_eq_false_iff] at h1 h2
    have e : a = b := UInt8.le_antisymm (UInt8.not_lt.1 h2.1) (UInt8.not_lt.1 h1.1)
    subst e
    rw [ih (by simpa using h1.2) (by simpa using h2.2)]
theorem ba_list_inj {s u : ByteArray} (h : s.toList = u.toList) : s = u := by
  have h3 : s.data.toList = u.data.toList := by rw [ByteArray.toList_eq, ByteArray.toList_eq] at h; exact h
  cases s; cases u
  simp only at h3
  rw [Array.toList_inj.1 h3]
/-- One key ahead of another. -/
def klt (s u : ByteArray) : Bool := bl s.toList u.toList
section
variable {P : Program} {σ : CSt} {t : TypeId} {x y : Operand} {s u : ByteArray}
@[simp] theorem bin_strlt : binF P σ .lss t x y (.string s) (.string u) = .val (.bool (klt s u)) σ := by simp [binF, eqGuard, binOp, Op.stringOp, klt, bl]
@[simp] theorem bin_strgt : binF P σ .gtr t x y (.string s) (.string u) = .val (.bool (!(klt s u || s.toList == u.toList))) σ := by simp [binF, eqGuard, binOp, Op.stringOp, klt, bl]
@[simp] theorem bin_strle : binF P σ .leq t x y (.string s) (.string u) = .val (.bool (klt s u || s.toList == u.toList)) σ := by simp [binF, eqGuard, binOp, Op.stringOp, klt, bl]
@[simp] theorem bin_strge : binF P σ .geq t x y (.string s) (.string u) = .val (.bool (!klt s u)) σ := by simp [binF, eqGuard, binOp, Op.stringOp, klt, bl]
end
end Go.Sm
/- Stores as lists: plain facts. -/
set_option linter.unusedSimpArgs false
namespace Go.Sm
theorem klt_irrefl (k : ByteArray) : klt k k = false := bl_irrefl _
theorem klt_trans {a b c : ByteArray} (h : klt a b = true) (h' : klt b c = true) : klt a c = true := bl_trans h h'
theorem klt_tri {a b : ByteArray} (h : klt a b = false) (h' : klt b a = false) : a = b := ba_list_inj (bl_tri h h')
/-- A store as a list: the keys, and their chains. -/
abbrev Stl := List (ByteArray × List Ver)
def KS (S : Stl) : Prop := S.Pairwise fun a c => klt a.1 c.1 = true
/-- Where a key stands, or would. -/
structure Pos (S : Stl) (k : ByteArray) (n : Nat) : Prop where
  le : n ≤ S.length
  lo : ∀ j (h : j < S.length), j < n → klt S[j].1 k = true
  hi : ∀ j (h : j < S.length), n ≤ j → klt S[j].1 k = false
def putAt (S : Stl) (k : ByteArray) (x : Ver) (n : Nat) : Stl :=
  match S[n]? with
  | some s => if s.1 = k then S.set n (k, putL s.2 x) else S.take n ++ (k, putL [] x) :: S.drop n
  | none => S.take n ++ (k, putL [] x) :: S.drop n
end Go.Sm
