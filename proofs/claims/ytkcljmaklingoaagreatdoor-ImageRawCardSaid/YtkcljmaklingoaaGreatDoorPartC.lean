/- Part C of the proof. -/
import Derived.Lib.Overlaps
import Derived.Laws.Externs
import Derived.Test.YtkcljmaklingoaaGreatDoorProg
import Derived.KernelRfl
import Derived.Test.YtkcljmaklingoaaGreatDoorPartB
/- Equations that 'simp' runs the rules by. -/
set_option linter.unusedVariables false
set_option linter.unusedSimpArgs false
namespace Go.Sm
open Go

attribute [simp] W_skip W_label W_exit W_goto W_ret W_seq W_block W_scope W_scoped kseq_normal kseq_exit kseq_goto kseq_ret kseq_panic kloop_normal kloop_exit kloop_goto kloop_ret kloop_panic
  kblock_normal kblock_exit kblock_goto kblock_ret kblock_panic kscope_normal kscope_exit kscope_ret kscope_panic kfn_normal kfn_ret kfn_panic W_region wops_nil wres_val wres_panic
@[simp] theorem kblock_exit_ne' {id i : Nat} {a : CAct} {σ : CSt} {Q : Out → CSt → Prop} (h : i ≠ id) : kblock id Q (.code (.exit i) a) σ = Q (.code (.exit i) a) σ := by simp [kblock, h]

/-! ### Acts -/
@[simp] theorem enterAct_def (fn : Func) (args : Array Value) : enterAct fn args = { tm := enterTm args.toList 0 .nil, sz := max args.size fn.ntmps, df := [], tk := false } := (rfl)
@[simp] theorem enterTm_nil (i : Nat) (t : Tr Value) : enterTm [] i t = t := (rfl)
@[simp] theorem enterTm_cons (v : Value) (l : List Value) (i : Nat) (t : Tr Value) : enterTm (v :: l) i t = enterTm l (i + 1) (t.set i v) := (rfl)
@[simp] theorem get_mk (tm : Tr Value) (sz : Nat) (df : List CDef) (tk : Bool) (i : Nat) : CAct.get ⟨tm, sz, df, tk⟩ i = (tm.get i).getD undef := (rfl)
@[simp] theorem put_some (tm : Tr Value) (sz : Nat) (df : List CDef) (tk : Bool) (d : Nat) (v : Value) (h : d < sz) : CAct.put ⟨tm, sz, df, tk⟩ (some d) v = ⟨tm.set d v, sz, df, tk⟩ := by simp [CAct.put, h]
@[simp] theorem put_none (a : CAct) (v : Value) : a.put none v = a := (rfl)
@[simp] theorem eval_tmp (a : CAct) (t : Tmp) : a.eval (.tmp t) = a.get t := (rfl)
@[simp] theorem eval_const (a : CAct) (v : Value) : a.eval (.const v) = if flat v then v else undef := (rfl)
@[simp] theorem eval_global (a : CAct) (g : Nat) : a.eval (.global g) = if g < globalLimit then .pointer (some ⟨g, 0, none⟩) else undef := (rfl)
@[simp] theorem eval_func (a : CAct) (f : FuncId) : a.eval (.func f) = .func (.func f) #[] #[] := (rfl)
@[simp] theorem tr_same {α : Type} (t : Tr α) (i : Nat) (v : α) : (t.set i v).get i = some v := by rw [Tr.get_set, if_pos rfl]
@[simp] theorem tr_ne {α : Type} (t : Tr α) (i j : Nat) (v : α) (h : j ≠ i) : (t.set i v).get j = t.get j := by rw [Tr.get_set, if_neg h]

/-! ### Values -/
@[simp] theorem cells_agg (cs : Array Value) : (Value.agg cs).cells = cs := (rfl)
@[simp] theorem cells_int (k : IntKind) (n : Int) : (Value.int k n).cells = #[.int k n] := (rfl)
@[simp] theorem cells_bool (b : Bool) : (Value.bool b).cells = #[.bool b] := (rfl)
@[simp] theorem cells_string (s : ByteArray) : (Value.string s).cells = #[.string s] := (rfl)
@[simp] theorem cells_pointer (p : Option Addr) : (Value.pointer p).cells = #[.pointer p] := (rfl)
@[simp] theorem cells_slice (p : Option Addr) (n c : Nat) : (Value.slice p n c).cells = #[.slice p n c] := (rfl)
@[simp] theorem cells_map (p : Option Nat) : (Value.map p).cells = #[.map p] := (rfl)
/-- A value's cells, as a list; may each of them be a cell. -/
def clist (v : Value) : List Value := v.cells.toList
def cokL (l : List Value) : Bool := l.all cellv
@[simp] theorem cokL_nil : cokL [] = true := (rfl)
@[simp] theorem cokL_cons (v : Value) (l : List Value) : cokL (v :: l) = (cellv v && cokL l) := (rfl)
@[simp] theorem cokL_append (l m : List Value) : cokL (l ++ m) = (cokL l && cokL m) := by simp [cokL]
theorem cokL_take {l : List Value} (h : cokL l = true) (n : Nat) : cokL (l.take n) = true := by
  simp only [cokL, List.all_eq_true] at h ⊢
  exact fun v hv => h v (List.mem_of_mem_take hv)
theorem cokL_drop {l : List Value} (h : cokL l = true) (n : Nat) : cokL (l.drop n) = true := by
  simp only [cokL, List.all_eq_true] at h ⊢
  exact fun v hv => h v (List.mem_of_mem_drop hv)
def cok (v : Value) : Bool := cokL (clist v)
@[simp] theorem cv_bool (b : Bool) : cellv (.bool b) = true := (rfl)
@[simp] theorem cv_int (k : IntKind) (n : Int) : cellv (.int k n) = true := (rfl)
@[simp] theorem cv_float (k : FloatKind) (n : Nat) : cellv (.float k n) = true := (rfl)
@[simp] theorem cv_complex (k : FloatKind) (n m : Nat) : cellv (.complex k n m) = true := (rfl)
@[simp] theorem cv_string (s : ByteArray) : cellv (.string s) = true := (rfl)
@[simp] theorem cv_pointer (p : Option Addr) : cellv (.pointer p) = true := (rfl)
@[simp] theorem cv_slice (p : Option Addr) (n c : Nat) : cellv (.slice p n c) = true := (rfl)
@[simp] theorem cv_map (p : Option Nat) : cellv (.map p) = true := (rfl)
@[simp] theorem cv_func (f : Fn) (as0 cs : Array Value) : cellv (.func f as0 cs) = true := (rfl)
@[simp] theorem cv_nilFunc : cellv .nilFunc = true := (rfl)
@[simp] theorem cv_iface (t : TypeId) (v : Value) : cellv (.iface t v) = true := (rfl)
@[simp] theorem cv_nilIface : cellv .nilIface = true := (rfl)
@[simp] theorem clist_agg (cs : Array Value) : clist (.agg cs) = cs.toList := (rfl)
@[simp] theorem clist_int (k : IntKind) (n : Int) : clist (.int k n) = [.int k n] := (rfl)
@[simp] theorem clist_bool (b : Bool) : clist (.bool b) = [.bool b] := (rfl)
@[simp] theorem clist_string (s : ByteArray) : clist (.string s) = [.string s] := (rfl)
@[simp] theorem clist_pointer (p : Option Addr) : clist (.pointer p) = [.pointer p] := (rfl)
@[simp] theorem clist_slice (p : Option Addr) (n c : Nat) : clist (.slice p n c) = [.slice p n c] := (rfl)
@[simp] theorem clist_map (p : Option Nat) : clist (.map p) = [.map p] := (rfl)
@[simp] theorem clist_func (f : Fn) (as0 cs : Array Value) : clist (.func f as0 cs) = [.func f as0 cs] := (rfl)
@[simp] theorem clist_nilFunc : clist .nilFunc = [.nilFunc] := (rfl)
@[simp] theorem clist_iface (t : TypeId) (v : Value) : clist (.iface t v) = [.iface t v] := (rfl)
@[simp] theorem clist_nilIface : clist .nilIface = [.nilIface] := (rfl)
@[simp] theorem cok_agg (cs : Array Value) : cok (.agg cs) = cokL cs.toList := (rfl)
@[simp] theorem cok_int (k : IntKind) (n : Int) : cok (.int k n) = true := (rfl)
@[simp] theorem cok_bool (b : Bool) : cok (.bool b) = true := (rfl)
@[simp] theorem cok_string (s : ByteArray) : cok (.string s) = true := (rfl)
@[simp] theorem cok_pointer (p : Option Addr) : cok (.pointer p) = true := (rfl)
@[simp] theorem cok_slice (p : Option Addr) (n c : Nat) : cok (.slice p n c) = true := (rfl)
@[simp] theorem cok_map (p : Option Nat) : cok (.map p) = true := (rfl)
@[simp] theorem cok_func (f : Fn) (as0 cs : Array Value) : cok (.func f as0 cs) = true := (rfl)
@[simp] theorem cok_nilFunc : cok .nilFunc = true := (rfl)
@[simp] theorem cok_iface (t : TypeId) (v : Value) : cok (.iface t v) = true := (rfl)
@[simp] theorem cok_nilIface : cok .nilIface = true := (rfl)
attribute [simp] flat flat0

/-! ### States -/
@[simp] theorem alloc_n (σ : CSt) (o : CObj) : (σ.alloc o).n = σ.n + 1 := (rfl)
@[simp] theorem put_n (σ : CSt) (i : Nat) (o : CObj) : (σ.put i o).n = σ.n := (rfl)
@[simp] theorem alloc_get (σ : CSt) (o : CObj) (i : Nat) : (σ.alloc o).get i = if i = σ.n then some o else σ.get i := CSt.get_alloc ..
@[simp] theorem put_get (σ : CSt) (i j : Nat) (o : CObj) : (σ.put i o).get j = if j = i then some o else σ.get j := CSt.get_put ..
@[simp] theorem cells_of (σ : CSt) (i : Nat) {c : List Value} {e : TypeId} {ro : Bool} (h : σ.get i = some (.cells c e ro)) : σ.cells i = some (c, e, ro) := by simp [CSt.cells, h]

/-! ### What 'simp' leaves alone -/
section
variable {E : Env}
@[congr] theorem wres_congr (E : Env) (x : Ctx) (a : CAct) (d : Option Tmp) (K : CAct → CSt → Prop) (Q : Out → CSt → Prop) (σ : CSt) {r r' : OpR} (h : r = r') : wres E x a d K Q σ r = wres E x a d K Q σ r' := by rw [h]
@[congr] theorem wops_congr (E : Env) (x : Ctx) (ops : Array Oper) (Q : Out → CSt → Prop) (l : List Oper) {a a' : CAct} {σ σ' : CSt} (h : a = a') (h' : σ = σ') : wops E x ops Q l a σ = wops E x ops Q l a' σ' := by rw [h, h']
@[congr] theorem code_congr (x : Ctx) (c : Code) {a a' : CAct} (h : a = a') : Task.code x c a = Task.code x c a' := by rw [h]
@[congr] theorem scope_congr (x : Ctx) (b c : Code) {a a' : CAct} (h : a = a') : Task.scope x b c a = Task.scope x b c a' := by rw [h]
@[congr] theorem W_congr (E : Env) {t t' : Task} {σ σ' : CSt} (Q : Out → CSt → Prop) (h : t = t') (h' : σ = σ') : W E t σ Q = W E t' σ' Q := by rw [h, h']
@[congr] theorem kseq_congr (E : Env) (x : Ctx) (d : Code) (Q : Out → CSt → Prop) {o o' : Out} {σ σ' : CSt} (h : o = o') (h' : σ = σ') : kseq E x d Q o σ = kseq E x d Q o' σ' := by rw [h, h']
@[congr] theorem kloop_congr (E : Env) (x : Ctx) (d : Code) (Q : Out → CSt → Prop) {o o' : Out} {σ σ' : CSt} (h : o = o') (h' : σ = σ') : kloop E x d Q o σ = kloop E x d Q o' σ' := by rw [h, h']
@[congr] theorem kblock_congr (id : Nat) (Q : Out → CSt → Prop) {o o' : Out} {σ σ' : CSt} (h : o = o') (h' : σ = σ') : kblock id Q o σ = kblock id Q o' σ' := by rw [h, h']

/-- A condition's two ways. -/
def condK (v : Value) (p q : Prop) : Prop := match v with | .bool b => if b = true then p else q | _ => False
@[congr] theorem condK_congr {v v' : Value} (p q : Prop) (h : v = v') : condK v p q = condK v' p q := by rw [h]
@[simp] theorem W_condK {x : Ctx} {c : Operand} {t e : Code} {a : CAct} {σ : CSt} {Q : Out → CSt → Prop} : W E (.code x (.cond c t e) a) σ Q = condK (a.eval c) (W E (.code x t a) σ Q) (W E (.code x e a) σ Q) := by
  rw [W_eq]
  simp only [F, condK]
  cases a.eval c <;> try rfl
  rename_i b
  cases b <;> rfl
@[simp] theorem condK_bool {b : Bool} {p q : Prop} : condK (.bool b) p q = if b = true then p else q := (rfl)

/-- A result. -/
def retK (P : Program) (σ : CSt) (a : CAct) (fn : Option Func) (Q : Value → Prop) : Prop :=
  match fn with | some fn => (match resultsOf P σ fn a with | some v => Q v | none => False) | none => False
@[simp] theorem W_unwK {f : FuncId} {dk : Option (Option Value)} {tm : Tr Value} {sz : Nat} {tk : Bool} {σ : CSt} {Q : Out → CSt → Prop} :
    W E (.unw ⟨f, none, dk⟩ ⟨tm, sz, [], tk⟩ none) σ Q = retK E.P σ ⟨tm, sz, [], tk⟩ E.P.funcs[f]? fun v => Q (.ret v tk) σ := by
  rw [W_eq]
  rfl
def retV (P : Program) (σ : CSt) (a : CAct) (l : List ResultVar) : Option Value :=
  match resultsL P σ a l with
  | some [v] => some v
  | some l => some (.tuple l.toArray)
  | none => none
@[simp] theorem retK_some {P : Program} {σ : CSt} {a : CAct} {fn : Func} {Q : Value → Prop} : retK P σ a (some fn) Q = match retV P σ a fn.results.toList with | some v => Q v | none => False := (rfl)
@[simp] theorem resultsL_nil {P : Program} {σ : CSt} {a : CAct} : resultsL P σ a [] = some [] := (rfl)
@[simp] theorem resultsL_tmp {P : Program} {σ : CSt} {a : CAct} {t : Tmp} {l : List ResultVar} : resultsL P σ a (.tmp t :: l) = (resultsL P σ a l).map fun r => a.get t :: r := (rfl)
@[simp] theorem resultsL_cell {P : Program} {σ : CSt} {a : CAct} {t : Tmp} {ty : TypeId} {l : List ResultVar} : resultsL P σ a (.cell t ty :: l) = match loadAt P σ ty (a.get t) with | some v => (resultsL P σ a l).map fun r => v :: r | none => none := (rfl)
attribute [simp] retV
end
end Go.Sm
/- What operations do, by short facts of types. -/
set_option linter.unusedVariables false
set_option linter.unusedSimpArgs false
namespace Go.Sm
open Go

/-- What is asked of a type. -/
structure TF where
  size : Nat
  bytes : Nat
  zero : Option (List Value)
  agg : Bool
  und : Bool
def tf (P : Program) (t : TypeId) : Option TF := (P.info? t).map fun inf => ⟨inf.size, inf.bytes, inf.zero.map (·.cells.toList), isAggT P t, (P.underlying t).isSome⟩
def elemT (P : Program) (t : TypeId) : Option TypeId := match P.underlying t with | some (.slice e) => some e | _ => none
/-- Where a field lies. -/
def fieldT (P : Program) (s : TypeId) (f : Nat) : Option Nat :=
  match P.underlying s with
  | some (.struct fs) => match fs[f]? with
    | some fl => match P.info? fl.type with
      | some inf => if inf.size = 0 then none else some fl.offset
      | none => none
    | none => none
  | _ => none
/-- A struct's fields: where, how many cells. -/
def partsT (P : Program) (t : TypeId) : Option (List (Nat × Nat)) :=
  match P.underlying t with
  | some (.struct fs) => partsOf P fs.toList
  | _ => none

section
variable {P : Program} {σ : CSt}

/-! ### Loads and stores -/
def loadK : Option TF → Option CObj → Nat → Option Value
  | some f, some (.cells c _ _), off => if f.agg then (ld c off f.size).map (fun l => .agg l.toArray) else if f.und then c[off]? else none
  | _, _, _ => none
@[simp] theorem loadK_sc (s b : Nat) (z : Option (List Value)) (c : List Value) (e : TypeId) (ro : Bool) (off : Nat) : loadK (some ⟨s, b, z, false, true⟩) (some (.cells c e ro)) off = c[off]? := by simp [loadK]
@[simp] theorem loadK_ag (s b : Nat) (z : Option (List Value)) (c : List Value) (e : TypeId) (ro u : Bool) (off : Nat) : loadK (some ⟨s, b, z, true, u⟩) (some (.cells c e ro)) off = (ld c off s).map fun l => .agg l.toArray := by simp [loadK]
@[simp] theorem loadAt_eq (t : TypeId) (i off : Nat) : loadAt P σ t (.pointer (some ⟨i, off, none⟩)) = loadK (tf P t) (σ.get i) off := by
  simp only [loadAt, CSt.cells, tf]
  generalize σ.get i = o
  cases P.info? t with
  | none =>
    cases o with
    | none => rfl
    | some o => cases o <;> rfl
  | some inf =>
    cases o with
    | none => rfl
    | some o =>
      cases o with
      | cells c e ro =>
        simp only [Option.map_some, loadK]
        cases P.underlying t <;> simp
      | _ => rfl
def storeK : Option TF → Option CObj → Nat → Value → Option CObj
  | some f, some (.cells c e false), off, v => if (clist v).length = f.size ∧ cok v = true then (st c off (clist v)).map (fun c' => .cells c' e false) else none
  | _, _, _, _ => none
@[simp] theorem storeK_eq (s b : Nat) (z : Option (List Value)) (g u : Bool) (c : List Value) (e : TypeId) (off : Nat) (v : Value) :
    storeK (some ⟨s, b, z, g, u⟩) (some (.cells c e false)) off v = if (clist v).length = s ∧ cok v = true then (st c off (clist v)).map (fun c' => .cells c' e false) else none := (rfl)
@[simp] theorem storeAt_eq (t : TypeId) (i off : Nat) (v : Value) : storeAt P σ t (.pointer (some ⟨i, off, none⟩)) v = (storeK (tf P t) (σ.get i) off v).map (σ.put i ·) := by
  simp only [storeAt, CSt.cells, tf]
  generalize σ.get i = o
  cases o with
  | none => cases P.info? t <;> rfl
  | some o =>
    cases o with
    | cells c e ro =>
      cases P.info? t with
      | none => rfl
      | some inf =>
        cases ro with
        | true => simp [storeK]
        | false =>
          simp only [Option.map_some, storeK, true_and]
          by_cases hc : (clist v).length = inf.size ∧ cok v = true
          · have hc' : v.cells.size = inf.size ∧ v.cells.toList.all cellv = true := hc
            rw [if_pos hc, if_pos hc', Option.map_map]
            rfl
          · have hc' : ¬ (v.cells.size = inf.size ∧ v.cells.toList.all cellv = true) := hc
            rw [if_neg hc, if_neg hc']
            rfl
    | _ => cases P.info? t <;> rfl
@[simp] theorem ld_eq (c : List Value) (off n : Nat) : ld c off n = if off + n ≤ c.length then some ((c.drop off).take n) else none := (rfl)
@[simp] theorem st_eq (c : List Value) (off : Nat) (vs : List Value) : st c off vs = if off + vs.length ≤ c.length then some (c.take off ++ vs ++ c.drop (off + vs.length)) else none := (rfl)

/-! ### Addresses -/
@[simp] theorem fieldAt_eq (s : TypeId) (i off f : Nat) : fieldAt P s (.pointer (some ⟨i, off, none⟩)) f = (fieldT P s f).map fun o => .pointer (some ⟨i, off + o, none⟩) := by
  unfold fieldAt fieldT
  cases P.underlying s with
  | none => rfl
  | some d =>
    cases d with
    | struct fs =>
      simp only
      cases fs[f]? with
      | none => rfl
      | some fl =>
        simp only
        cases P.info? fl.type with
        | none => rfl
        | some inf =>
          simp only
          split <;> rfl
    | _ => rfl
def idxK : Option TF → Nat → Nat → Nat → Int → Option Value
  | some f, i, off, len, n => if 0 ≤ n ∧ n < len then some (.pointer (some ⟨i, off + n.toNat * f.size, none⟩)) else none
  | none, _, _, _, _ => none
@[simp] theorem idxK_eq (s b : Nat) (z : Option (List Value)) (g u : Bool) (i off len : Nat) (n : Int) : idxK (some ⟨s, b, z, g, u⟩) i off len n = if 0 ≤ n ∧ n < len then some (.pointer (some ⟨i, off + n.toNat * s, none⟩)) else none := (rfl)
theorem indexAt_sl {t e : TypeId} (h : elemT P t = some e) (i off len cap : Nat) (k : IntKind) (n : Int) : indexAt P t (.slice (some ⟨i, off, none⟩) len cap) (.int k n) = idxK (tf P e) i off len n := by
  unfold elemT at h
  split at h
  · rename_i e' hu
    cases h
    unfold indexAt
    simp only [hu, tf]
    cases P.info? e <;> rfl
  · cases h

/-! ### Operations -/
variable {ev : Operand → Value} {dst : Option Tmp} {ty : TypeId} {pos : String} {after : Array Edge} {g : Option (Nat × Bool)}
@[simp] theorem ofV_some (v : Value) : OpR.ofV σ (some v) = .val v σ := (rfl)
@[simp] theorem ofV_none : OpR.ofV σ none = .fail := (rfl)
@[simp] theorem ofS_some (σ' : CSt) : OpR.ofS (some σ') = .val undef σ' := (rfl)
@[simp] theorem ofP_some (v : Value) (σ' : CSt) : OpR.ofP (some (v, σ')) = .val v σ' := (rfl)
@[simp] theorem or_val' (v : Value) (σ' : CSt) (r : OpR) : (OpR.val v σ').or r = .val v σ' := (rfl)
@[simp] theorem or_fail (r : OpR) : OpR.fail.or r = r := (rfl)

@[simp] theorem copE_move (x : Operand) : cop P σ ev ⟨dst, .move x, ty, pos, after, g⟩ = .val (ev x) σ := (rfl)
@[simp] theorem copE_assign (x : Operand) : cop P σ ev ⟨dst, .assign x, ty, pos, after, g⟩ = .val (ev x) σ := (rfl)
@[simp] theorem copE_box (e : TypeId) (x : Operand) : cop P σ ev ⟨dst, .box e x, ty, pos, after, g⟩ = if cok (ev x) = true then .val (.pointer (some ⟨σ.n, 0, none⟩)) (σ.alloc (.cells (clist (ev x)) e false)) else .fail := (rfl)
@[simp] theorem copE_load (t : TypeId) (a : Operand) : cop P σ ev ⟨dst, .load t a, ty, pos, after, g⟩ = OpR.ofV σ (loadAt P σ t (ev a)) := (rfl)
@[simp] theorem copE_store (t : TypeId) (a x : Operand) : cop P σ ev ⟨dst, .store t a x, ty, pos, after, g⟩ = OpR.ofS (storeAt P σ t (ev a) (ev x)) := (rfl)
@[simp] theorem copE_fieldAddr (s : TypeId) (x : Operand) (f : Nat) : cop P σ ev ⟨dst, .fieldAddr s x f, ty, pos, after, g⟩ = OpR.ofV σ (fieldAt P s (ev x) f) := (rfl)
@[simp] theorem copE_indexAddr (t : TypeId) (x ix : Operand) : cop P σ ev ⟨dst, .indexAddr t x ix, ty, pos, after, g⟩ = OpR.ofV σ (indexAt P t (ev x) (ev ix)) := (rfl)

/-! ### Arithmetic -/
/-- Two operands that have no address. -/
def binF (P : Program) (σ : CSt) (op : BinOp) (t : TypeId) (x y : Operand) (a b : Value) : OpR :=
  if flat a && flat b then
    match pureRun P (do eqGuard op t x y a b; binOp op t a b) with
    | some v => if flat v then .val v σ else .fail
    | none => .fail
  else .fail
theorem pureRun_v {s : Sem Value} : pureRun P (do pure (Next.value (← s))) = (pureRun P s).map Next.value := by
  induction s with
  | pure a => rfl
  | program k ih => exact ih P
  | _ => rfl
@[simp] theorem copE_bin (op : BinOp) (t u : TypeId) (x y : Operand) : cop P σ ev ⟨dst, .binOp op t x y u, ty, pos, after, g⟩ = match isNilCmp P op t (ev x) (ev y) with | some v => .val v σ | none => binF P σ op t x y (ev x) (ev y) := by
  simp only [cop]
  congr 1
  funext
  simp only [flatOp, binF, Op.operands, execOp]
  simp only [List.all_cons, List.all_nil, Bool.and_true]
  rw [pureRun_v]
  cases pureRun P (do eqGuard op t x y (ev x) (ev y); binOp op t (ev x) (ev y)) <;> rfl
theorem nilPair_of {t : TypeId} {x y : Value} (h : match x with | .int _ _ | .string _ | .bool _ | .agg _ | .float _ _ => True | _ => False) : nilPair P t x y = false := by
  unfold nilPair
  cases x <;> simp only at h <;> (split <;> simp_all)
@[simp] theorem isNil_int (op : BinOp) (t : TypeId) (k : IntKind) (a : Int) (y : Value) : isNilCmp P op t (.int k a) y = none := by simp [isNilCmp, nilPair_of]
@[simp] theorem isNil_string (op : BinOp) (t : TypeId) (a : ByteArray) (y : Value) : isNilCmp P op t (.string a) y = none := by simp [isNilCmp, nilPair_of]
@[simp] theorem isNil_bool (op : BinOp) (t : TypeId) (a : Bool) (y : Value) : isNilCmp P op t (.bool a) y = none := by simp [isNilCmp, nilPair_of]
@[simp] theorem isNil_agg (op : BinOp) (t : TypeId) (a : Array Value) (y : Value) : isNilCmp P op t (.agg a) y = none := by simp [isNilCmp, nilPair_of]

@[simp] theorem pureRun_pure {α : Type} (a : α) : pureRun P (pure a) = some a := (rfl)
variable {t : TypeId} {x y : Operand} {k : IntKind} {a b : Int} {s u : ByteArray}
@[simp] theorem bin_add : binF P σ .add t x y (.int k a) (.int k b) = .val (.int k (k.wrap (a + b))) σ := by simp [binF, eqGuard, binOp, Op.intArith]
@[simp] theorem bin_sub : binF P σ .sub t x y (.int k a) (.int k b) = .val (.int k (k.wrap (a - b))) σ := by simp [binF, eqGuard, binOp, Op.intArith]
@[simp] theorem bin_mul : binF P σ .mul t x y (.int k a) (.int k b) = .val (.int k (k.wrap (a * b))) σ := by simp [binF, eqGuard, binOp, Op.intArith]
@[simp] theorem bin_quo (h : b ≠ 0) : binF P σ .quo t x y (.int k a) (.int k b) = .val (.int k (k.wrap (a.tdiv b))) σ := by simp [binF, eqGuard, binOp, Op.intDiv, h]
@[simp] theorem bin_rem (h : b ≠ 0) : binF P σ .rem t x y (.int k a) (.int k b) = .val (.int k (a.tmod b)) σ := by simp [binF, eqGuard, binOp, Op.intDiv, h]
@[simp] theorem bin_eql : binF P σ .eql t x y (.int k a) (.int k b) = .val (.bool (decide (a = b))) σ := by simp [binF, eqGuard, binOp, Op.intCmp]; rfl
@[simp] theorem bin_neq : binF P σ .neq t x y (.int k a) (.int k b) = .val (.bool (!decide (a = b))) σ := by simp [binF, eqGuard, binOp, Op.intCmp]; rfl
@[simp] theorem bin_lss : binF P σ .lss t x y (.int k a) (.int k b) = .val (.bool (decide (a < b))) σ := by simp [binF, eqGuard, binOp, Op.intCmp]
@[simp] theorem bin_leq : binF P σ .leq t x y (.int k a) (.int k b) = .val (.bool (decide (a ≤ b))) σ := by simp [binF, eqGuard, binOp, Op.intCmp]
@[simp] theorem bin_gtr : binF P σ .gtr t x y (.int k a) (.int k b) = .val (.bool (decide (b < a))) σ := by simp [binF, eqGuard, binOp, Op.intCmp]
@[simp] theorem bin_geq : binF P σ .geq t x y (.int k a) (.int k b) = .val (.bool (decide (b ≤ a))) σ := by simp [binF, eqGuard, binOp, Op.intCmp]

end
end Go.Sm
/- Regions that draw their order, run by 'simp'. -/
set_option linter.unusedVariables false
set_option linter.unusedSimpArgs false
namespace Go.Sm
open Go

section
variable {E : Env}

def dres (E : Env) (ops : Array Oper) (a0 a : CAct) (d : Option Tmp) (K : CAct → CSt → Prop) (Q : Out → CSt → Prop) (σ : CSt) : OpR → Prop
  | .val v σ' => K (a.put d v) σ'
  | .call fv args =>
    match extOf E fv args σ with
    | some _ => False
    | none => callv latP (W E) fv args none σ fun out σ' =>
      match out with
      | .ret v _ => K (a.put d v) σ'
      | .pan v => Q (.code (.panic v) (eraseAll ops a0)) σ'
      | _ => False
  | _ => False
@[congr] theorem dres_congr (E : Env) (ops : Array Oper) (a0 a : CAct) (d : Option Tmp) (K : CAct → CSt → Prop) (Q : Out → CSt → Prop) (σ : CSt) {r r' : OpR} (h : r = r') : dres E ops a0 a d K Q σ r = dres E ops a0 a d K Q σ r' := by rw [h]
@[simp] theorem dres_val {ops : Array Oper} {a0 a : CAct} {d : Option Tmp} {K : CAct → CSt → Prop} {Q : Out → CSt → Prop} {σ σ' : CSt} {v : Value} : dres E ops a0 a d K Q σ (.val v σ') = K (a.put d v) σ' := (rfl)

/-- In the order of the text. -/
def dops (E : Env) (ops : Array Oper) (Q : Out → CSt → Prop) (a0 : CAct) : List Oper → CAct → CSt → Prop
  | [], a, σ => Q (.code .normal a) σ
  | o :: rest, a, σ =>
    match wantedC ops a o with
    | some true => dres E ops a0 a o.dst (dops E ops Q a0 rest) Q σ (cop E.P σ a.eval o)
    | some false => dops E ops Q a0 rest (a.put o.dst nope) σ
    | none => False
@[congr] theorem dops_congr (E : Env) (ops : Array Oper) (Q : Out → CSt → Prop) (a0 : CAct) (l : List Oper) {a a' : CAct} {σ σ' : CSt} (h : a = a') (h' : σ = σ') : dops E ops Q a0 l a σ = dops E ops Q a0 l a' σ' := by rw [h, h']
@[simp] theorem dops_nil {ops : Array Oper} {a0 a : CAct} {σ : CSt} {Q : Out → CSt → Prop} : dops E ops Q a0 [] a σ = Q (.code .normal a) σ := (rfl)
theorem dops_cons {ops : Array Oper} {a0 a : CAct} {σ : CSt} {Q : Out → CSt → Prop} {o : Oper} {rest : List Oper} (hg : o.guard = none) :
    dops E ops Q a0 (o :: rest) a σ = dres E ops a0 a o.dst (dops E ops Q a0 rest) Q σ (cop E.P σ a.eval o) := by
  rw [dops]
  simp only [wantedC, hg]

def calmGo (P : Program) (ops : Array Oper) (b : Array Nat) : List Nat → List Nat → Bool
  | [], _ => true
  | i :: rest, dn => (!isEff P (opAt ops i) || dn.all (fun r => befBits b i r || !isRead (opAt ops r) || isEff P (opAt ops r))) && calmGo P ops b rest (i :: dn)
def calmId (P : Program) (ops : Array Oper) : Bool :=
  planOf P ops == List.range ops.size && planOk P ops (List.range ops.size) && calmGo P ops (bef ops) (List.range ops.size) []

theorem call_eff {P : Program} {σ : CSt} {ev : Operand → Value} {o : Oper} {fv : Value} {args : Array Value} (h : cop P σ ev o = .call fv args) : isEff P o = true := by
  have := cop_inv P σ ev o
  rw [h] at this
  obtain ⟨c, f, hop, hf, _, _⟩ := this
  simp [isEff, hop, hf]

theorem calm_go {ops : Array Oper} {b : Array Nat} {Q : Out → CSt → Prop} {a0 : CAct} : ∀ (l dn : List Nat) (a : CAct) (σ : CSt) (rs : List Rec), calmGo E.P ops b l dn = true → (∀ r ∈ rs, r.i ∈ dn ∧ isEff E.P (opAt ops r.i) = false) →
    dops E ops Q a0 (l.map (opAt ops)) a σ → dgo latP E (W E) ops b a0 Q l a σ rs
  | [], dn, a, σ, rs, hc, hr, h => h
  | i :: rest, dn, a, σ, rs, hc, hr, h => by
    simp only [calmGo, Bool.and_eq_true] at hc
    obtain ⟨hc1, hc2⟩ := hc
    have hr' : ∀ r ∈ rs, r.i ∈ i :: dn ∧ isEff E.P (opAt ops r.i) = false := fun r h => ⟨by simp [(hr r h).1], (hr r h).2⟩
    unfold dgo
    simp only [List.map_cons, dops] at h ⊢
    cases hw : wantedC ops a (opAt ops i) with
    | none => rw [hw] at h; exact h.elim
    | some wb =>
      rw [hw] at h
      cases wb with
      | false => exact calm_go rest (i :: dn) _ _ rs hc2 hr' h
      | true =>
        simp only at h ⊢
        by_cases he : isEff E.P (opAt ops i) = true
        · rw [if_pos he]
          have hre : ∀ σ', recheck E.P ops b σ' i rs = true := by
            intro σ'
            simp only [recheck, List.all_eq_true]
            intro r hrm
            obtain ⟨h1, h2⟩ := hr r hrm
            simp only [he, Bool.not_true, Bool.false_or, List.all_eq_true] at hc1
            have := hc1 _ h1
            rw [h2, Bool.or_false] at this
            rw [this, Bool.true_or]
          cases hcp : cop E.P σ a.eval (opAt ops i) with
          | val v σ' =>
            rw [hcp] at h
            simp only [hre, if_true]
            exact calm_go rest (i :: dn) _ _ rs hc2 hr' h
          | call fv args =>
            rw [hcp] at h
            simp only [dres] at h ⊢
            cases hx : extOf E fv args σ with
            | some v => rw [hx] at h; exact h.elim
            | none =>
              rw [hx] at h
              simp only at h ⊢
              refine callv_rel (tr := id) (N := latP) (fun h => h) (fun t σ Q Q' hq h => W.mono t σ Q Q' hq h) (fun out σ' hq => ?_) h
              cases out with
              | ret v tk =>
                simp only [hre, if_true]
                exact calm_go rest (i :: dn) _ _ rs hc2 hr' hq
              | pan v => exact hq
              | code e a => exact hq
          | _ => rw [hcp] at h; exact h.elim
        · rw [if_neg he]
          have he' : isEff E.P (opAt ops i) = false := by simpa using he
          cases hcp : cop E.P σ a.eval (opAt ops i) with
          | val v σ' =>
            rw [hcp] at h
            have := cop_quiet he' hcp
            subst this
            refine calm_go rest (i :: dn) _ _ _ hc2 (fun r hrm => ?_) h
            rcases List.mem_cons.1 hrm with rfl | hrm
            · exact ⟨by simp, he'⟩
            · exact hr' r hrm
          | call fv args => exact absurd (call_eff hcp) he
          | _ => rw [hcp] at h; exact h.elim

theorem W_calm {x : Ctx} {id : Nat} {ops : Array Oper} {a : CAct} {σ : CSt} {Q : Out → CSt → Prop} (hk : calmId E.P ops = true) (h : dops E ops Q a ops.toList a σ) : W E (.code x (.region id ops true) a) σ Q := by
  simp only [calmId, Bool.and_eq_true, beq_iff_eq] at hk
  obtain ⟨⟨h1, h2⟩, h3⟩ := hk
  rw [W_eq]
  simp only [F, h1, h2, if_true]
  refine calm_go _ [] _ _ _ h3 (by simp) ?_
  have : (List.range ops.size).map (opAt ops) = ops.toList := by
    apply List.ext_getElem
    · simp
    · intro i h1 h2
      simp at h1
      simp [opAt, h1]
  rw [this]
  exact h

/-! ### With what was read looked at again -/
def isVal (v : Value) : OpR → Prop
  | .val u _ => u = v
  | _ => False
@[simp] theorem isVal_val (v u : Value) (σ : CSt) : isVal v (.val u σ) = (u = v) := (rfl)
/-- What was read is the same behind it. -/
def again (P : Program) (ops : Array Oper) (b : Array Nat) (σ : CSt) (e : Nat) : List Rec → Prop
  | [] => True
  | r :: rs => ((befBits b e r.i || !isRead (opAt ops r.i)) = true ∨ isVal r.v (cop P σ r.a.eval (opAt ops r.i))) ∧ again P ops b σ e rs

mutual
theorem vbeq_self : ∀ v : Value, vbeq v v = true
  | .bool a => by simp [vbeq]
  | .int k a => by simp [vbeq]
  | .float k a => by simp [vbeq]
  | .complex k a c => by simp [vbeq]
  | .string ⟨⟨a⟩⟩ => by simp [vbeq]
  | .pointer a => by simp [vbeq]
  | .slice a n c => by simp [vbeq]
  | .map a => by simp [vbeq]
  | .chan a => by simp [vbeq]
  | .func f ⟨x⟩ ⟨y⟩ => by simp [vbeq, vbeqL_self x, vbeqL_self y]
  | .nilFunc => by simp [vbeq]
  | .iface t v => by simp [vbeq, vbeq_self v]
  | .nilIface => by simp [vbeq]
  | .agg ⟨x⟩ => by simp [vbeq, vbeqL_self x]
  | .tuple ⟨x⟩ => by simp [vbeq, vbeqL_self x]
theorem vbeqL_self : ∀ l : List Value, vbeqL l l = true
  | [] => by simp [vbeqL]
  | x :: l => by simp [vbeqL, vbeq_self x, vbeqL_self l]
end

theorem again_recheck {ops : Array Oper} {b : Array Nat} {σ : CSt} {e : Nat} : ∀ {rs : List Rec}, again E.P ops b σ e rs → recheck E.P ops b σ e rs = true
  | [], h => rfl
  | r :: rs, h => by
    obtain ⟨h1, h2⟩ := h
    have ih := again_recheck h2
    simp only [recheck, List.all_cons, Bool.and_eq_true] at ih ⊢
    refine ⟨?_, ih⟩
    rcases h1 with h1 | h1
    · rw [h1, Bool.true_or]
    · unfold isVal at h1
      split at h1
      · rename_i u s hu
        rw [hu, h1]
        simp [vbeq_self]
      · exact h1.elim

def rres (K : Value → Prop) : OpR → Prop
  | .val v _ => K v
  | _ => False
@[congr] theorem rres_congr (K : Value → Prop) {r r' : OpR} (h : r = r') : rres K r = rres K r' := by rw [h]
@[simp] theorem rres_val (K : Value → Prop) (v : Value) (σ : CSt) : rres K (.val v σ) = K v := (rfl)
/-- A region's operations in the order of a plan. -/
def dopsR (E : Env) (ops : Array Oper) (b : Array Nat) (Q : Out → CSt → Prop) (a0 : CAct) : List (Nat × Oper) → CAct → CSt → List Rec → Prop
  | [], a, σ, _ => Q (.code .normal a) σ
  | (i, o) :: rest, a, σ, rs =>
    match wantedC ops a o with
    | some true =>
      if isEff E.P o = true then dres E ops a0 a o.dst (fun a' σ' => again E.P ops b σ' i rs ∧ dopsR E ops b Q a0 rest a' σ' rs) Q σ (cop E.P σ a.eval o)
      else rres (fun v => dopsR E ops b Q a0 rest (a.put o.dst v) σ (⟨i, a, v⟩ :: rs)) (cop E.P σ a.eval o)
    | some false => dopsR E ops b Q a0 rest (a.put o.dst nope) σ rs
    | none => False

@[simp] theorem dopsR_nil {ops : Array Oper} {b : Array Nat} {a0 a : CAct} {σ : CSt} {Q : Out → CSt → Prop} {rs : List Rec} : dopsR E ops b Q a0 [] a σ rs = Q (.code .normal a) σ := (rfl)
theorem dopsR_cons {ops : Array Oper} {b : Array Nat} {a0 a : CAct} {σ : CSt} {Q : Out → CSt → Prop} {rs : List Rec} {i : Nat} {o : Oper} {rest : List (Nat × Oper)} (hg : o.guard = none) :
    dopsR E ops b Q a0 ((i, o) :: rest) a σ rs = if isEff E.P o = true then dres E ops a0 a o.dst (fun a' σ' => again E.P ops b σ' i rs ∧ dopsR E ops b Q a0 rest a' σ' rs) Q σ (cop E.P σ a.eval o)
      else rres (fun v => dopsR E ops b Q a0 rest (a.put o.dst v) σ (⟨i, a, v⟩ :: rs)) (cop E.P σ a.eval o) := by
  rw [dopsR]
  simp only [wantedC, hg]
theorem dopsR_go {ops : Array Oper} {b : Array Nat} {Q : Out → CSt → Prop} {a0 : CAct} : ∀ (l : List Nat) (a : CAct) (σ : CSt) (rs : List Rec), dopsR E ops b Q a0 (l.map fun i => (i, opAt ops i)) a σ rs → dgo latP E (W E) ops b a0 Q l a σ rs
  | [], a, σ, rs, h => h
  | i :: rest, a, σ, rs, h => by
    unfold dgo
    simp only [List.map_cons, dopsR] at h ⊢
    cases hw : wantedC ops a (opAt ops i) with
    | none => rw [hw] at h; exact h.elim
    | some wb =>
      rw [hw] at h
      cases wb with
      | false => exact dopsR_go rest _ _ rs h
      | true =>
        simp only at h ⊢
        by_cases he : isEff E.P (opAt ops i) = true
        · rw [if_pos he] at h ⊢
          cases hcp : cop E.P σ a.eval (opAt ops i) with
          | val v σ' =>
            rw [hcp] at h
            obtain ⟨h1, h2⟩ := h
            simp only [again_recheck h1, if_true]
            exact dopsR_go rest _ _ rs h2
          | call fv args =>
            rw [hcp] at h
            simp only [dres] at h ⊢
            cases hx : extOf E fv args σ with
            | some v => rw [hx] at h; exact h.elim
            | none =>
              rw [hx] at h
              simp only at h ⊢
              refine callv_rel (tr := id) (N := latP) (fun h => h) (fun t σ Q Q' hq h => W.mono t σ Q Q' hq h) (fun out σ' hq => ?_) h
              cases out with
              | ret v tk =>
                obtain ⟨h1, h2⟩ := hq
                simp only [again_recheck h1, if_true]
                exact dopsR_go rest _ _ rs h2
              | pan v => exact hq
              | code e a => exact hq
          | _ => rw [hcp] at h; exact h.elim
        · rw [if_neg he] at h ⊢
          cases hcp : cop E.P σ a.eval (opAt ops i) with
          | val v σ' => rw [hcp] at h; exact dopsR_go rest _ _ _ h
          | _ => rw [hcp] at h; exact h.elim

theorem W_drawn {l : List Nat} {b : Array Nat} {x : Ctx} {id : Nat} {ops : Array Oper} {a : CAct} {σ : CSt} {Q : Out → CSt → Prop} (hp : planOf E.P ops = l) (hb : bef ops = b) (hk : planOk E.P ops l = true)
    (h : dopsR E ops b Q a (l.map fun i => (i, opAt ops i)) a σ []) : W E (.code x (.region id ops true) a) σ Q := by
  rw [W_eq]
  simp only [F, hp, hb, hk, if_true]
  exact dopsR_go _ _ _ _ h
end
end Go.Sm
/- More operations as equations. -/
set_option linter.unusedVariables false
set_option linter.unusedSimpArgs false
namespace Go.Sm
open Go

/-! ### Structs and rows that are built -/
def fillL (place : Nat → Option (Nat × Nat)) : List Value → List (Nat × Value) → Option (List Value)
  | cells, [] => some cells
  | cells, (i, v) :: rest =>
    match place i with
    | none => none
    | some (off, size) => if (clist v).length = size ∧ off + size ≤ cells.length then fillL place (cells.take off ++ clist v ++ cells.drop (off + size)) rest else none

theorem set_fold : ∀ (l : List Value) (k off : Nat) (cs : Array Value), off + k + l.length ≤ cs.size →
    ((l.zipIdx k).foldl (fun cs p => cs.setIfInBounds (off + p.2) p.1) cs).toList = cs.toList.take (off + k) ++ l ++ cs.toList.drop (off + k + l.length)
  | [], k, off, cs, h => by simp
  | v :: l, k, off, cs, h => by
    simp only [List.length_cons] at h
    rw [List.zipIdx_cons, List.foldl_cons, set_fold l (k + 1) off _ (by simp; omega)]
    simp only [Array.toList_setIfInBounds, List.length_cons]
    apply List.ext_getElem?
    intro j
    simp only [List.getElem?_append, List.getElem?_take, List.getElem?_drop, List.length_append, List.length_take, List.length_set, Array.length_toList, List.getElem?_set, List.length_cons, List.getElem?_cons]
    have a1 : min (off + (k + 1)) cs.size = off + k + 1 := by omega
    have a2 : min (off + k) cs.size = off + k := by omega
    rw [a1, a2]
    by_cases h1 : j < off + k
    · rw [if_pos (by omega), if_pos (by omega), if_pos (by omega), if_neg (by omega), if_pos (by omega), if_pos h1, if_pos h1]
    · by_cases h2 : j = off + k
      · subst h2
        rw [if_pos (by omega), if_pos (by omega), if_pos (by omega), if_pos rfl, if_pos (by omega), if_pos (by omega), if_neg (by omega), if_pos (by omega)]
      · by_cases h3 : j < off + k + 1 + l.length
        · rw [if_pos (by omega), if_neg (by omega), if_pos (by omega), if_neg (by omega), if_neg (by omega)]
          congr 1 <;> omega
        · rw [if_neg (by omega), if_neg (by omega), if_neg (by omega)]
          congr 1 <;> omega

theorem fill_eq (place : Nat → Option (Nat × Nat)) : ∀ (parts : List (Nat × Value)) (cells : Array Value), (Instr.fill place cells parts).map Array.toList = fillL place cells.toList parts
  | [], cells => rfl
  | (i, v) :: rest, cells => by
    unfold Instr.fill fillL
    cases place i with
    | none => rfl
    | some p =>
      obtain ⟨off, size⟩ := p
      simp only
      by_cases hc : v.cells.size = size ∧ off + size ≤ cells.size
      · obtain ⟨rfl, h2⟩ := hc
        have : (decide (v.cells.size ≠ v.cells.size) || decide (off + v.cells.size > cells.size)) = false := by simp; omega
        rw [this]
        simp only [Bool.false_eq_true, if_false]
        rw [fill_eq place rest]
        rw [if_pos (show (clist v).length = v.cells.size ∧ off + v.cells.size ≤ cells.toList.length from ⟨rfl, by simpa using h2⟩)]
        congr 1
        have := set_fold v.cells.toList 0 off cells (by simpa using h2)
        simp only [Nat.add_zero, Array.length_toList] at this
        rw [show clist v = v.cells.toList from rfl, ← this, ← Array.foldl_toList]
        congr 1
        simp [Array.toList_zipIdx]
      · have : (decide (v.cells.size ≠ size) || decide (off + v.cells.size > cells.size)) = true := by
          simp only [Bool.or_eq_true, decide_eq_true_eq]
          by_cases h1 : v.cells.size = size
          · right; subst h1; have := fun h => hc ⟨rfl, h⟩; omega
          · exact .inl h1
        rw [this]
        simp only [if_true, Option.map_none]
        rw [if_neg (show ¬ ((clist v).length = size ∧ off + size ≤ cells.toList.length) from hc)]

section
variable {P : Program} {σ : CSt} {ev : Operand → Value} {dst : Option Tmp} {ty : TypeId} {pos : String} {after : Array Edge} {g : Option (Nat × Bool)}

def allocK : Option TF → TypeId → CSt → OpR
  | some ⟨_, _, some z, _, _⟩, e, σ => if z.all flat0 then .val (.pointer (some ⟨σ.n, 0, none⟩)) (σ.alloc (.cells z e false)) else .fail
  | _, _, _ => .fail
@[simp] theorem allocK_some (s b : Nat) (z : List Value) (a u : Bool) (e : TypeId) : allocK (some ⟨s, b, some z, a, u⟩) e σ = if z.all flat0 then .val (.pointer (some ⟨σ.n, 0, none⟩)) (σ.alloc (.cells z e false)) else .fail := (rfl)
@[simp] theorem copE_alloc (e : TypeId) : cop P σ ev ⟨dst, .alloc e, ty, pos, after, g⟩ = allocK (tf P e) e σ := by
  simp only [cop, allocOp, tf]
  cases P.info? e with
  | none => rfl
  | some inf =>
    cases hz : inf.zero with
    | none => simp [allocK, OpR.ofP, hz]
    | some z =>
      simp only [Option.map_some, allocK, hz]
      split <;> rfl

/-- A struct's value out of its parts. -/
def buildK (pl : Option (List (Nat × Nat))) (f : Option TF) (parts : List (Nat × Value)) : Option Value :=
  match pl, f with
  | some pl, some ⟨_, _, some z, _, _⟩ => if parts.all (fun p => cok p.2) ∧ z.all flat0 then (fillL (pl.toArray[·]?) z parts).map fun l => .agg l.toArray else none
  | _, _ => none
@[simp] theorem buildK_some (pl : List (Nat × Nat)) (s b : Nat) (z : List Value) (a u : Bool) (parts : List (Nat × Value)) :
    buildK (some pl) (some ⟨s, b, some z, a, u⟩) parts = if parts.all (fun p => cok p.2) ∧ z.all flat0 then (fillL (pl.toArray[·]?) z parts).map fun l => .agg l.toArray else none := (rfl)
theorem buildOp_st {t : TypeId} {pl : List (Nat × Nat)} (h : partsT P t = some pl) (parts : Array (Nat × Value)) : buildOp P t parts = buildK (partsT P t) (tf P t) parts.toList := by
  have hp := h
  unfold partsT at h
  split at h
  · rename_i fs hu
    simp only [buildOp, hp, tf]
    cases P.info? t with
    | none => simp [buildK]
    | some inf =>
      cases hz : inf.zero with
      | none => simp [buildK, hz]
      | some z =>
        simp only [Option.map_some, buildK, hu, h, hz]
        by_cases h1 : (parts.toList.all fun p => p.2.cells.toList.all cellv) = true
        · by_cases h2 : z.cells.toList.all flat0 = true
          · rw [if_pos h1, if_pos h2, if_pos ⟨h1, h2⟩, ← fill_eq]
            simp [Option.map_map, Function.comp_def]
          · rw [if_pos h1, if_neg h2, if_neg (fun h => h2 h.2)]
        · rw [if_neg h1, if_neg (fun h => h1 h.1)]
  · cases h
@[simp] theorem copE_build (t : TypeId) (parts : Array (Nat × Operand)) (h : (partsT P t).isSome = true) : cop P σ ev ⟨dst, .build t parts, ty, pos, after, g⟩ = OpR.ofV σ (buildK (partsT P t) (tf P t) (parts.map fun p => (p.1, ev p.2)).toList) := by
  obtain ⟨pl, hpl⟩ := Option.isSome_iff_exists.1 h
  simp only [cop]
  rw [buildOp_st hpl]
@[simp] theorem fillL_nil (place : Nat → Option (Nat × Nat)) (cells : List Value) : fillL place cells [] = some cells := (rfl)
@[simp] theorem fillL_cons (place : Nat → Option (Nat × Nat)) (cells : List Value) (i : Nat) (v : Value) (rest : List (Nat × Value)) : fillL place cells ((i, v) :: rest) =
    match place i with
    | none => none
    | some (off, size) => if (clist v).length = size ∧ off + size ≤ cells.length then fillL place (cells.take off ++ clist v ++ cells.drop (off + size)) rest else none := (rfl)

/-! ### A literal row -/
def bsliceK (e : Option TypeId) (f : Option TF) (σ : CSt) (len : Nat) (parts : List (Nat × Value)) : OpR :=
  match e, f with
  | some e, some ⟨s, _, some z, _, _⟩ =>
    if len ≤ 2 ^ 24 ∧ len * s ≤ 2 ^ 24 ∧ 0 < len * s ∧ z.length = s ∧ parts.all (fun p => cok p.2) ∧ z.all flat0 then
      match fillL (fun i => some (i * s, s)) ((List.replicate len z).flatten) parts with
      | some cs => .val (.slice (some ⟨σ.n, 0, none⟩) len len) (σ.alloc (.cells cs e false))
      | none => .fail
    else .fail
  | _, _ => .fail

theorem range_flatten (z : Array Value) : ∀ n, (((Array.range (n * z.size)).map (z[· % z.size]!)).toList : List Value) = (List.replicate n z.toList).flatten
  | 0 => by simp
  | n + 1 => by
    have ih := range_flatten z n
    simp only [Array.toList_map, Array.toList_range] at ih ⊢
    rw [Nat.add_mul, Nat.one_mul, Nat.add_comm, List.range_add, List.map_append, List.replicate_succ, List.flatten_cons, ← ih, List.map_map]
    congr 1
    · apply List.ext_getElem
      · simp
      · intro i h1 h2
        simp at h1
        simp [Nat.mod_eq_of_lt h1, h1]
    · apply List.map_congr_left
      intro j hj
      simp

def bsOk (e : Option TypeId) (f : Option TF) (len : Nat) : Bool :=
  match e, f with
  | some _, some ⟨s, _, some z, _, _⟩ => decide (0 < len * s) && decide (z.length = s)
  | _, _ => false
@[simp] theorem bsOk_some (e : TypeId) (s b : Nat) (z : List Value) (a u : Bool) (len : Nat) : bsOk (some e) (some ⟨s, b, some z, a, u⟩) len = (decide (0 < len * s) && decide (z.length = s)) := (rfl)
@[simp] theorem bsliceK_some (e : TypeId) (s b : Nat) (z : List Value) (a u : Bool) (len : Nat) (parts : List (Nat × Value)) : bsliceK (some e) (some ⟨s, b, some z, a, u⟩) σ len parts =
    if len ≤ 2 ^ 24 ∧ len * s ≤ 2 ^ 24 ∧ 0 < len * s ∧ z.length = s ∧ parts.all (fun p => cok p.2) ∧ z.all flat0 then
      match fillL (fun i => some (i * s, s)) ((List.replicate len z).flatten) parts with
      | some cs => .val (.slice (some ⟨σ.n, 0, none⟩) len len) (σ.alloc (.cells cs e false))
      | none => .fail
    else .fail := (rfl)
@[simp] theorem copE_buildSlice (t : TypeId) (len : Nat) (parts : Array (Nat × Operand)) (h : bsOk (elemT P t) ((elemT P t).bind (tf P)) len = true) :
    cop P σ ev ⟨dst, .buildSlice t len parts, ty, pos, after, g⟩ = bsliceK (elemT P t) ((elemT P t).bind (tf P)) σ len (parts.map fun p => (p.1, ev p.2)).toList := by
  simp only [cop]
  generalize parts.map (fun p => (p.1, ev p.2)) = pa
  have he : ∃ e, P.underlying t = some (.slice e) ∧ elemT P t = some e := by
    unfold elemT at h ⊢
    split at h
    · rename_i e hu
      exact ⟨e, hu, by simp [hu]⟩
    · simp [bsOk] at h
  obtain ⟨e, hu, hel⟩ := he
  rw [hel] at h ⊢
  simp only [Option.bind_some, tf] at h ⊢
  simp only [buildSliceOp, elemOf?, hu]
  cases hi : P.info? e with
  | none => rw [hi] at h; simp [bsOk] at h
  | some inf =>
    rw [hi] at h
    cases hz : inf.zero with
    | none => simp [bsOk, hz] at h
    | some z =>
      simp only [Option.map_some, hz, bsOk_some, Bool.and_eq_true, decide_eq_true_eq, Array.length_toList] at h
      obtain ⟨h1, h2⟩ := h
      have h1' : ¬ (len * inf.size = 0) := by omega
      simp only [Option.map_some, hz, bsliceK_some, h1, h2, Array.length_toList, true_and, h1', if_false]
      by_cases c1 : len ≤ 2 ^ 24 ∧ len * inf.size ≤ 2 ^ 24 ∧ (pa.toList.all fun p => p.2.cells.toList.all cellv) = true
      · by_cases c2 : z.cells.toList.all flat0 = true
        · have hr := range_flatten z.cells len
          rw [h2] at hr
          rw [if_pos c1]
          simp only [c2, if_true, h2, and_true]
          rw [if_pos (show len ≤ 2 ^ 24 ∧ len * inf.size ≤ 2 ^ 24 ∧ (pa.toList.all fun p => cok p.2) = true from c1), ← hr, ← fill_eq]
          cases Instr.fill (fun i => some (i * inf.size, inf.size)) (Array.map (fun x => z.cells[x % inf.size]!) (Array.range (len * inf.size))) pa.toList <;> rfl
        · rw [if_pos c1]
          simp [c2, OpR.ofP]
      · rw [if_neg c1, if_neg (fun h => c1 ⟨h.1, h.2.1, h.2.2.1⟩)]
        rfl
end
end Go.Sm
/- Conversions, slices, calls as equations. -/
set_option linter.unusedVariables false
set_option linter.unusedSimpArgs false
namespace Go.Sm
open Go

section
variable {P : Program} {σ : CSt} {ev : Operand → Value} {dst : Option Tmp} {ty : TypeId} {pos : String} {after : Array Edge} {g : Option (Nat × Bool)}

theorem pureRun_bind {α β : Type} (s : Sem α) (k : α → Sem β) : pureRun P (s >>= k) = (pureRun P s).bind fun a => pureRun P (k a) := by
  induction s with
  | pure a => rfl
  | program k' ih => exact ih P
  | _ => rfl

def intT (P : Program) (t : TypeId) : Option IntKind := match P.underlying t with | some (.int k) => some k | _ => none
def convF (P : Program) (σ : CSt) (s d : TypeId) (v : Value) : OpR :=
  (convertOp P σ s d v).or (if flat v then match pureRun P (convert s d v) with | some u => if flat u then .val u σ else .fail | none => .fail else .fail)
@[simp] theorem copE_convert (s d : TypeId) (x : Operand) : cop P σ ev ⟨dst, .convert s d x, ty, pos, after, g⟩ = convF P σ s d (ev x) := by
  simp only [cop, convF]
  congr 1
  simp only [flatOp, Op.operands, execOp, List.all_cons, List.all_nil, Bool.and_true]
  rw [pureRun_v]
  cases pureRun P (convert s d (ev x)) <;> rfl
def intK : Option IntKind → Int → CSt → OpR
  | some k, n, σ => .val (.int k (k.wrap n)) σ
  | none, _, _ => .fail
@[simp] theorem intK_some (k : IntKind) (n : Int) : intK (some k) n σ = .val (.int k (k.wrap n)) σ := (rfl)
theorem pureRun_underlying (t : TypeId) : pureRun P (underlying t) = P.underlying t := by
  unfold underlying
  rw [pureRun_bind]
  have : pureRun P program = some P := (rfl)
  rw [this, Option.bind_some]
  cases P.underlying t <;> rfl
theorem convF_int {s d : TypeId} (hs : (P.underlying s).isSome = true) (hd : (intT P d).isSome = true) (k : IntKind) (n : Int) : convF P σ s d (.int k n) = intK (intT P d) n σ := by
  obtain ⟨us, hs⟩ := Option.isSome_iff_exists.1 hs
  unfold intT at hd ⊢
  cases hu : P.underlying d with
  | none => rw [hu] at hd; cases hd
  | some u =>
    cases u with
    | int k' =>
      have h1 : convertOp P σ s d (.int k n) = .fail := by
        unfold convertOp
        rw [hs, hu]
        cases us <;> rfl
      simp only [convF, h1, or_fail, flat, flat0, if_true, convert, pureRun_bind, pureRun_underlying, hs, hu, Option.bind_some, intK]
      rfl
    | _ => rw [hu] at hd; cases hd

/-! ### Slices -/
@[simp] theorem bound_none (d : Nat) : bound? d none = some d := (rfl)
@[simp] theorem bound_int (d : Nat) (k : IntKind) (n : Int) : bound? d (some (.int k n)) = if 0 ≤ n then some n.toNat else none := (rfl)
@[simp] theorem copE_slice (t : TypeId) (x : Operand) (lo hi mx : Option Operand) : cop P σ ev ⟨dst, .slice t x lo hi mx, ty, pos, after, g⟩ = (OpR.ofV σ (sliceOp P σ t (ev x) (lo.map ev) (hi.map ev) (mx.map ev))).or (flatOp P σ ev ⟨dst, .slice t x lo hi mx, ty, pos, after, g⟩) := (rfl)
/-! ### Calls -/
@[simp] theorem copE_call (c : Call) : cop P σ ev ⟨dst, .call c, ty, pos, after, g⟩ = callOp P σ ev ⟨dst, .call c, ty, pos, after, g⟩ c := (rfl)
@[simp] theorem callOp_value (o : Oper) (f : Operand) (args : Array Operand) (ts : Array TypeId) : callOp P σ ev o ⟨.value f, args, ts⟩ = .call (ev f) (args.map ev) := (rfl)
/-- Behind a call. -/
def kret (a : CAct) (d : Option Tmp) (K : CAct → CSt → Prop) (Q : Out → CSt → Prop) : Out → CSt → Prop := fun out σ =>
  match out with
  | .ret v _ => K (a.put d v) σ
  | .pan v => Q (.code (.panic v) a) σ
  | _ => False
@[simp] theorem kret_ret (a : CAct) (d : Option Tmp) (K : CAct → CSt → Prop) (Q : Out → CSt → Prop) (v : Value) (tk : Bool) : kret a d K Q (.ret v tk) σ = K (a.put d v) σ := (rfl)
@[simp] theorem kret_pan (a : CAct) (d : Option Tmp) (K : CAct → CSt → Prop) (Q : Out → CSt → Prop) (v : Value) : kret a d K Q (.pan v) σ = Q (.code (.panic v) a) σ := (rfl)
@[congr] theorem kret_congr (a : CAct) (d : Option Tmp) (K : CAct → CSt → Prop) (Q : Out → CSt → Prop) {o o' : Out} {σ σ' : CSt} (h : o = o') (h' : σ = σ') : kret a d K Q o σ = kret a d K Q o' σ' := by rw [h, h']
variable {E : Env}
@[simp] theorem wres_call (x : Ctx) (a : CAct) (d : Option Tmp) (K : CAct → CSt → Prop) (Q : Out → CSt → Prop) (f : FuncId) (fs cs args : Array Value) (h : extOf E (.func (.func f) fs cs) args σ = none) :
    wres E x a d K Q σ (.call (.func (.func f) fs cs) args) = W E (.fn f (fs ++ args ++ cs) none) σ (kret a d K Q) := by
  simp only [wres, h, callv]
  rfl
/-- Behind a call in a region that draws its order. -/
def kretd (ops : Array Oper) (a0 a : CAct) (d : Option Tmp) (K : CAct → CSt → Prop) (Q : Out → CSt → Prop) : Out → CSt → Prop := fun out σ =>
  match out with
  | .ret v _ => K (a.put d v) σ
  | .pan v => Q (.code (.panic v) (eraseAll ops a0)) σ
  | _ => False
@[simp] theorem kretd_ret (ops : Array Oper) (a0 a : CAct) (d : Option Tmp) (K : CAct → CSt → Prop) (Q : Out → CSt → Prop) (v : Value) (tk : Bool) : kretd ops a0 a d K Q (.ret v tk) σ = K (a.put d v) σ := (rfl)
@[simp] theorem kretd_pan (ops : Array Oper) (a0 a : CAct) (d : Option Tmp) (K : CAct → CSt → Prop) (Q : Out → CSt → Prop) (v : Value) : kretd ops a0 a d K Q (.pan v) σ = Q (.code (.panic v) (eraseAll ops a0)) σ := (rfl)
@[simp] theorem dres_call (ops : Array Oper) (a0 a : CAct) (d : Option Tmp) (K : CAct → CSt → Prop) (Q : Out → CSt → Prop) (f : FuncId) (fs cs args : Array Value) (h : extOf E (.func (.func f) fs cs) args σ = none) :
    dres E ops a0 a d K Q σ (.call (.func (.func f) fs cs) args) = W E (.fn f (fs ++ args ++ cs) none) σ (kretd ops a0 a d K Q) := by
  simp only [dres, h, callv]
  rfl

/-! ### Lengths -/
def lenF (P : Program) (σ : CSt) (t : Option TypeId) (v : Value) : OpR :=
  match t with | some t => OpR.ofV σ (lenOp P σ #[t] v) | none => .fail
@[simp] theorem callOp_len (o : Oper) (x : Operand) (ts : Array TypeId) : callOp P σ ev o ⟨.builtin .len, #[x], ts⟩ = lenF P σ ts[0]? (ev x) := by
  have : (Array.map ev #[x]).toList = [ev x] := by simp
  simp only [callOp, this, lenF, lenOp]
  cases h : ts[0]? with
  | none => rfl
  | some t =>
    simp only
    have : (#[t] : Array TypeId)[0]? = some t := (rfl)
    rw [this]
theorem len_slice {t : TypeId} (h : (elemT P t).isSome = true) (p : Option Addr) (n c : Nat) : lenF P σ (some t) (.slice p n c) = .val (.int .i64 n) σ := by
  unfold elemT at h
  split at h
  · rename_i e hu
    simp [lenF, lenOp, hu]
  · cases h
def strT (P : Program) (t : TypeId) : Bool := match P.underlying t with | some .string => true | _ => false
theorem len_string {t : TypeId} (h : strT P t = true) (s : ByteArray) : lenF P σ (some t) (.string s) = .val (.int .i64 s.size) σ := by
  unfold strT at h
  split at h
  · rename_i hu
    simp [lenF, lenOp, hu]
  · cases h
attribute [simp] len_slice len_string convF_int indexAt_sl
end
end Go.Sm
/- Slices, append, copy as equations. -/
set_option linter.unusedVariables false
set_option linter.unusedSimpArgs false
namespace Go.Sm
open Go

section
variable {P : Program} {σ : CSt} {ev : Operand → Value} {dst : Option Tmp} {ty : TypeId} {pos : String} {after : Array Edge} {g : Option (Nat × Bool)}

/-- An element's type and its facts. -/
def elemF (P : Program) (t : TypeId) : Option (TypeId × TF) := (elemT P t).bind fun e => (tf P e).map fun f => (e, f)
/-! ### s[l:h] -/
def sliceO : Option (TypeId × TF) → Option CObj → Nat → Nat → Nat → Option Nat → Option Nat → Option Value
  | some (e, f), some (.cells c e' _), i, off, len, some l, some h => if e' = e ∧ 0 < f.size ∧ l ≤ h ∧ (h ≤ len ∨ off + h * f.size ≤ c.length) then some (.slice (some ⟨i, off + l * f.size, none⟩) (h - l) openCap) else none
  | _, _, _, _, _, _, _ => none
theorem elemOf_some {t : TypeId} {e : TypeId} {f : TF} (h : elemF P t = some (e, f)) : ∃ inf, elemOf? P t = some (e, inf) ∧ inf.size = f.size ∧ inf.bytes = f.bytes ∧ inf.zero.map (·.cells.toList) = f.zero := by
  unfold elemF elemT at h
  cases hu : P.underlying t with
  | none => rw [hu] at h; cases h
  | some d =>
    cases d with
    | slice e0 =>
      rw [hu] at h
      simp only [Option.bind_some, tf] at h
      cases hi : P.info? e0 with
      | none => rw [hi] at h; cases h
      | some inf =>
        rw [hi] at h
        simp only [Option.map_some, Option.some.injEq, Prod.mk.injEq] at h
        obtain ⟨rfl, rfl⟩ := h
        exact ⟨inf, by simp [elemOf?, hu, hi], rfl, rfl, rfl⟩
    | _ => rw [hu] at h; cases h
theorem sliceOp_open {t : TypeId} (he : (elemF P t).isSome = true) (i off len : Nat) (lo hi : Option Value) :
    sliceOp P σ t (.slice (some ⟨i, off, none⟩) len openCap) lo hi none = sliceO (elemF P t) (σ.get i) i off len (bound? 0 lo) (bound? len hi) := by
  obtain ⟨⟨e, f⟩, hf⟩ := Option.isSome_iff_exists.1 he
  obtain ⟨inf, h1, h2, h3, h4⟩ := elemOf_some hf
  rw [hf]
  simp only [sliceOp, h1, if_true, CSt.cells]
  generalize σ.get i = o
  cases o with
  | none => rfl
  | some o =>
    cases o with
    | cells c e' ro =>
      simp only [sliceO, h2]
      by_cases hc : e' = e ∧ 0 < f.size
      · rw [if_pos hc]
        cases bound? 0 lo with
        | none => cases bound? len hi <;> rfl
        | some l =>
          cases bound? len hi with
          | none => rfl
          | some h => simp only [sliceO, hc, true_and]
      · rw [if_neg hc]
        cases bound? 0 lo with
        | none => cases bound? len hi <;> rfl
        | some l =>
          cases bound? len hi with
          | none => rfl
          | some h => simp only [sliceO]; rw [if_neg (fun hh => hc ⟨hh.1, hh.2.1⟩)]
    | _ => rfl

/-! ### append -/
def appendF (σ : CSt) (e : TypeId) (f : TF) (s : Value) (n : Nat) (new : List Value) : Option (Value × CSt) :=
  if new.length = n * f.size ∧ cokL new ∧ 0 < f.size ∧ 0 < f.bytes ∧ f.zero.map List.length = some f.size then
  match s with
  | .slice none 0 0 =>
    if n = 0 then some (s, σ)
    else if n * f.bytes ≤ 2 ^ 47 then some (.slice (some ⟨σ.n, 0, none⟩) n openCap, σ.alloc (.cells new e false)) else none
  | .slice (some ⟨i, off, none⟩) len cap =>
    if n = 0 then (if len ≤ cap then some (s, σ) else none) else
    match σ.get i with
    | some (.cells c e' ro) =>
      if cap = openCap then
        if e' = e ∧ ro = false then
          if off + (len + n) * f.size ≤ c.length then
            (st c (off + len * f.size) new).map fun c' => (.slice (some ⟨i, off, none⟩) (len + n) openCap, σ.put i (.cells c' e' ro))
          else if (len + n) * f.bytes ≤ 2 ^ 47 then
            (ld c off (len * f.size)).map fun old => (.slice (some ⟨σ.n, 0, none⟩) (len + n) openCap, (σ.put i .dead).alloc (.cells (old ++ new) e false))
          else none
        else none
      else if len + n ≤ cap then
        if ro = false then (st c (off + len * f.size) new).map fun c' => (.slice (some ⟨i, off, none⟩) (len + n) cap, σ.put i (.cells c' e' ro)) else none
      else if (len + n) * f.bytes ≤ 2 ^ 47 then
        (ld c off (len * f.size)).map fun old => (.slice (some ⟨σ.n, 0, none⟩) (len + n) openCap, σ.alloc (.cells (old ++ new) e false))
      else none
    | _ => none
  | _ => none
  else none
theorem appendTo_F {e : TypeId} {inf : TypeInfo} {f : TF} (h2 : inf.size = f.size) (h3 : inf.bytes = f.bytes) (h4 : inf.zero.map (·.cells.toList) = f.zero) (s : Value) (n : Nat) (new : List Value) :
    appendTo P σ e inf s n new = appendF σ e f s n new := by
  have hz : ((inf.zero.map fun z => z.cells.size) = some inf.size) ↔ (f.zero.map List.length = some f.size) := by
    rw [← h4, ← h2, Option.map_map]
    rfl
  unfold appendTo appendF
  simp only [h2, h3] at hz ⊢
  by_cases hc : new.length = n * f.size ∧ cokL new ∧ 0 < f.size ∧ 0 < f.bytes ∧ f.zero.map List.length = some f.size
  · rw [if_pos hc, if_pos ⟨hc.1, hc.2.1, hc.2.2.1, hc.2.2.2.1, hz.2 hc.2.2.2.2⟩]
    split
    · rfl
    · rename_i i off len cap
      simp only [CSt.cells]
      by_cases hn : n = 0
      · rw [if_pos hn, if_pos hn]
      · rw [if_neg hn, if_neg hn]
        generalize σ.get i = o
        cases o with
        | none => rfl
        | some o => cases o <;> rfl
    · rename_i h1 h2'
      split
      · exact absurd rfl h1
      · exact absurd rfl (h2' _ _ _ _)
      · rfl
  · rw [if_neg hc, if_neg (fun h => hc ⟨h.1, h.2.1, h.2.2.1, h.2.2.2.1, hz.1 h.2.2.2.2⟩)]
def firstK : Option CObj → Nat → Nat → Option (List Value)
  | some (.cells c _ _), off, n => ld c off n
  | _, _, _ => none
@[simp] theorem firstK_some (c : List Value) (e : TypeId) (ro : Bool) (off n : Nat) : firstK (some (.cells c e ro)) off n = ld c off n := (rfl)
@[simp] theorem firstOf_sl (size n i off a b : Nat) : firstOf σ size n (.slice (some ⟨i, off, none⟩) a b) = firstK (σ.get i) off (n * size) := by
  simp only [firstOf, CSt.cells]
  generalize σ.get i = o
  cases o with
  | none => rfl
  | some o => cases o <;> rfl
@[simp] theorem firstOf_nil (size n : Nat) : firstOf σ size n (.slice none 0 0) = some [] := (rfl)
@[simp] theorem lenOf_slice (p : Option Addr) (n c : Nat) : lenOf? (.slice p n c) = some n := (rfl)
@[simp] theorem lenOf_string (s : ByteArray) : lenOf? (.string s) = some s.size := (rfl)
def appK : Option (TypeId × TF) → CSt → Value → Value → Option (Value × CSt)
  | some (e, f), σ, s, x => match lenOf? x with | some n => (firstOf σ f.size n x).bind fun new => appendF σ e f s n new | none => none
  | none, _, _, _ => none
theorem appendOp_K {ts : Array TypeId} {s x : Value} (h : (ts[0]?.bind (elemF P)).isSome = true) (h' : (ts[1]?.bind (elemT P)).isSome = true) : appendOp P σ ts s x = appK (ts[0]?.bind (elemF P)) σ s x := by
  obtain ⟨⟨e, f⟩, hf⟩ := Option.isSome_iff_exists.1 h
  obtain ⟨e1, hf1⟩ := Option.isSome_iff_exists.1 h'
  rw [hf]
  simp only [Option.bind_eq_some_iff] at hf hf1
  obtain ⟨t, ht, hf⟩ := hf
  obtain ⟨u, hu, hf1⟩ := hf1
  obtain ⟨inf, g1, g2, g3, g4⟩ := elemOf_some hf
  have hund : P.underlying u = some (.slice e1) := by
    unfold elemT at hf1
    split at hf1
    · rename_i e2 h2; cases hf1; exact h2
    · cases hf1
  simp only [appendOp, ht, hu, g1, hund, appK]
  cases lenOf? x with
  | none => rfl
  | some n =>
    simp only [g2]
    congr 1
    funext new
    exact appendTo_F g2 g3 g4 s n new
@[simp] theorem callOp_append (o : Oper) (s x : Operand) (ts : Array TypeId) : callOp P σ ev o ⟨.builtin .append, #[s, x], ts⟩ = OpR.ofP (appendOp P σ ts (ev s) (ev x)) := by
  have : (Array.map ev #[s, x]).toList = [ev s, ev x] := by simp
  simp only [callOp, this]
@[simp] theorem callOp_copy (o : Oper) (s x : Operand) (ts : Array TypeId) : callOp P σ ev o ⟨.builtin .copy, #[s, x], ts⟩ = OpR.ofP (copyOp P σ ts (ev s) (ev x)) := by
  have : (Array.map ev #[s, x]).toList = [ev s, ev x] := by simp
  simp only [callOp, this]
end
end Go.Sm
/- Loops, and states that have grown. -/
set_option linter.unusedVariables false
set_option linter.unusedSimpArgs false
namespace Go.Sm
open Go

/-- New objects alone; what was there is as it was. -/
structure Grow (σ σ' : CSt) : Prop where
  n : σ.n ≤ σ'.n
  old : ∀ i, i < σ.n → σ'.get i = σ.get i
theorem Grow.refl (σ : CSt) : Grow σ σ := ⟨Nat.le_refl _, fun _ _ => rfl⟩
theorem Grow.trans {a b c : CSt} (h : Grow a b) (k : Grow b c) : Grow a c := ⟨Nat.le_trans h.n k.n, fun i hi => (k.old i (Nat.lt_of_lt_of_le hi h.n)).trans (h.old i hi)⟩
theorem Grow.alloc {a b : CSt} (h : Grow a b) (o : CObj) : Grow a (b.alloc o) := ⟨by have := h.n; simp; omega, fun i hi => by
  have := h.n
  rw [CSt.get_alloc, if_neg (by omega)]
  exact h.old i hi⟩
theorem Grow.put {a b : CSt} (h : Grow a b) {i : Nat} (hi : a.n ≤ i) (o : CObj) : Grow a (b.put i o) := ⟨h.n, fun j hj => by
  rw [CSt.get_put, if_neg (by omega)]
  exact h.old j hj⟩
theorem Grow.get {a b : CSt} (h : Grow a b) {i : Nat} {o : CObj} (hi : a.get i = some o) (hl : i < a.n) : b.get i = some o := (h.old i hl).trans hi

section
variable {E : Env}
/-- Behind a round of a loop: the invariant holds again, of less. -/
def kinv (I : Nat → CAct → CSt → Prop) (n : Nat) (Q : Out → CSt → Prop) : Out → CSt → Prop := fun o σ =>
  match o with
  | .code .normal a => ∃ m, m < n ∧ I m a σ
  | o => Q o σ
@[simp] theorem kinv_normal (I : Nat → CAct → CSt → Prop) (n : Nat) (Q : Out → CSt → Prop) (a : CAct) (σ : CSt) : kinv I n Q (.code .normal a) σ = ∃ m, m < n ∧ I m a σ := (rfl)
@[simp] theorem kinv_exit (I : Nat → CAct → CSt → Prop) (n : Nat) (Q : Out → CSt → Prop) (a : CAct) (σ : CSt) (i : Nat) : kinv I n Q (.code (.exit i) a) σ = Q (.code (.exit i) a) σ := (rfl)
@[simp] theorem kinv_goto (I : Nat → CAct → CSt → Prop) (n : Nat) (Q : Out → CSt → Prop) (a : CAct) (σ : CSt) (i : Nat) : kinv I n Q (.code (.goto i) a) σ = Q (.code (.goto i) a) σ := (rfl)
@[simp] theorem kinv_ret (I : Nat → CAct → CSt → Prop) (n : Nat) (Q : Out → CSt → Prop) (a : CAct) (σ : CSt) : kinv I n Q (.code .ret a) σ = Q (.code .ret a) σ := (rfl)
@[simp] theorem kinv_panic (I : Nat → CAct → CSt → Prop) (n : Nat) (Q : Out → CSt → Prop) (a : CAct) (σ : CSt) (v : Value) : kinv I n Q (.code (.panic v) a) σ = Q (.code (.panic v) a) σ := (rfl)
@[congr] theorem kinv_congr (I : Nat → CAct → CSt → Prop) (n : Nat) (Q : Out → CSt → Prop) {o o' : Out} {σ σ' : CSt} (h : o = o') (h' : σ = σ') : kinv I n Q o σ = kinv I n Q o' σ' := by rw [h, h']

theorem W_loop_inv {x : Ctx} {c : Code} {Q : Out → CSt → Prop} (I : Nat → CAct → CSt → Prop) (hstep : ∀ n a σ, I n a σ → W E (.code x c a) σ (kinv I n Q)) : ∀ n a σ, I n a σ → W E (.code x (.loop c) a) σ Q := by
  intro n
  induction n using Nat.strongRecOn with
  | _ n ih =>
    intro a σ h
    rw [W_loop]
    refine (hstep n a σ h).weaken fun o s ho => ?_
    cases o with
    | code e a' => cases e with
      | normal =>
        obtain ⟨m, hm, hI⟩ := ho
        exact ih m hm a' s hI
      | _ => exact ho
    | _ => exact ho
end
end Go.Sm
/- Shifts, strings, truth values as equations. -/
set_option linter.unusedVariables false
set_option linter.unusedSimpArgs false
namespace Go.Sm
open Go

section
variable {P : Program} {σ : CSt} {ev : Operand → Value} {dst : Option Tmp} {ty : TypeId} {pos : String} {after : Array Edge} {g : Option (Nat × Bool)}
variable {t : TypeId} {x y : Operand} {k k' : IntKind} {a b : Int} {s u : ByteArray}
@[simp] theorem bin_shr (h : 0 ≤ b) : binF P σ .shr t x y (.int k a) (.int k' b) = .val (.int k (a.fdiv (2 ^ min b.toNat k.bits))) σ := by
  have : ¬ (b < 0) := by omega
  simp [binF, eqGuard, binOp, Op.shift, this]
@[simp] theorem bin_shl (h : 0 ≤ b) : binF P σ .shl t x y (.int k a) (.int k' b) = .val (.int k (k.wrap (a * 2 ^ min b.toNat k.bits))) σ := by
  have : ¬ (b < 0) := by omega
  simp [binF, eqGuard, binOp, Op.shift, this]
@[simp] theorem bin_streq : binF P σ .eql t x y (.string s) (.string u) = .val (.bool (s.toList == u.toList)) σ := by simp [binF, eqGuard, binOp, Op.stringOp]
@[simp] theorem bin_strne : binF P σ .neq t x y (.string s) (.string u) = .val (.bool (!(s.toList == u.toList))) σ := by simp [binF, eqGuard, binOp, Op.stringOp]
/-- One operand without an address. -/
def unF (P : Program) (σ : CSt) (op : UnOp) (v : Value) : OpR := if flat v then match pureRun P (Op.unary op v) with | some u => if flat u then .val u σ else .fail | none => .fail else .fail
@[simp] theorem copE_un (op : UnOp) (t : TypeId) (x : Operand) : cop P σ ev ⟨dst, .unOp op t x, ty, pos, after, g⟩ = unF P σ op (ev x) := by
  simp only [cop, unF, flatOp, Op.operands, execOp, List.all_cons, List.all_nil, Bool.and_true]
  rw [pureRun_v]
  cases pureRun P (Op.unary op (ev x)) <;> rfl
@[simp] theorem un_not (c : Bool) : unF P σ .not (.bool c) = .val (.bool (!c)) σ := by simp [unF, Op.unary]
@[simp] theorem un_neg : unF P σ .neg (.int k a) = .val (.int k (k.wrap (0 - a))) σ := by simp [unF, Op.unary, Op.intArith]
def pickK (v a b : Value) (σ : CSt) : OpR := match v with | .bool t => .val (if t then a else b) σ | _ => .fail
@[simp] theorem copE_pick (c u v : Operand) : cop P σ ev ⟨dst, .pick c u v, ty, pos, after, g⟩ = pickK (ev c) (ev u) (ev v) σ := (rfl)
@[simp] theorem pickK_bool (c : Bool) (u v : Value) : pickK (.bool c) u v σ = .val (if c then u else v) σ := (rfl)
def exK (v : Value) (i : Nat) (σ : CSt) : OpR := match v with | .tuple vs => OpR.ofV σ vs[i]? | _ => .fail
@[simp] theorem copE_extract (u : Operand) (i : Nat) : cop P σ ev ⟨dst, .extract u i, ty, pos, after, g⟩ = exK (ev u) i σ := (rfl)
@[simp] theorem exK_tuple (vs : Array Value) (i : Nat) : exK (.tuple vs) i σ = OpR.ofV σ vs[i]? := (rfl)

theorem und_of_elem {t : TypeId} (h : (elemT P t).isSome = true) : ∃ e, P.underlying t = some (.slice e) := by
  unfold elemT at h
  split at h
  · rename_i e hu; exact ⟨e, hu⟩
  · cases h
@[simp] theorem isNil_sl_eq {t : TypeId} (h : (elemT P t).isSome = true) (p : Addr) (n c : Nat) : isNilCmp P .eql t (.slice (some p) n c) (.slice none 0 0) = some (.bool false) := by
  obtain ⟨e, hu⟩ := und_of_elem h
  simp [isNilCmp, nilPair, hu]
@[simp] theorem isNil_sl_ne {t : TypeId} (h : (elemT P t).isSome = true) (p : Addr) (n c : Nat) : isNilCmp P .neq t (.slice (some p) n c) (.slice none 0 0) = some (.bool true) := by
  obtain ⟨e, hu⟩ := und_of_elem h
  simp [isNilCmp, nilPair, hu]
@[simp] theorem isNil_nil {t : TypeId} {op : BinOp} (h : (elemT P t).isSome = true) : isNilCmp P op t (.slice none 0 0) (.slice none 0 0) = none := by
  obtain ⟨e, hu⟩ := und_of_elem h
  simp [isNilCmp, nilPair, hu]
theorem equal_nil {t : TypeId} (h : (elemT P t).isSome = true) : pureRun P (Op.equal t (.slice none 0 0) (.slice none 0 0)) = some true := by
  obtain ⟨e, hu⟩ := und_of_elem h
  unfold Op.equal Op.equalIn
  simp only [Op.maxDepth, pureRun_bind, pureRun_underlying, hu, Option.bind_some]
  rfl
@[simp] theorem bin_nil_eq {t : TypeId} (h : (elemT P t).isSome = true) {x y : Operand} : binF P σ .eql t x y (.slice none 0 0) (.slice none 0 0) = .val (.bool true) σ := by
  have : pureRun P (do eqGuard .eql t x y (.slice none 0 0) (.slice none 0 0); binOp .eql t (.slice none 0 0) (.slice none 0 0)) = some (.bool true) := by
    have h1 : binOp .eql t (.slice none 0 0) (.slice none 0 0) = (do pure (.bool (← Op.equal t (.slice none 0 0) (.slice none 0 0))) : Sem Value) := rfl
    have h2 : pureRun P (eqGuard .eql t x y (.slice none 0 0) (.slice none 0 0)) = some () := rfl
    rw [pureRun_bind, h2, Option.bind_some, h1, pureRun_bind, equal_nil h, Option.bind_some]
    rfl
  simp only [binF, flat, flat0, Bool.and_self, if_true, this]
@[simp] theorem bin_nil_ne {t : TypeId} (h : (elemT P t).isSome = true) {x y : Operand} : binF P σ .neq t x y (.slice none 0 0) (.slice none 0 0) = .val (.bool false) σ := by
  have : pureRun P (do eqGuard .neq t x y (.slice none 0 0) (.slice none 0 0); binOp .neq t (.slice none 0 0) (.slice none 0 0)) = some (.bool false) := by
    have h1 : binOp .neq t (.slice none 0 0) (.slice none 0 0) = (do pure (.bool (!(← Op.equal t (.slice none 0 0) (.slice none 0 0)))) : Sem Value) := rfl
    have h2 : pureRun P (eqGuard .neq t x y (.slice none 0 0) (.slice none 0 0)) = some () := rfl
    rw [pureRun_bind, h2, Option.bind_some, h1, pureRun_bind, equal_nil h, Option.bind_some]
    rfl
  simp only [binF, flat, flat0, Bool.and_self, if_true, this]
/-! ### Operations that are passed over -/
def guardK (v : Value) (want : Bool) (p q : Prop) : Prop := match v with | .bool b => if b = want then p else q | .chan none => q | _ => False
@[congr] theorem guardK_congr {v v' : Value} (want : Bool) (p q : Prop) (h : v = v') : guardK v want p q = guardK v' want p q := by rw [h]
@[simp] theorem guardK_bool (b want : Bool) (p q : Prop) : guardK (.bool b) want p q = if b = want then p else q := (rfl)
@[simp] theorem guardK_nope (want : Bool) (p q : Prop) : guardK nope want p q = q := (rfl)
variable {E : Env}
theorem wops_if {ops : Array Oper} {Q : Out → CSt → Prop} {x : Ctx} {a : CAct} {dst : Option Tmp} {op : Op} {ty : TypeId} {pos : String} {after : Array Edge} {j : Nat} {want : Bool} {rest : List Oper} (d : Tmp) (hd : (ops[j]?).bind (·.dst) = some d) (hs : d < a.sz) :
    wops E x ops Q (⟨dst, op, ty, pos, after, some (j, want)⟩ :: rest) a σ =
      guardK (a.get d) want (wres E x a dst (wops E x ops Q rest) Q σ (cop E.P σ a.eval ⟨dst, op, ty, pos, after, some (j, want)⟩)) (wops E x ops Q rest (a.put dst nope) σ) := by
  rw [wops]
  simp only [wantedC, hd, hs, if_true]
  unfold guardK
  generalize a.get d = v
  cases v with
  | bool b => cases b <;> cases want <;> rfl
  | chan c => cases c <;> rfl
  | _ => rfl
def dstOf (ops : Array Oper) (j : Nat) : Tmp := ((ops[j]?).bind (·.dst)).getD 0
theorem wops_if' {ops : Array Oper} {Q : Out → CSt → Prop} {x : Ctx} {a : CAct} {dst : Option Tmp} {op : Op} {ty : TypeId} {pos : String} {after : Array Edge} {j : Nat} {want : Bool} {rest : List Oper} (hd : ((ops[j]?).bind (·.dst)).isSome = true) (hs : dstOf ops j < a.sz) :
    wops E x ops Q (⟨dst, op, ty, pos, after, some (j, want)⟩ :: rest) a σ =
      guardK (a.get (dstOf ops j)) want (wres E x a dst (wops E x ops Q rest) Q σ (cop E.P σ a.eval ⟨dst, op, ty, pos, after, some (j, want)⟩)) (wops E x ops Q rest (a.put dst nope) σ) := by
  obtain ⟨d, hd⟩ := Option.isSome_iff_exists.1 hd
  have : dstOf ops j = d := by simp [dstOf, hd]
  rw [this] at hs ⊢
  exact wops_if d hd hs
end
end Go.Sm
/- Rows of elements that have several cells each. -/
set_option linter.unusedVariables false
set_option linter.unusedSimpArgs false
namespace Go.Sm
open Go

section
variable {α : Type} (enc : α → List Value) {n : Nat} (hn : ∀ x, (enc x).length = n)
include hn
theorem enc_length (l : List α) : (l.flatMap enc).length = l.length * n := by
  induction l with
  | nil => simp
  | cons x l ih => rw [List.flatMap_cons, List.length_append, hn, ih, List.length_cons, Nat.add_mul, Nat.one_mul, Nat.add_comm]
theorem enc_drop (l : List α) (i : Nat) : (l.flatMap enc).drop (i * n) = (l.drop i).flatMap enc := by
  induction l generalizing i with
  | nil => simp
  | cons x l ih =>
    cases i with
    | zero => simp
    | succ i =>
      rw [List.flatMap_cons, Nat.add_mul, Nat.one_mul, Nat.add_comm, ← List.drop_drop, List.drop_left' (hn x), ih, List.drop_succ_cons]
theorem enc_take (l : List α) (i : Nat) : (l.flatMap enc).take (i * n) = (l.take i).flatMap enc := by
  induction l generalizing i with
  | nil => simp
  | cons x l ih =>
    cases i with
    | zero => simp
    | succ i =>
      rw [List.flatMap_cons, Nat.add_mul, Nat.one_mul, Nat.add_comm (i * n), List.take_append, hn, Nat.add_sub_cancel_left, ih, List.take_succ_cons, List.flatMap_cons, List.take_of_length_le (by rw [hn]; omega)]
/-- One element. -/
theorem enc_get (l : List α) (i : Nat) (h : i < l.length) : ((l.flatMap enc).drop (i * n)).take n = enc l[i] := by
  rw [enc_drop enc hn, List.drop_eq_getElem_cons h, List.flatMap_cons]
  exact List.take_left' (hn _)
/-- An element is written. -/
theorem enc_set (l : List α) (i : Nat) (x : α) (h : i < l.length) : (l.flatMap enc).take (i * n) ++ enc x ++ (l.flatMap enc).drop (i * n + n) = (l.set i x).flatMap enc := by
  have h1 : i * n + n = (i + 1) * n := by rw [Nat.add_mul, Nat.one_mul]
  rw [h1, enc_take enc hn, enc_drop enc hn, List.set_eq_take_append_cons_drop, if_pos h, List.flatMap_append, List.flatMap_cons, List.append_assoc]
end
end Go.Sm
/- Slices with a capacity that is known (does not build yet). -/
set_option linter.unusedVariables false
set_option linter.unusedSimpArgs false
namespace Go.Sm
open Go

/-! ### s[l:h:m], and slices whose capacity is known -/
section
variable {P : Program} {σ : CSt}
def slice3O : Option (TypeId × TF) → Option CObj → Nat → Nat → Nat → Option Nat → Option Nat → Option Nat → Option Value
  | some (e, f), some (.cells c e' _), i, off, len, some l, some h, some m =>
    if e' = e ∧ 0 < f.size ∧ l ≤ h ∧ h ≤ m ∧ (m ≤ len ∨ off + m * f.size ≤ c.length) ∧ m < openCap then some (.slice (some ⟨i, if m = l then off else off + l * f.size, none⟩) (h - l) (m - l)) else none
  | _, _, _, _, _, _, _, _ => none
theorem sliceOp_open3 {t : TypeId} (he : (elemF P t).isSome = true) (i off len : Nat) (lo : Option Value) (hi mx : Value) :
    sliceOp P σ t (.slice (some ⟨i, off, none⟩) len openCap) lo (some hi) (some mx) = slice3O (elemF P t) (σ.get i) i off len (bound? 0 lo) (bound? len (some hi)) (bound? 0 (some mx)) := by
  obtain ⟨⟨e, f⟩, hf⟩ := Option.isSome_iff_exists.1 he
  obtain ⟨inf, h1, h2, h3, h4⟩ := elemOf_some hf
  rw [hf]
  simp only [sliceOp, h1, if_true, CSt.cells]
  generalize σ.get i = o
  generalize bound? len (some hi) = bh
  cases o with
  | none => rfl
  | some o =>
    cases o with
    | cells c e' ro =>
      simp only [h2]
      by_cases hc : e' = e ∧ 0 < f.size
      · rw [if_pos hc]
        cases bound? 0 lo with
        | none => cases bh <;> cases hbm : bound? 0 (some mx) <;> rfl
        | some l =>
          cases bh with
          | none => cases hbm : bound? 0 (some mx) <;> rfl
          | some h =>
            cases hbm : bound? 0 (some mx) with
            | none => simp only [hbm]; rfl
            | some m => simp only [hbm, slice3O, hc, true_and, Option.isSome_some]
      · rw [if_neg hc]
        cases bound? 0 lo with
        | none => cases bh <;> cases hbm : bound? 0 (some mx) <;> rfl
        | some l =>
          cases bh with
          | none => cases hbm : bound? 0 (some mx) <;> rfl
          | some h =>
            cases hbm : bound? 0 (some mx) with
            | none => rfl
            | some m => simp only [slice3O]; rw [if_neg (fun hh => hc ⟨hh.1, hh.2.1⟩)]
    | _ => rfl
def sliceC : Option (TypeId × TF) → Nat → Nat → Bool → Option Nat → Option Nat → Option Nat → Option Value
  | some (_, f), i, off, ok, some l, some h, some m => if l ≤ h ∧ h ≤ m ∧ ok = true ∧ m < openCap then some (.slice (some ⟨i, if m = l then off else off + l * f.size, none⟩) (h - l) (m - l)) else none
  | _, _, _, _, _, _, _ => none
theorem sliceOp_cap {t : TypeId} (he : (elemF P t).isSome = true) (i off len cap : Nat) (hc : cap ≠ openCap) (lo hi : Option Value) :
    sliceOp P σ t (.slice (some ⟨i, off, none⟩) len cap) lo hi none = sliceC (elemF P t) i off true (bound? 0 lo) (bound? len hi) (some cap) := by
  obtain ⟨⟨e, f⟩, hf⟩ := Option.isSome_iff_exists.1 he
  obtain ⟨inf, h1, h2, h3, h4⟩ := elemOf_some hf
  rw [hf]
  have hb : bound? cap none = some cap := rfl
  simp only [sliceOp, h1, if_neg hc, h2, hb]
  generalize bound? len hi = bh
  cases bound? 0 lo with
  | none => cases bh <;> rfl
  | some l =>
    cases bh with
    | none => rfl
    | some h => simp [sliceC]

variable {ev : Operand → Value} {dst : Option Tmp} {ty : TypeId} {pos : String} {after : Array Edge} {g : Option (Nat × Bool)}
@[simp] theorem copE_bs0 (t : TypeId) (h : (elemF P t).isSome = true) : cop P σ ev ⟨dst, .buildSlice t 0 #[], ty, pos, after, g⟩ = .val (.slice (some ⟨σ.n, 0, none⟩) 0 0) (σ.alloc (.cells [] (((elemF P t).map (·.1)).getD 0) false)) := by
  obtain ⟨⟨e, f⟩, hf⟩ := Option.isSome_iff_exists.1 h
  obtain ⟨inf, h1, h2, h3, h4⟩ := elemOf_some hf
  rw [hf]
  simp [cop, buildSliceOp, h1, Instr.fill, OpR.ofP]
end
end Go.Sm
/- slices.overlaps of two rows; slices.Insert as one step: what its code leaves, with the rest forgotten. -/
set_option linter.unusedVariables false
set_option linter.unusedSimpArgs false
namespace Go.Sm
open Go

/-! ### slices.overlaps -/
def apartX (e : TypeId) (args : Array Value) (σ : CSt) : Option Value :=
  match args with
  | ⟨[.slice (some ⟨i, _, none⟩) _ _, .slice (some ⟨j, _, none⟩) _ _]⟩ =>
    if i ≠ j then
      match σ.get i, σ.get j with
      | some (.cells _ e' false), some (.cells (_ :: _) _ false) => if e' = e then some (.bool false) else none
      | _, _ => none
    else none
  | _ => none

section
variable {P : Program} {w : World} {tS tR e : TypeId} {size : Nat}
theorem overlaps_zero (ht : P.underlying tS = some (.slice e)) (hz : ∀ w, (Go.sizeOf e).run P w = .ok size w) (a b : Addr) (la ca lb cb : Nat) (h : la = 0 ∨ lb = 0) :
    (Extern.SlicesOverlaps.overlaps #[tS, tS] #[tR] #[.slice (some a) la ca, .slice (some b) lb cb]).run P w = .ok (.bool false) w := by
  change Sem.run P (α := Value) (do
    let some t := (#[tS, tS] : Array TypeId)[0]? | stuck "slices.overlaps: no parameter types"
    let .slice elem ← underlying t | stuck "slices.overlaps: slice type expected"
    let size ← sizeOf elem
    match (some a : Option Addr), (some b : Option Addr) with
    | some a, some b =>
      if la = 0 ∨ lb = 0 ∨ size = 0 then pure (Value.bool false)
      else if a.block != b.block && (← frozen a) && (← frozen b) then unsupported .addressObserved
      else do
        if a.block != b.block then do
          noView a; noView b
          if ← mayBeOne a b then return Value.bool ((← choose (.extern "sameAddr.stringBytes" 2)) == 1)
        pure (Value.bool (a.block == b.block && a.off < b.off + lb * size && b.off < a.off + la * size))
    | _, _ => pure (Value.bool false)) w = _
  have h0 : la = 0 ∨ lb = 0 ∨ size = 0 := by rcases h with h | h <;> simp [h]
  simp [run_underlying ht, hz, h0]

theorem VR.sliceForm {ρ : Rho} {i off n c : Nat} {v : Value} (h : VR ρ (.slice (some ⟨i, off, none⟩) n c) v) :
    (∃ p c', ρ i = some p ∧ v = .slice (some ⟨p.b, p.o + off, none⟩) n c') ∨ (n = 0 ∧ ∃ a, v = .slice (some a) 0 0) := by
  cases h with
  | plain v hf => simp [flat0] at hf
  | slc _ _ _ _ p hp hc => exact .inl ⟨p, _, hp, rfl⟩
  | slo _ _ _ _ p hp _ _ _ => exact .inl ⟨p, _, hp, rfl⟩
  | sle _ _ a p hp _ => exact .inr ⟨rfl, a, rfl⟩
  | slz _ _ a p hp => exact .inr ⟨rfl, a, rfl⟩

theorem apart_ok {f : FuncId} {fn : Func} (hf : P.funcs[f]? = some fn) (hname : (fn.name == "runtime.NumGoroutine") = false) (hb : fn.body.isNone = true) (hn : Extern.findNext fn = none)
    (he : Extern.find fn = some (Extern.SlicesOverlaps.overlaps #[tS, tS] #[tR])) (ht : P.underlying tS = some (.slice e)) (hz : ∀ w, (Go.sizeOf e).run P w = .ok size w) (hu : P.underlying e ≠ some (.int .u8))
    {args : Array Value} {σ : CSt} {v : Value} (h : apartX e args σ = some v) {ρ : Rho} {args' : Array Value} (hR : R P ρ σ w) (ha : AsR ρ args args') :
    ∃ v' w', Sw w w' ∧ (callFunc f args').run P w = .ok (.value v') w' ∧ VR ρ v v' := by
  unfold apartX at h
  split at h
  · rename_i i oi ni ci j oj nj cj
    split at h
    · rename_i hne
      split at h
      · rename_i ca ea x cb eb hgi hgj
        split at h
        · rename_i hee
          subst hee
          cases h
          have hl := ha.toList
          obtain ⟨x, y, rfl, hx, hy⟩ : ∃ x y, args' = #[x, y] ∧ VR ρ (.slice (some ⟨i, oi, none⟩) ni ci) x ∧ VR ρ (.slice (some ⟨j, oj, none⟩) nj cj) y := by
            have h1 := hl.1
            match hy : args'.toList, h1 with
            | [x, y], _ =>
              rw [hy] at hl
              exact ⟨x, y, by rw [← Array.toArray_toList (xs := args'), hy], hl.head, hl.tail.head⟩
          obtain ⟨p, hp, hop⟩ := hR.live_of_get hgi (by simp)
          obtain ⟨q, hq, hoq⟩ := hR.live_of_get hgj (by simp)
          have hpq : p.b ≠ q.b := hR.inj i j p q hne hp hq ⟨_, hgi, rfl, by simp⟩ ⟨_, hgj, by simp⟩
          have key : (Extern.SlicesOverlaps.overlaps #[tS, tS] #[tR] #[x, y]).run P w = .ok (.bool false) w := by
            rcases hx.sliceForm with ⟨p1, c1, h1, rfl⟩ | ⟨rfl, a1, rfl⟩
            · rcases hy.sliceForm with ⟨q1, c2, h2, rfl⟩ | ⟨rfl, a2, rfl⟩
              · rw [hp] at h1; cases h1
                rw [hq] at h2; cases h2
                obtain ⟨z1, cc, fz, g1, g2, g3, g4, g5⟩ := hop
                obtain ⟨z2, cc2, fz2, k1, k2, k3, k4, k5⟩ := hoq
                have hfz : fz.1 = fz.2 := by
                  rcases g5 with g | g
                  · exact g
                  · exact absurd g.2 hu
                refine Lib.run_overlaps_apart w tS tR _ ht size hz _ _ _ _ _ _ hpq ea eb cc.size cc2.size (by simp [World.shape?, g1]) (by simp [World.shape?, k1]) ?_ ?_ ?_
                · simp at k3; omega
                · simp only [World.frozen?, g1, Bool.and_eq_false_iff, decide_eq_false_iff_not]; omega
                · simp only [World.frozen?, g1, Bool.and_eq_false_iff, decide_eq_false_iff_not]; omega
              · exact overlaps_zero ht hz _ _ _ _ _ _ (.inr rfl)
            · rcases hy.sliceForm with ⟨q1, c2, h2, rfl⟩ | ⟨rfl, a2, rfl⟩
              · exact overlaps_zero ht hz _ _ _ _ _ _ (.inl rfl)
              · exact overlaps_zero ht hz _ _ _ _ _ _ (.inl rfl)
          refine ⟨.bool false, w, Sw.refl w, ?_, .plain _ rfl⟩
          rw [run_callFunc_extern hf hname hb hn he, key]
          rfl
        · cases h
      · cases h
    · cases h
  · cases h
end

/-! ### Objects are forgotten -/
theorem VR.back {ρ ρ' : Rho} (hr : ρ.le ρ') {v u : Value} (h : VR ρ v u) : ∀ {v' : Value}, VR ρ' v v' → VR ρ v v' := by
  have same : ∀ {i : Nat} {p q : Place}, ρ i = some p → ρ' i = some q → q = p := fun h1 h2 => by rw [hr _ _ h1] at h2; exact (Option.some.inj h2).symm
  induction h with
  | junk v => intro v' h'; exact .junk v'
  | nope => intro v' h'; cases h' with
    | nope => exact .nope
    | plain v hf => simp [flat0] at hf
  | plain v hf => intro v' h'; have := h'.flat_eq hf; subst this; exact .plain _ hf
  | ptr i off p hp => intro v' h'; cases h' with
    | plain v hf => simp [flat0] at hf
    | ptr _ _ q hq => have := same hp hq; subst this; exact .ptr i off _ hp
  | slc i off n c p hp hc => intro v' h'; cases h' with
    | plain v hf => simp [flat0] at hf
    | slc _ _ _ _ q hq _ => have := same hp hq; subst this; exact .slc i off n c _ hp hc
    | slo => exact absurd rfl hc
    | sle => exact absurd rfl hc
    | slz _ _ a q hq => have := same hp hq; subst this; exact .slz i off a _ hp
  | slo i off n c p hp hn hc hb => intro v' h'; cases h' with
    | plain v hf => simp [flat0] at hf
    | slc _ _ _ _ q hq hcc => exact absurd rfl hcc
    | slo _ _ _ c2 q hq h1 h2 h3 => have := same hp hq; subst this; exact .slo i off n c2 _ hp h1 h2 h3
    | sle _ _ a q hq h1 => have := same hp hq; subst this; exact .sle i off a _ hp h1
  | sle i off a p hp he => intro v' h'; cases h' with
    | plain v hf => simp [flat0] at hf
    | slc _ _ _ _ q hq hcc => exact absurd rfl hcc
    | slo _ _ _ c2 q hq h1 h2 h3 => have := same hp hq; subst this; exact .slo i off 0 c2 _ hp h1 h2 h3
    | sle _ _ a q hq h1 => have := same hp hq; subst this; exact .sle i off a _ hp h1
  | slz i off a p hp => intro v' h'; cases h' with
    | plain v hf => simp [flat0] at hf
    | slc _ _ _ _ q hq hcc => have := same hp hq; subst this; exact .slc i off 0 0 _ hp hcc
    | slz _ _ a q hq => have := same hp hq; subst this; exact .slz i off a _ hp
  | map i p hp => intro v' h'; cases h' with
    | plain v hf => simp [flat0] at hf
    | map _ q hq => have := same hp hq; subst this; exact .map i _ hp
  | func f g as0 bs cs ds hf h1 h2 h3 h4 i2 i4 => intro v' h'; cases h' with
    | plain v hf => simp [flat0] at hf
    | func _ g2 _ bs2 _ ds2 hf2 k1 k2 k3 k4 =>
      refine .func f g2 as0 bs2 cs ds2 ?_ k1 (fun i u v => i2 i u (by omega) (k2 i u v)) k3 (fun i u v => i4 i u (by omega) (k4 i u v))
      cases hf with
      | same f h => cases hf2 with
        | same _ h' => exact .same _ h
        | yield l p hp => exact absurd rfl (h l)
      | yield l p hp => cases hf2 with
        | same _ h' => exact absurd rfl (h' l)
        | yield _ q hq => have := same hp hq; subst this; exact .yield l _ hp
  | iface t v w h ih => intro v' h'; cases h' with
    | plain v hf => simp [flat0] at hf
    | iface _ _ w2 h2 => exact .iface t v w2 (ih h2)
  | agg as0 bs h1 h2 ih => intro v' h'; cases h' with
    | plain v hf => simp [flat0] at hf
    | agg _ bs2 k1 k2 => exact .agg as0 bs2 k1 fun i u v => ih i u (by omega) (k2 i u v)
  | tuple as0 bs h1 h2 ih => intro v' h'; cases h' with
    | junk => exact .junk _
    | plain v hf => simp [flat0] at hf
    | tuple _ bs2 k1 k2 => exact .tuple as0 bs2 k1 fun i u v => ih i u (by omega) (k2 i u v)

theorem OR.back {P : Program} {ρ ρ' : Rho} (hr : ρ.le ρ') {p : Place} {w w' : World} {o : CObj} (h : OR P ρ p w o) (h' : OR P ρ' p w' o) : OR P ρ p w' o := by
  cases o with
  | cells c e ro =>
    cases ro with
    | true =>
      refine ⟨h'.1, fun k u => ?_⟩
      obtain ⟨_, _, g⟩ := h.2 k u
      obtain ⟨v', g1, g2⟩ := h'.2 k u
      exact ⟨v', g1, g.back hr g2⟩
    | false =>
      obtain ⟨z, cc, fz, h1, h2, h3, h4, h5⟩ := h'
      obtain ⟨_, _, _, _, _, _, k4, _⟩ := h
      refine ⟨z, cc, fz, h1, h2, h3, fun k u => ?_, h5⟩
      obtain ⟨_, _, g⟩ := k4 k u
      obtain ⟨v', g1, g2⟩ := h4 k u
      exact ⟨v', g1, g.back hr g2⟩
  | map es n =>
    obtain ⟨es', h1, h2, h3⟩ := h'
    obtain ⟨es0, _, k2, k3⟩ := h
    refine ⟨es', h1, h2, fun i u v => ?_⟩
    obtain ⟨a, b, c, d⟩ := h3 i u v
    exact ⟨a, b, c, (k3 i u (by omega)).val.back hr d⟩
  | siter s n => exact h'
  | miter m since seen stp =>
    obtain ⟨h1, m', h2, h3⟩ := h'
    obtain ⟨_, m0, _, k3⟩ := h
    refine ⟨h1, m', h2, ?_⟩
    cases m with
    | none => exact h3
    | some i =>
      obtain ⟨q, hq, rfl⟩ := h3
      obtain ⟨q0, hq0, _⟩ := k3
      have := hr _ _ hq0
      rw [hq] at this
      cases this
      exact ⟨q, hq0, rfl⟩
  | loop st pend fn tm sz ps asg body =>
    obtain ⟨r, h1, h2, h3, h4, h5, h6, h7, h8⟩ := h'
    obtain ⟨r0, _, _, _, _, _, _, _, k8⟩ := h
    refine ⟨r, h1, h2, h3, h4, h5, h6, h7, h8.1, fun i => (k8.2 i).back hr (h8.2 i)⟩
  | dead => trivial

/-- What was made behind a state is forgotten, but for one row that has a new number; one object that was there is struck. -/
theorem R.forget {P : Program} {ρ ρ' : Rho} {σ σ' : CSt} {w w' : World} (h : R P ρ σ w) (h' : R P ρ' σ' w') (hr : ρ.le ρ') {k : Option Nat} (hk : ∀ i, k = some i → i < σ.n) (hold : ∀ y, y < σ.n → k ≠ some y → σ'.get y = σ.get y)
    {x : Nat} {p : Place} {c want : List Value} {e : TypeId} (hx : σ'.get x = some (.cells c e false)) (hp : ρ' x = some p) (hxk : x < σ.n → k = some x) (hw : want = c.take want.length) (hv : ∀ v ∈ want, ∃ u, VR ρ v u) :
    let σf := (match k with | some i => σ.put i .dead | none => σ).alloc (.cells want e false)
    let ρf : Rho := fun y => if y = σ.n then some p else if y < σ.n then ρ y else none
    R P ρf σf w' ∧ ρ.le ρf := by
  intro σf ρf
  have hgn := h.gn
  have hle : ρ.le ρf := fun y r hy => by
    have : y < σ.n := by
      by_cases hl : y < σ.n
      · exact hl
      · rw [h.dom y (by omega)] at hy; cases hy
    simp only [ρf]
    rw [if_neg (by omega), if_pos this]
    exact hy
  have hn : (match k with | some i => σ.put i .dead | none => σ).n = σ.n := by cases k <;> rfl
  have hget : ∀ y, y ≠ σ.n → σf.get y = if k = some y then some .dead else σ.get y := fun y hy => by
    simp only [σf]
    rw [CSt.get_alloc, hn, if_neg hy]
    cases k with
    | none => simp
    | some i =>
      rw [CSt.get_put]
      by_cases e : y = i
      · simp [e]
      · rw [if_neg e, if_neg (by intro h; cases h; exact e rfl)]
  have hself : σf.get σ.n = some (.cells want e false) := by simp only [σf]; rw [CSt.get_alloc, hn, if_pos rfl]
  have hlive : ∀ y, y ≠ σ.n → live σf y → live σ y ∧ k ≠ some y ∧ y < σ.n := fun y hy hl => by
    obtain ⟨o, ho, hd⟩ := hl
    rw [hget y hy] at ho
    by_cases e : k = some y
    · rw [if_pos e] at ho; cases ho; exact absurd rfl hd
    · rw [if_neg e] at ho
      refine ⟨⟨o, ho, hd⟩, e, ?_⟩
      obtain ⟨r, hr⟩ := h.tot y ⟨o, ho, hd⟩
      by_cases hl : y < σ.n
      · exact hl
      · rw [h.dom y (by omega)] at hr; cases hr
  have hlive' : ∀ y, y ≠ σ.n → live σf y → live σ' y := fun y hy hl => by
    obtain ⟨⟨o, ho, hd⟩, hk, hlt⟩ := hlive y hy hl
    exact ⟨o, by rw [hold y hlt hk]; exact ho, hd⟩
  have hrw : ∀ y, y ≠ σ.n → rw_ σf y → rw_ σ' y := fun y hy hl => by
    have h1 := hlive y hy (live_of_rw hl)
    obtain ⟨o, ho, hro, hd⟩ := hl
    rw [hget y hy, if_neg h1.2.1] at ho
    exact ⟨o, by rw [hold y h1.2.2 h1.2.1]; exact ho, hro, hd⟩
  have hρn : ρf σ.n = some p := if_pos rfl
  have hrx : rw_ σ' x := ⟨_, hx, rfl, by simp⟩
  have hρ : ∀ y r, y ≠ σ.n → ρf y = some r → ρ y = some r ∧ ρ' y = some r := fun y r hy hr' => by
    simp only [ρf] at hr'
    rw [if_neg hy] at hr'
    split at hr'
    · exact ⟨hr', hr _ _ hr'⟩
    · cases hr'
  have hnx : ∀ y, y ≠ σ.n → live σf y → y ≠ x := fun y hy hl e => by
    subst e
    have h1 := hlive y hy hl
    exact h1.2.1 (hxk h1.2.2)
  refine ⟨⟨fun y hy => ?_, fun y hy => ?_, fun y r hy hl => ?_, fun y o r ho hy => ?_, fun a b r s hne ha hb hra hlb => ?_, fun g hg => ?_, ?_⟩, hle⟩
  · have : σ.n + 1 ≤ y := by simpa [σf, hn] using hy
    simp only [ρf]
    rw [if_neg (by omega), if_neg (by omega)]
  · by_cases e : y = σ.n
    · exact ⟨_, by simp only [ρf]; rw [if_pos e]⟩
    · obtain ⟨h1, h2, h3⟩ := hlive y e hy
      obtain ⟨r, h4⟩ := h.tot y h1
      exact ⟨r, hle _ _ h4⟩
  · by_cases e : y = σ.n
    · subst e
      rw [hρn] at hy
      cases hy
      exact h'.lt x p hp (live_of_rw hrx)
    · exact h'.lt y r (hρ y r e hy).2 (hlive' y e hl)
  · by_cases e : y = σ.n
    · subst e
      rw [hself] at ho
      cases ho
      rw [hρn] at hy
      cases hy
      obtain ⟨z, cc, fz, h1, h2, h3, h4, h5⟩ := h'.obj x _ p hx hp
      have hlen : want.length ≤ c.length := by rw [hw]; simp; omega
      refine ⟨z, cc, fz, h1, h2, by omega, fun j u => ?_, h5⟩
      obtain ⟨v', g1, g2⟩ := h4 j (by omega)
      have hwj : want[j] = c[j] := by
        have : want[j]? = (c.take want.length)[j]? := by rw [← hw]
        rw [List.getElem?_take, if_pos u, List.getElem?_eq_getElem u, List.getElem?_eq_getElem (by omega)] at this
        exact Option.some.inj this
      obtain ⟨u0, hu0⟩ := hv want[j] (List.getElem_mem u)
      rw [← hwj] at g2
      exact ⟨v', g1, (hu0.back hr g2).mono hle⟩
    · by_cases hd : o = .dead
      · subst hd; trivial
      · obtain ⟨h1, h2, h3⟩ := hlive y e ⟨o, ho, hd⟩
        have h4 := hρ y r e hy
        rw [hget y e, if_neg h2] at ho
        have := (h.obj y o r ho h4.1).back hr (h'.obj y o r (by rw [hold y h3 h2]; exact ho) h4.2)
        exact this.mono hle
  · by_cases ea : a = σ.n
    · subst ea
      have eb : b ≠ σ.n := fun e => hne e.symm
      rw [hρn] at ha
      cases ha
      exact h'.inj x b p s (Ne.symm (hnx b eb hlb)) hp (hρ b s eb hb).2 hrx (hlive' b eb hlb)
    · by_cases eb : b = σ.n
      · subst eb
        rw [hρn] at hb
        cases hb
        exact h'.inj a x r p (hnx a ea (live_of_rw hra)) (hρ a r ea ha).2 hp (hrw a ea hra) (live_of_rw hrx)
      · exact h'.inj a b r s hne (hρ a r ea ha).2 (hρ b s eb hb).2 (hrw a ea hra) (hlive' b eb hlb)
  · obtain ⟨r, h1, h2⟩ := h.glob g hg
    exact ⟨r, hle _ _ h1, h2⟩
  · simp [σf, hn]; omega
end Go.Sm
/- slices.Insert of one element as one step. -/
set_option linter.unusedVariables false
set_option linter.unusedSimpArgs false
namespace Go.Sm
open Go

def insRow (sz a n : Nat) (row new : List Value) : List Value := row.take (a * sz) ++ new ++ (row.take (n * sz)).drop (a * sz)
def insG (e sz bytes : Nat) (args : Array Value) (σ : CSt) : Option (Value × CSt) :=
  match args with
  | ⟨[s, .int .i64 a, .slice (some ⟨j, 0, none⟩) 1 1]⟩ =>
    match σ.get j with
    | some (.cells new e1 false) =>
      if e1 = e ∧ new.length = sz ∧ new.all cellv = true ∧ 0 ≤ a ∧ bytes ≤ 2 ^ 47 then
        match s with
        | .slice none 0 0 => if a = 0 then some (.slice (some ⟨σ.n, 0, none⟩) 1 openCap, σ.alloc (.cells new e false)) else none
        | .slice (some ⟨i, 0, none⟩) n c =>
          match σ.get i with
          | some (.cells row e2 false) =>
            if e2 = e ∧ i ≠ j ∧ n * sz ≤ row.length ∧ (row.take (n * sz)).all cellv = true ∧ a ≤ n ∧ (n + 1) * bytes ≤ 2 ^ 47 ∧ n < 2 ^ 40 then
              if c = openCap then some (.slice (some ⟨σ.n, 0, none⟩) (n + 1) openCap, (σ.put i .dead).alloc (.cells (insRow sz a.toNat n row new) e false))
              else if n = 0 ∧ c = 0 then some (.slice (some ⟨σ.n, 0, none⟩) 1 openCap, σ.alloc (.cells new e false)) else none
            else none
          | _ => none
        | _ => none
      else none
    | _ => none
  | _ => none

theorem insG_nil {e sz bytes j : Nat} {σ : CSt} {new : List Value} (hj : σ.get j = some (.cells new e false)) (hl : new.length = sz) (hc : new.all cellv = true) (hb : bytes ≤ 2 ^ 47) :
    insG e sz bytes #[.slice none 0 0, .int .i64 0, .slice (some ⟨j, 0, none⟩) 1 1] σ = some (.slice (some ⟨σ.n, 0, none⟩) 1 openCap, σ.alloc (.cells new e false)) := by
  have hcc : e = e ∧ new.length = sz ∧ new.all cellv = true ∧ (0 : Int) ≤ 0 ∧ bytes ≤ 2 ^ 47 := ⟨rfl, hl, hc, by omega, hb⟩
  show (match σ.get j with | some (.cells new e1 false) => if e1 = e ∧ new.length = sz ∧ new.all cellv = true ∧ (0 : Int) ≤ 0 ∧ bytes ≤ 2 ^ 47 then (if (0 : Int) = 0 then some (Value.slice (some ⟨σ.n, 0, none⟩) 1 openCap, σ.alloc (.cells new e false)) else none) else none | _ => none) = _
  rw [hj]
  show (if _ then _ else _) = _
  rw [if_pos hcc, if_pos rfl]
theorem insG_some {e sz bytes i j n c : Nat} {a : Int} {σ : CSt} {row new : List Value} (hi : σ.get i = some (.cells row e false)) (hj : σ.get j = some (.cells new e false)) (hl : new.length = sz) (hc : new.all cellv = true) (hb : bytes ≤ 2 ^ 47)
    (ha : 0 ≤ a) (h1 : i ≠ j) (h2 : n * sz ≤ row.length) (h3 : (row.take (n * sz)).all cellv = true) (h4 : a ≤ n) (h5 : (n + 1) * bytes ≤ 2 ^ 47) (h6 : n < 2 ^ 40) :
    insG e sz bytes #[.slice (some ⟨i, 0, none⟩) n c, .int .i64 a, .slice (some ⟨j, 0, none⟩) 1 1] σ =
      if c = openCap then some (.slice (some ⟨σ.n, 0, none⟩) (n + 1) openCap, (σ.put i .dead).alloc (.cells (insRow sz a.toNat n row new) e false))
      else if n = 0 ∧ c = 0 then some (.slice (some ⟨σ.n, 0, none⟩) 1 openCap, σ.alloc (.cells new e false)) else none := by
  have hcc : e = e ∧ new.length = sz ∧ new.all cellv = true ∧ 0 ≤ a ∧ bytes ≤ 2 ^ 47 := ⟨rfl, hl, hc, ha, hb⟩
  have hcd : e = e ∧ i ≠ j ∧ n * sz ≤ row.length ∧ (row.take (n * sz)).all cellv = true ∧ a ≤ n ∧ (n + 1) * bytes ≤ 2 ^ 47 ∧ n < 2 ^ 40 := ⟨rfl, h1, h2, h3, h4, h5, h6⟩
  show (match σ.get j with | some (.cells new e1 false) => if e1 = e ∧ new.length = sz ∧ new.all cellv = true ∧ 0 ≤ a ∧ bytes ≤ 2 ^ 47 then (match σ.get i with
          | some (.cells row e2 false) =>
            if e2 = e ∧ i ≠ j ∧ n * sz ≤ row.length ∧ (row.take (n * sz)).all cellv = true ∧ a ≤ n ∧ (n + 1) * bytes ≤ 2 ^ 47 ∧ n < 2 ^ 40 then
              if c = openCap then some (Value.slice (some ⟨σ.n, 0, none⟩) (n + 1) openCap, (σ.put i .dead).alloc (.cells (insRow sz a.toNat n row new) e false))
              else if n = 0 ∧ c = 0 then some (Value.slice (some ⟨σ.n, 0, none⟩) 1 openCap, σ.alloc (.cells new e false)) else none
            else none
          | _ => none) else none | _ => none) = _
  rw [hj]
  show (if _ then _ else _) = _
  rw [if_pos hcc, hi]
  show (if _ then _ else _) = _
  rw [if_pos hcd]
/-- What its code leaves. -/
def InsPost (σ : CSt) (k : Option Nat) (cap : Nat) (e : TypeId) (want : List Value) (n1 : Nat) (o : Out) (σ' : CSt) : Prop :=
  ∃ x c kk, o = .ret (.slice (some ⟨x, 0, none⟩) n1 kk) false ∧ σ'.get x = some (.cells c e false) ∧ want = c.take want.length ∧ ((σ.n ≤ x ∧ kk = openCap) ∨ (k = some x ∧ kk = cap ∧ n1 ≤ cap)) ∧
    ∀ y, y < σ.n → k ≠ some y → σ'.get y = σ.get y
def insEnd (σ : CSt) (k : Option Nat) (o : CObj) : CSt := (match k with | some i => σ.put i .dead | none => σ).alloc o

theorem ins_fin {P : Program} {f : FuncId} {cs : List Frame} {ρ : Rho} {σ σ2 : CSt} {w : World} (hR : R P ρ σ w) (hn : σ2.n = σ.n) {k : Option Nat} (hk : ∀ i, k = some i → i < σ.n) (hs : ∀ y, k ≠ some y → σ2.get y = σ.get y)
    (hrw : ∀ y, rw_ σ2 y → rw_ σ y) {m : Machine} {want : List Value} {e : TypeId} {n1 cap : Nat} (hn1 : 0 < n1) (hv : ∀ v ∈ want, ∃ u, VR ρ v u) (hcap : ∀ i, k = some i → ∃ p, ρ i = some p ∧ cap * p.z = p.e ∧ cap < openCap)
    (h : FnOk w.heap.size P m f cs none ρ σ2 w (InsPost σ2 k cap e want n1)) {Q : Out → CSt → Prop} (hq : Q (.ret (.slice (some ⟨σ.n, 0, none⟩) n1 openCap) false) (insEnd σ k (.cells want e false))) : FnOk w.heap.size P m f cs none ρ σ w Q := by
  rcases h with ⟨v, tk, σ', ρ', w', v', fr, hp, hR', hF, hvr, h1, h2, h3, h4, h5, h6, h7⟩ | ⟨v, σ', ρ', w', v', fr, hp, _⟩
  · obtain ⟨x, c, kk, ho, hx, hw, hkk, hold⟩ := hp
    cases ho
    rw [hn] at hold hkk
    obtain ⟨p, hpx⟩ : ∃ p, ρ' x = some p := hR'.tot x ⟨_, hx, by simp⟩
    have hxk : x < σ.n → k = some x := fun hl => by
      rcases hkk with h | h
      · omega
      · exact h.1
    obtain ⟨r1, r2⟩ := hR.forget hR' hF.le hk (fun y hy hyk => by rw [hold y hy hyk, hs y hyk]) hx hpx hxk hw hv
    refine .inl ⟨_, false, _, _, w', v', fr, hq, r1, ?_, ?_, h1, fun _ => rfl, h3, h4, h5, h6, h7⟩
    · refine ⟨r2, hF.os, hF.tape, hF.output, hF.size, fun b hb hno => hF.keep b hb fun i p hi hri => hno i p hi (hrw i hri), fun y p0 hy hyr => ?_⟩
      by_cases e0 : y = σ.n
      · subst e0
        rw [if_pos rfl] at hy
        cases hy
        rcases hF.fresh x p hpx ⟨_, hx, rfl, by simp⟩ with h | ⟨j, q, a, b, c⟩
        · exact .inl h
        · exact .inr ⟨j, q, a, hrw j b, c⟩
      · rw [if_neg e0] at hy
        split at hy
        · refine .inr ⟨y, p0, hy, ?_, rfl⟩
          obtain ⟨o, ho, a, b⟩ := hyr
          have hn' : (match k with | some i => σ.put i .dead | none => σ).n = σ.n := by cases k <;> rfl
          unfold insEnd at ho
          rw [CSt.get_alloc, hn', if_neg e0] at ho
          cases k with
          | none => exact ⟨o, ho, a, b⟩
          | some i =>
            simp only [CSt.get_put] at ho
            split at ho
            · cases ho; exact absurd rfl b
            · exact ⟨o, ho, a, b⟩
        · cases hy
    · have hself : (fun y => if y = σ.n then some p else if y < σ.n then ρ y else none : Rho) σ.n = some p := if_pos rfl
      rcases hkk with ⟨hxn, rfl⟩ | ⟨hkx, rfl, hle⟩
      · cases hvr with
        | plain v hf => simp [flat0] at hf
        | slc _ _ _ _ q hq2 hcc => exact absurd rfl hcc
        | slo _ _ _ c2 q hq2 a b d => rw [hpx] at hq2; cases hq2; exact .slo _ _ _ _ _ hself a b d
        | sle => omega
      · obtain ⟨p2, hp2, hc1, hc2⟩ := hcap x hkx
        have := hF.le _ _ hp2
        rw [hpx] at this
        cases this
        cases hvr with
        | plain v hf => simp [flat0] at hf
        | slc _ _ _ _ q hq2 hcc => rw [hpx] at hq2; cases hq2; exact .slo _ _ _ _ _ hself hle (by omega) hc2
        | slo _ _ _ c2 q hq2 a b d => exact absurd hc2 (by omega)
        | sle => omega
        | slz => omega
  · obtain ⟨x, c, kk, ho, _⟩ := hp
    cases ho

/-- What the code is to leave: of a nil slice, of one without room, of one whose room is known. -/
structure InsW (E : Env) (f : FuncId) (e : TypeId) (sz bytes : Nat) : Prop where
  nil : ∀ (σ : CSt) (j : Nat) (new : List Value), j < σ.n → σ.get j = some (.cells new e false) → new.length = sz → new.all cellv = true → bytes ≤ 2 ^ 47 →
    W E (.fn f #[.slice none 0 0, .int .i64 0, .slice (some ⟨j, 0, none⟩) 1 1] none) σ (InsPost σ none 0 e new 1)
  zero : ∀ (σ : CSt) (i j : Nat) (row new : List Value), i < σ.n → j < σ.n → i ≠ j → σ.get i = some (.cells row e false) → σ.get j = some (.cells new e false) → new.length = sz → new.all cellv = true → bytes ≤ 2 ^ 47 →
    W E (.fn f #[.slice (some ⟨i, 0, none⟩) 0 0, .int .i64 0, .slice (some ⟨j, 0, none⟩) 1 1] none) σ (InsPost σ none 0 e new 1)
  some_ : ∀ (σ : CSt) (i j n a k : Nat) (row new : List Value), i < σ.n → j < σ.n → i ≠ j → σ.get i = some (.cells row e false) → σ.get j = some (.cells new e false) → new.length = sz → new.all cellv = true →
    n * sz ≤ row.length → k * sz ≤ row.length → (row.take (n * sz)).all cellv = true → a ≤ n → (n + 1) * bytes ≤ 2 ^ 47 → n < 2 ^ 40 → n ≤ k → k < openCap →
    W E (.fn f #[.slice (some ⟨i, 0, none⟩) n k, .int .i64 a, .slice (some ⟨j, 0, none⟩) 1 1] none) σ (InsPost σ (some i) k e (insRow sz a n row new) (n + 1))

theorem row_vals {P : Program} {ρ : Rho} {σ : CSt} {w : World} (hR : R P ρ σ w) {i : Nat} {row : List Value} {e : TypeId} (hg : σ.get i = some (.cells row e false)) : ∀ v ∈ row, ∃ u, VR ρ v u := by
  intro v hv
  obtain ⟨p, hp, hor⟩ := hR.live_of_get hg (by simp)
  obtain ⟨j, hj, rfl⟩ := List.mem_iff_getElem.1 hv
  obtain ⟨_, cc, fz, h1, h2, h3, h4, h5⟩ := hor
  obtain ⟨v', _, h⟩ := h4 j hj
  exact ⟨v', h⟩
theorem R.lt_of_get {P : Program} {ρ : Rho} {σ : CSt} {w : World} (hR : R P ρ σ w) {i : Nat} {o : CObj} (hg : σ.get i = some o) (hd : o ≠ .dead) : i < σ.n := by
  obtain ⟨p, hp, _⟩ := hR.live_of_get hg hd
  by_cases h : i < σ.n
  · exact h
  · rw [hR.dom i (by omega)] at hp; cases hp
theorem SimFn.of_R {P : Program} {f : FuncId} {args : Array Value} {σ : CSt} {Q : Out → CSt → Prop} (hb : ∃ fn, P.funcs[f]? = some fn ∧ fn.body.isSome = true) (h : ∀ (ρ : Rho) (w : World), R P ρ σ w → SimFn P f args none σ Q) : SimFn P f args none σ Q :=
  ⟨hb, fun ρ w args' cs hR => (h ρ w hR).2 ρ w args' cs hR⟩

theorem ins_gam {E : Env} (G : Good E.P) (HE : ExtOk E) (HG : GamOk E) {f : FuncId} {e : TypeId} {sz bytes : Nat} (hbody : ∃ fn, E.P.funcs[f]? = some fn ∧ fn.body.isSome = true) (hce : E.P.cellsOf e = sz) (hsz : 0 < sz) (H : InsW E f e sz bytes)
    {args : Array Value} {σ : CSt} {v : Value} {σ' : CSt} (h : insG e sz bytes args σ = some (v, σ')) {Q : Out → CSt → Prop} (hq : Q (.ret v false) σ') : SimFn E.P f args none σ Q := by
  unfold insG at h
  split at h
  · rename_i s a j
    split at h
    · rename_i new e1 hgj
      split at h
      · rename_i hc
        obtain ⟨rfl, hl, hcv, ha0, hby⟩ := hc
        refine SimFn.of_R hbody fun ρ0 w0 hR0 => ?_
        have hjn := hR0.lt_of_get hgj (by simp)
        split at h
        · split at h
          · rename_i ha
            subst ha
            cases h
            have hs := (H.nil σ j new hjn hgj hl hcv hby).sim G HE HG
            exact ⟨hbody, fun ρ w args' cs hR hA hd => ins_fin (k := none) hR rfl (by simp) (fun _ _ => rfl) (fun _ h => h) (by omega) (row_vals hR hgj) (by simp) (hs.2 ρ w args' cs hR hA hd) hq⟩
          · cases h
        · rename_i i n c
          split at h
          · rename_i row e2 hgi
            split at h
            · rename_i hc2
              obtain ⟨rfl, hij, hrl, hrc, han, hbn, hn40⟩ := hc2
              have hin := hR0.lt_of_get hgi (by simp)
              obtain ⟨a, rfl⟩ := Int.eq_ofNat_of_zero_le ha0
              have han' : a ≤ n := by omega
              split at h
              · rename_i ho
                subst ho
                cases h
                refine ⟨hbody, fun ρ w args' cs hR hA hd => ?_⟩
                obtain ⟨p, hp, hor⟩ := hR.live_of_get hgi (by simp)
                have hsz0 : 0 < args'.size := by rw [← hA.1]; simp
                have hv := hA.2 0 (by simp) hsz0
                generalize hx : args'[0] = x at hv
                have hvals : ∀ v ∈ insRow sz a n row new, ∃ u, VR ρ v u := by
                  intro v hv
                  simp only [insRow, List.mem_append] at hv
                  rcases hv with (h1 | h1) | h1
                  · exact row_vals hR hgi v (List.mem_of_mem_take h1)
                  · exact row_vals hR hgj v h1
                  · exact row_vals hR hgi v (List.mem_of_mem_take (List.mem_of_mem_drop h1))
                have go : ∀ k, n ≤ k → k < openCap → k * p.z = p.e → VR ρ (.slice (some ⟨i, 0, none⟩) n k) x → FnOk w.heap.size E.P (lone (Frame.enter E.P f args' (kindOf none)) cs w) f cs none ρ σ w Q := by
                  intro k h1 h2 h3 h4
                  have hb := hR.bare (off := 0) hgi hp (cc := k) (.inr (by omega))
                  rw [hce] at hb
                  have hbr : (bareRow row 0 sz k).take (n * sz) = row.take (n * sz) := by
                    unfold bareRow
                    split
                    · rfl
                    · rw [List.take_append_of_le_length hrl]
                  have hbr2 : (bareRow row 0 sz k).take (a * sz) = row.take (a * sz) := by
                    have hle : a * sz ≤ row.length := Nat.le_trans (Nat.mul_le_mul_right _ han') hrl
                    unfold bareRow
                    split
                    · rfl
                    · rw [List.take_append_of_le_length hle]
                  have hbl : n * sz ≤ (bareRow row 0 sz k).length ∧ k * sz ≤ (bareRow row 0 sz k).length := by
                    unfold bareRow
                    split
                    · rename_i h0; subst h0; simp; omega
                    · simp; omega
                  have hW := H.some_ (σ.put i (.cells (bareRow row 0 sz k) e2 false)) i j n a k (bareRow row 0 sz k) new hin hjn hij (by simp) (by rw [put_get, if_neg (Ne.symm hij)]; exact hgj) hl hcv hbl.1 hbl.2 (by rw [hbr]; exact hrc) han' hbn hn40 h1 h2
                  have hs := hW.sim G HE HG
                  have hA2 : AsR ρ #[.slice (some ⟨i, 0, none⟩) n k, .int .i64 a, .slice (some ⟨j, 0, none⟩) 1 1] args' := hA.put1 h4 hx
                  have hF := hs.2 ρ w args' cs hb.1 hA2 hd
                  have hrow : insRow sz a n (bareRow row 0 sz k) new = insRow sz a n row new := by simp only [insRow, hbr, hbr2]
                  rw [hrow] at hF
                  refine ins_fin (σ2 := σ.put i (.cells (bareRow row 0 sz k) e2 false)) (k := some i) (cap := k) hR rfl (fun y hy => by cases hy; exact hin) (fun y hy => by rw [CSt.get_put, if_neg (by intro e; exact hy (by rw [e]))]) (fun y hy => ?_) (by omega) hvals (fun y hy => by cases hy; exact ⟨p, hp, h3, h2⟩) hF hq
                  rw [rw_put] at hy
                  by_cases e : y = i
                  · subst e; exact ⟨_, hgi, rfl, by simp⟩
                  · rw [if_neg e] at hy; exact hy
                cases hv with
                | plain v hf => simp [flat0] at hf
                | slc _ _ _ _ q hq hcc => exact absurd rfl hcc
                | slo _ _ _ cc q hq hnn hcc hbb =>
                  rw [hp] at hq
                  cases hq
                  exact go cc hnn hbb (by omega) (.slc _ _ _ _ p hp (by omega))
                | sle _ _ ad q hq2 hee =>
                  rw [hp] at hq2
                  cases hq2
                  exact go 0 (Nat.le_refl _) (by simp [openCap]) (by omega) (.slz _ _ _ p hp)
              · split at h
                · rename_i h0
                  obtain ⟨rfl, rfl⟩ := h0
                  cases h
                  have ha : a = 0 := by omega
                  subst ha
                  have hs := (H.zero σ i j row new hin hjn hij hgi hgj hl hcv hby).sim G HE HG
                  exact ⟨hbody, fun ρ w args' cs hR hA hd => ins_fin (k := none) hR rfl (by simp) (fun _ _ => rfl) (fun _ h => h) (by omega) (row_vals hR hgj) (by simp) (hs.2 ρ w args' cs hR hA hd) hq⟩
                · cases h
            · cases h
          · cases h
        · cases h
      · cases h
    · cases h
  · cases h
end Go.Sm
/- Printed by wip/facts.py: what is asked of the program's types; the environments. -/
namespace Go.Sm
open Go Go.Proofs
set_option linter.unusedVariables false
def extE : FuncId → Array Value → CSt → Option Value
  | 75 => apartX 116
  | 95 => apartX 33
  | _ => fun _ _ => none
def gamI : FuncId → Option (Array Value → CSt → Option (Value × CSt))
  | 65 => some (insG 116 2 40)
  | 79 => some (insG 33 3 32)
  | _ => none
def gnone : CSt → Prop := fun σ => σ.get 1 = some (.cells [.int .u64 1, .int .u64 0] 0 true)
open Classical in
noncomputable def awakeG (args : Array Value) (σ : CSt) : Option (Value × CSt) := if args = #[] ∧ gnone σ then some (.bool true, σ) else none
/-- So many copies of a string. -/
def repS (s : ByteArray) (n : Nat) : ByteArray := ⟨((List.replicate n s.data.toList).flatten).toArray⟩
/-- strings.Repeat. -/
def repG (args : Array Value) (σ : CSt) : Option (Value × CSt) :=
  match args with
  | ⟨[.string s, .int .i64 c]⟩ => if 0 ≤ c ∧ c < 2 ^ 62 ∧ s.size * c.toNat ≤ 2 ^ 47 then some (.string (repS s c.toNat), σ) else none
  | _ => none
noncomputable def gamL : FuncId → Option (Array Value → CSt → Option (Value × CSt))
  | 65 => some (insG 116 2 40)
  | 79 => some (insG 33 3 32)
  | 12 => some awakeG
  | 27 => some awakeG
  | 67 => some repG
  | _ => none
/-- The code itself. -/
noncomputable def E0 : Env := ⟨Tryz.prog, fun _ => none, extE, fun _ => none⟩
/-- With slices.Insert as one step. -/
noncomputable def EV : Env := ⟨Tryz.prog, gamI, extE, fun _ => none⟩
/-- With the closed tests, too. -/
noncomputable def E1 : Env := ⟨Tryz.prog, gamL, extE, fun _ => none⟩
@[simp] theorem E0P : E0.P = Tryz.prog := rfl
@[simp] theorem E1P : E1.P = Tryz.prog := rfl
@[simp] theorem E0X : E0.ext = extE := rfl
@[simp] theorem E1X : E1.ext = extE := rfl
attribute [simp] extE
theorem extOf_none {E : Env} {g : FuncId} {fs cs args : Array Value} {σ : CSt} (h : E.ext g args σ = none) : extOf E (.func (.func g) fs cs) args σ = none := by
  unfold extOf
  split
  · rename_i g' he
    cases he
    exact h
  · rfl
@[simp] theorem extOf_fn {E : Env} {g : FuncId} {args : Array Value} {σ : CSt} : extOf E (.func (.func g) #[] #[]) args σ = E.ext g args σ := rfl
@[simp] theorem extOf_cl {E : Env} {g : FuncId} {fs : Array Value} {c : Value} {l : List Value} {args : Array Value} {σ : CSt} : extOf E (.func (.func g) fs ⟨c :: l⟩) args σ = none := by
  unfold extOf
  split
  · rename_i g' he
    cases he
  · rfl
@[simp] theorem extOf_mv {E : Env} {g : FuncId} {cs : Array Value} {c : Value} {l : List Value} {args : Array Value} {σ : CSt} : extOf E (.func (.func g) ⟨c :: l⟩ cs) args σ = none := by
  unfold extOf
  split
  · rename_i g' he
    cases he
  · rfl

@[simp] theorem un0 : (Tryz.prog.underlying 0).isSome = true := by kernel_rfl
@[simp] theorem tf1 : tf Tryz.prog 1 = some ⟨1, 8, (some [.nilFunc]), false, true⟩ := by kernel_rfl
@[simp] theorem un1 : (Tryz.prog.underlying 1).isSome = true := by kernel_rfl
@[simp] theorem tf2 : tf Tryz.prog 2 = some ⟨1, 8, (some [.int .i64 0]), false, true⟩ := by kernel_rfl
@[simp] theorem it2 : intT Tryz.prog 2 = some .i64 := by kernel_rfl
@[simp] theorem un2 : (Tryz.prog.underlying 2).isSome = true := by kernel_rfl
@[simp] theorem tf3 : tf Tryz.prog 3 = some ⟨1, 8, (some [.int .i64 0]), false, true⟩ := by kernel_rfl
@[simp] theorem it3 : intT Tryz.prog 3 = some .i64 := by kernel_rfl
@[simp] theorem un3 : (Tryz.prog.underlying 3).isSome = true := by kernel_rfl
@[simp] theorem tf4 : tf Tryz.prog 4 = some ⟨1, 1, (some [.bool false]), false, true⟩ := by kernel_rfl
@[simp] theorem un4 : (Tryz.prog.underlying 4).isSome = true := by kernel_rfl
@[simp] theorem tf5 : tf Tryz.prog 5 = some ⟨1, 1, (some [.int .u8 0]), false, true⟩ := by kernel_rfl
@[simp] theorem it5 : intT Tryz.prog 5 = some .u8 := by kernel_rfl
@[simp] theorem un5 : (Tryz.prog.underlying 5).isSome = true := by kernel_rfl
@[simp] theorem tf6 : tf Tryz.prog 6 = some ⟨1, 1, (some [.int .u8 0]), false, true⟩ := by kernel_rfl
@[simp] theorem it6 : intT Tryz.prog 6 = some .u8 := by kernel_rfl
@[simp] theorem un6 : (Tryz.prog.underlying 6).isSome = true := by kernel_rfl
@[simp] theorem tf7 : tf Tryz.prog 7 = some ⟨4, 24, (some [.int .i64 0, .int .i64 0, .bool false, .int .u8 0]), true, true⟩ := by kernel_rfl
@[simp] theorem un7 : (Tryz.prog.underlying 7).isSome = true := by kernel_rfl
@[simp] theorem fo7_0 : fieldT Tryz.prog 7 0 = some 0 := by kernel_rfl
@[simp] theorem fo7_1 : fieldT Tryz.prog 7 1 = some 1 := by kernel_rfl
@[simp] theorem fo7_2 : fieldT Tryz.prog 7 2 = some 2 := by kernel_rfl
@[simp] theorem fo7_3 : fieldT Tryz.prog 7 3 = some 3 := by kernel_rfl
@[simp] theorem pa7 : partsT Tryz.prog 7 = some [(0, 1), (1, 1), (2, 1), (3, 1)] := by kernel_rfl
@[simp] theorem tf8 : tf Tryz.prog 8 = some ⟨4, 24, (some [.int .i64 0, .int .i64 0, .bool false, .int .u8 0]), true, true⟩ := by kernel_rfl
@[simp] theorem un8 : (Tryz.prog.underlying 8).isSome = true := by kernel_rfl
@[simp] theorem fo8_0 : fieldT Tryz.prog 8 0 = some 0 := by kernel_rfl
@[simp] theorem fo8_1 : fieldT Tryz.prog 8 1 = some 1 := by kernel_rfl
@[simp] theorem fo8_2 : fieldT Tryz.prog 8 2 = some 2 := by kernel_rfl
@[simp] theorem fo8_3 : fieldT Tryz.prog 8 3 = some 3 := by kernel_rfl
@[simp] theorem pa8 : partsT Tryz.prog 8 = some [(0, 1), (1, 1), (2, 1), (3, 1)] := by kernel_rfl
@[simp] theorem tf9 : tf Tryz.prog 9 = some ⟨1, 16, (some [.string ⟨#[]⟩]), false, true⟩ := by kernel_rfl
@[simp] theorem st9 : strT Tryz.prog 9 = true := by kernel_rfl
@[simp] theorem un9 : (Tryz.prog.underlying 9).isSome = true := by kernel_rfl
@[simp] theorem tf10 : tf Tryz.prog 10 = some ⟨1, 16, (some [.string ⟨#[]⟩]), false, true⟩ := by kernel_rfl
@[simp] theorem st10 : strT Tryz.prog 10 = true := by kernel_rfl
@[simp] theorem un10 : (Tryz.prog.underlying 10).isSome = true := by kernel_rfl
@[simp] theorem tf11 : tf Tryz.prog 11 = some ⟨1, 16, (some [.string ⟨#[]⟩]), false, true⟩ := by kernel_rfl
@[simp] theorem st11 : strT Tryz.prog 11 = true := by kernel_rfl
@[simp] theorem un11 : (Tryz.prog.underlying 11).isSome = true := by kernel_rfl
@[simp] theorem tf12 : tf Tryz.prog 12 = some ⟨1, 8, (some [.int .u64 0]), false, true⟩ := by kernel_rfl
@[simp] theorem it12 : intT Tryz.prog 12 = some .u64 := by kernel_rfl
@[simp] theorem un12 : (Tryz.prog.underlying 12).isSome = true := by kernel_rfl
@[simp] theorem tf13 : tf Tryz.prog 13 = some ⟨2, 24, (some [.string ⟨#[]⟩, .int .u64 0]), true, true⟩ := by kernel_rfl
@[simp] theorem un13 : (Tryz.prog.underlying 13).isSome = true := by kernel_rfl
@[simp] theorem fo13_0 : fieldT Tryz.prog 13 0 = some 0 := by kernel_rfl
@[simp] theorem fo13_1 : fieldT Tryz.prog 13 1 = some 1 := by kernel_rfl
@[simp] theorem pa13 : partsT Tryz.prog 13 = some [(0, 1), (1, 1)] := by kernel_rfl
@[simp] theorem tf14 : tf Tryz.prog 14 = some ⟨2, 24, (some [.string ⟨#[]⟩, .int .u64 0]), true, true⟩ := by kernel_rfl
@[simp] theorem un14 : (Tryz.prog.underlying 14).isSome = true := by kernel_rfl
@[simp] theorem fo14_0 : fieldT Tryz.prog 14 0 = some 0 := by kernel_rfl
@[simp] theorem fo14_1 : fieldT Tryz.prog 14 1 = some 1 := by kernel_rfl
@[simp] theorem pa14 : partsT Tryz.prog 14 = some [(0, 1), (1, 1)] := by kernel_rfl
@[simp] theorem tf15 : tf Tryz.prog 15 = some ⟨1, 8, (some [.pointer none]), false, true⟩ := by kernel_rfl
@[simp] theorem un15 : (Tryz.prog.underlying 15).isSome = true := by kernel_rfl
@[simp] theorem tf16 : tf Tryz.prog 16 = some ⟨1, 8, (some [.pointer none]), false, true⟩ := by kernel_rfl
@[simp] theorem un16 : (Tryz.prog.underlying 16).isSome = true := by kernel_rfl
@[simp] theorem tf17 : tf Tryz.prog 17 = some ⟨1, 8, (some [.pointer none]), false, true⟩ := by kernel_rfl
@[simp] theorem un17 : (Tryz.prog.underlying 17).isSome = true := by kernel_rfl
@[simp] theorem tf18 : tf Tryz.prog 18 = some ⟨1, 8, (some [.pointer none]), true, true⟩ := by kernel_rfl
@[simp] theorem un18 : (Tryz.prog.underlying 18).isSome = true := by kernel_rfl
@[simp] theorem fo18_0 : fieldT Tryz.prog 18 0 = some 0 := by kernel_rfl
@[simp] theorem pa18 : partsT Tryz.prog 18 = some [(0, 1)] := by kernel_rfl
@[simp] theorem tf19 : tf Tryz.prog 19 = some ⟨1, 8, (some [.pointer none]), true, true⟩ := by kernel_rfl
@[simp] theorem un19 : (Tryz.prog.underlying 19).isSome = true := by kernel_rfl
@[simp] theorem fo19_0 : fieldT Tryz.prog 19 0 = some 0 := by kernel_rfl
@[simp] theorem pa19 : partsT Tryz.prog 19 = some [(0, 1)] := by kernel_rfl
@[simp] theorem tf20 : tf Tryz.prog 20 = some ⟨1, 16, (some [.nilIface]), false, true⟩ := by kernel_rfl
@[simp] theorem un20 : (Tryz.prog.underlying 20).isSome = true := by kernel_rfl
@[simp] theorem tf21 : tf Tryz.prog 21 = some ⟨1, 4, (some [.int .i32 0]), false, true⟩ := by kernel_rfl
@[simp] theorem it21 : intT Tryz.prog 21 = some .i32 := by kernel_rfl
@[simp] theorem un21 : (Tryz.prog.underlying 21).isSome = true := by kernel_rfl
@[simp] theorem tf22 : tf Tryz.prog 22 = some ⟨1, 24, (some [.slice none 0 0]), false, true⟩ := by kernel_rfl
@[simp] theorem un22 : (Tryz.prog.underlying 22).isSome = true := by kernel_rfl
@[simp] theorem el22 : elemT Tryz.prog 22 = some 31 := by kernel_rfl
@[simp] theorem ef22 : elemF Tryz.prog 22 = some (31, ⟨1, 8, (some [.int .u64 0]), false, true⟩) := by kernel_rfl
@[simp] theorem tf23 : tf Tryz.prog 23 = some ⟨1, 24, (some [.slice none 0 0]), false, true⟩ := by kernel_rfl
@[simp] theorem un23 : (Tryz.prog.underlying 23).isSome = true := by kernel_rfl
@[simp] theorem el23 : elemT Tryz.prog 23 = some 30 := by kernel_rfl
@[simp] theorem ef23 : elemF Tryz.prog 23 = some (30, ⟨3, 32, (some [.int .u8 0, .string ⟨#[]⟩, .bool false]), true, true⟩) := by kernel_rfl
@[simp] theorem tf24 : tf Tryz.prog 24 = some ⟨1, 8, (some [.nilFunc]), false, true⟩ := by kernel_rfl
@[simp] theorem un24 : (Tryz.prog.underlying 24).isSome = true := by kernel_rfl
@[simp] theorem tf25 : tf Tryz.prog 25 = some ⟨1, 24, (some [.slice none 0 0]), false, true⟩ := by kernel_rfl
@[simp] theorem un25 : (Tryz.prog.underlying 25).isSome = true := by kernel_rfl
@[simp] theorem el25 : elemT Tryz.prog 25 = some 5 := by kernel_rfl
@[simp] theorem ef25 : elemF Tryz.prog 25 = some (5, ⟨1, 1, (some [.int .u8 0]), false, true⟩) := by kernel_rfl
@[simp] theorem tf26 : tf Tryz.prog 26 = some ⟨1, 24, (some [.slice none 0 0]), true, true⟩ := by kernel_rfl
@[simp] theorem un26 : (Tryz.prog.underlying 26).isSome = true := by kernel_rfl
@[simp] theorem fo26_0 : fieldT Tryz.prog 26 0 = some 0 := by kernel_rfl
@[simp] theorem pa26 : partsT Tryz.prog 26 = some [(0, 1)] := by kernel_rfl
@[simp] theorem tf27 : tf Tryz.prog 27 = some ⟨1, 24, (some [.slice none 0 0]), true, true⟩ := by kernel_rfl
@[simp] theorem un27 : (Tryz.prog.underlying 27).isSome = true := by kernel_rfl
@[simp] theorem fo27_0 : fieldT Tryz.prog 27 0 = some 0 := by kernel_rfl
@[simp] theorem pa27 : partsT Tryz.prog 27 = some [(0, 1)] := by kernel_rfl
@[simp] theorem tf28 : tf Tryz.prog 28 = some ⟨1, 24, (some [.slice none 0 0]), false, true⟩ := by kernel_rfl
@[simp] theorem un28 : (Tryz.prog.underlying 28).isSome = true := by kernel_rfl
@[simp] theorem el28 : elemT Tryz.prog 28 = some 33 := by kernel_rfl
@[simp] theorem ef28 : elemF Tryz.prog 28 = some (33, ⟨3, 32, (some [.int .u64 0, .string ⟨#[]⟩, .bool false]), true, true⟩) := by kernel_rfl
@[simp] theorem tf29 : tf Tryz.prog 29 = some ⟨3, 32, (some [.int .u8 0, .string ⟨#[]⟩, .bool false]), true, true⟩ := by kernel_rfl
@[simp] theorem un29 : (Tryz.prog.underlying 29).isSome = true := by kernel_rfl
@[simp] theorem fo29_0 : fieldT Tryz.prog 29 0 = some 0 := by kernel_rfl
@[simp] theorem fo29_1 : fieldT Tryz.prog 29 1 = some 1 := by kernel_rfl
@[simp] theorem fo29_2 : fieldT Tryz.prog 29 2 = some 2 := by kernel_rfl
@[simp] theorem pa29 : partsT Tryz.prog 29 = some [(0, 1), (1, 1), (2, 1)] := by kernel_rfl
@[simp] theorem tf30 : tf Tryz.prog 30 = some ⟨3, 32, (some [.int .u8 0, .string ⟨#[]⟩, .bool false]), true, true⟩ := by kernel_rfl
@[simp] theorem un30 : (Tryz.prog.underlying 30).isSome = true := by kernel_rfl
@[simp] theorem fo30_0 : fieldT Tryz.prog 30 0 = some 0 := by kernel_rfl
@[simp] theorem fo30_1 : fieldT Tryz.prog 30 1 = some 1 := by kernel_rfl
@[simp] theorem fo30_2 : fieldT Tryz.prog 30 2 = some 2 := by kernel_rfl
@[simp] theorem pa30 : partsT Tryz.prog 30 = some [(0, 1), (1, 1), (2, 1)] := by kernel_rfl
@[simp] theorem tf31 : tf Tryz.prog 31 = some ⟨1, 8, (some [.int .u64 0]), false, true⟩ := by kernel_rfl
@[simp] theorem it31 : intT Tryz.prog 31 = some .u64 := by kernel_rfl
@[simp] theorem un31 : (Tryz.prog.underlying 31).isSome = true := by kernel_rfl
@[simp] theorem tf32 : tf Tryz.prog 32 = some ⟨3, 32, (some [.int .u64 0, .string ⟨#[]⟩, .bool false]), true, true⟩ := by kernel_rfl
@[simp] theorem un32 : (Tryz.prog.underlying 32).isSome = true := by kernel_rfl
@[simp] theorem fo32_0 : fieldT Tryz.prog 32 0 = some 0 := by kernel_rfl
@[simp] theorem fo32_1 : fieldT Tryz.prog 32 1 = some 1 := by kernel_rfl
@[simp] theorem fo32_2 : fieldT Tryz.prog 32 2 = some 2 := by kernel_rfl
@[simp] theorem pa32 : partsT Tryz.prog 32 = some [(0, 1), (1, 1), (2, 1)] := by kernel_rfl
@[simp] theorem tf33 : tf Tryz.prog 33 = some ⟨3, 32, (some [.int .u64 0, .string ⟨#[]⟩, .bool false]), true, true⟩ := by kernel_rfl
@[simp] theorem un33 : (Tryz.prog.underlying 33).isSome = true := by kernel_rfl
@[simp] theorem fo33_0 : fieldT Tryz.prog 33 0 = some 0 := by kernel_rfl
@[simp] theorem fo33_1 : fieldT Tryz.prog 33 1 = some 1 := by kernel_rfl
@[simp] theorem fo33_2 : fieldT Tryz.prog 33 2 = some 2 := by kernel_rfl
@[simp] theorem pa33 : partsT Tryz.prog 33 = some [(0, 1), (1, 1), (2, 1)] := by kernel_rfl
@[simp] theorem tf34 : tf Tryz.prog 34 = some ⟨1, 8, (some [.nilFunc]), false, true⟩ := by kernel_rfl
@[simp] theorem un34 : (Tryz.prog.underlying 34).isSome = true := by kernel_rfl
@[simp] theorem tf35 : tf Tryz.prog 35 = some ⟨1, 8, (some [.pointer none]), false, true⟩ := by kernel_rfl
@[simp] theorem un35 : (Tryz.prog.underlying 35).isSome = true := by kernel_rfl
@[simp] theorem tf36 : tf Tryz.prog 36 = some ⟨1, 8, (some [.nilFunc]), false, true⟩ := by kernel_rfl
@[simp] theorem un36 : (Tryz.prog.underlying 36).isSome = true := by kernel_rfl
@[simp] theorem tf37 : tf Tryz.prog 37 = some ⟨1, 8, (some [.nilFunc]), false, true⟩ := by kernel_rfl
@[simp] theorem un37 : (Tryz.prog.underlying 37).isSome = true := by kernel_rfl
@[simp] theorem tf38 : tf Tryz.prog 38 = some ⟨1, 8, (some [.pointer none]), false, true⟩ := by kernel_rfl
@[simp] theorem un38 : (Tryz.prog.underlying 38).isSome = true := by kernel_rfl
@[simp] theorem tf39 : tf Tryz.prog 39 = some ⟨1, 8, (some [.nilFunc]), false, true⟩ := by kernel_rfl
@[simp] theorem un39 : (Tryz.prog.underlying 39).isSome = true := by kernel_rfl
@[simp] theorem tf40 : tf Tryz.prog 40 = some ⟨2, 32, (some [.slice none 0 0, .bool false]), true, true⟩ := by kernel_rfl
@[simp] theorem un40 : (Tryz.prog.underlying 40).isSome = true := by kernel_rfl
@[simp] theorem fo40_0 : fieldT Tryz.prog 40 0 = some 0 := by kernel_rfl
@[simp] theorem fo40_1 : fieldT Tryz.prog 40 1 = some 1 := by kernel_rfl
@[simp] theorem pa40 : partsT Tryz.prog 40 = some [(0, 1), (1, 1)] := by kernel_rfl
@[simp] theorem tf41 : tf Tryz.prog 41 = some ⟨2, 32, (some [.slice none 0 0, .bool false]), true, true⟩ := by kernel_rfl
@[simp] theorem un41 : (Tryz.prog.underlying 41).isSome = true := by kernel_rfl
@[simp] theorem fo41_0 : fieldT Tryz.prog 41 0 = some 0 := by kernel_rfl
@[simp] theorem fo41_1 : fieldT Tryz.prog 41 1 = some 1 := by kernel_rfl
@[simp] theorem pa41 : partsT Tryz.prog 41 = some [(0, 1), (1, 1)] := by kernel_rfl
@[simp] theorem tf42 : tf Tryz.prog 42 = some ⟨1, 8, (some [.nilFunc]), false, true⟩ := by kernel_rfl
@[simp] theorem un42 : (Tryz.prog.underlying 42).isSome = true := by kernel_rfl
@[simp] theorem tf43 : tf Tryz.prog 43 = some ⟨1, 8, (some [.nilFunc]), false, true⟩ := by kernel_rfl
@[simp] theorem un43 : (Tryz.prog.underlying 43).isSome = true := by kernel_rfl
@[simp] theorem tf44 : tf Tryz.prog 44 = some ⟨1, 8, (some [.nilFunc]), false, true⟩ := by kernel_rfl
@[simp] theorem un44 : (Tryz.prog.underlying 44).isSome = true := by kernel_rfl
@[simp] theorem tf45 : tf Tryz.prog 45 = some ⟨1, 24, (some [.slice none 0 0]), false, true⟩ := by kernel_rfl
@[simp] theorem un45 : (Tryz.prog.underlying 45).isSome = true := by kernel_rfl
@[simp] theorem el45 : elemT Tryz.prog 45 = some 90 := by kernel_rfl
@[simp] theorem ef45 : elemF Tryz.prog 45 = some (90, ⟨4, 48, (some [.string ⟨#[]⟩, .int .u64 0, .string ⟨#[]⟩, .bool false]), true, true⟩) := by kernel_rfl
@[simp] theorem tf46 : tf Tryz.prog 46 = some ⟨2, 32, (some [.int .u64 0, .slice none 0 0]), true, true⟩ := by kernel_rfl
@[simp] theorem un46 : (Tryz.prog.underlying 46).isSome = true := by kernel_rfl
@[simp] theorem fo46_0 : fieldT Tryz.prog 46 0 = some 0 := by kernel_rfl
@[simp] theorem fo46_1 : fieldT Tryz.prog 46 1 = some 1 := by kernel_rfl
@[simp] theorem pa46 : partsT Tryz.prog 46 = some [(0, 1), (1, 1)] := by kernel_rfl
@[simp] theorem tf47 : tf Tryz.prog 47 = some ⟨2, 32, (some [.int .u64 0, .slice none 0 0]), true, true⟩ := by kernel_rfl
@[simp] theorem un47 : (Tryz.prog.underlying 47).isSome = true := by kernel_rfl
@[simp] theorem fo47_0 : fieldT Tryz.prog 47 0 = some 0 := by kernel_rfl
@[simp] theorem fo47_1 : fieldT Tryz.prog 47 1 = some 1 := by kernel_rfl
@[simp] theorem pa47 : partsT Tryz.prog 47 = some [(0, 1), (1, 1)] := by kernel_rfl
@[simp] theorem tf48 : tf Tryz.prog 48 = some ⟨1, 8, (some [.int .i64 0]), false, true⟩ := by kernel_rfl
@[simp] theorem it48 : intT Tryz.prog 48 = some .i64 := by kernel_rfl
@[simp] theorem un48 : (Tryz.prog.underlying 48).isSome = true := by kernel_rfl
@[simp] theorem un49 : (Tryz.prog.underlying 49).isSome = true := by kernel_rfl
@[simp] theorem tf50 : tf Tryz.prog 50 = some ⟨1, 8, (some [.nilFunc]), false, true⟩ := by kernel_rfl
@[simp] theorem un50 : (Tryz.prog.underlying 50).isSome = true := by kernel_rfl
@[simp] theorem tf51 : tf Tryz.prog 51 = some ⟨1, 8, (some [.nilFunc]), false, true⟩ := by kernel_rfl
@[simp] theorem un51 : (Tryz.prog.underlying 51).isSome = true := by kernel_rfl
@[simp] theorem tf52 : tf Tryz.prog 52 = some ⟨1, 8, (some [.nilFunc]), false, true⟩ := by kernel_rfl
@[simp] theorem un52 : (Tryz.prog.underlying 52).isSome = true := by kernel_rfl
@[simp] theorem tf53 : tf Tryz.prog 53 = some ⟨1, 8, (some [.nilFunc]), false, true⟩ := by kernel_rfl
@[simp] theorem un53 : (Tryz.prog.underlying 53).isSome = true := by kernel_rfl
@[simp] theorem tf54 : tf Tryz.prog 54 = some ⟨1, 8, (some [.nilFunc]), false, true⟩ := by kernel_rfl
@[simp] theorem un54 : (Tryz.prog.underlying 54).isSome = true := by kernel_rfl
@[simp] theorem tf55 : tf Tryz.prog 55 = some ⟨1, 8, (some [.nilFunc]), false, true⟩ := by kernel_rfl
@[simp] theorem un55 : (Tryz.prog.underlying 55).isSome = true := by kernel_rfl
@[simp] theorem tf56 : tf Tryz.prog 56 = some ⟨1, 8, (some [.nilFunc]), false, true⟩ := by kernel_rfl
@[simp] theorem un56 : (Tryz.prog.underlying 56).isSome = true := by kernel_rfl
@[simp] theorem tf57 : tf Tryz.prog 57 = some ⟨1, 2, (some [.int .u16 0]), false, true⟩ := by kernel_rfl
@[simp] theorem it57 : intT Tryz.prog 57 = some .u16 := by kernel_rfl
@[simp] theorem un57 : (Tryz.prog.underlying 57).isSome = true := by kernel_rfl
@[simp] theorem tf58 : tf Tryz.prog 58 = some ⟨1, 8, (some [.nilFunc]), false, true⟩ := by kernel_rfl
@[simp] theorem un58 : (Tryz.prog.underlying 58).isSome = true := by kernel_rfl
@[simp] theorem tf59 : tf Tryz.prog 59 = some ⟨1, 8, (some [.nilFunc]), false, true⟩ := by kernel_rfl
@[simp] theorem un59 : (Tryz.prog.underlying 59).isSome = true := by kernel_rfl
@[simp] theorem tf60 : tf Tryz.prog 60 = some ⟨1, 24, (some [.slice none 0 0]), false, true⟩ := by kernel_rfl
@[simp] theorem un60 : (Tryz.prog.underlying 60).isSome = true := by kernel_rfl
@[simp] theorem el60 : elemT Tryz.prog 60 = some 82 := by kernel_rfl
@[simp] theorem ef60 : elemF Tryz.prog 60 = some (82, ⟨4, 4, (some [.int .u8 0, .int .u8 0, .int .u8 0, .bool false]), true, true⟩) := by kernel_rfl
@[simp] theorem tf61 : tf Tryz.prog 61 = some ⟨1, 8, (some [.pointer none]), false, true⟩ := by kernel_rfl
@[simp] theorem un61 : (Tryz.prog.underlying 61).isSome = true := by kernel_rfl
@[simp] theorem tf62 : tf Tryz.prog 62 = some ⟨1, 8, (some [.map none]), false, true⟩ := by kernel_rfl
@[simp] theorem un62 : (Tryz.prog.underlying 62).isSome = true := by kernel_rfl
@[simp] theorem un63 : (Tryz.prog.underlying 63).isSome = true := by kernel_rfl
@[simp] theorem tf64 : tf Tryz.prog 64 = some ⟨1, 8, (some [.nilFunc]), false, true⟩ := by kernel_rfl
@[simp] theorem un64 : (Tryz.prog.underlying 64).isSome = true := by kernel_rfl
@[simp] theorem tf65 : tf Tryz.prog 65 = some ⟨1, 8, (some [.nilFunc]), false, true⟩ := by kernel_rfl
@[simp] theorem un65 : (Tryz.prog.underlying 65).isSome = true := by kernel_rfl
@[simp] theorem un66 : (Tryz.prog.underlying 66).isSome = true := by kernel_rfl
@[simp] theorem tf67 : tf Tryz.prog 67 = some ⟨1, 8, (some [.nilFunc]), false, true⟩ := by kernel_rfl
@[simp] theorem un67 : (Tryz.prog.underlying 67).isSome = true := by kernel_rfl
@[simp] theorem tf68 : tf Tryz.prog 68 = some ⟨1, 8, (some [.nilFunc]), false, true⟩ := by kernel_rfl
@[simp] theorem un68 : (Tryz.prog.underlying 68).isSome = true := by kernel_rfl
@[simp] theorem tf69 : tf Tryz.prog 69 = some ⟨1, 8, (some [.nilFunc]), false, true⟩ := by kernel_rfl
@[simp] theorem un69 : (Tryz.prog.underlying 69).isSome = true := by kernel_rfl
@[simp] theorem tf70 : tf Tryz.prog 70 = some ⟨1, 8, (some [.nilFunc]), false, true⟩ := by kernel_rfl
@[simp] theorem un70 : (Tryz.prog.underlying 70).isSome = true := by kernel_rfl
@[simp] theorem tf71 : tf Tryz.prog 71 = some ⟨1, 8, (some [.nilFunc]), false, true⟩ := by kernel_rfl
@[simp] theorem un71 : (Tryz.prog.underlying 71).isSome = true := by kernel_rfl
@[simp] theorem tf72 : tf Tryz.prog 72 = some ⟨1, 24, (some [.slice none 0 0]), false, true⟩ := by kernel_rfl
@[simp] theorem un72 : (Tryz.prog.underlying 72).isSome = true := by kernel_rfl
@[simp] theorem el72 : elemT Tryz.prog 72 = some 33 := by kernel_rfl
@[simp] theorem ef72 : elemF Tryz.prog 72 = some (33, ⟨3, 32, (some [.int .u64 0, .string ⟨#[]⟩, .bool false]), true, true⟩) := by kernel_rfl
@[simp] theorem tf73 : tf Tryz.prog 73 = some ⟨1, 8, (some [.nilFunc]), false, true⟩ := by kernel_rfl
@[simp] theorem un73 : (Tryz.prog.underlying 73).isSome = true := by kernel_rfl
@[simp] theorem tf74 : tf Tryz.prog 74 = some ⟨1, 8, (some [.nilFunc]), false, true⟩ := by kernel_rfl
@[simp] theorem un74 : (Tryz.prog.underlying 74).isSome = true := by kernel_rfl
@[simp] theorem tf75 : tf Tryz.prog 75 = some ⟨1, 24, (some [.slice none 0 0]), false, true⟩ := by kernel_rfl
@[simp] theorem un75 : (Tryz.prog.underlying 75).isSome = true := by kernel_rfl
@[simp] theorem el75 : elemT Tryz.prog 75 = some 78 := by kernel_rfl
@[simp] theorem ef75 : elemF Tryz.prog 75 = some (78, ⟨3, 3, (some [.int .u8 0, .int .u8 0, .bool false]), true, true⟩) := by kernel_rfl
@[simp] theorem tf76 : tf Tryz.prog 76 = some ⟨1, 8, (some [.nilFunc]), false, true⟩ := by kernel_rfl
@[simp] theorem un76 : (Tryz.prog.underlying 76).isSome = true := by kernel_rfl
@[simp] theorem tf77 : tf Tryz.prog 77 = some ⟨3, 3, (some [.int .u8 0, .int .u8 0, .bool false]), true, true⟩ := by kernel_rfl
@[simp] theorem un77 : (Tryz.prog.underlying 77).isSome = true := by kernel_rfl
@[simp] theorem fo77_0 : fieldT Tryz.prog 77 0 = some 0 := by kernel_rfl
@[simp] theorem fo77_1 : fieldT Tryz.prog 77 1 = some 1 := by kernel_rfl
@[simp] theorem fo77_2 : fieldT Tryz.prog 77 2 = some 2 := by kernel_rfl
@[simp] theorem pa77 : partsT Tryz.prog 77 = some [(0, 1), (1, 1), (2, 1)] := by kernel_rfl
@[simp] theorem tf78 : tf Tryz.prog 78 = some ⟨3, 3, (some [.int .u8 0, .int .u8 0, .bool false]), true, true⟩ := by kernel_rfl
@[simp] theorem un78 : (Tryz.prog.underlying 78).isSome = true := by kernel_rfl
@[simp] theorem fo78_0 : fieldT Tryz.prog 78 0 = some 0 := by kernel_rfl
@[simp] theorem fo78_1 : fieldT Tryz.prog 78 1 = some 1 := by kernel_rfl
@[simp] theorem fo78_2 : fieldT Tryz.prog 78 2 = some 2 := by kernel_rfl
@[simp] theorem pa78 : partsT Tryz.prog 78 = some [(0, 1), (1, 1), (2, 1)] := by kernel_rfl
@[simp] theorem tf79 : tf Tryz.prog 79 = some ⟨1, 8, (some [.nilFunc]), false, true⟩ := by kernel_rfl
@[simp] theorem un79 : (Tryz.prog.underlying 79).isSome = true := by kernel_rfl
@[simp] theorem tf80 : tf Tryz.prog 80 = some ⟨1, 8, (some [.nilFunc]), false, true⟩ := by kernel_rfl
@[simp] theorem un80 : (Tryz.prog.underlying 80).isSome = true := by kernel_rfl
@[simp] theorem tf81 : tf Tryz.prog 81 = some ⟨4, 4, (some [.int .u8 0, .int .u8 0, .int .u8 0, .bool false]), true, true⟩ := by kernel_rfl
@[simp] theorem un81 : (Tryz.prog.underlying 81).isSome = true := by kernel_rfl
@[simp] theorem fo81_0 : fieldT Tryz.prog 81 0 = some 0 := by kernel_rfl
@[simp] theorem fo81_1 : fieldT Tryz.prog 81 1 = some 1 := by kernel_rfl
@[simp] theorem pa81 : partsT Tryz.prog 81 = some [(0, 1), (1, 3)] := by kernel_rfl
@[simp] theorem tf82 : tf Tryz.prog 82 = some ⟨4, 4, (some [.int .u8 0, .int .u8 0, .int .u8 0, .bool false]), true, true⟩ := by kernel_rfl
@[simp] theorem un82 : (Tryz.prog.underlying 82).isSome = true := by kernel_rfl
@[simp] theorem fo82_0 : fieldT Tryz.prog 82 0 = some 0 := by kernel_rfl
@[simp] theorem fo82_1 : fieldT Tryz.prog 82 1 = some 1 := by kernel_rfl
@[simp] theorem pa82 : partsT Tryz.prog 82 = some [(0, 1), (1, 3)] := by kernel_rfl
@[simp] theorem tf83 : tf Tryz.prog 83 = some ⟨1, 8, (some [.nilFunc]), false, true⟩ := by kernel_rfl
@[simp] theorem un83 : (Tryz.prog.underlying 83).isSome = true := by kernel_rfl
@[simp] theorem tf84 : tf Tryz.prog 84 = some ⟨1, 8, (some [.nilFunc]), false, true⟩ := by kernel_rfl
@[simp] theorem un84 : (Tryz.prog.underlying 84).isSome = true := by kernel_rfl
@[simp] theorem tf85 : tf Tryz.prog 85 = some ⟨1, 8, (some [.nilFunc]), false, true⟩ := by kernel_rfl
@[simp] theorem un85 : (Tryz.prog.underlying 85).isSome = true := by kernel_rfl
@[simp] theorem tf86 : tf Tryz.prog 86 = some ⟨1, 8, (some [.nilFunc]), false, true⟩ := by kernel_rfl
@[simp] theorem un86 : (Tryz.prog.underlying 86).isSome = true := by kernel_rfl
@[simp] theorem tf87 : tf Tryz.prog 87 = some ⟨1, 8, (some [.nilFunc]), false, true⟩ := by kernel_rfl
@[simp] theorem un87 : (Tryz.prog.underlying 87).isSome = true := by kernel_rfl
@[simp] theorem tf88 : tf Tryz.prog 88 = some ⟨1, 8, (some [.nilFunc]), false, true⟩ := by kernel_rfl
@[simp] theorem un88 : (Tryz.prog.underlying 88).isSome = true := by kernel_rfl
@[simp] theorem tf89 : tf Tryz.prog 89 = some ⟨4, 48, (some [.string ⟨#[]⟩, .int .u64 0, .string ⟨#[]⟩, .bool false]), true, true⟩ := by kernel_rfl
@[simp] theorem un89 : (Tryz.prog.underlying 89).isSome = true := by kernel_rfl
@[simp] theorem fo89_0 : fieldT Tryz.prog 89 0 = some 0 := by kernel_rfl
@[simp] theorem fo89_1 : fieldT Tryz.prog 89 1 = some 1 := by kernel_rfl
@[simp] theorem pa89 : partsT Tryz.prog 89 = some [(0, 1), (1, 3)] := by kernel_rfl
@[simp] theorem tf90 : tf Tryz.prog 90 = some ⟨4, 48, (some [.string ⟨#[]⟩, .int .u64 0, .string ⟨#[]⟩, .bool false]), true, true⟩ := by kernel_rfl
@[simp] theorem un90 : (Tryz.prog.underlying 90).isSome = true := by kernel_rfl
@[simp] theorem fo90_0 : fieldT Tryz.prog 90 0 = some 0 := by kernel_rfl
@[simp] theorem fo90_1 : fieldT Tryz.prog 90 1 = some 1 := by kernel_rfl
@[simp] theorem pa90 : partsT Tryz.prog 90 = some [(0, 1), (1, 3)] := by kernel_rfl
@[simp] theorem tf91 : tf Tryz.prog 91 = some ⟨1, 8, (some [.nilFunc]), false, true⟩ := by kernel_rfl
@[simp] theorem un91 : (Tryz.prog.underlying 91).isSome = true := by kernel_rfl
@[simp] theorem tf92 : tf Tryz.prog 92 = some ⟨1, 8, (some [.nilFunc]), false, true⟩ := by kernel_rfl
@[simp] theorem un92 : (Tryz.prog.underlying 92).isSome = true := by kernel_rfl
@[simp] theorem tf93 : tf Tryz.prog 93 = some ⟨1, 8, (some [.nilFunc]), false, true⟩ := by kernel_rfl
@[simp] theorem un93 : (Tryz.prog.underlying 93).isSome = true := by kernel_rfl
@[simp] theorem tf94 : tf Tryz.prog 94 = some ⟨1, 8, (some [.nilFunc]), false, true⟩ := by kernel_rfl
@[simp] theorem un94 : (Tryz.prog.underlying 94).isSome = true := by kernel_rfl
@[simp] theorem un95 : (Tryz.prog.underlying 95).isSome = true := by kernel_rfl
@[simp] theorem tf96 : tf Tryz.prog 96 = some ⟨1, 8, (some [.nilFunc]), false, true⟩ := by kernel_rfl
@[simp] theorem un96 : (Tryz.prog.underlying 96).isSome = true := by kernel_rfl
@[simp] theorem tf97 : tf Tryz.prog 97 = some ⟨1, 8, (some [.nilFunc]), false, true⟩ := by kernel_rfl
@[simp] theorem un97 : (Tryz.prog.underlying 97).isSome = true := by kernel_rfl
@[simp] theorem tf98 : tf Tryz.prog 98 = some ⟨1, 8, (some [.nilFunc]), false, true⟩ := by kernel_rfl
@[simp] theorem un98 : (Tryz.prog.underlying 98).isSome = true := by kernel_rfl
@[simp] theorem tf99 : tf Tryz.prog 99 = some ⟨1, 8, (some [.nilFunc]), false, true⟩ := by kernel_rfl
@[simp] theorem un99 : (Tryz.prog.underlying 99).isSome = true := by kernel_rfl
@[simp] theorem tf100 : tf Tryz.prog 100 = some ⟨1, 24, (some [.slice none 0 0]), false, true⟩ := by kernel_rfl
@[simp] theorem un100 : (Tryz.prog.underlying 100).isSome = true := by kernel_rfl
@[simp] theorem el100 : elemT Tryz.prog 100 = some 25 := by kernel_rfl
@[simp] theorem ef100 : elemF Tryz.prog 100 = some (25, ⟨1, 24, (some [.slice none 0 0]), false, true⟩) := by kernel_rfl
@[simp] theorem tf101 : tf Tryz.prog 101 = some ⟨1, 8, (some [.nilFunc]), false, true⟩ := by kernel_rfl
@[simp] theorem un101 : (Tryz.prog.underlying 101).isSome = true := by kernel_rfl
@[simp] theorem tf102 : tf Tryz.prog 102 = some ⟨1, 8, (some [.nilFunc]), false, true⟩ := by kernel_rfl
@[simp] theorem un102 : (Tryz.prog.underlying 102).isSome = true := by kernel_rfl
@[simp] theorem tf103 : tf Tryz.prog 103 = some ⟨1, 8, (some [.nilFunc]), false, true⟩ := by kernel_rfl
@[simp] theorem un103 : (Tryz.prog.underlying 103).isSome = true := by kernel_rfl
@[simp] theorem un104 : (Tryz.prog.underlying 104).isSome = true := by kernel_rfl
@[simp] theorem tf105 : tf Tryz.prog 105 = some ⟨1, 8, (some [.nilFunc]), false, true⟩ := by kernel_rfl
@[simp] theorem un105 : (Tryz.prog.underlying 105).isSome = true := by kernel_rfl
@[simp] theorem tf106 : tf Tryz.prog 106 = some ⟨1, 24, (some [.slice none 0 0]), false, true⟩ := by kernel_rfl
@[simp] theorem un106 : (Tryz.prog.underlying 106).isSome = true := by kernel_rfl
@[simp] theorem el106 : elemT Tryz.prog 106 = some 9 := by kernel_rfl
@[simp] theorem ef106 : elemF Tryz.prog 106 = some (9, ⟨1, 16, (some [.string ⟨#[]⟩]), false, true⟩) := by kernel_rfl
@[simp] theorem tf107 : tf Tryz.prog 107 = some ⟨1, 8, (some [.nilFunc]), false, true⟩ := by kernel_rfl
@[simp] theorem un107 : (Tryz.prog.underlying 107).isSome = true := by kernel_rfl
@[simp] theorem tf108 : tf Tryz.prog 108 = some ⟨1, 8, (some [.nilFunc]), false, true⟩ := by kernel_rfl
@[simp] theorem un108 : (Tryz.prog.underlying 108).isSome = true := by kernel_rfl
@[simp] theorem tf109 : tf Tryz.prog 109 = some ⟨1, 8, (some [.nilFunc]), false, true⟩ := by kernel_rfl
@[simp] theorem un109 : (Tryz.prog.underlying 109).isSome = true := by kernel_rfl
@[simp] theorem tf110 : tf Tryz.prog 110 = some ⟨1, 8, (some [.nilFunc]), false, true⟩ := by kernel_rfl
@[simp] theorem un110 : (Tryz.prog.underlying 110).isSome = true := by kernel_rfl
@[simp] theorem tf111 : tf Tryz.prog 111 = some ⟨1, 8, (some [.nilFunc]), false, true⟩ := by kernel_rfl
@[simp] theorem un111 : (Tryz.prog.underlying 111).isSome = true := by kernel_rfl
@[simp] theorem tf112 : tf Tryz.prog 112 = some ⟨1, 24, (some [.slice none 0 0]), false, true⟩ := by kernel_rfl
@[simp] theorem un112 : (Tryz.prog.underlying 112).isSome = true := by kernel_rfl
@[simp] theorem el112 : elemT Tryz.prog 112 = some 116 := by kernel_rfl
@[simp] theorem ef112 : elemF Tryz.prog 112 = some (116, ⟨2, 40, (some [.string ⟨#[]⟩, .slice none 0 0]), true, true⟩) := by kernel_rfl
@[simp] theorem tf113 : tf Tryz.prog 113 = some ⟨1, 24, (some [.slice none 0 0]), true, true⟩ := by kernel_rfl
@[simp] theorem un113 : (Tryz.prog.underlying 113).isSome = true := by kernel_rfl
@[simp] theorem fo113_0 : fieldT Tryz.prog 113 0 = some 0 := by kernel_rfl
@[simp] theorem pa113 : partsT Tryz.prog 113 = some [(0, 1)] := by kernel_rfl
@[simp] theorem tf114 : tf Tryz.prog 114 = some ⟨1, 24, (some [.slice none 0 0]), true, true⟩ := by kernel_rfl
@[simp] theorem un114 : (Tryz.prog.underlying 114).isSome = true := by kernel_rfl
@[simp] theorem fo114_0 : fieldT Tryz.prog 114 0 = some 0 := by kernel_rfl
@[simp] theorem pa114 : partsT Tryz.prog 114 = some [(0, 1)] := by kernel_rfl
@[simp] theorem tf115 : tf Tryz.prog 115 = some ⟨2, 40, (some [.string ⟨#[]⟩, .slice none 0 0]), true, true⟩ := by kernel_rfl
@[simp] theorem un115 : (Tryz.prog.underlying 115).isSome = true := by kernel_rfl
@[simp] theorem fo115_0 : fieldT Tryz.prog 115 0 = some 0 := by kernel_rfl
@[simp] theorem fo115_1 : fieldT Tryz.prog 115 1 = some 1 := by kernel_rfl
@[simp] theorem pa115 : partsT Tryz.prog 115 = some [(0, 1), (1, 1)] := by kernel_rfl
@[simp] theorem tf116 : tf Tryz.prog 116 = some ⟨2, 40, (some [.string ⟨#[]⟩, .slice none 0 0]), true, true⟩ := by kernel_rfl
@[simp] theorem un116 : (Tryz.prog.underlying 116).isSome = true := by kernel_rfl
@[simp] theorem fo116_0 : fieldT Tryz.prog 116 0 = some 0 := by kernel_rfl
@[simp] theorem fo116_1 : fieldT Tryz.prog 116 1 = some 1 := by kernel_rfl
@[simp] theorem pa116 : partsT Tryz.prog 116 = some [(0, 1), (1, 1)] := by kernel_rfl
@[simp] theorem tf117 : tf Tryz.prog 117 = some ⟨1, 8, (some [.nilFunc]), false, true⟩ := by kernel_rfl
@[simp] theorem un117 : (Tryz.prog.underlying 117).isSome = true := by kernel_rfl
@[simp] theorem tf118 : tf Tryz.prog 118 = some ⟨1, 8, (some [.nilFunc]), false, true⟩ := by kernel_rfl
@[simp] theorem un118 : (Tryz.prog.underlying 118).isSome = true := by kernel_rfl
@[simp] theorem un119 : (Tryz.prog.underlying 119).isSome = true := by kernel_rfl
@[simp] theorem tf120 : tf Tryz.prog 120 = some ⟨1, 8, (some [.nilFunc]), false, true⟩ := by kernel_rfl
@[simp] theorem un120 : (Tryz.prog.underlying 120).isSome = true := by kernel_rfl
@[simp] theorem tf121 : tf Tryz.prog 121 = some ⟨1, 24, (some [.slice none 0 0]), false, true⟩ := by kernel_rfl
@[simp] theorem un121 : (Tryz.prog.underlying 121).isSome = true := by kernel_rfl
@[simp] theorem el121 : elemT Tryz.prog 121 = some 60 := by kernel_rfl
@[simp] theorem ef121 : elemF Tryz.prog 121 = some (60, ⟨1, 24, (some [.slice none 0 0]), false, true⟩) := by kernel_rfl
@[simp] theorem tf122 : tf Tryz.prog 122 = some ⟨1, 8, (some [.nilFunc]), false, true⟩ := by kernel_rfl
@[simp] theorem un122 : (Tryz.prog.underlying 122).isSome = true := by kernel_rfl
@[simp] theorem un123 : (Tryz.prog.underlying 123).isSome = true := by kernel_rfl
@[simp] theorem tf124 : tf Tryz.prog 124 = some ⟨1, 8, (some [.nilFunc]), false, true⟩ := by kernel_rfl
@[simp] theorem un124 : (Tryz.prog.underlying 124).isSome = true := by kernel_rfl
@[simp] theorem tf125 : tf Tryz.prog 125 = some ⟨1, 8, (some [.nilFunc]), false, true⟩ := by kernel_rfl
@[simp] theorem un125 : (Tryz.prog.underlying 125).isSome = true := by kernel_rfl
@[simp] theorem tf126 : tf Tryz.prog 126 = some ⟨1, 8, (some [.nilFunc]), false, true⟩ := by kernel_rfl
@[simp] theorem un126 : (Tryz.prog.underlying 126).isSome = true := by kernel_rfl
@[simp] theorem tf127 : tf Tryz.prog 127 = some ⟨1, 8, (some [.nilFunc]), false, true⟩ := by kernel_rfl
@[simp] theorem un127 : (Tryz.prog.underlying 127).isSome = true := by kernel_rfl
@[simp] theorem tf128 : tf Tryz.prog 128 = some ⟨1, 8, (some [.nilFunc]), false, true⟩ := by kernel_rfl
@[simp] theorem un128 : (Tryz.prog.underlying 128).isSome = true := by kernel_rfl
@[simp] theorem tf129 : tf Tryz.prog 129 = some ⟨1, 8, (some [.pointer none]), false, true⟩ := by kernel_rfl
@[simp] theorem un129 : (Tryz.prog.underlying 129).isSome = true := by kernel_rfl
@[simp] theorem tf130 : tf Tryz.prog 130 = some ⟨1, 8, (some [.nilFunc]), false, true⟩ := by kernel_rfl
@[simp] theorem un130 : (Tryz.prog.underlying 130).isSome = true := by kernel_rfl
@[simp] theorem tf131 : tf Tryz.prog 131 = some ⟨1, 24, (some [.slice none 0 0]), false, true⟩ := by kernel_rfl
@[simp] theorem un131 : (Tryz.prog.underlying 131).isSome = true := by kernel_rfl
@[simp] theorem el131 : elemT Tryz.prog 131 = some 173 := by kernel_rfl
@[simp] theorem ef131 : elemF Tryz.prog 131 = some (173, ⟨5, 56, (some [.int .i64 0, .string ⟨#[]⟩, .string ⟨#[]⟩, .int .u64 0, .int .u64 0]), true, true⟩) := by kernel_rfl
@[simp] theorem tf132 : tf Tryz.prog 132 = some ⟨1, 24, (some [.slice none 0 0]), true, true⟩ := by kernel_rfl
@[simp] theorem un132 : (Tryz.prog.underlying 132).isSome = true := by kernel_rfl
@[simp] theorem fo132_0 : fieldT Tryz.prog 132 0 = some 0 := by kernel_rfl
@[simp] theorem pa132 : partsT Tryz.prog 132 = some [(0, 1)] := by kernel_rfl
@[simp] theorem tf133 : tf Tryz.prog 133 = some ⟨1, 24, (some [.slice none 0 0]), true, true⟩ := by kernel_rfl
@[simp] theorem un133 : (Tryz.prog.underlying 133).isSome = true := by kernel_rfl
@[simp] theorem fo133_0 : fieldT Tryz.prog 133 0 = some 0 := by kernel_rfl
@[simp] theorem pa133 : partsT Tryz.prog 133 = some [(0, 1)] := by kernel_rfl
@[simp] theorem tf134 : tf Tryz.prog 134 = some ⟨1, 8, (some [.map none]), false, true⟩ := by kernel_rfl
@[simp] theorem un134 : (Tryz.prog.underlying 134).isSome = true := by kernel_rfl
@[simp] theorem tf135 : tf Tryz.prog 135 = some ⟨1, 8, (some [.map none]), false, true⟩ := by kernel_rfl
@[simp] theorem un135 : (Tryz.prog.underlying 135).isSome = true := by kernel_rfl
@[simp] theorem tf136 : tf Tryz.prog 136 = some ⟨6, 64, (some [.pointer none, .slice none 0 0, .int .u64 0, .int .i64 0, .map none, .map none]), true, true⟩ := by kernel_rfl
@[simp] theorem un136 : (Tryz.prog.underlying 136).isSome = true := by kernel_rfl
@[simp] theorem fo136_0 : fieldT Tryz.prog 136 0 = some 0 := by kernel_rfl
@[simp] theorem fo136_1 : fieldT Tryz.prog 136 1 = some 1 := by kernel_rfl
@[simp] theorem fo136_2 : fieldT Tryz.prog 136 2 = some 2 := by kernel_rfl
@[simp] theorem fo136_3 : fieldT Tryz.prog 136 3 = some 3 := by kernel_rfl
@[simp] theorem fo136_4 : fieldT Tryz.prog 136 4 = some 4 := by kernel_rfl
@[simp] theorem fo136_5 : fieldT Tryz.prog 136 5 = some 5 := by kernel_rfl
@[simp] theorem pa136 : partsT Tryz.prog 136 = some [(0, 1), (1, 1), (2, 1), (3, 1), (4, 1), (5, 1)] := by kernel_rfl
@[simp] theorem tf137 : tf Tryz.prog 137 = some ⟨6, 64, (some [.pointer none, .slice none 0 0, .int .u64 0, .int .i64 0, .map none, .map none]), true, true⟩ := by kernel_rfl
@[simp] theorem un137 : (Tryz.prog.underlying 137).isSome = true := by kernel_rfl
@[simp] theorem fo137_0 : fieldT Tryz.prog 137 0 = some 0 := by kernel_rfl
@[simp] theorem fo137_1 : fieldT Tryz.prog 137 1 = some 1 := by kernel_rfl
@[simp] theorem fo137_2 : fieldT Tryz.prog 137 2 = some 2 := by kernel_rfl
@[simp] theorem fo137_3 : fieldT Tryz.prog 137 3 = some 3 := by kernel_rfl
@[simp] theorem fo137_4 : fieldT Tryz.prog 137 4 = some 4 := by kernel_rfl
@[simp] theorem fo137_5 : fieldT Tryz.prog 137 5 = some 5 := by kernel_rfl
@[simp] theorem pa137 : partsT Tryz.prog 137 = some [(0, 1), (1, 1), (2, 1), (3, 1), (4, 1), (5, 1)] := by kernel_rfl
@[simp] theorem un138 : (Tryz.prog.underlying 138).isSome = true := by kernel_rfl
@[simp] theorem tf139 : tf Tryz.prog 139 = some ⟨1, 8, (some [.nilFunc]), false, true⟩ := by kernel_rfl
@[simp] theorem un139 : (Tryz.prog.underlying 139).isSome = true := by kernel_rfl
@[simp] theorem tf140 : tf Tryz.prog 140 = some ⟨1, 8, (some [.pointer none]), false, true⟩ := by kernel_rfl
@[simp] theorem un140 : (Tryz.prog.underlying 140).isSome = true := by kernel_rfl
@[simp] theorem un141 : (Tryz.prog.underlying 141).isSome = true := by kernel_rfl
@[simp] theorem tf142 : tf Tryz.prog 142 = some ⟨1, 8, (some [.nilFunc]), false, true⟩ := by kernel_rfl
@[simp] theorem un142 : (Tryz.prog.underlying 142).isSome = true := by kernel_rfl
@[simp] theorem tf143 : tf Tryz.prog 143 = some ⟨1, 8, (some [.int .i64 0]), false, true⟩ := by kernel_rfl
@[simp] theorem it143 : intT Tryz.prog 143 = some .i64 := by kernel_rfl
@[simp] theorem un143 : (Tryz.prog.underlying 143).isSome = true := by kernel_rfl
@[simp] theorem tf144 : tf Tryz.prog 144 = some ⟨2, 16, (some [.int .u64 0, .int .u64 0]), true, true⟩ := by kernel_rfl
@[simp] theorem un144 : (Tryz.prog.underlying 144).isSome = true := by kernel_rfl
@[simp] theorem fo144_0 : fieldT Tryz.prog 144 0 = some 0 := by kernel_rfl
@[simp] theorem fo144_1 : fieldT Tryz.prog 144 1 = some 1 := by kernel_rfl
@[simp] theorem pa144 : partsT Tryz.prog 144 = some [(0, 1), (1, 1)] := by kernel_rfl
@[simp] theorem tf145 : tf Tryz.prog 145 = some ⟨2, 16, (some [.int .u64 0, .int .u64 0]), true, true⟩ := by kernel_rfl
@[simp] theorem un145 : (Tryz.prog.underlying 145).isSome = true := by kernel_rfl
@[simp] theorem fo145_0 : fieldT Tryz.prog 145 0 = some 0 := by kernel_rfl
@[simp] theorem fo145_1 : fieldT Tryz.prog 145 1 = some 1 := by kernel_rfl
@[simp] theorem pa145 : partsT Tryz.prog 145 = some [(0, 1), (1, 1)] := by kernel_rfl
@[simp] theorem tf146 : tf Tryz.prog 146 = some ⟨1, 8, (some [.map none]), false, true⟩ := by kernel_rfl
@[simp] theorem un146 : (Tryz.prog.underlying 146).isSome = true := by kernel_rfl
@[simp] theorem tf147 : tf Tryz.prog 147 = some ⟨4, 32, (some [.int .i64 0, .int .u64 0, .int .u64 0, .map none]), true, true⟩ := by kernel_rfl
@[simp] theorem un147 : (Tryz.prog.underlying 147).isSome = true := by kernel_rfl
@[simp] theorem fo147_0 : fieldT Tryz.prog 147 0 = some 0 := by kernel_rfl
@[simp] theorem fo147_1 : fieldT Tryz.prog 147 1 = some 1 := by kernel_rfl
@[simp] theorem fo147_2 : fieldT Tryz.prog 147 2 = some 3 := by kernel_rfl
@[simp] theorem pa147 : partsT Tryz.prog 147 = some [(0, 1), (1, 2), (3, 1)] := by kernel_rfl
@[simp] theorem tf148 : tf Tryz.prog 148 = some ⟨4, 32, (some [.int .i64 0, .int .u64 0, .int .u64 0, .map none]), true, true⟩ := by kernel_rfl
@[simp] theorem un148 : (Tryz.prog.underlying 148).isSome = true := by kernel_rfl
@[simp] theorem fo148_0 : fieldT Tryz.prog 148 0 = some 0 := by kernel_rfl
@[simp] theorem fo148_1 : fieldT Tryz.prog 148 1 = some 1 := by kernel_rfl
@[simp] theorem fo148_2 : fieldT Tryz.prog 148 2 = some 3 := by kernel_rfl
@[simp] theorem pa148 : partsT Tryz.prog 148 = some [(0, 1), (1, 2), (3, 1)] := by kernel_rfl
@[simp] theorem tf149 : tf Tryz.prog 149 = some ⟨1, 8, (some [.int .u64 0]), false, true⟩ := by kernel_rfl
@[simp] theorem it149 : intT Tryz.prog 149 = some .u64 := by kernel_rfl
@[simp] theorem un149 : (Tryz.prog.underlying 149).isSome = true := by kernel_rfl
@[simp] theorem tf150 : tf Tryz.prog 150 = some ⟨1, 8, (some [.nilFunc]), false, true⟩ := by kernel_rfl
@[simp] theorem un150 : (Tryz.prog.underlying 150).isSome = true := by kernel_rfl
@[simp] theorem tf151 : tf Tryz.prog 151 = some ⟨1, 8, (some [.nilFunc]), false, true⟩ := by kernel_rfl
@[simp] theorem un151 : (Tryz.prog.underlying 151).isSome = true := by kernel_rfl
@[simp] theorem tf152 : tf Tryz.prog 152 = some ⟨1, 8, (some [.nilFunc]), false, true⟩ := by kernel_rfl
@[simp] theorem un152 : (Tryz.prog.underlying 152).isSome = true := by kernel_rfl
@[simp] theorem tf153 : tf Tryz.prog 153 = some ⟨1, 8, (some [.nilFunc]), false, true⟩ := by kernel_rfl
@[simp] theorem un153 : (Tryz.prog.underlying 153).isSome = true := by kernel_rfl
@[simp] theorem tf154 : tf Tryz.prog 154 = some ⟨1, 8, (some [.nilFunc]), false, true⟩ := by kernel_rfl
@[simp] theorem un154 : (Tryz.prog.underlying 154).isSome = true := by kernel_rfl
@[simp] theorem tf155 : tf Tryz.prog 155 = some ⟨1, 8, (some [.nilFunc]), false, true⟩ := by kernel_rfl
@[simp] theorem un155 : (Tryz.prog.underlying 155).isSome = true := by kernel_rfl
@[simp] theorem tf156 : tf Tryz.prog 156 = some ⟨1, 8, (some [.nilFunc]), false, true⟩ := by kernel_rfl
@[simp] theorem un156 : (Tryz.prog.underlying 156).isSome = true := by kernel_rfl
@[simp] theorem un157 : (Tryz.prog.underlying 157).isSome = true := by kernel_rfl
@[simp] theorem tf158 : tf Tryz.prog 158 = some ⟨1, 8, (some [.nilFunc]), false, true⟩ := by kernel_rfl
@[simp] theorem un158 : (Tryz.prog.underlying 158).isSome = true := by kernel_rfl
@[simp] theorem tf159 : tf Tryz.prog 159 = some ⟨1, 8, (some [.nilFunc]), false, true⟩ := by kernel_rfl
@[simp] theorem un159 : (Tryz.prog.underlying 159).isSome = true := by kernel_rfl
@[simp] theorem tf160 : tf Tryz.prog 160 = some ⟨1, 8, (some [.pointer none]), false, true⟩ := by kernel_rfl
@[simp] theorem un160 : (Tryz.prog.underlying 160).isSome = true := by kernel_rfl
@[simp] theorem tf161 : tf Tryz.prog 161 = some ⟨2, 32, (some [.pointer none, .slice none 0 0]), true, true⟩ := by kernel_rfl
@[simp] theorem un161 : (Tryz.prog.underlying 161).isSome = true := by kernel_rfl
@[simp] theorem fo161_0 : fieldT Tryz.prog 161 0 = some 0 := by kernel_rfl
@[simp] theorem fo161_1 : fieldT Tryz.prog 161 1 = some 1 := by kernel_rfl
@[simp] theorem pa161 : partsT Tryz.prog 161 = some [(0, 1), (1, 1)] := by kernel_rfl
@[simp] theorem tf162 : tf Tryz.prog 162 = some ⟨2, 32, (some [.pointer none, .slice none 0 0]), true, true⟩ := by kernel_rfl
@[simp] theorem un162 : (Tryz.prog.underlying 162).isSome = true := by kernel_rfl
@[simp] theorem fo162_0 : fieldT Tryz.prog 162 0 = some 0 := by kernel_rfl
@[simp] theorem fo162_1 : fieldT Tryz.prog 162 1 = some 1 := by kernel_rfl
@[simp] theorem pa162 : partsT Tryz.prog 162 = some [(0, 1), (1, 1)] := by kernel_rfl
@[simp] theorem tf163 : tf Tryz.prog 163 = some ⟨1, 8, (some [.nilFunc]), false, true⟩ := by kernel_rfl
@[simp] theorem un163 : (Tryz.prog.underlying 163).isSome = true := by kernel_rfl
@[simp] theorem tf164 : tf Tryz.prog 164 = some ⟨1, 16, (some [.nilIface]), false, true⟩ := by kernel_rfl
@[simp] theorem un164 : (Tryz.prog.underlying 164).isSome = true := by kernel_rfl
@[simp] theorem tf165 : tf Tryz.prog 165 = some ⟨1, 16, (some [.nilIface]), false, true⟩ := by kernel_rfl
@[simp] theorem un165 : (Tryz.prog.underlying 165).isSome = true := by kernel_rfl
@[simp] theorem un166 : (Tryz.prog.underlying 166).isSome = true := by kernel_rfl
@[simp] theorem tf167 : tf Tryz.prog 167 = some ⟨1, 8, (some [.nilFunc]), false, true⟩ := by kernel_rfl
@[simp] theorem un167 : (Tryz.prog.underlying 167).isSome = true := by kernel_rfl
@[simp] theorem tf168 : tf Tryz.prog 168 = some ⟨1, 8, (some [.nilFunc]), false, true⟩ := by kernel_rfl
@[simp] theorem un168 : (Tryz.prog.underlying 168).isSome = true := by kernel_rfl
@[simp] theorem tf169 : tf Tryz.prog 169 = some ⟨1, 8, (some [.nilFunc]), false, true⟩ := by kernel_rfl
@[simp] theorem un169 : (Tryz.prog.underlying 169).isSome = true := by kernel_rfl
@[simp] theorem tf170 : tf Tryz.prog 170 = some ⟨1, 24, (some [.slice none 0 0]), false, true⟩ := by kernel_rfl
@[simp] theorem un170 : (Tryz.prog.underlying 170).isSome = true := by kernel_rfl
@[simp] theorem el170 : elemT Tryz.prog 170 = some 196 := by kernel_rfl
@[simp] theorem tf171 : tf Tryz.prog 171 = some ⟨1, 8, (some [.nilFunc]), false, true⟩ := by kernel_rfl
@[simp] theorem un171 : (Tryz.prog.underlying 171).isSome = true := by kernel_rfl
@[simp] theorem tf172 : tf Tryz.prog 172 = some ⟨5, 56, (some [.int .i64 0, .string ⟨#[]⟩, .string ⟨#[]⟩, .int .u64 0, .int .u64 0]), true, true⟩ := by kernel_rfl
@[simp] theorem un172 : (Tryz.prog.underlying 172).isSome = true := by kernel_rfl
@[simp] theorem fo172_0 : fieldT Tryz.prog 172 0 = some 0 := by kernel_rfl
@[simp] theorem fo172_1 : fieldT Tryz.prog 172 1 = some 1 := by kernel_rfl
@[simp] theorem fo172_2 : fieldT Tryz.prog 172 2 = some 2 := by kernel_rfl
@[simp] theorem fo172_3 : fieldT Tryz.prog 172 3 = some 3 := by kernel_rfl
@[simp] theorem pa172 : partsT Tryz.prog 172 = some [(0, 1), (1, 1), (2, 1), (3, 2)] := by kernel_rfl
@[simp] theorem tf173 : tf Tryz.prog 173 = some ⟨5, 56, (some [.int .i64 0, .string ⟨#[]⟩, .string ⟨#[]⟩, .int .u64 0, .int .u64 0]), true, true⟩ := by kernel_rfl
@[simp] theorem un173 : (Tryz.prog.underlying 173).isSome = true := by kernel_rfl
@[simp] theorem fo173_0 : fieldT Tryz.prog 173 0 = some 0 := by kernel_rfl
@[simp] theorem fo173_1 : fieldT Tryz.prog 173 1 = some 1 := by kernel_rfl
@[simp] theorem fo173_2 : fieldT Tryz.prog 173 2 = some 2 := by kernel_rfl
@[simp] theorem fo173_3 : fieldT Tryz.prog 173 3 = some 3 := by kernel_rfl
@[simp] theorem pa173 : partsT Tryz.prog 173 = some [(0, 1), (1, 1), (2, 1), (3, 2)] := by kernel_rfl
@[simp] theorem tf174 : tf Tryz.prog 174 = some ⟨1, 8, (some [.nilFunc]), false, true⟩ := by kernel_rfl
@[simp] theorem un174 : (Tryz.prog.underlying 174).isSome = true := by kernel_rfl
@[simp] theorem tf175 : tf Tryz.prog 175 = some ⟨1, 8, (some [.nilFunc]), false, true⟩ := by kernel_rfl
@[simp] theorem un175 : (Tryz.prog.underlying 175).isSome = true := by kernel_rfl
@[simp] theorem tf176 : tf Tryz.prog 176 = some ⟨1, 8, (some [.nilFunc]), false, true⟩ := by kernel_rfl
@[simp] theorem un176 : (Tryz.prog.underlying 176).isSome = true := by kernel_rfl
@[simp] theorem un177 : (Tryz.prog.underlying 177).isSome = true := by kernel_rfl
@[simp] theorem tf178 : tf Tryz.prog 178 = some ⟨1, 8, (some [.nilFunc]), false, true⟩ := by kernel_rfl
@[simp] theorem un178 : (Tryz.prog.underlying 178).isSome = true := by kernel_rfl
@[simp] theorem tf179 : tf Tryz.prog 179 = some ⟨1, 8, (some [.nilFunc]), false, true⟩ := by kernel_rfl
@[simp] theorem un179 : (Tryz.prog.underlying 179).isSome = true := by kernel_rfl
@[simp] theorem tf180 : tf Tryz.prog 180 = some ⟨1, 8, (some [.nilFunc]), false, true⟩ := by kernel_rfl
@[simp] theorem un180 : (Tryz.prog.underlying 180).isSome = true := by kernel_rfl
@[simp] theorem tf181 : tf Tryz.prog 181 = some ⟨1, 8, (some [.nilFunc]), false, true⟩ := by kernel_rfl
@[simp] theorem un181 : (Tryz.prog.underlying 181).isSome = true := by kernel_rfl
@[simp] theorem tf182 : tf Tryz.prog 182 = some ⟨1, 8, (some [.nilFunc]), false, true⟩ := by kernel_rfl
@[simp] theorem un182 : (Tryz.prog.underlying 182).isSome = true := by kernel_rfl
@[simp] theorem tf183 : tf Tryz.prog 183 = some ⟨1, 4, (some [.int .u32 0]), false, true⟩ := by kernel_rfl
@[simp] theorem it183 : intT Tryz.prog 183 = some .u32 := by kernel_rfl
@[simp] theorem un183 : (Tryz.prog.underlying 183).isSome = true := by kernel_rfl
@[simp] theorem un184 : (Tryz.prog.underlying 184).isSome = true := by kernel_rfl
@[simp] theorem tf185 : tf Tryz.prog 185 = some ⟨1, 8, (some [.nilFunc]), false, true⟩ := by kernel_rfl
@[simp] theorem un185 : (Tryz.prog.underlying 185).isSome = true := by kernel_rfl
@[simp] theorem un186 : (Tryz.prog.underlying 186).isSome = true := by kernel_rfl
@[simp] theorem tf187 : tf Tryz.prog 187 = some ⟨1, 8, (some [.nilFunc]), false, true⟩ := by kernel_rfl
@[simp] theorem un187 : (Tryz.prog.underlying 187).isSome = true := by kernel_rfl
@[simp] theorem tf188 : tf Tryz.prog 188 = some ⟨1, 8, (some [.pointer none]), false, true⟩ := by kernel_rfl
@[simp] theorem un188 : (Tryz.prog.underlying 188).isSome = true := by kernel_rfl
@[simp] theorem tf189 : tf Tryz.prog 189 = some ⟨1, 8, (some [.nilFunc]), false, true⟩ := by kernel_rfl
@[simp] theorem un189 : (Tryz.prog.underlying 189).isSome = true := by kernel_rfl
@[simp] theorem tf190 : tf Tryz.prog 190 = some ⟨1, 24, (some [.slice none 0 0]), false, true⟩ := by kernel_rfl
@[simp] theorem un190 : (Tryz.prog.underlying 190).isSome = true := by kernel_rfl
@[simp] theorem el190 : elemT Tryz.prog 190 = some 145 := by kernel_rfl
@[simp] theorem ef190 : elemF Tryz.prog 190 = some (145, ⟨2, 16, (some [.int .u64 0, .int .u64 0]), true, true⟩) := by kernel_rfl
@[simp] theorem tf191 : tf Tryz.prog 191 = some ⟨1, 24, (some [.slice none 0 0]), false, true⟩ := by kernel_rfl
@[simp] theorem un191 : (Tryz.prog.underlying 191).isSome = true := by kernel_rfl
@[simp] theorem el191 : elemT Tryz.prog 191 = some 145 := by kernel_rfl
@[simp] theorem ef191 : elemF Tryz.prog 191 = some (145, ⟨2, 16, (some [.int .u64 0, .int .u64 0]), true, true⟩) := by kernel_rfl
@[simp] theorem tf192 : tf Tryz.prog 192 = some ⟨1, 8, (some [.nilFunc]), false, true⟩ := by kernel_rfl
@[simp] theorem un192 : (Tryz.prog.underlying 192).isSome = true := by kernel_rfl
@[simp] theorem tf193 : tf Tryz.prog 193 = some ⟨1, 8, (some [.nilFunc]), false, true⟩ := by kernel_rfl
@[simp] theorem un193 : (Tryz.prog.underlying 193).isSome = true := by kernel_rfl
@[simp] theorem un194 : (Tryz.prog.underlying 194).isSome = true := by kernel_rfl
@[simp] theorem un195 : (Tryz.prog.underlying 195).isSome = true := by kernel_rfl
@[simp] theorem fo195_0 : fieldT Tryz.prog 195 0 = some 0 := by kernel_rfl
@[simp] theorem fo195_1 : fieldT Tryz.prog 195 1 = some 1 := by kernel_rfl
@[simp] theorem pa195 : partsT Tryz.prog 195 = some [(0, 1), (1, 1)] := by kernel_rfl
@[simp] theorem un196 : (Tryz.prog.underlying 196).isSome = true := by kernel_rfl
@[simp] theorem fo196_0 : fieldT Tryz.prog 196 0 = some 0 := by kernel_rfl
@[simp] theorem fo196_1 : fieldT Tryz.prog 196 1 = some 1 := by kernel_rfl
@[simp] theorem pa196 : partsT Tryz.prog 196 = some [(0, 1), (1, 1)] := by kernel_rfl
@[simp] theorem tf197 : tf Tryz.prog 197 = some ⟨1, 8, (some [.nilFunc]), false, true⟩ := by kernel_rfl
@[simp] theorem un197 : (Tryz.prog.underlying 197).isSome = true := by kernel_rfl
@[simp] theorem tf198 : tf Tryz.prog 198 = some ⟨1, 8, (some [.float .f64 0]), false, true⟩ := by kernel_rfl
@[simp] theorem un198 : (Tryz.prog.underlying 198).isSome = true := by kernel_rfl
@[simp] theorem tf199 : tf Tryz.prog 199 = some ⟨1, 8, (some [.nilFunc]), false, true⟩ := by kernel_rfl
@[simp] theorem un199 : (Tryz.prog.underlying 199).isSome = true := by kernel_rfl
@[simp] theorem tf200 : tf Tryz.prog 200 = some ⟨1, 8, (some [.nilFunc]), false, true⟩ := by kernel_rfl
@[simp] theorem un200 : (Tryz.prog.underlying 200).isSome = true := by kernel_rfl
@[simp] theorem tf201 : tf Tryz.prog 201 = some ⟨1, 8, (some [.int .i64 0]), false, true⟩ := by kernel_rfl
@[simp] theorem it201 : intT Tryz.prog 201 = some .i64 := by kernel_rfl
@[simp] theorem un201 : (Tryz.prog.underlying 201).isSome = true := by kernel_rfl
@[simp] theorem un202 : (Tryz.prog.underlying 202).isSome = true := by kernel_rfl
@[simp] theorem tf203 : tf Tryz.prog 203 = some ⟨1, 8, (some [.nilFunc]), false, true⟩ := by kernel_rfl
@[simp] theorem un203 : (Tryz.prog.underlying 203).isSome = true := by kernel_rfl
@[simp] theorem tf204 : tf Tryz.prog 204 = some ⟨1, 8, (some [.nilFunc]), false, true⟩ := by kernel_rfl
@[simp] theorem un204 : (Tryz.prog.underlying 204).isSome = true := by kernel_rfl
@[simp] theorem tf205 : tf Tryz.prog 205 = some ⟨1, 8, (some [.nilFunc]), false, true⟩ := by kernel_rfl
@[simp] theorem un205 : (Tryz.prog.underlying 205).isSome = true := by kernel_rfl
@[simp] theorem tf206 : tf Tryz.prog 206 = some ⟨1, 8, (some [.nilFunc]), false, true⟩ := by kernel_rfl
@[simp] theorem un206 : (Tryz.prog.underlying 206).isSome = true := by kernel_rfl
@[simp] theorem tf207 : tf Tryz.prog 207 = some ⟨1, 8, (some [.nilFunc]), false, true⟩ := by kernel_rfl
@[simp] theorem un207 : (Tryz.prog.underlying 207).isSome = true := by kernel_rfl
@[simp] theorem tf208 : tf Tryz.prog 208 = some ⟨1, 8, (some [.nilFunc]), false, true⟩ := by kernel_rfl
@[simp] theorem un208 : (Tryz.prog.underlying 208).isSome = true := by kernel_rfl
@[simp] theorem tf209 : tf Tryz.prog 209 = some ⟨1, 8, (some [.nilFunc]), false, true⟩ := by kernel_rfl
@[simp] theorem un209 : (Tryz.prog.underlying 209).isSome = true := by kernel_rfl
@[simp] theorem tf210 : tf Tryz.prog 210 = some ⟨1, 8, (some [.pointer none]), false, true⟩ := by kernel_rfl
@[simp] theorem un210 : (Tryz.prog.underlying 210).isSome = true := by kernel_rfl
@[simp] theorem tf211 : tf Tryz.prog 211 = some ⟨1, 8, (some [.nilFunc]), false, true⟩ := by kernel_rfl
@[simp] theorem un211 : (Tryz.prog.underlying 211).isSome = true := by kernel_rfl
@[simp] theorem tf212 : tf Tryz.prog 212 = some ⟨1, 8, (some [.nilFunc]), false, true⟩ := by kernel_rfl
@[simp] theorem un212 : (Tryz.prog.underlying 212).isSome = true := by kernel_rfl
@[simp] theorem tf213 : tf Tryz.prog 213 = some ⟨1, 8, (some [.nilFunc]), false, true⟩ := by kernel_rfl
@[simp] theorem un213 : (Tryz.prog.underlying 213).isSome = true := by kernel_rfl
@[simp] theorem un214 : (Tryz.prog.underlying 214).isSome = true := by kernel_rfl
@[simp] theorem tf215 : tf Tryz.prog 215 = some ⟨1, 8, (some [.nilFunc]), false, true⟩ := by kernel_rfl
@[simp] theorem un215 : (Tryz.prog.underlying 215).isSome = true := by kernel_rfl
@[simp] theorem tf216 : tf Tryz.prog 216 = some ⟨1, 8, (some [.pointer none]), false, true⟩ := by kernel_rfl
@[simp] theorem un216 : (Tryz.prog.underlying 216).isSome = true := by kernel_rfl
@[simp] theorem tf217 : tf Tryz.prog 217 = some ⟨1, 8, (some [.nilFunc]), false, true⟩ := by kernel_rfl
@[simp] theorem un217 : (Tryz.prog.underlying 217).isSome = true := by kernel_rfl
@[simp] theorem tf218 : tf Tryz.prog 218 = some ⟨1, 8, (some [.int .u64 0]), false, true⟩ := by kernel_rfl
@[simp] theorem it218 : intT Tryz.prog 218 = some .u64 := by kernel_rfl
@[simp] theorem un218 : (Tryz.prog.underlying 218).isSome = true := by kernel_rfl
@[simp] theorem tf219 : tf Tryz.prog 219 = some ⟨1, 8, (some [.nilFunc]), false, true⟩ := by kernel_rfl
@[simp] theorem un219 : (Tryz.prog.underlying 219).isSome = true := by kernel_rfl
@[simp] theorem tf220 : tf Tryz.prog 220 = some ⟨1, 8, (some [.nilFunc]), false, true⟩ := by kernel_rfl
@[simp] theorem un220 : (Tryz.prog.underlying 220).isSome = true := by kernel_rfl
@[simp] theorem tf221 : tf Tryz.prog 221 = some ⟨1, 8, (some [.pointer none]), false, true⟩ := by kernel_rfl
@[simp] theorem un221 : (Tryz.prog.underlying 221).isSome = true := by kernel_rfl
@[simp] theorem tf222 : tf Tryz.prog 222 = some ⟨1, 8, (some [.nilFunc]), false, true⟩ := by kernel_rfl
@[simp] theorem un222 : (Tryz.prog.underlying 222).isSome = true := by kernel_rfl
@[simp] theorem tf223 : tf Tryz.prog 223 = some ⟨1, 8, (some [.nilFunc]), false, true⟩ := by kernel_rfl
@[simp] theorem un223 : (Tryz.prog.underlying 223).isSome = true := by kernel_rfl
@[simp] theorem tf224 : tf Tryz.prog 224 = some ⟨1, 8, (some [.nilFunc]), false, true⟩ := by kernel_rfl
@[simp] theorem un224 : (Tryz.prog.underlying 224).isSome = true := by kernel_rfl
@[simp] theorem tf225 : tf Tryz.prog 225 = some ⟨1, 8, (some [.nilFunc]), false, true⟩ := by kernel_rfl
@[simp] theorem un225 : (Tryz.prog.underlying 225).isSome = true := by kernel_rfl
@[simp] theorem tf226 : tf Tryz.prog 226 = some ⟨1, 8, (some [.nilFunc]), false, true⟩ := by kernel_rfl
@[simp] theorem un226 : (Tryz.prog.underlying 226).isSome = true := by kernel_rfl
@[simp] theorem tf227 : tf Tryz.prog 227 = some ⟨1, 8, (some [.nilFunc]), false, true⟩ := by kernel_rfl
@[simp] theorem un227 : (Tryz.prog.underlying 227).isSome = true := by kernel_rfl
@[simp] theorem tf228 : tf Tryz.prog 228 = some ⟨1, 8, (some [.nilFunc]), false, true⟩ := by kernel_rfl
@[simp] theorem un228 : (Tryz.prog.underlying 228).isSome = true := by kernel_rfl
@[simp] theorem tf229 : tf Tryz.prog 229 = some ⟨1, 8, (some [.nilFunc]), false, true⟩ := by kernel_rfl
@[simp] theorem un229 : (Tryz.prog.underlying 229).isSome = true := by kernel_rfl
@[simp] theorem tf230 : tf Tryz.prog 230 = some ⟨1, 8, (some [.nilFunc]), false, true⟩ := by kernel_rfl
@[simp] theorem un230 : (Tryz.prog.underlying 230).isSome = true := by kernel_rfl
@[simp] theorem tf231 : tf Tryz.prog 231 = some ⟨1, 8, (some [.nilFunc]), false, true⟩ := by kernel_rfl
@[simp] theorem un231 : (Tryz.prog.underlying 231).isSome = true := by kernel_rfl
@[simp] theorem tf232 : tf Tryz.prog 232 = some ⟨1, 8, (some [.pointer none]), false, true⟩ := by kernel_rfl
@[simp] theorem un232 : (Tryz.prog.underlying 232).isSome = true := by kernel_rfl
@[simp] theorem un233 : (Tryz.prog.underlying 233).isSome = true := by kernel_rfl
@[simp] theorem tf234 : tf Tryz.prog 234 = some ⟨1, 8, (some [.nilFunc]), false, true⟩ := by kernel_rfl
@[simp] theorem un234 : (Tryz.prog.underlying 234).isSome = true := by kernel_rfl
@[simp] theorem tf235 : tf Tryz.prog 235 = some ⟨1, 8, (some [.pointer none]), false, true⟩ := by kernel_rfl
@[simp] theorem un235 : (Tryz.prog.underlying 235).isSome = true := by kernel_rfl
@[simp] theorem tf236 : tf Tryz.prog 236 = some ⟨1, 8, (some [.nilFunc]), false, true⟩ := by kernel_rfl
@[simp] theorem un236 : (Tryz.prog.underlying 236).isSome = true := by kernel_rfl
@[simp] theorem tf237 : tf Tryz.prog 237 = some ⟨1, 8, (some [.pointer none]), false, true⟩ := by kernel_rfl
@[simp] theorem un237 : (Tryz.prog.underlying 237).isSome = true := by kernel_rfl
@[simp] theorem un238 : (Tryz.prog.underlying 238).isSome = true := by kernel_rfl
@[simp] theorem tf239 : tf Tryz.prog 239 = some ⟨1, 8, (some [.nilFunc]), false, true⟩ := by kernel_rfl
@[simp] theorem un239 : (Tryz.prog.underlying 239).isSome = true := by kernel_rfl
@[simp] theorem tf240 : tf Tryz.prog 240 = some ⟨1, 8, (some [.nilFunc]), false, true⟩ := by kernel_rfl
@[simp] theorem un240 : (Tryz.prog.underlying 240).isSome = true := by kernel_rfl
@[simp] theorem tf241 : tf Tryz.prog 241 = some ⟨1, 8, (some [.nilFunc]), false, true⟩ := by kernel_rfl
@[simp] theorem un241 : (Tryz.prog.underlying 241).isSome = true := by kernel_rfl
@[simp] theorem tf242 : tf Tryz.prog 242 = some ⟨1, 8, (some [.nilFunc]), false, true⟩ := by kernel_rfl
@[simp] theorem un242 : (Tryz.prog.underlying 242).isSome = true := by kernel_rfl
@[simp] theorem tf243 : tf Tryz.prog 243 = some ⟨1, 8, (some [.nilFunc]), false, true⟩ := by kernel_rfl
@[simp] theorem un243 : (Tryz.prog.underlying 243).isSome = true := by kernel_rfl
@[simp] theorem tf244 : tf Tryz.prog 244 = some ⟨1, 8, (some [.nilFunc]), false, true⟩ := by kernel_rfl
@[simp] theorem un244 : (Tryz.prog.underlying 244).isSome = true := by kernel_rfl
@[simp] theorem tf245 : tf Tryz.prog 245 = some ⟨1, 8, (some [.pointer none]), false, true⟩ := by kernel_rfl
@[simp] theorem un245 : (Tryz.prog.underlying 245).isSome = true := by kernel_rfl
@[simp] theorem tf246 : tf Tryz.prog 246 = some ⟨1, 8, (some [.nilFunc]), false, true⟩ := by kernel_rfl
@[simp] theorem un246 : (Tryz.prog.underlying 246).isSome = true := by kernel_rfl
@[simp] theorem tf247 : tf Tryz.prog 247 = some ⟨2, 24, (some [.pointer none, .string ⟨#[]⟩]), true, true⟩ := by kernel_rfl
@[simp] theorem un247 : (Tryz.prog.underlying 247).isSome = true := by kernel_rfl
@[simp] theorem fo247_0 : fieldT Tryz.prog 247 0 = some 0 := by kernel_rfl
@[simp] theorem fo247_1 : fieldT Tryz.prog 247 1 = some 1 := by kernel_rfl
@[simp] theorem pa247 : partsT Tryz.prog 247 = some [(0, 1), (1, 1)] := by kernel_rfl
@[simp] theorem tf248 : tf Tryz.prog 248 = some ⟨2, 24, (some [.pointer none, .string ⟨#[]⟩]), true, true⟩ := by kernel_rfl
@[simp] theorem un248 : (Tryz.prog.underlying 248).isSome = true := by kernel_rfl
@[simp] theorem fo248_0 : fieldT Tryz.prog 248 0 = some 0 := by kernel_rfl
@[simp] theorem fo248_1 : fieldT Tryz.prog 248 1 = some 1 := by kernel_rfl
@[simp] theorem pa248 : partsT Tryz.prog 248 = some [(0, 1), (1, 1)] := by kernel_rfl
@[simp] theorem un249 : (Tryz.prog.underlying 249).isSome = true := by kernel_rfl
@[simp] theorem tf250 : tf Tryz.prog 250 = some ⟨1, 8, (some [.nilFunc]), false, true⟩ := by kernel_rfl
@[simp] theorem un250 : (Tryz.prog.underlying 250).isSome = true := by kernel_rfl
@[simp] theorem un251 : (Tryz.prog.underlying 251).isSome = true := by kernel_rfl
@[simp] theorem tf252 : tf Tryz.prog 252 = some ⟨1, 8, (some [.nilFunc]), false, true⟩ := by kernel_rfl
@[simp] theorem un252 : (Tryz.prog.underlying 252).isSome = true := by kernel_rfl
@[simp] theorem tf253 : tf Tryz.prog 253 = some ⟨1, 8, (some [.nilFunc]), false, true⟩ := by kernel_rfl
@[simp] theorem un253 : (Tryz.prog.underlying 253).isSome = true := by kernel_rfl
@[simp] theorem tf254 : tf Tryz.prog 254 = some ⟨1, 8, (some [.nilFunc]), false, true⟩ := by kernel_rfl
@[simp] theorem un254 : (Tryz.prog.underlying 254).isSome = true := by kernel_rfl
@[simp] theorem tf255 : tf Tryz.prog 255 = some ⟨1, 8, (some [.nilFunc]), false, true⟩ := by kernel_rfl
@[simp] theorem un255 : (Tryz.prog.underlying 255).isSome = true := by kernel_rfl
@[simp] theorem tf256 : tf Tryz.prog 256 = some ⟨1, 8, (some [.nilFunc]), false, true⟩ := by kernel_rfl
@[simp] theorem un256 : (Tryz.prog.underlying 256).isSome = true := by kernel_rfl
@[simp] theorem tf257 : tf Tryz.prog 257 = some ⟨1, 8, (some [.nilFunc]), false, true⟩ := by kernel_rfl
@[simp] theorem un257 : (Tryz.prog.underlying 257).isSome = true := by kernel_rfl
@[simp] theorem tf258 : tf Tryz.prog 258 = some ⟨1, 8, (some [.nilFunc]), false, true⟩ := by kernel_rfl
@[simp] theorem un258 : (Tryz.prog.underlying 258).isSome = true := by kernel_rfl
@[simp] theorem tf259 : tf Tryz.prog 259 = some ⟨1, 8, (some [.nilFunc]), false, true⟩ := by kernel_rfl
@[simp] theorem un259 : (Tryz.prog.underlying 259).isSome = true := by kernel_rfl
@[simp] theorem tf260 : tf Tryz.prog 260 = some ⟨1, 8, (some [.nilFunc]), false, true⟩ := by kernel_rfl
@[simp] theorem un260 : (Tryz.prog.underlying 260).isSome = true := by kernel_rfl
@[simp] theorem tf261 : tf Tryz.prog 261 = some ⟨1, 8, (some [.nilFunc]), false, true⟩ := by kernel_rfl
@[simp] theorem un261 : (Tryz.prog.underlying 261).isSome = true := by kernel_rfl
@[simp] theorem tf262 : tf Tryz.prog 262 = some ⟨1, 8, (some [.nilFunc]), false, true⟩ := by kernel_rfl
@[simp] theorem un262 : (Tryz.prog.underlying 262).isSome = true := by kernel_rfl
@[simp] theorem tf263 : tf Tryz.prog 263 = some ⟨1, 8, (some [.map none]), false, true⟩ := by kernel_rfl
@[simp] theorem un263 : (Tryz.prog.underlying 263).isSome = true := by kernel_rfl
@[simp] theorem tf264 : tf Tryz.prog 264 = some ⟨3, 24, (some [.pointer none, .map none, .int .i64 0]), true, true⟩ := by kernel_rfl
@[simp] theorem un264 : (Tryz.prog.underlying 264).isSome = true := by kernel_rfl
@[simp] theorem fo264_0 : fieldT Tryz.prog 264 0 = some 0 := by kernel_rfl
@[simp] theorem fo264_1 : fieldT Tryz.prog 264 1 = some 1 := by kernel_rfl
@[simp] theorem fo264_2 : fieldT Tryz.prog 264 2 = some 2 := by kernel_rfl
@[simp] theorem pa264 : partsT Tryz.prog 264 = some [(0, 1), (1, 1), (2, 1)] := by kernel_rfl
@[simp] theorem tf265 : tf Tryz.prog 265 = some ⟨3, 24, (some [.pointer none, .map none, .int .i64 0]), true, true⟩ := by kernel_rfl
@[simp] theorem un265 : (Tryz.prog.underlying 265).isSome = true := by kernel_rfl
@[simp] theorem fo265_0 : fieldT Tryz.prog 265 0 = some 0 := by kernel_rfl
@[simp] theorem fo265_1 : fieldT Tryz.prog 265 1 = some 1 := by kernel_rfl
@[simp] theorem fo265_2 : fieldT Tryz.prog 265 2 = some 2 := by kernel_rfl
@[simp] theorem pa265 : partsT Tryz.prog 265 = some [(0, 1), (1, 1), (2, 1)] := by kernel_rfl
@[simp] theorem tf266 : tf Tryz.prog 266 = some ⟨2, 16, (some [.int .i64 0, .int .i64 0]), true, true⟩ := by kernel_rfl
@[simp] theorem un266 : (Tryz.prog.underlying 266).isSome = true := by kernel_rfl
@[simp] theorem fo266_0 : fieldT Tryz.prog 266 0 = some 0 := by kernel_rfl
@[simp] theorem fo266_1 : fieldT Tryz.prog 266 1 = some 1 := by kernel_rfl
@[simp] theorem pa266 : partsT Tryz.prog 266 = some [(0, 1), (1, 1)] := by kernel_rfl
@[simp] theorem tf267 : tf Tryz.prog 267 = some ⟨2, 16, (some [.int .i64 0, .int .i64 0]), true, true⟩ := by kernel_rfl
@[simp] theorem un267 : (Tryz.prog.underlying 267).isSome = true := by kernel_rfl
@[simp] theorem fo267_0 : fieldT Tryz.prog 267 0 = some 0 := by kernel_rfl
@[simp] theorem fo267_1 : fieldT Tryz.prog 267 1 = some 1 := by kernel_rfl
@[simp] theorem pa267 : partsT Tryz.prog 267 = some [(0, 1), (1, 1)] := by kernel_rfl
@[simp] theorem tf268 : tf Tryz.prog 268 = some ⟨1, 8, (some [.pointer none]), false, true⟩ := by kernel_rfl
@[simp] theorem un268 : (Tryz.prog.underlying 268).isSome = true := by kernel_rfl
@[simp] theorem un269 : (Tryz.prog.underlying 269).isSome = true := by kernel_rfl
@[simp] theorem tf270 : tf Tryz.prog 270 = some ⟨2, 32, (some [.slice none 0 0, .int .i64 0]), true, true⟩ := by kernel_rfl
@[simp] theorem un270 : (Tryz.prog.underlying 270).isSome = true := by kernel_rfl
@[simp] theorem fo270_0 : fieldT Tryz.prog 270 0 = some 0 := by kernel_rfl
@[simp] theorem fo270_1 : fieldT Tryz.prog 270 1 = some 1 := by kernel_rfl
@[simp] theorem pa270 : partsT Tryz.prog 270 = some [(0, 1), (1, 1)] := by kernel_rfl
@[simp] theorem tf271 : tf Tryz.prog 271 = some ⟨2, 32, (some [.slice none 0 0, .int .i64 0]), true, true⟩ := by kernel_rfl
@[simp] theorem un271 : (Tryz.prog.underlying 271).isSome = true := by kernel_rfl
@[simp] theorem fo271_0 : fieldT Tryz.prog 271 0 = some 0 := by kernel_rfl
@[simp] theorem fo271_1 : fieldT Tryz.prog 271 1 = some 1 := by kernel_rfl
@[simp] theorem pa271 : partsT Tryz.prog 271 = some [(0, 1), (1, 1)] := by kernel_rfl
@[simp] theorem tf272 : tf Tryz.prog 272 = some ⟨1, 8, (some [.nilFunc]), false, true⟩ := by kernel_rfl
@[simp] theorem un272 : (Tryz.prog.underlying 272).isSome = true := by kernel_rfl
@[simp] theorem tf273 : tf Tryz.prog 273 = some ⟨1, 8, (some [.nilFunc]), false, true⟩ := by kernel_rfl
@[simp] theorem un273 : (Tryz.prog.underlying 273).isSome = true := by kernel_rfl
@[simp] theorem tf274 : tf Tryz.prog 274 = some ⟨1, 8, (some [.nilFunc]), false, true⟩ := by kernel_rfl
@[simp] theorem un274 : (Tryz.prog.underlying 274).isSome = true := by kernel_rfl
@[simp] theorem tf275 : tf Tryz.prog 275 = some ⟨1, 8, (some [.nilFunc]), false, true⟩ := by kernel_rfl
@[simp] theorem un275 : (Tryz.prog.underlying 275).isSome = true := by kernel_rfl
@[simp] theorem tf276 : tf Tryz.prog 276 = some ⟨0, 0, (some []), true, true⟩ := by kernel_rfl
@[simp] theorem un276 : (Tryz.prog.underlying 276).isSome = true := by kernel_rfl
@[simp] theorem pa276 : partsT Tryz.prog 276 = some [] := by kernel_rfl
@[simp] theorem tf277 : tf Tryz.prog 277 = some ⟨0, 0, (some []), true, true⟩ := by kernel_rfl
@[simp] theorem un277 : (Tryz.prog.underlying 277).isSome = true := by kernel_rfl
@[simp] theorem pa277 : partsT Tryz.prog 277 = some [] := by kernel_rfl
@[simp] theorem tf278 : tf Tryz.prog 278 = some ⟨1, 8, (some [.nilFunc]), false, true⟩ := by kernel_rfl
@[simp] theorem un278 : (Tryz.prog.underlying 278).isSome = true := by kernel_rfl
@[simp] theorem tf279 : tf Tryz.prog 279 = some ⟨1, 8, (some [.nilFunc]), false, true⟩ := by kernel_rfl
@[simp] theorem un279 : (Tryz.prog.underlying 279).isSome = true := by kernel_rfl
@[simp] theorem tf280 : tf Tryz.prog 280 = some ⟨1, 8, (some [.nilFunc]), false, true⟩ := by kernel_rfl
@[simp] theorem un280 : (Tryz.prog.underlying 280).isSome = true := by kernel_rfl
@[simp] theorem un281 : (Tryz.prog.underlying 281).isSome = true := by kernel_rfl
@[simp] theorem tf282 : tf Tryz.prog 282 = some ⟨1, 8, (some [.nilFunc]), false, true⟩ := by kernel_rfl
@[simp] theorem un282 : (Tryz.prog.underlying 282).isSome = true := by kernel_rfl
@[simp] theorem un283 : (Tryz.prog.underlying 283).isSome = true := by kernel_rfl
@[simp] theorem tf284 : tf Tryz.prog 284 = some ⟨1, 8, (some [.nilFunc]), false, true⟩ := by kernel_rfl
@[simp] theorem un284 : (Tryz.prog.underlying 284).isSome = true := by kernel_rfl
@[simp] theorem tf285 : tf Tryz.prog 285 = some ⟨1, 8, (some [.nilFunc]), false, true⟩ := by kernel_rfl
@[simp] theorem un285 : (Tryz.prog.underlying 285).isSome = true := by kernel_rfl
@[simp] theorem tf286 : tf Tryz.prog 286 = some ⟨1, 8, (some [.nilFunc]), false, true⟩ := by kernel_rfl
@[simp] theorem un286 : (Tryz.prog.underlying 286).isSome = true := by kernel_rfl
@[simp] theorem tf287 : tf Tryz.prog 287 = some ⟨1, 8, (some [.nilFunc]), false, true⟩ := by kernel_rfl
@[simp] theorem un287 : (Tryz.prog.underlying 287).isSome = true := by kernel_rfl
@[simp] theorem tf288 : tf Tryz.prog 288 = some ⟨4, 40, (some [.pointer none, .pointer none, .pointer none, .string ⟨#[]⟩]), true, true⟩ := by kernel_rfl
@[simp] theorem un288 : (Tryz.prog.underlying 288).isSome = true := by kernel_rfl
@[simp] theorem fo288_0 : fieldT Tryz.prog 288 0 = some 0 := by kernel_rfl
@[simp] theorem fo288_1 : fieldT Tryz.prog 288 1 = some 1 := by kernel_rfl
@[simp] theorem fo288_2 : fieldT Tryz.prog 288 2 = some 2 := by kernel_rfl
@[simp] theorem fo288_3 : fieldT Tryz.prog 288 3 = some 3 := by kernel_rfl
@[simp] theorem pa288 : partsT Tryz.prog 288 = some [(0, 1), (1, 1), (2, 1), (3, 1)] := by kernel_rfl
@[simp] theorem tf289 : tf Tryz.prog 289 = some ⟨4, 40, (some [.pointer none, .pointer none, .pointer none, .string ⟨#[]⟩]), true, true⟩ := by kernel_rfl
@[simp] theorem un289 : (Tryz.prog.underlying 289).isSome = true := by kernel_rfl
@[simp] theorem fo289_0 : fieldT Tryz.prog 289 0 = some 0 := by kernel_rfl
@[simp] theorem fo289_1 : fieldT Tryz.prog 289 1 = some 1 := by kernel_rfl
@[simp] theorem fo289_2 : fieldT Tryz.prog 289 2 = some 2 := by kernel_rfl
@[simp] theorem fo289_3 : fieldT Tryz.prog 289 3 = some 3 := by kernel_rfl
@[simp] theorem pa289 : partsT Tryz.prog 289 = some [(0, 1), (1, 1), (2, 1), (3, 1)] := by kernel_rfl
@[simp] theorem tf290 : tf Tryz.prog 290 = some ⟨0, 0, (some []), true, true⟩ := by kernel_rfl
@[simp] theorem un290 : (Tryz.prog.underlying 290).isSome = true := by kernel_rfl
@[simp] theorem tf291 : tf Tryz.prog 291 = some ⟨0, 0, (some []), true, true⟩ := by kernel_rfl
@[simp] theorem un291 : (Tryz.prog.underlying 291).isSome = true := by kernel_rfl
@[simp] theorem pa291 : partsT Tryz.prog 291 = some [(0, 0)] := by kernel_rfl
@[simp] theorem tf292 : tf Tryz.prog 292 = some ⟨0, 0, (some []), true, true⟩ := by kernel_rfl
@[simp] theorem un292 : (Tryz.prog.underlying 292).isSome = true := by kernel_rfl
@[simp] theorem pa292 : partsT Tryz.prog 292 = some [(0, 0)] := by kernel_rfl
@[simp] theorem tf293 : tf Tryz.prog 293 = some ⟨1, 1, (some [.int .u8 0]), false, true⟩ := by kernel_rfl
@[simp] theorem it293 : intT Tryz.prog 293 = some .u8 := by kernel_rfl
@[simp] theorem un293 : (Tryz.prog.underlying 293).isSome = true := by kernel_rfl
@[simp] theorem tf294 : tf Tryz.prog 294 = some ⟨1, 1, (some [.int .u8 0]), false, true⟩ := by kernel_rfl
@[simp] theorem it294 : intT Tryz.prog 294 = some .u8 := by kernel_rfl
@[simp] theorem un294 : (Tryz.prog.underlying 294).isSome = true := by kernel_rfl
@[simp] theorem tf295 : tf Tryz.prog 295 = some ⟨1, 8, (some [.nilFunc]), false, true⟩ := by kernel_rfl
@[simp] theorem un295 : (Tryz.prog.underlying 295).isSome = true := by kernel_rfl
@[simp] theorem tf296 : tf Tryz.prog 296 = some ⟨1, 4, (some [.int .i32 0]), false, true⟩ := by kernel_rfl
@[simp] theorem it296 : intT Tryz.prog 296 = some .i32 := by kernel_rfl
@[simp] theorem un296 : (Tryz.prog.underlying 296).isSome = true := by kernel_rfl
@[simp] theorem tf297 : tf Tryz.prog 297 = some ⟨1, 4, (some [.int .i32 0]), false, true⟩ := by kernel_rfl
@[simp] theorem it297 : intT Tryz.prog 297 = some .i32 := by kernel_rfl
@[simp] theorem un297 : (Tryz.prog.underlying 297).isSome = true := by kernel_rfl
@[simp] theorem tf298 : tf Tryz.prog 298 = some ⟨11, 48, (some [.int .u64 0, .int .u64 0, .int .u32 0, .int .u8 0, .int .u8 0, .int .u8 0, .int .u8 0, .nilFunc, .pointer none, .int .i32 0, .int .i32 0]), true, true⟩ := by kernel_rfl
@[simp] theorem un298 : (Tryz.prog.underlying 298).isSome = true := by kernel_rfl
@[simp] theorem fo298_0 : fieldT Tryz.prog 298 0 = some 0 := by kernel_rfl
@[simp] theorem fo298_1 : fieldT Tryz.prog 298 1 = some 1 := by kernel_rfl
@[simp] theorem fo298_2 : fieldT Tryz.prog 298 2 = some 2 := by kernel_rfl
@[simp] theorem fo298_3 : fieldT Tryz.prog 298 3 = some 3 := by kernel_rfl
@[simp] theorem fo298_4 : fieldT Tryz.prog 298 4 = some 4 := by kernel_rfl
@[simp] theorem fo298_5 : fieldT Tryz.prog 298 5 = some 5 := by kernel_rfl
@[simp] theorem fo298_6 : fieldT Tryz.prog 298 6 = some 6 := by kernel_rfl
@[simp] theorem fo298_7 : fieldT Tryz.prog 298 7 = some 7 := by kernel_rfl
@[simp] theorem fo298_8 : fieldT Tryz.prog 298 8 = some 8 := by kernel_rfl
@[simp] theorem fo298_9 : fieldT Tryz.prog 298 9 = some 9 := by kernel_rfl
@[simp] theorem fo298_10 : fieldT Tryz.prog 298 10 = some 10 := by kernel_rfl
@[simp] theorem pa298 : partsT Tryz.prog 298 = some [(0, 1), (1, 1), (2, 1), (3, 1), (4, 1), (5, 1), (6, 1), (7, 1), (8, 1), (9, 1), (10, 1)] := by kernel_rfl
@[simp] theorem tf299 : tf Tryz.prog 299 = some ⟨11, 48, (some [.int .u64 0, .int .u64 0, .int .u32 0, .int .u8 0, .int .u8 0, .int .u8 0, .int .u8 0, .nilFunc, .pointer none, .int .i32 0, .int .i32 0]), true, true⟩ := by kernel_rfl
@[simp] theorem un299 : (Tryz.prog.underlying 299).isSome = true := by kernel_rfl
@[simp] theorem fo299_0 : fieldT Tryz.prog 299 0 = some 0 := by kernel_rfl
@[simp] theorem fo299_1 : fieldT Tryz.prog 299 1 = some 1 := by kernel_rfl
@[simp] theorem fo299_2 : fieldT Tryz.prog 299 2 = some 2 := by kernel_rfl
@[simp] theorem fo299_3 : fieldT Tryz.prog 299 3 = some 3 := by kernel_rfl
@[simp] theorem fo299_4 : fieldT Tryz.prog 299 4 = some 4 := by kernel_rfl
@[simp] theorem fo299_5 : fieldT Tryz.prog 299 5 = some 5 := by kernel_rfl
@[simp] theorem fo299_6 : fieldT Tryz.prog 299 6 = some 6 := by kernel_rfl
@[simp] theorem fo299_7 : fieldT Tryz.prog 299 7 = some 7 := by kernel_rfl
@[simp] theorem fo299_8 : fieldT Tryz.prog 299 8 = some 8 := by kernel_rfl
@[simp] theorem fo299_9 : fieldT Tryz.prog 299 9 = some 9 := by kernel_rfl
@[simp] theorem fo299_10 : fieldT Tryz.prog 299 10 = some 10 := by kernel_rfl
@[simp] theorem pa299 : partsT Tryz.prog 299 = some [(0, 1), (1, 1), (2, 1), (3, 1), (4, 1), (5, 1), (6, 1), (7, 1), (8, 1), (9, 1), (10, 1)] := by kernel_rfl
@[simp] theorem tf300 : tf Tryz.prog 300 = some ⟨1, 8, (some [.nilFunc]), false, true⟩ := by kernel_rfl
@[simp] theorem un300 : (Tryz.prog.underlying 300).isSome = true := by kernel_rfl
@[simp] theorem nt2 : Tryz.f2.ntmps = 1 := by kernel_rfl
@[simp] theorem rs2 : Tryz.f2.results.toList = [] := by kernel_rfl
@[simp] theorem nt3 : Tryz.f3.ntmps = 99 := by kernel_rfl
@[simp] theorem rs3 : Tryz.f3.results.toList = [.tmp 4] := by kernel_rfl
@[simp] theorem nt4 : Tryz.f4.ntmps = 30 := by kernel_rfl
@[simp] theorem rs4 : Tryz.f4.results.toList = [.tmp 2] := by kernel_rfl
@[simp] theorem nt5 : Tryz.f5.ntmps = 66 := by kernel_rfl
@[simp] theorem rs5 : Tryz.f5.results.toList = [.tmp 10] := by kernel_rfl
@[simp] theorem nt6 : Tryz.f6.ntmps = 37 := by kernel_rfl
@[simp] theorem rs6 : Tryz.f6.results.toList = [.tmp 4] := by kernel_rfl
@[simp] theorem nt7 : Tryz.f7.ntmps = 71 := by kernel_rfl
@[simp] theorem rs7 : Tryz.f7.results.toList = [.tmp 10] := by kernel_rfl
@[simp] theorem nt8 : Tryz.f8.ntmps = 73 := by kernel_rfl
@[simp] theorem rs8 : Tryz.f8.results.toList = [.cell 4 4] := by kernel_rfl
@[simp] theorem nt9 : Tryz.f9.ntmps = 80 := by kernel_rfl
@[simp] theorem rs9 : Tryz.f9.results.toList = [.tmp 6] := by kernel_rfl
@[simp] theorem nt10 : Tryz.f10.ntmps = 96 := by kernel_rfl
@[simp] theorem rs10 : Tryz.f10.results.toList = [.tmp 10] := by kernel_rfl
@[simp] theorem nt11 : Tryz.f11.ntmps = 88 := by kernel_rfl
@[simp] theorem rs11 : Tryz.f11.results.toList = [.tmp 6] := by kernel_rfl
@[simp] theorem nt12 : Tryz.f12.ntmps = 12 := by kernel_rfl
@[simp] theorem rs12 : Tryz.f12.results.toList = [.tmp 0] := by kernel_rfl
@[simp] theorem nt13 : Tryz.f13.ntmps = 11 := by kernel_rfl
@[simp] theorem rs13 : Tryz.f13.results.toList = [] := by kernel_rfl
@[simp] theorem nt14 : Tryz.f14.ntmps = 17 := by kernel_rfl
@[simp] theorem rs14 : Tryz.f14.results.toList = [.tmp 2] := by kernel_rfl
@[simp] theorem nt15 : Tryz.f15.ntmps = 15 := by kernel_rfl
@[simp] theorem rs15 : Tryz.f15.results.toList = [.tmp 2] := by kernel_rfl
@[simp] theorem nt16 : Tryz.f16.ntmps = 8 := by kernel_rfl
@[simp] theorem rs16 : Tryz.f16.results.toList = [.tmp 2] := by kernel_rfl
@[simp] theorem nt17 : Tryz.f17.ntmps = 7 := by kernel_rfl
@[simp] theorem rs17 : Tryz.f17.results.toList = [.cell 2 33] := by kernel_rfl
@[simp] theorem nt18 : Tryz.f18.ntmps = 26 := by kernel_rfl
@[simp] theorem rs18 : Tryz.f18.results.toList = [.tmp 4] := by kernel_rfl
@[simp] theorem nt19 : Tryz.f19.ntmps = 16 := by kernel_rfl
@[simp] theorem rs19 : Tryz.f19.results.toList = [.tmp 2] := by kernel_rfl
@[simp] theorem nt20 : Tryz.f20.ntmps = 77 := by kernel_rfl
@[simp] theorem rs20 : Tryz.f20.results.toList = [.cell 2 47, .tmp 3] := by kernel_rfl
@[simp] theorem nt21 : Tryz.f21.ntmps = 176 := by kernel_rfl
@[simp] theorem rs21 : Tryz.f21.results.toList = [.cell 2 47, .tmp 3] := by kernel_rfl
@[simp] theorem nt22 : Tryz.f22.ntmps = 17 := by kernel_rfl
@[simp] theorem rs22 : Tryz.f22.results.toList = [.tmp 4] := by kernel_rfl
@[simp] theorem nt23 : Tryz.f23.ntmps = 78 := by kernel_rfl
@[simp] theorem rs23 : Tryz.f23.results.toList = [.cell 4 47] := by kernel_rfl
@[simp] theorem nt24 : Tryz.f24.ntmps = 30 := by kernel_rfl
@[simp] theorem rs24 : Tryz.f24.results.toList = [.tmp 2] := by kernel_rfl
@[simp] theorem nt25 : Tryz.f25.ntmps = 33 := by kernel_rfl
@[simp] theorem rs25 : Tryz.f25.results.toList = [.tmp 2] := by kernel_rfl
@[simp] theorem nt26 : Tryz.f26.ntmps = 36 := by kernel_rfl
@[simp] theorem rs26 : Tryz.f26.results.toList = [.tmp 2] := by kernel_rfl
@[simp] theorem nt27 : Tryz.f27.ntmps = 30 := by kernel_rfl
@[simp] theorem rs27 : Tryz.f27.results.toList = [.tmp 0] := by kernel_rfl
@[simp] theorem nt28 : Tryz.f28.ntmps = 45 := by kernel_rfl
@[simp] theorem rs28 : Tryz.f28.results.toList = [.tmp 2, .tmp 3] := by kernel_rfl
@[simp] theorem nt29 : Tryz.f29.ntmps = 42 := by kernel_rfl
@[simp] theorem rs29 : Tryz.f29.results.toList = [.tmp 4] := by kernel_rfl
@[simp] theorem nt30 : Tryz.f30.ntmps = 78 := by kernel_rfl
@[simp] theorem rs30 : Tryz.f30.results.toList = [.tmp 2, .tmp 3, .tmp 4] := by kernel_rfl
@[simp] theorem nt31 : Tryz.f31.ntmps = 61 := by kernel_rfl
@[simp] theorem rs31 : Tryz.f31.results.toList = [.tmp 4] := by kernel_rfl
@[simp] theorem nt32 : Tryz.f32.ntmps = 4 := by kernel_rfl
@[simp] theorem rs32 : Tryz.f32.results.toList = [.tmp 2] := by kernel_rfl
@[simp] theorem nt33 : Tryz.f33.ntmps = 26 := by kernel_rfl
@[simp] theorem rs33 : Tryz.f33.results.toList = [.tmp 4] := by kernel_rfl
@[simp] theorem nt34 : Tryz.f34.ntmps = 33 := by kernel_rfl
@[simp] theorem rs34 : Tryz.f34.results.toList = [.tmp 2] := by kernel_rfl
@[simp] theorem nt35 : Tryz.f35.ntmps = 145 := by kernel_rfl
@[simp] theorem rs35 : Tryz.f35.results.toList = [.tmp 2] := by kernel_rfl
@[simp] theorem nt36 : Tryz.f36.ntmps = 9 := by kernel_rfl
@[simp] theorem rs36 : Tryz.f36.results.toList = [.tmp 4] := by kernel_rfl
@[simp] theorem nt37 : Tryz.f37.ntmps = 20 := by kernel_rfl
@[simp] theorem rs37 : Tryz.f37.results.toList = [.tmp 3] := by kernel_rfl
@[simp] theorem nt38 : Tryz.f38.ntmps = 36 := by kernel_rfl
@[simp] theorem rs38 : Tryz.f38.results.toList = [.tmp 2] := by kernel_rfl
@[simp] theorem nt39 : Tryz.f39.ntmps = 48 := by kernel_rfl
@[simp] theorem rs39 : Tryz.f39.results.toList = [] := by kernel_rfl
@[simp] theorem nt40 : Tryz.f40.ntmps = 15 := by kernel_rfl
@[simp] theorem rs40 : Tryz.f40.results.toList = [.tmp 2] := by kernel_rfl
@[simp] theorem nt41 : Tryz.f41.ntmps = 51 := by kernel_rfl
@[simp] theorem rs41 : Tryz.f41.results.toList = [.tmp 0] := by kernel_rfl
@[simp] theorem nt42 : Tryz.f42.ntmps = 31 := by kernel_rfl
@[simp] theorem rs42 : Tryz.f42.results.toList = [] := by kernel_rfl
@[simp] theorem nt43 : Tryz.f43.ntmps = 25 := by kernel_rfl
@[simp] theorem rs43 : Tryz.f43.results.toList = [] := by kernel_rfl
@[simp] theorem nt44 : Tryz.f44.ntmps = 60 := by kernel_rfl
@[simp] theorem rs44 : Tryz.f44.results.toList = [.cell 4 33] := by kernel_rfl
@[simp] theorem nt45 : Tryz.f45.ntmps = 78 := by kernel_rfl
@[simp] theorem rs45 : Tryz.f45.results.toList = [.tmp 2] := by kernel_rfl
@[simp] theorem nt46 : Tryz.f46.ntmps = 49 := by kernel_rfl
@[simp] theorem rs46 : Tryz.f46.results.toList = [.tmp 4] := by kernel_rfl
@[simp] theorem nt47 : Tryz.f47.ntmps = 47 := by kernel_rfl
@[simp] theorem rs47 : Tryz.f47.results.toList = [.tmp 2, .tmp 3] := by kernel_rfl
@[simp] theorem nt48 : Tryz.f48.ntmps = 26 := by kernel_rfl
@[simp] theorem rs48 : Tryz.f48.results.toList = [.tmp 4] := by kernel_rfl
@[simp] theorem nt49 : Tryz.f49.ntmps = 14 := by kernel_rfl
@[simp] theorem rs49 : Tryz.f49.results.toList = [.tmp 2] := by kernel_rfl
@[simp] theorem nt50 : Tryz.f50.ntmps = 18 := by kernel_rfl
@[simp] theorem rs50 : Tryz.f50.results.toList = [] := by kernel_rfl
@[simp] theorem nt51 : Tryz.f51.ntmps = 9 := by kernel_rfl
@[simp] theorem rs51 : Tryz.f51.results.toList = [.tmp 2] := by kernel_rfl
@[simp] theorem nt52 : Tryz.f52.ntmps = 27 := by kernel_rfl
@[simp] theorem rs52 : Tryz.f52.results.toList = [.tmp 4] := by kernel_rfl
@[simp] theorem nt53 : Tryz.f53.ntmps = 3 := by kernel_rfl
@[simp] theorem rs53 : Tryz.f53.results.toList = [.tmp 0] := by kernel_rfl
@[simp] theorem nt54 : Tryz.f54.ntmps = 19 := by kernel_rfl
@[simp] theorem rs54 : Tryz.f54.results.toList = [.cell 2 33] := by kernel_rfl
@[simp] theorem nt55 : Tryz.f55.ntmps = 82 := by kernel_rfl
@[simp] theorem rs55 : Tryz.f55.results.toList = [.tmp 4, .tmp 5] := by kernel_rfl
@[simp] theorem nt56 : Tryz.f56.ntmps = 9 := by kernel_rfl
@[simp] theorem rs56 : Tryz.f56.results.toList = [.tmp 2] := by kernel_rfl
@[simp] theorem nt57 : Tryz.f57.ntmps = 4 := by kernel_rfl
@[simp] theorem rs57 : Tryz.f57.results.toList = [.tmp 2] := by kernel_rfl
@[simp] theorem nt58 : Tryz.f58.ntmps = 23 := by kernel_rfl
@[simp] theorem rs58 : Tryz.f58.results.toList = [] := by kernel_rfl
@[simp] theorem nt59 : Tryz.f59.ntmps = 8 := by kernel_rfl
@[simp] theorem rs59 : Tryz.f59.results.toList = [.tmp 2] := by kernel_rfl
@[simp] theorem nt60 : Tryz.f60.ntmps = 16 := by kernel_rfl
@[simp] theorem rs60 : Tryz.f60.results.toList = [.tmp 1, .tmp 2] := by kernel_rfl
@[simp] theorem nt61 : Tryz.f61.ntmps = 19 := by kernel_rfl
@[simp] theorem rs61 : Tryz.f61.results.toList = [.tmp 4] := by kernel_rfl
@[simp] theorem nt62 : Tryz.f62.ntmps = 27 := by kernel_rfl
@[simp] theorem rs62 : Tryz.f62.results.toList = [.tmp 4] := by kernel_rfl
@[simp] theorem nt63 : Tryz.f63.ntmps = 49 := by kernel_rfl
@[simp] theorem rs63 : Tryz.f63.results.toList = [.tmp 6, .tmp 7] := by kernel_rfl
@[simp] theorem nt64 : Tryz.f64.ntmps = 15 := by kernel_rfl
@[simp] theorem rs64 : Tryz.f64.results.toList = [.tmp 4] := by kernel_rfl
@[simp] theorem nt65 : Tryz.f65.ntmps = 95 := by kernel_rfl
@[simp] theorem rs65 : Tryz.f65.results.toList = [.tmp 6] := by kernel_rfl
@[simp] theorem nt66 : Tryz.f66.ntmps = 28 := by kernel_rfl
@[simp] theorem rs66 : Tryz.f66.results.toList = [.tmp 4] := by kernel_rfl
@[simp] theorem nt67 : Tryz.f67.ntmps = 125 := by kernel_rfl
@[simp] theorem rs67 : Tryz.f67.results.toList = [.tmp 4] := by kernel_rfl
@[simp] theorem nt68 : Tryz.f68.ntmps = 17 := by kernel_rfl
@[simp] theorem rs68 : Tryz.f68.results.toList = [.tmp 0] := by kernel_rfl
@[simp] theorem nt69 : Tryz.f69.ntmps = 7 := by kernel_rfl
@[simp] theorem rs69 : Tryz.f69.results.toList = [.tmp 0] := by kernel_rfl
@[simp] theorem nt70 : Tryz.f70.ntmps = 39 := by kernel_rfl
@[simp] theorem rs70 : Tryz.f70.results.toList = [.tmp 4, .tmp 5] := by kernel_rfl
@[simp] theorem nt71 : Tryz.f71.ntmps = 20 := by kernel_rfl
@[simp] theorem rs71 : Tryz.f71.results.toList = [.tmp 4, .tmp 5] := by kernel_rfl
@[simp] theorem nt72 : Tryz.f72.ntmps = 5 := by kernel_rfl
@[simp] theorem rs72 : Tryz.f72.results.toList = [.tmp 2] := by kernel_rfl
@[simp] theorem nt73 : Tryz.f73.ntmps = 11 := by kernel_rfl
@[simp] theorem rs73 : Tryz.f73.results.toList = [] := by kernel_rfl
@[simp] theorem nt74 : Tryz.f74.ntmps = 14 := by kernel_rfl
@[simp] theorem rs74 : Tryz.f74.results.toList = [] := by kernel_rfl
@[simp] theorem nt76 : Tryz.f76.ntmps = 10 := by kernel_rfl
@[simp] theorem rs76 : Tryz.f76.results.toList = [] := by kernel_rfl
@[simp] theorem nt77 : Tryz.f77.ntmps = 49 := by kernel_rfl
@[simp] theorem rs77 : Tryz.f77.results.toList = [.tmp 6, .tmp 7] := by kernel_rfl
@[simp] theorem nt78 : Tryz.f78.ntmps = 15 := by kernel_rfl
@[simp] theorem rs78 : Tryz.f78.results.toList = [.tmp 4] := by kernel_rfl
@[simp] theorem nt79 : Tryz.f79.ntmps = 95 := by kernel_rfl
@[simp] theorem rs79 : Tryz.f79.results.toList = [.tmp 6] := by kernel_rfl
@[simp] theorem nt80 : Tryz.f80.ntmps = 30 := by kernel_rfl
@[simp] theorem rs80 : Tryz.f80.results.toList = [.tmp 4, .tmp 5] := by kernel_rfl
@[simp] theorem nt81 : Tryz.f81.ntmps = 8 := by kernel_rfl
@[simp] theorem rs81 : Tryz.f81.results.toList = [.tmp 4] := by kernel_rfl
@[simp] theorem nt82 : Tryz.f82.ntmps = 25 := by kernel_rfl
@[simp] theorem rs82 : Tryz.f82.results.toList = [] := by kernel_rfl
@[simp] theorem nt83 : Tryz.f83.ntmps = 19 := by kernel_rfl
@[simp] theorem rs83 : Tryz.f83.results.toList = [.tmp 4, .tmp 5] := by kernel_rfl
@[simp] theorem nt84 : Tryz.f84.ntmps = 8 := by kernel_rfl
@[simp] theorem rs84 : Tryz.f84.results.toList = [.tmp 2] := by kernel_rfl
@[simp] theorem nt85 : Tryz.f85.ntmps = 14 := by kernel_rfl
@[simp] theorem rs85 : Tryz.f85.results.toList = [.tmp 2] := by kernel_rfl
@[simp] theorem nt86 : Tryz.f86.ntmps = 29 := by kernel_rfl
@[simp] theorem rs86 : Tryz.f86.results.toList = [.tmp 0] := by kernel_rfl
@[simp] theorem nt87 : Tryz.f87.ntmps = 49 := by kernel_rfl
@[simp] theorem rs87 : Tryz.f87.results.toList = [.tmp 4] := by kernel_rfl
@[simp] theorem nt88 : Tryz.f88.ntmps = 63 := by kernel_rfl
@[simp] theorem rs88 : Tryz.f88.results.toList = [.tmp 8] := by kernel_rfl
@[simp] theorem nt89 : Tryz.f89.ntmps = 11 := by kernel_rfl
@[simp] theorem rs89 : Tryz.f89.results.toList = [.tmp 4] := by kernel_rfl
@[simp] theorem nt90 : Tryz.f90.ntmps = 32 := by kernel_rfl
@[simp] theorem rs90 : Tryz.f90.results.toList = [.tmp 4, .tmp 5] := by kernel_rfl
@[simp] theorem nt91 : Tryz.f91.ntmps = 13 := by kernel_rfl
@[simp] theorem rs91 : Tryz.f91.results.toList = [.tmp 4] := by kernel_rfl
@[simp] theorem nt92 : Tryz.f92.ntmps = 134 := by kernel_rfl
@[simp] theorem rs92 : Tryz.f92.results.toList = [] := by kernel_rfl
@[simp] theorem nt93 : Tryz.f93.ntmps = 8 := by kernel_rfl
@[simp] theorem rs93 : Tryz.f93.results.toList = [.tmp 2] := by kernel_rfl
@[simp] theorem nt94 : Tryz.f94.ntmps = 14 := by kernel_rfl
@[simp] theorem rs94 : Tryz.f94.results.toList = [] := by kernel_rfl
@[simp] theorem nt96 : Tryz.f96.ntmps = 10 := by kernel_rfl
@[simp] theorem rs96 : Tryz.f96.results.toList = [] := by kernel_rfl
@[simp] theorem nt97 : Tryz.f97.ntmps = 17 := by kernel_rfl
@[simp] theorem rs97 : Tryz.f97.results.toList = [.tmp 4, .tmp 5] := by kernel_rfl
@[simp] theorem nt98 : Tryz.f98.ntmps = 51 := by kernel_rfl
@[simp] theorem rs98 : Tryz.f98.results.toList = [.tmp 4, .tmp 5] := by kernel_rfl
@[simp] theorem nt99 : Tryz.f99.ntmps = 18 := by kernel_rfl
@[simp] theorem rs99 : Tryz.f99.results.toList = [.tmp 4] := by kernel_rfl
@[simp] theorem nt100 : Tryz.f100.ntmps = 20 := by kernel_rfl
@[simp] theorem rs100 : Tryz.f100.results.toList = [] := by kernel_rfl
@[simp] theorem nt101 : Tryz.f101.ntmps = 30 := by kernel_rfl
@[simp] theorem rs101 : Tryz.f101.results.toList = [] := by kernel_rfl
@[simp] theorem nt102 : Tryz.f102.ntmps = 37 := by kernel_rfl
@[simp] theorem rs102 : Tryz.f102.results.toList = [.tmp 0] := by kernel_rfl
@[simp] theorem nt103 : Tryz.f103.ntmps = 25 := by kernel_rfl
@[simp] theorem rs103 : Tryz.f103.results.toList = [] := by kernel_rfl
@[simp] theorem nt104 : Tryz.f104.ntmps = 43 := by kernel_rfl
@[simp] theorem rs104 : Tryz.f104.results.toList = [.tmp 6] := by kernel_rfl
@[simp] theorem nt105 : Tryz.f105.ntmps = 54 := by kernel_rfl
@[simp] theorem rs105 : Tryz.f105.results.toList = [.tmp 4, .tmp 5] := by kernel_rfl
@[simp] theorem nt106 : Tryz.f106.ntmps = 20 := by kernel_rfl
@[simp] theorem rs106 : Tryz.f106.results.toList = [.cell 6 196] := by kernel_rfl
@[simp] theorem nt107 : Tryz.f107.ntmps = 33 := by kernel_rfl
@[simp] theorem rs107 : Tryz.f107.results.toList = [.tmp 4] := by kernel_rfl
@[simp] theorem nt108 : Tryz.f108.ntmps = 49 := by kernel_rfl
@[simp] theorem rs108 : Tryz.f108.results.toList = [] := by kernel_rfl
@[simp] theorem nt109 : Tryz.f109.ntmps = 56 := by kernel_rfl
@[simp] theorem rs109 : Tryz.f109.results.toList = [] := by kernel_rfl
@[simp] theorem nt110 : Tryz.f110.ntmps = 65 := by kernel_rfl
@[simp] theorem rs110 : Tryz.f110.results.toList = [] := by kernel_rfl
@[simp] theorem nt111 : Tryz.f111.ntmps = 57 := by kernel_rfl
@[simp] theorem rs111 : Tryz.f111.results.toList = [.tmp 6, .tmp 7] := by kernel_rfl
@[simp] theorem nt112 : Tryz.f112.ntmps = 32 := by kernel_rfl
@[simp] theorem rs112 : Tryz.f112.results.toList = [] := by kernel_rfl
@[simp] theorem nt113 : Tryz.f113.ntmps = 133 := by kernel_rfl
@[simp] theorem rs113 : Tryz.f113.results.toList = [.tmp 6] := by kernel_rfl
@[simp] theorem nt114 : Tryz.f114.ntmps = 17 := by kernel_rfl
@[simp] theorem rs114 : Tryz.f114.results.toList = [.tmp 4] := by kernel_rfl
@[simp] theorem nt115 : Tryz.f115.ntmps = 84 := by kernel_rfl
@[simp] theorem rs115 : Tryz.f115.results.toList = [.tmp 8] := by kernel_rfl
@[simp] theorem nt116 : Tryz.f116.ntmps = 168 := by kernel_rfl
@[simp] theorem rs116 : Tryz.f116.results.toList = [.tmp 8, .tmp 9] := by kernel_rfl
@[simp] theorem nt117 : Tryz.f117.ntmps = 19 := by kernel_rfl
@[simp] theorem rs117 : Tryz.f117.results.toList = [.tmp 2] := by kernel_rfl
@[simp] theorem nt118 : Tryz.f118.ntmps = 25 := by kernel_rfl
@[simp] theorem rs118 : Tryz.f118.results.toList = [.tmp 2] := by kernel_rfl
@[simp] theorem nt119 : Tryz.f119.ntmps = 28 := by kernel_rfl
@[simp] theorem rs119 : Tryz.f119.results.toList = [] := by kernel_rfl
@[simp] theorem nt120 : Tryz.f120.ntmps = 14 := by kernel_rfl
@[simp] theorem rs120 : Tryz.f120.results.toList = [] := by kernel_rfl
@[simp] theorem nt123 : Tryz.f123.ntmps = 34 := by kernel_rfl
@[simp] theorem rs123 : Tryz.f123.results.toList = [.tmp 0] := by kernel_rfl
@[simp] theorem nt124 : Tryz.f124.ntmps = 42 := by kernel_rfl
@[simp] theorem rs124 : Tryz.f124.results.toList = [.tmp 2, .tmp 3] := by kernel_rfl
@[simp] theorem nt125 : Tryz.f125.ntmps = 8 := by kernel_rfl
@[simp] theorem rs125 : Tryz.f125.results.toList = [.tmp 6] := by kernel_rfl
@[simp] theorem nt126 : Tryz.f126.ntmps = 34 := by kernel_rfl
@[simp] theorem rs126 : Tryz.f126.results.toList = [.cell 6 33, .tmp 7] := by kernel_rfl
@[simp] theorem nt127 : Tryz.f127.ntmps = 8 := by kernel_rfl
@[simp] theorem rs127 : Tryz.f127.results.toList = [.tmp 2] := by kernel_rfl
@[simp] theorem nt128 : Tryz.f128.ntmps = 65 := by kernel_rfl
@[simp] theorem rs128 : Tryz.f128.results.toList = [.tmp 2] := by kernel_rfl
@[simp] theorem nt129 : Tryz.f129.ntmps = 6 := by kernel_rfl
@[simp] theorem rs129 : Tryz.f129.results.toList = [.tmp 2] := by kernel_rfl
@[simp] theorem nt130 : Tryz.f130.ntmps = 76 := by kernel_rfl
@[simp] theorem rs130 : Tryz.f130.results.toList = [] := by kernel_rfl
@[simp] theorem nt131 : Tryz.f131.ntmps = 7 := by kernel_rfl
@[simp] theorem rs131 : Tryz.f131.results.toList = [.tmp 2] := by kernel_rfl
@[simp] theorem nt132 : Tryz.f132.ntmps = 33 := by kernel_rfl
@[simp] theorem rs132 : Tryz.f132.results.toList = [.tmp 2] := by kernel_rfl
@[simp] theorem nt133 : Tryz.f133.ntmps = 15 := by kernel_rfl
@[simp] theorem rs133 : Tryz.f133.results.toList = [.tmp 6] := by kernel_rfl
@[simp] theorem nt134 : Tryz.f134.ntmps = 36 := by kernel_rfl
@[simp] theorem rs134 : Tryz.f134.results.toList = [.tmp 10] := by kernel_rfl
@[simp] theorem nt135 : Tryz.f135.ntmps = 6 := by kernel_rfl
@[simp] theorem rs135 : Tryz.f135.results.toList = [.tmp 2] := by kernel_rfl
@[simp] theorem nt136 : Tryz.f136.ntmps = 28 := by kernel_rfl
@[simp] theorem rs136 : Tryz.f136.results.toList = [] := by kernel_rfl
@[simp] theorem nt137 : Tryz.f137.ntmps = 36 := by kernel_rfl
@[simp] theorem rs137 : Tryz.f137.results.toList = [.tmp 0] := by kernel_rfl
@[simp] theorem nt138 : Tryz.f138.ntmps = 18 := by kernel_rfl
@[simp] theorem rs138 : Tryz.f138.results.toList = [.tmp 2] := by kernel_rfl
@[simp] theorem nt139 : Tryz.f139.ntmps = 32 := by kernel_rfl
@[simp] theorem rs139 : Tryz.f139.results.toList = [.tmp 4] := by kernel_rfl
@[simp] theorem nt140 : Tryz.f140.ntmps = 8 := by kernel_rfl
@[simp] theorem rs140 : Tryz.f140.results.toList = [.tmp 2] := by kernel_rfl
@[simp] theorem nt141 : Tryz.f141.ntmps = 57 := by kernel_rfl
@[simp] theorem rs141 : Tryz.f141.results.toList = [] := by kernel_rfl
@[simp] theorem nt142 : Tryz.f142.ntmps = 25 := by kernel_rfl
@[simp] theorem rs142 : Tryz.f142.results.toList = [.cell 4 33, .tmp 5] := by kernel_rfl
@[simp] theorem nt143 : Tryz.f143.ntmps = 42 := by kernel_rfl
@[simp] theorem rs143 : Tryz.f143.results.toList = [.tmp 4] := by kernel_rfl
@[simp] theorem nt144 : Tryz.f144.ntmps = 8 := by kernel_rfl
@[simp] theorem rs144 : Tryz.f144.results.toList = [.tmp 2] := by kernel_rfl
@[simp] theorem nt145 : Tryz.f145.ntmps = 14 := by kernel_rfl
@[simp] theorem rs145 : Tryz.f145.results.toList = [] := by kernel_rfl
@[simp] theorem nt146 : Tryz.f146.ntmps = 17 := by kernel_rfl
@[simp] theorem rs146 : Tryz.f146.results.toList = [.tmp 4] := by kernel_rfl
@[simp] theorem nt147 : Tryz.f147.ntmps = 28 := by kernel_rfl
@[simp] theorem rs147 : Tryz.f147.results.toList = [.tmp 8, .tmp 9] := by kernel_rfl
@[simp] theorem nt148 : Tryz.f148.ntmps = 13 := by kernel_rfl
@[simp] theorem rs148 : Tryz.f148.results.toList = [.tmp 0] := by kernel_rfl
@[simp] theorem nt149 : Tryz.f149.ntmps = 6 := by kernel_rfl
@[simp] theorem rs149 : Tryz.f149.results.toList = [.tmp 2] := by kernel_rfl
@[simp] theorem nt150 : Tryz.f150.ntmps = 51 := by kernel_rfl
@[simp] theorem rs150 : Tryz.f150.results.toList = [.tmp 4, .tmp 5, .tmp 6] := by kernel_rfl
@[simp] theorem nt151 : Tryz.f151.ntmps = 29 := by kernel_rfl
@[simp] theorem rs151 : Tryz.f151.results.toList = [.tmp 4] := by kernel_rfl
@[simp] theorem nt152 : Tryz.f152.ntmps = 19 := by kernel_rfl
@[simp] theorem rs152 : Tryz.f152.results.toList = [.tmp 2] := by kernel_rfl
@[simp] theorem nt153 : Tryz.f153.ntmps = 19 := by kernel_rfl
@[simp] theorem rs153 : Tryz.f153.results.toList = [.tmp 4] := by kernel_rfl
@[simp] theorem nt154 : Tryz.f154.ntmps = 148 := by kernel_rfl
@[simp] theorem rs154 : Tryz.f154.results.toList = [] := by kernel_rfl
@[simp] theorem nt155 : Tryz.f155.ntmps = 9 := by kernel_rfl
@[simp] theorem rs155 : Tryz.f155.results.toList = [.tmp 0] := by kernel_rfl
@[simp] theorem nt156 : Tryz.f156.ntmps = 30 := by kernel_rfl
@[simp] theorem rs156 : Tryz.f156.results.toList = [.tmp 2] := by kernel_rfl
@[simp] theorem nt157 : Tryz.f157.ntmps = 14 := by kernel_rfl
@[simp] theorem rs157 : Tryz.f157.results.toList = [.tmp 2] := by kernel_rfl
@[simp] theorem nt158 : Tryz.f158.ntmps = 10 := by kernel_rfl
@[simp] theorem rs158 : Tryz.f158.results.toList = [.tmp 4] := by kernel_rfl
@[simp] theorem nt159 : Tryz.f159.ntmps = 6 := by kernel_rfl
@[simp] theorem rs159 : Tryz.f159.results.toList = [.tmp 2] := by kernel_rfl
@[simp] theorem nt160 : Tryz.f160.ntmps = 24 := by kernel_rfl
@[simp] theorem rs160 : Tryz.f160.results.toList = [.tmp 4, .tmp 5] := by kernel_rfl
@[simp] theorem nt161 : Tryz.f161.ntmps = 55 := by kernel_rfl
@[simp] theorem rs161 : Tryz.f161.results.toList = [.tmp 2, .tmp 3] := by kernel_rfl
@[simp] theorem nt162 : Tryz.f162.ntmps = 21 := by kernel_rfl
@[simp] theorem rs162 : Tryz.f162.results.toList = [.tmp 4] := by kernel_rfl
@[simp] theorem nt163 : Tryz.f163.ntmps = 52 := by kernel_rfl
@[simp] theorem rs163 : Tryz.f163.results.toList = [.tmp 6] := by kernel_rfl
@[simp] theorem nt164 : Tryz.f164.ntmps = 52 := by kernel_rfl
@[simp] theorem rs164 : Tryz.f164.results.toList = [.tmp 6] := by kernel_rfl
@[simp] theorem nt165 : Tryz.f165.ntmps = 31 := by kernel_rfl
@[simp] theorem rs165 : Tryz.f165.results.toList = [.tmp 4] := by kernel_rfl
@[simp] theorem nt166 : Tryz.f166.ntmps = 53 := by kernel_rfl
@[simp] theorem rs166 : Tryz.f166.results.toList = [] := by kernel_rfl
@[simp] theorem nt167 : Tryz.f167.ntmps = 60 := by kernel_rfl
@[simp] theorem rs167 : Tryz.f167.results.toList = [] := by kernel_rfl
@[simp] theorem nt168 : Tryz.f168.ntmps = 67 := by kernel_rfl
@[simp] theorem rs168 : Tryz.f168.results.toList = [] := by kernel_rfl
@[simp] theorem nt169 : Tryz.f169.ntmps = 63 := by kernel_rfl
@[simp] theorem rs169 : Tryz.f169.results.toList = [.tmp 8, .tmp 9] := by kernel_rfl
@[simp] theorem nt170 : Tryz.f170.ntmps = 34 := by kernel_rfl
@[simp] theorem rs170 : Tryz.f170.results.toList = [] := by kernel_rfl
@[simp] theorem nt171 : Tryz.f171.ntmps = 141 := by kernel_rfl
@[simp] theorem rs171 : Tryz.f171.results.toList = [.tmp 8] := by kernel_rfl
@[simp] theorem nt172 : Tryz.f172.ntmps = 90 := by kernel_rfl
@[simp] theorem rs172 : Tryz.f172.results.toList = [.tmp 10] := by kernel_rfl
@[simp] theorem nt173 : Tryz.f173.ntmps = 178 := by kernel_rfl
@[simp] theorem rs173 : Tryz.f173.results.toList = [.tmp 10, .tmp 11] := by kernel_rfl
@[simp] theorem nt174 : Tryz.f174.ntmps = 36 := by kernel_rfl
@[simp] theorem rs174 : Tryz.f174.results.toList = [.tmp 0] := by kernel_rfl
@[simp] theorem nt175 : Tryz.f175.ntmps = 19 := by kernel_rfl
@[simp] theorem rs175 : Tryz.f175.results.toList = [.tmp 4] := by kernel_rfl
@[simp] theorem nt176 : Tryz.f176.ntmps = 25 := by kernel_rfl
@[simp] theorem rs176 : Tryz.f176.results.toList = [.tmp 2] := by kernel_rfl
@[simp] theorem nt177 : Tryz.f177.ntmps = 27 := by kernel_rfl
@[simp] theorem rs177 : Tryz.f177.results.toList = [] := by kernel_rfl
@[simp] theorem nt178 : Tryz.f178.ntmps = 23 := by kernel_rfl
@[simp] theorem rs178 : Tryz.f178.results.toList = [.tmp 2] := by kernel_rfl
@[simp] theorem nt179 : Tryz.f179.ntmps = 82 := by kernel_rfl
@[simp] theorem rs179 : Tryz.f179.results.toList = [] := by kernel_rfl
@[simp] theorem nt180 : Tryz.f180.ntmps = 18 := by kernel_rfl
@[simp] theorem rs180 : Tryz.f180.results.toList = [.tmp 8] := by kernel_rfl
@[simp] theorem nt181 : Tryz.f181.ntmps = 41 := by kernel_rfl
@[simp] theorem rs181 : Tryz.f181.results.toList = [.tmp 12] := by kernel_rfl
@[simp] theorem nt182 : Tryz.f182.ntmps = 20 := by kernel_rfl
@[simp] theorem rs182 : Tryz.f182.results.toList = [.tmp 0] := by kernel_rfl
@[simp] theorem nt183 : Tryz.f183.ntmps = 70 := by kernel_rfl
@[simp] theorem rs183 : Tryz.f183.results.toList = [] := by kernel_rfl
@[simp] theorem nt184 : Tryz.f184.ntmps = 5 := by kernel_rfl
@[simp] theorem rs184 : Tryz.f184.results.toList = [.tmp 4] := by kernel_rfl
@[simp] theorem nt185 : Tryz.f185.ntmps = 32 := by kernel_rfl
@[simp] theorem rs185 : Tryz.f185.results.toList = [.tmp 10, .tmp 11] := by kernel_rfl
@[simp] theorem nt186 : Tryz.f186.ntmps = 18 := by kernel_rfl
@[simp] theorem rs186 : Tryz.f186.results.toList = [.tmp 0] := by kernel_rfl
@[simp] theorem nt187 : Tryz.f187.ntmps = 6 := by kernel_rfl
@[simp] theorem rs187 : Tryz.f187.results.toList = [.cell 2 4] := by kernel_rfl
@[simp] theorem nt188 : Tryz.f188.ntmps = 5 := by kernel_rfl
@[simp] theorem rs188 : Tryz.f188.results.toList = [] := by kernel_rfl
@[simp] theorem nt189 : Tryz.f189.ntmps = 7 := by kernel_rfl
@[simp] theorem rs189 : Tryz.f189.results.toList = [.tmp 2] := by kernel_rfl
@[simp] theorem nt190 : Tryz.f190.ntmps = 0 := by kernel_rfl
@[simp] theorem rs190 : Tryz.f190.results.toList = [] := by kernel_rfl
@[simp] theorem nt191 : Tryz.f191.ntmps = 9 := by kernel_rfl
@[simp] theorem rs191 : Tryz.f191.results.toList = [.tmp 2] := by kernel_rfl
@[simp] theorem nt192 : Tryz.f192.ntmps = 21 := by kernel_rfl
@[simp] theorem rs192 : Tryz.f192.results.toList = [.tmp 0] := by kernel_rfl
@[simp] theorem nt193 : Tryz.f193.ntmps = 15 := by kernel_rfl
@[simp] theorem rs193 : Tryz.f193.results.toList = [] := by kernel_rfl
@[simp] theorem nt194 : Tryz.f194.ntmps = 4 := by kernel_rfl
@[simp] theorem rs194 : Tryz.f194.results.toList = [.tmp 2] := by kernel_rfl
@[simp] theorem nt195 : Tryz.f195.ntmps = 19 := by kernel_rfl
@[simp] theorem rs195 : Tryz.f195.results.toList = [.cell 4 145, .cell 5 145] := by kernel_rfl
@[simp] theorem nt196 : Tryz.f196.ntmps = 15 := by kernel_rfl
@[simp] theorem rs196 : Tryz.f196.results.toList = [.tmp 4] := by kernel_rfl
@[simp] theorem nt197 : Tryz.f197.ntmps = 14 := by kernel_rfl
@[simp] theorem rs197 : Tryz.f197.results.toList = [] := by kernel_rfl
@[simp] theorem nt198 : Tryz.f198.ntmps = 7 := by kernel_rfl
@[simp] theorem rs198 : Tryz.f198.results.toList = [.cell 2 145] := by kernel_rfl
@[simp] theorem nt199 : Tryz.f199.ntmps = 19 := by kernel_rfl
@[simp] theorem rs199 : Tryz.f199.results.toList = [.cell 4 145] := by kernel_rfl
@[simp] theorem nt200 : Tryz.f200.ntmps = 19 := by kernel_rfl
@[simp] theorem rs200 : Tryz.f200.results.toList = [.cell 4 145] := by kernel_rfl
@[simp] theorem nt227 : Tryz.f227.ntmps = 1 := by kernel_rfl
@[simp] theorem rs227 : Tryz.f227.results.toList = [] := by kernel_rfl
attribute [simp] Tryz.func2
attribute [simp] Tryz.func3
attribute [simp] Tryz.func4
attribute [simp] Tryz.func5
attribute [simp] Tryz.func6
attribute [simp] Tryz.func7
attribute [simp] Tryz.func8
attribute [simp] Tryz.func9
attribute [simp] Tryz.func10
attribute [simp] Tryz.func11
attribute [simp] Tryz.func12
attribute [simp] Tryz.func13
attribute [simp] Tryz.func14
attribute [simp] Tryz.func15
attribute [simp] Tryz.func16
attribute [simp] Tryz.func17
attribute [simp] Tryz.func18
attribute [simp] Tryz.func19
attribute [simp] Tryz.func20
attribute [simp] Tryz.func21
attribute [simp] Tryz.func22
attribute [simp] Tryz.func23
attribute [simp] Tryz.func24
attribute [simp] Tryz.func25
attribute [simp] Tryz.func26
attribute [simp] Tryz.func27
attribute [simp] Tryz.func28
attribute [simp] Tryz.func29
attribute [simp] Tryz.func30
attribute [simp] Tryz.func31
attribute [simp] Tryz.func32
attribute [simp] Tryz.func33
attribute [simp] Tryz.func34
attribute [simp] Tryz.func35
attribute [simp] Tryz.func36
attribute [simp] Tryz.func37
attribute [simp] Tryz.func38
attribute [simp] Tryz.func39
attribute [simp] Tryz.func40
attribute [simp] Tryz.func41
attribute [simp] Tryz.func42
attribute [simp] Tryz.func43
attribute [simp] Tryz.func44
attribute [simp] Tryz.func45
attribute [simp] Tryz.func46
attribute [simp] Tryz.func47
attribute [simp] Tryz.func48
attribute [simp] Tryz.func49
attribute [simp] Tryz.func50
attribute [simp] Tryz.func51
attribute [simp] Tryz.func52
attribute [simp] Tryz.func53
attribute [simp] Tryz.func54
attribute [simp] Tryz.func55
attribute [simp] Tryz.func56
attribute [simp] Tryz.func57
attribute [simp] Tryz.func58
attribute [simp] Tryz.func59
attribute [simp] Tryz.func60
attribute [simp] Tryz.func61
attribute [simp] Tryz.func62
attribute [simp] Tryz.func63
attribute [simp] Tryz.func64
attribute [simp] Tryz.func65
attribute [simp] Tryz.func66
attribute [simp] Tryz.func67
attribute [simp] Tryz.func68
attribute [simp] Tryz.func69
attribute [simp] Tryz.func70
attribute [simp] Tryz.func71
attribute [simp] Tryz.func72
attribute [simp] Tryz.func73
attribute [simp] Tryz.func74
attribute [simp] Tryz.func76
attribute [simp] Tryz.func77
attribute [simp] Tryz.func78
attribute [simp] Tryz.func79
attribute [simp] Tryz.func80
attribute [simp] Tryz.func81
attribute [simp] Tryz.func82
attribute [simp] Tryz.func83
attribute [simp] Tryz.func84
attribute [simp] Tryz.func85
attribute [simp] Tryz.func86
attribute [simp] Tryz.func87
attribute [simp] Tryz.func88
attribute [simp] Tryz.func89
attribute [simp] Tryz.func90
attribute [simp] Tryz.func91
attribute [simp] Tryz.func92
attribute [simp] Tryz.func93
attribute [simp] Tryz.func94
attribute [simp] Tryz.func96
attribute [simp] Tryz.func97
attribute [simp] Tryz.func98
attribute [simp] Tryz.func99
attribute [simp] Tryz.func100
attribute [simp] Tryz.func101
attribute [simp] Tryz.func102
attribute [simp] Tryz.func103
attribute [simp] Tryz.func104
attribute [simp] Tryz.func105
attribute [simp] Tryz.func106
attribute [simp] Tryz.func107
attribute [simp] Tryz.func108
attribute [simp] Tryz.func109
attribute [simp] Tryz.func110
attribute [simp] Tryz.func111
attribute [simp] Tryz.func112
attribute [simp] Tryz.func113
attribute [simp] Tryz.func114
attribute [simp] Tryz.func115
attribute [simp] Tryz.func116
attribute [simp] Tryz.func117
attribute [simp] Tryz.func118
attribute [simp] Tryz.func119
attribute [simp] Tryz.func120
attribute [simp] Tryz.func123
attribute [simp] Tryz.func124
attribute [simp] Tryz.func125
attribute [simp] Tryz.func126
attribute [simp] Tryz.func127
attribute [simp] Tryz.func128
attribute [simp] Tryz.func129
attribute [simp] Tryz.func130
attribute [simp] Tryz.func131
attribute [simp] Tryz.func132
attribute [simp] Tryz.func133
attribute [simp] Tryz.func134
attribute [simp] Tryz.func135
attribute [simp] Tryz.func136
attribute [simp] Tryz.func137
attribute [simp] Tryz.func138
attribute [simp] Tryz.func139
attribute [simp] Tryz.func140
attribute [simp] Tryz.func141
attribute [simp] Tryz.func142
attribute [simp] Tryz.func143
attribute [simp] Tryz.func144
attribute [simp] Tryz.func145
attribute [simp] Tryz.func146
attribute [simp] Tryz.func147
attribute [simp] Tryz.func148
attribute [simp] Tryz.func149
attribute [simp] Tryz.func150
attribute [simp] Tryz.func151
attribute [simp] Tryz.func152
attribute [simp] Tryz.func153
attribute [simp] Tryz.func154
attribute [simp] Tryz.func155
attribute [simp] Tryz.func156
attribute [simp] Tryz.func157
attribute [simp] Tryz.func158
attribute [simp] Tryz.func159
attribute [simp] Tryz.func160
attribute [simp] Tryz.func161
attribute [simp] Tryz.func162
attribute [simp] Tryz.func163
attribute [simp] Tryz.func164
attribute [simp] Tryz.func165
attribute [simp] Tryz.func166
attribute [simp] Tryz.func167
attribute [simp] Tryz.func168
attribute [simp] Tryz.func169
attribute [simp] Tryz.func170
attribute [simp] Tryz.func171
attribute [simp] Tryz.func172
attribute [simp] Tryz.func173
attribute [simp] Tryz.func174
attribute [simp] Tryz.func175
attribute [simp] Tryz.func176
attribute [simp] Tryz.func177
attribute [simp] Tryz.func178
attribute [simp] Tryz.func179
attribute [simp] Tryz.func180
attribute [simp] Tryz.func181
attribute [simp] Tryz.func182
attribute [simp] Tryz.func183
attribute [simp] Tryz.func184
attribute [simp] Tryz.func185
attribute [simp] Tryz.func186
attribute [simp] Tryz.func187
attribute [simp] Tryz.func188
attribute [simp] Tryz.func189
attribute [simp] Tryz.func190
attribute [simp] Tryz.func191
attribute [simp] Tryz.func192
attribute [simp] Tryz.func193
attribute [simp] Tryz.func194
attribute [simp] Tryz.func195
attribute [simp] Tryz.func196
attribute [simp] Tryz.func197
attribute [simp] Tryz.func198
attribute [simp] Tryz.func199
attribute [simp] Tryz.func200
attribute [simp] Tryz.func227
end Go.Sm
