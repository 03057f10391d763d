/- Part SmStore of the proof. -/
import Derived.Test.YtngpgkbkelcihaaGreatDoorSmC
/- append into room that is there. -/
set_option linter.unusedVariables false
namespace Go.Sm
open Go
section
variable {α : Type} {P : Program} {σ : CSt} {e : TypeId} {sz b : Nat} {enc : α → List Value} {v x : Value} {l m : List α} {f : TF} {ts : Array TypeId}
theorem append_fit (hf : ts[0]?.bind (elemF P) = some (e, f)) (hu : (ts[1]?.bind (elemT P)).isSome = true) (hsz : ∀ x, (enc x).length = sz) (hc : ∀ x, cokL (enc x) = true) (hfs : f.size = sz) (h0 : 0 < sz) (h1 : 0 < f.bytes) (h2 : f.zero.map List.length = some sz)
    {g : Nat} {zs : List Value} (hg : σ.get g = some (.cells (l.flatMap enc ++ zs) e false)) (hx : Sl σ e sz enc x m) (hz : m.length * sz ≤ zs.length) (hl : l.length < 2 ^ 62) :
    ∃ σ', appendOp P σ ts (.slice (some ⟨g, 0, none⟩) l.length openCap) x = some (.slice (some ⟨g, 0, none⟩) (l ++ m).length openCap, σ') ∧ σ'.get g = some (.cells ((l ++ m).flatMap enc ++ zs.drop (m.length * sz)) e false) ∧ σ'.n = σ.n ∧ ∀ j, j ≠ g → σ'.get j = σ.get j := by
  obtain ⟨g1, g2⟩ := first_sl hsz hx
  have hml := enc_length enc hsz m
  have hll := enc_length enc hsz l
  rw [appendOp_K (by rw [hf]; rfl) hu, hf]
  simp only [appK, g1, hfs, g2, Option.bind_some]
  have hcond : (m.flatMap enc).length = m.length * f.size ∧ cokL (m.flatMap enc) = true ∧ 0 < f.size ∧ 0 < f.bytes ∧ f.zero.map List.length = some f.size := by
    rw [hfs]; exact ⟨hml, cokL_enc hc m, h0, h1, h2⟩
  unfold appendF
  rw [if_pos hcond]
  by_cases hm : m.length = 0
  · have : m = [] := List.eq_nil_of_length_eq_zero hm
    subst this
    refine ⟨σ, ?_, by simpa using hg, rfl, fun _ _ => rfl⟩
    simp only [List.length_nil, if_true, List.append_nil]
    rw [if_pos (by simp only [openCap]; omega)]
  · refine ⟨σ.put g (.cells ((l ++ m).flatMap enc ++ zs.drop (m.length * sz)) e false), ?_, by simp, rfl, fun j hj => by rw [CSt.get_put, if_neg hj]⟩
    simp only [hm, if_false, hg, if_true, and_self]
    have hle : 0 + (l.length + m.length) * f.size ≤ (l.flatMap enc ++ zs).length := by
      rw [List.length_append, hll, hfs, Nat.add_mul]; omega
    rw [if_pos hle]
    have hst : st (l.flatMap enc ++ zs) (0 + l.length * f.size) (m.flatMap enc) = some ((l ++ m).flatMap enc ++ zs.drop (m.length * sz)) := by
      unfold st
      rw [if_pos (by rw [List.length_append, hll, hml, hfs]; omega), hfs, Nat.zero_add, ← hll, List.take_left, ← List.drop_drop, List.drop_left, hml, List.flatMap_append]
    rw [hst]
    simp
end
section
variable {P : Program} {σ : CSt} {ev : Operand → Value} {dst : Option Tmp} {ty : TypeId} {pos : String} {after : Array Edge} {g : Option (Nat × Bool)}
@[simp] theorem copE_makeFunc (f : FuncId) (first captured : Array Operand) : cop P σ ev ⟨dst, .makeFunc (.func f) first captured, ty, pos, after, g⟩ = .val (.func (.func f) (first.map ev) (captured.map ev)) σ := (rfl)
end
end Go.Sm
/- Strings in order. -/
set_option linter.unusedVariables false
set_option linter.unusedSimpArgs false
namespace Go.Sm
open Go
def bl : List UInt8 → List UInt8 → Bool := Op.bytesLess
theorem bl_irrefl : ∀ x : List UInt8, bl x x = false
  | [] => rfl
  | a :: x => by
    have h := bl_irrefl x
    unfold bl at h ⊢
    simp [Op.bytesLess, h]
theorem bl_trans : ∀ {x y z : List UInt8}, bl x y = true → bl y z = true → bl x z = true
  | _, [], _, h, _ => by unfold bl at h; simp [Op.bytesLess] at h
  | _, _ :: _, [], _, h => by unfold bl at h; simp [Op.bytesLess] at h
  | [], _ :: _, _ :: _, _, _ => rfl
  | a :: x, b :: y, c :: z, h1, h2 => by
    have ih := @bl_trans x y z
    unfold bl at h1 h2 ih ⊢
    simp only [Op.bytesLess, Bool.or_eq_true, decide_eq_true_eq, Bool.and_eq_true, beq_iff_eq] at h1 h2 ⊢
    rcases h1 with h1 | ⟨rfl, h1⟩
    · rcases h2 with h2 | ⟨rfl, h2⟩
      · exact .inl (UInt8.lt_trans h1 h2)
      · exact .inl h1
    · rcases h2 with h2 | ⟨rfl, h2⟩
      · exact .inl h2
      · exact .inr ⟨rfl, ih h1 h2⟩
theorem bl_tri : ∀ {x y : List UInt8}, bl x y = false → bl y x = false → x = y
  | [], [], _, _ => rfl
  | [], _ :: _, h, _ => by unfold bl at h; simp [Op.bytesLess] at h
  | _ :: _, [], _, h => by unfold bl at h; simp [Op.bytesLess] at h
  | a :: x, b :: y, h1, h2 => by
    have ih := @bl_tri x y
    unfold bl at h1 h2 ih
    simp only [Op.bytesLess, Bool.or_eq_false_iff, decide_eq_false_iff_not, Bool.and_eq_false_iff] at h1 h2
    have e : a = b := UInt8.le_antisymm (UInt8.not_lt.1 h2.1) (UInt8.not_lt.1 h1.1)
    subst e
    rw [ih (by simpa using h1.2) (by simpa using h2.2)]
theorem bl_asymm {x y : List UInt8} (h : bl x y = true) : bl y x = false := by
  cases h' : bl y x with
  | false => rfl
  | true => have := bl_trans h h'; rw [bl_irrefl] at this; cases this
theorem ba_list_inj {s u : ByteArray} (h : s.toList = u.toList) : s = u := by
  have h3 : s.data.toList = u.data.toList := by rw [ByteArray.toList_eq, ByteArray.toList_eq] at h; exact h
  cases s; cases u
  simp only at h3
  rw [Array.toList_inj.1 h3]
/-- One key ahead of another. -/
def klt (s u : ByteArray) : Bool := bl s.toList u.toList
section
variable {P : Program} {σ : CSt} {t : TypeId} {x y : Operand} {s u : ByteArray}
@[simp] theorem bin_strlt : binF P σ .lss t x y (.string s) (.string u) = .val (.bool (klt s u)) σ := by simp [binF, eqGuard, binOp, Op.stringOp, klt, bl]
@[simp] theorem bin_strgt : binF P σ .gtr t x y (.string s) (.string u) = .val (.bool (!(klt s u || s.toList == u.toList))) σ := by simp [binF, eqGuard, binOp, Op.stringOp, klt, bl]
@[simp] theorem bin_strle : binF P σ .leq t x y (.string s) (.string u) = .val (.bool (klt s u || s.toList == u.toList)) σ := by simp [binF, eqGuard, binOp, Op.stringOp, klt, bl]
@[simp] theorem bin_strge : binF P σ .geq t x y (.string s) (.string u) = .val (.bool (!klt s u)) σ := by simp [binF, eqGuard, binOp, Op.stringOp, klt, bl]
end
end Go.Sm
/- What may change: objects of some types that were made behind a point. -/
set_option linter.unusedVariables false
namespace Go.Sm
open Go
def Fr (T : TypeId → Prop) (b : Nat) (σ σ' : CSt) : Prop := σ.n ≤ σ'.n ∧ ∀ j, j < σ.n → (j < b ∨ ∀ row e ro, σ.get j = some (.cells row e ro) → ¬ T e) → σ'.get j = σ.get j
section
variable {T T' : TypeId → Prop} {b b' : Nat} {s0 s1 s2 : CSt}
theorem Fr.refl (T : TypeId → Prop) (b : Nat) (σ : CSt) : Fr T b σ σ := ⟨Nat.le_refl _, fun _ _ _ => rfl⟩
theorem Grow.fr (h : Grow s0 s1) : Fr T b s0 s1 := ⟨h.n, fun j hj _ => h.old j hj⟩
theorem Fr.trans (h : Fr T b s0 s1) (h' : Fr T b s1 s2) : Fr T b s0 s2 :=
  ⟨Nat.le_trans h.1 h'.1, fun j hj hc => by rw [h'.2 j (Nat.lt_of_lt_of_le hj h.1) (by rw [h.2 j hj hc]; exact hc), h.2 j hj hc]⟩
theorem Fr.mono (h : Fr T b s0 s1) (hT : ∀ e, T e → T' e) (hb : b' ≤ b) : Fr T' b' s0 s1 :=
  ⟨h.1, fun j hj hc => h.2 j hj (hc.elim (fun h => .inl (Nat.lt_of_lt_of_le h hb)) fun hc => .inr fun row e ro hg ht => hc row e ro hg (hT e ht))⟩
theorem Fr.alloc (h : Fr T b s0 s1) (o : CObj) : Fr T b s0 (s1.alloc o) := h.trans ((Grow.refl s1).alloc o).fr
theorem Fr.put (h : Fr T b s0 s1) {i : Nat} (hi : b ≤ i) {row : List Value} {e : TypeId} {ro : Bool} (hg : s1.get i = some (.cells row e ro)) (ht : T e) (o : CObj) : Fr T b s0 (s1.put i o) :=
  h.trans ⟨Nat.le_refl _, fun j hj hc => by
    rw [CSt.get_put]
    by_cases e' : j = i
    · subst e'
      rcases hc with hc | hc
      · omega
      · exact absurd ht (hc _ _ _ hg)
    · rw [if_neg e']⟩
theorem Fr.new (h : Fr T b s0 s1) {i : Nat} (hi : s0.n ≤ i) (o : CObj) : Fr T b s0 (s1.put i o) := ⟨h.1, fun j hj hc => by rw [CSt.get_put, if_neg (by omega)]; exact h.2 j hj hc⟩
theorem Fr.growB (h : Fr T b s0 s1) (hb : b ≤ s0.n) : GrowB b s0 s1 := ⟨h.1, fun j hj => h.2 j (Nat.lt_of_lt_of_le hj hb) (.inl hj)⟩
theorem Fr.grow (h : Fr T b s0 s1) (hb : s0.n ≤ b) : Grow s0 s1 := ⟨h.1, fun j hj => h.2 j hj (.inl (Nat.lt_of_lt_of_le hj hb))⟩
theorem Fr.get (h : Fr T b s0 s1) {i : Nat} {o : CObj} (hg : s0.get i = some o) (hi : i < s0.n) (hc : i < b ∨ ∀ row e ro, o = .cells row e ro → ¬ T e) : s1.get i = some o := by
  rw [h.2 i hi (hc.elim .inl fun hc => .inr fun row e ro h1 => hc row e ro (by rw [hg] at h1; exact Option.some.inj h1)), hg]
variable {α : Type} {e : TypeId} {sz : Nat} {enc : α → List Value} {v : Value} {l : List α}
theorem Sl.fr (h : Sl s0 e sz enc v l) (ht : ¬ T e) (hg : Fr T b s0 s1) : Sl s1 e sz enc v l := by
  rcases h with h | ⟨i, off, cap, row, ro, h1, h2, h3, h4⟩
  · exact .inl h
  · exact .inr ⟨i, off, cap, row, ro, h1, hg.get h2 h3 (.inr fun row' e' ro' he => by cases he; exact ht), Nat.lt_of_lt_of_le h3 hg.1, h4⟩
theorem Own.fr (h : Own b' s0 e enc v l) (ht : ¬ T e) (hg : Fr T b s0 s1) : Own b' s1 e enc v l := by
  rcases h with h | ⟨i, cap, h1, hb, hi, h2, h3⟩
  · exact .inl h
  · exact .inr ⟨i, cap, h1, hb, Nat.lt_of_lt_of_le hi hg.1, hg.get h2 hi (.inr fun row' e' ro' he => by cases he; exact ht), h3⟩
end
section
variable {P : Program} {σ : CSt} {ev : Operand → Value} {dst : Option Tmp} {ty : TypeId} {pos : String} {after : Array Edge} {g : Option (Nat × Bool)}
def nilK (σ : CSt) : Value → OpR
  | .pointer (some a) => .val (.pointer (some a)) σ
  | .func (.func f) fs cs => .val (.func (.func f) fs cs) σ
  | .func (.yield f) fs cs => .val (.func (.yield f) fs cs) σ
  | .iface t v => .val (.iface t v) σ
  | _ => .fail
@[simp] theorem copE_nilCheck (x : Operand) : cop P σ ev ⟨dst, .nilCheck x, ty, pos, after, g⟩ = nilK σ (ev x) := (rfl)
@[simp] theorem nilK_ptr (a : Addr) : nilK σ (.pointer (some a)) = .val (.pointer (some a)) σ := (rfl)
@[simp] theorem nilK_fn (f : FuncId) (fs cs : Array Value) : nilK σ (.func (.func f) fs cs) = .val (.func (.func f) fs cs) σ := (rfl)
@[simp] theorem nilK_yield (f : Nat) (fs cs : Array Value) : nilK σ (.func (.yield f) fs cs) = .val (.func (.yield f) fs cs) σ := (rfl)
end
end Go.Sm
/- Ranges over functions, as equations. -/
set_option linter.unusedVariables false
set_option linter.unusedSimpArgs false
namespace Go.Sm
open Go
variable {E : Env} {σ : CSt}
/-- Behind the function that is ranged over. -/
def krange (E : Env) (x : Ctx) (a : CAct) (L : Nat) (Q : Out → CSt → Prop) : Out → CSt → Prop := fun o σ =>
  match o with
  | .ret _ _ =>
    match σ.get L with
    | some (.loop st pend fn tm sz ps asg body) =>
      if st = .busy then False else
      match pend with
      | none => Q (.code .normal a) (σ.put L (.loop .exhausted pend fn tm sz ps asg body))
      | some c => W E (.code x c a) (σ.put L (.loop .exhausted pend fn tm sz ps asg body)) Q
    | _ => False
  | .pan v => Q (.code (.panic v) a) σ
  | _ => False
/-- Behind the assignments of a round. -/
def kround1 (E : Env) (L : Nat) (fn : FuncId) (body : Code) (Q : Out → CSt → Prop) : Out → CSt → Prop := fun o σ =>
  match o with
  | .code .normal a =>
    match σ.get L with
    | some (.loop .ready pend fn' tm' sz' ps' asg' body') =>
      W E (.code ⟨fn, some L, none⟩ body a) (σ.put L (.loop .busy pend fn' tm' sz' ps' asg' body')) fun o σ2 =>
        match o with
        | .code e a2 =>
          match jumpOf e with
          | some j =>
            match σ2.get L with
            | some (.loop st _ fn' tm' sz' ps' asg' body') => Q (.ret (.bool j.isNone) false) (σ2.put L (.loop (if j.isNone then .ready else .done) j fn' tm' sz' ps' asg' body'))
            | _ => False
          | none => match e with | .panic v => if a2.df.isEmpty then (match E.P.funcs[fn]? with | some _ => Q (.pan v) σ2 | none => False) else False | _ => False
        | _ => False
    | _ => False
  | _ => False
theorem W_rangeFunc {x : Ctx} {f : Operand} {ps : Array Tmp} {asg body : Code} {a : CAct} {σ : CSt} {Q : Out → CSt → Prop} {g : FuncId} {fs cs : Array Value} (hf : a.eval f = .func (.func g) fs cs) (ha : aroundOk σ x.rnd = true) :
    W E (.code x (.rangeFunc f ps asg body) a) σ Q = W E (.fn g (fs ++ #[.func (.yield σ.n) #[] #[]] ++ cs) none) (σ.alloc (.loop .ready none x.f a.tm a.sz ps asg body)) (krange E x a σ.n Q) := by
  rw [W_eq]
  simp only [F, ha, hf, callv, Bool.not_true, Bool.false_eq_true, if_false]
  rfl
theorem W_round {L : Nat} {args : Array Value} {σ : CSt} {Q : Out → CSt → Prop} {st : LoopState} {pend : Option Code} {fn : FuncId} {tm : Tr Value} {sz : Nat} {ps : Array Tmp} {asg body : Code} (hg : σ.get L = some (.loop st pend fn tm sz ps asg body)) (hs : args.size = ps.size) :
    W E (.round L args) σ Q = W E (.code ⟨fn, some L, none⟩ asg { tm := (ps.toList.zip args.toList).foldl (fun t p => if p.1 < sz then t.set p.1 p.2 else t) tm, sz := sz, df := [], tk := false }) σ (kround1 E L fn body Q) := by
  rw [W_eq]
  simp only [F, hg, hs, if_true]
  rfl
@[simp] theorem wres_yield (x : Ctx) (a : CAct) (d : Option Tmp) (K : CAct → CSt → Prop) (Q : Out → CSt → Prop) (L : Nat) (fs cs args : Array Value) (h : extOf E (.func (.yield L) fs cs) args σ = none) :
    wres E x a d K Q σ (.call (.func (.yield L) fs cs) args) = W E (.round L (fs ++ args)) σ (kret a d K Q) := by
  simp only [wres, h, callv]
  rfl
@[simp] theorem dres_yield (ops : Array Oper) (a0 a : CAct) (d : Option Tmp) (K : CAct → CSt → Prop) (Q : Out → CSt → Prop) (L : Nat) (fs cs args : Array Value) (h : extOf E (.func (.yield L) fs cs) args σ = none) :
    dres E ops a0 a d K Q σ (.call (.func (.yield L) fs cs) args) = W E (.round L (fs ++ args)) σ (kretd ops a0 a d K Q) := by
  simp only [dres, h, callv]
  rfl
@[simp] theorem ext_yield (L : Nat) (fs cs args : Array Value) (σ : CSt) : extOf E (.func (.yield L) fs cs) args σ = none := (rfl)
end Go.Sm
/- Maps by strings. -/
set_option linter.unusedVariables false
set_option linter.unusedSimpArgs false
namespace Go.Sm
open Go
/-- A map's entries. -/
abbrev Ml := List (ByteArray × Value)
def Ents (es : List MapEntry) (M : Ml) : Prop := es.map (fun e => (e.key, e.val)) = M.map fun p => (Value.string p.1, p.2)
def posM (k : ByteArray) : Ml → Nat → Option (Nat × Value)
  | [], _ => none
  | p :: M, i => if p.1 = k then some (i, p.2) else posM k M (i + 1)
theorem find_ents (k : ByteArray) : ∀ (es : List MapEntry) (M : Ml) (i : Nat), Ents es M → Instr.findNow .string (.string k) es i = some (posM k M i)
  | [], [], _, _ => rfl
  | [], p :: M, _, h => by simp [Ents] at h
  | e :: es, [], _, h => by simp [Ents] at h
  | e :: es, p :: M, i, h => by
    simp only [Ents, List.map_cons, List.cons.injEq, Prod.mk.injEq] at h
    obtain ⟨⟨h1, h2⟩, h3⟩ := h
    have ih := find_ents k es M (i + 1) h3
    unfold Instr.findNow posM
    rw [h1]
    by_cases e1 : p.1 = k
    · have : Instr.sameNow .string (.string k) (.string p.1) = some true := by rw [e1]; simp [Instr.sameNow, ba_self]
      rw [this, if_pos e1]
      simp [h2]
    · have : Instr.sameNow .string (.string k) (.string p.1) = some false := by
        have hne : (k == p.1) = false := by
          cases h : (k == p.1) with
          | false => rfl
          | true => exact absurd (ba_eq h).symm e1
        simp [Instr.sameNow, hne]
      rw [this, if_neg e1]
      exact ih
def getM (M : Ml) (k : ByteArray) : Option Value := (M.find? fun p => decide (p.1 = k)).map (·.2)
def setM : Ml → ByteArray → Value → Ml
  | [], k, v => [(k, v)]
  | p :: M, k, v => if p.1 = k then (k, v) :: M else p :: setM M k v
theorem posM_none {k : ByteArray} {v : Value} : ∀ {M : Ml} {i : Nat}, posM k M i = none → getM M k = none ∧ setM M k v = M ++ [(k, v)]
  | [], _, _ => ⟨rfl, rfl⟩
  | p :: M, i, h => by
    unfold posM at h
    by_cases e : p.1 = k
    · rw [if_pos e] at h; cases h
    · rw [if_neg e] at h
      obtain ⟨h1, h2⟩ := posM_none (v := v) h
      unfold getM setM
      rw [if_neg e, h2]
      refine ⟨?_, rfl⟩
      rw [List.find?_cons]
      simp only [e, decide_false]
      exact h1
theorem posM_some {k : ByteArray} {v w : Value} {j : Nat} : ∀ {M : Ml} {i : Nat}, posM k M i = some (j, w) → i ≤ j ∧ j - i < M.length ∧ getM M k = some w ∧ setM M k v = M.set (j - i) (k, v)
  | [], _, h => by cases h
  | p :: M, i, h => by
    unfold posM at h
    by_cases e : p.1 = k
    · rw [if_pos e] at h
      cases h
      refine ⟨Nat.le_refl _, by simp, ?_, ?_⟩
      · unfold getM; rw [List.find?_cons]; simp [e]
      · unfold setM; rw [if_pos e]; simp
    · rw [if_neg e] at h
      obtain ⟨h0, h1, h2, h3⟩ := posM_some (v := v) h
      have hj : j - i = (j - (i + 1)) + 1 := by omega
      refine ⟨by omega, by simp; omega, ?_, ?_⟩
      · unfold getM; rw [List.find?_cons]; simp only [e, decide_false]; exact h2
      · unfold setM; rw [if_neg e, h3, hj, List.set_cons_succ]
def Mp (σ : CSt) (m : Nat) (M : Ml) : Prop := ∃ es clock, σ.get m = some (.map es clock) ∧ Ents es.toList M
theorem Ents.length {es : List MapEntry} {M : Ml} (h : Ents es M) : es.length = M.length := by have := congrArg List.length h; simpa using this
section
variable {P : Program} {σ : CSt} {t kt et : TypeId} {m : Nat} {M : Ml} {k : ByteArray}
theorem lookup_mp (ht : P.underlying t = some (.map kt et)) (hk : keyKind P kt = some .string) {z : Value} (hz : zeroOf? P et = some z) (h : Mp σ m M) : lookupOp P σ t (.map (some m)) (.string k) false = some ((getM M k).getD z) := by
  obtain ⟨es, clock, hg, he⟩ := h
  have hf : findK P kt (.string k) es = some (posM k M 0) := by unfold findK; rw [hk]; exact find_ents k _ M 0 he
  unfold lookupOp
  rw [ht]
  simp only [CSt.maps, hg, Option.map_some, hf, flat0, if_true]
  cases hp : posM k M 0 with
  | none => rw [(posM_none (v := z) hp).1]; simp [hz]
  | some jw => obtain ⟨j, w⟩ := jw; rw [(posM_some (v := z) hp).2.2.1]; simp
theorem update_mp (ht : P.underlying t = some (.map kt et)) (hk : keyKind P kt = some .string) (h : Mp σ m M) (v : Value) : ∃ o, updateOp P σ t (.map (some m)) (.string k) v = some (σ.put m o) ∧ Mp (σ.put m o) m (setM M k v) := by
  obtain ⟨es, clock, hg, he⟩ := h
  have hf : findK P kt (.string k) es = some (posM k M 0) := by unfold findK; rw [hk]; exact find_ents k _ M 0 he
  unfold updateOp
  rw [ht]
  simp only [CSt.maps, hg, hf, flat0, if_true]
  cases hp : posM k M 0 with
  | none =>
    refine ⟨_, rfl, _, _, by rw [CSt.get_put, if_pos rfl], ?_⟩
    rw [(posM_none (v := v) hp).2]
    unfold Ents at he ⊢
    simp [he]
  | some jw =>
    obtain ⟨j, w⟩ := jw
    obtain ⟨h1, h2, h3, h4⟩ := posM_some (v := v) hp
    refine ⟨_, rfl, _, _, by rw [CSt.get_put, if_pos rfl], ?_⟩
    rw [h4]
    unfold Ents at he ⊢
    rw [Array.toList_modify, Nat.sub_zero]
    apply List.ext_getElem?
    intro n
    have hn := congrArg (·[n]?) he
    simp only [List.getElem?_map, List.getElem?_modify, List.getElem?_set] at hn ⊢
    by_cases e : j = n
    · subst e
      rw [Nat.sub_zero] at h2
      have hl := Ents.length he
      simp [h2, List.getElem?_eq_getElem (show j < es.toList.length by omega)]
    · simp [e]
      simpa using hn
end
end Go.Sm
/- append to a slice of one's own: what else stays. -/
set_option linter.unusedVariables false
namespace Go.Sm
open Go
section
variable {α : Type} {P : Program} {σ : CSt} {e : TypeId} {sz b : Nat} {enc : α → List Value} {v x : Value} {l m : List α} {f : TF} {ts : Array TypeId}

theorem appendF_only (hsz : ∀ x, (enc x).length = sz) (hc : ∀ x, cokL (enc x) = true) (hfs : f.size = sz) (h0 : 0 < sz) (h1 : 0 < f.bytes) (h2 : f.zero.map List.length = some sz) (hown : Own b σ e enc v l) (hb : b ≤ σ.n)
    (hbig : (l.length + m.length) * f.bytes ≤ 2 ^ 47) (hl : l.length < 2 ^ 62) : ∃ v' σ', appendF σ e f v m.length (m.flatMap enc) = some (v', σ') ∧ Own b σ' e enc v' (l ++ m) ∧ GrowB b σ σ' ∧ (∀ j, j < σ.n → (∀ i off n c, v = .slice (some ⟨i, off, none⟩) n c → j ≠ i) → σ'.get j = σ.get j) ∧ (m ≠ [] → ∃ n c, v' = .slice (some ⟨σ.n, 0, none⟩) n c) := by
  have hml := enc_length enc hsz m
  have hll := enc_length enc hsz l
  have hcond : (m.flatMap enc).length = m.length * f.size ∧ cokL (m.flatMap enc) = true ∧ 0 < f.size ∧ 0 < f.bytes ∧ f.zero.map List.length = some f.size := by
    rw [hfs]; exact ⟨hml, cokL_enc hc m, h0, h1, h2⟩
  unfold appendF
  rw [if_pos hcond]
  rcases hown with ⟨rfl, rfl⟩ | ⟨i, cap, rfl, hbi, hin, hg, hcap⟩
  · by_cases hm : m.length = 0
    · have : m = [] := List.eq_nil_of_length_eq_zero hm
      subst this
      exact ⟨.slice none 0 0, σ, by simp, Own.nil, GrowB.refl b σ, fun _ _ _ => rfl, fun h => absurd rfl h⟩
    · refine ⟨.slice (some ⟨σ.n, 0, none⟩) m.length openCap, σ.alloc (.cells (m.flatMap enc) e false), ?_, .inr ⟨σ.n, openCap, rfl, hb, by simp, by simp, .inl rfl⟩, (GrowB.refl b σ).alloc hb _, fun j hj _ => by rw [CSt.get_alloc, if_neg (by omega)], fun _ => ⟨_, _, rfl⟩⟩
      simp only [hm, if_false]
      rw [if_pos (by simpa using hbig)]
  · by_cases hm : m.length = 0
    · have : m = [] := List.eq_nil_of_length_eq_zero hm
      subst this
      refine ⟨.slice (some ⟨i, 0, none⟩) l.length cap, σ, ?_, ?_, GrowB.refl b σ, fun _ _ _ => rfl, fun h => absurd rfl h⟩
      · simp only [List.length_nil, if_true]
        rw [if_pos]
        rcases hcap with rfl | ⟨rfl, rfl⟩
        · simp only [openCap]; omega
        · simp
      · rw [List.append_nil]
        exact .inr ⟨i, cap, rfl, hbi, hin, hg, hcap⟩
    · simp only [hm, if_false, hg]
      rcases hcap with rfl | ⟨rfl, rfl⟩
      · refine ⟨.slice (some ⟨σ.n, 0, none⟩) (l ++ m).length openCap, (σ.put i .dead).alloc (.cells ((l ++ m).flatMap enc) e false), ?_, .inr ⟨σ.n, openCap, rfl, hb, by simp, by simp, .inl rfl⟩, ((GrowB.refl b σ).put hbi _).alloc hb _, fun j hj hne => by rw [CSt.get_alloc, if_neg (by simp; omega), CSt.get_put, if_neg (hne _ _ _ _ rfl)], fun _ => ⟨_, _, rfl⟩⟩
        simp only [if_true, and_self]
        rw [if_neg, if_pos hbig]
        · have : ld (l.flatMap enc) 0 (l.length * f.size) = some (l.flatMap enc) := by
            rw [hfs, ← hll]
            unfold ld
            rw [if_pos (by omega), List.drop_zero, List.take_of_length_le (Nat.le_refl _)]
          rw [this]
          simp
        · rw [hll, hfs, Nat.add_mul]
          have : 0 < m.length * sz := Nat.mul_pos (by omega) h0
          omega
      · refine ⟨.slice (some ⟨σ.n, 0, none⟩) m.length openCap, σ.alloc (.cells (m.flatMap enc) e false), ?_, .inr ⟨σ.n, openCap, by simp, hb, by simp, by simp, .inl rfl⟩, (GrowB.refl b σ).alloc hb _, fun j hj _ => by rw [CSt.get_alloc, if_neg (by omega)], fun _ => ⟨_, _, rfl⟩⟩
        rw [if_neg (by simp [openCap]), if_neg (by rw [List.length_nil]; omega)]
        simp only [List.length_nil, Nat.zero_add, Nat.zero_mul] at hbig ⊢
        rw [if_pos hbig]
        simp [ld]
/-- append(s, x...), s one's own. -/
theorem append_only (hf : ts[0]?.bind (elemF P) = some (e, f)) (hu : (ts[1]?.bind (elemT P)).isSome = true) (hsz : ∀ x, (enc x).length = sz) (hc : ∀ x, cokL (enc x) = true) (hfs : f.size = sz) (h0 : 0 < sz) (h1 : 0 < f.bytes) (h2 : f.zero.map List.length = some sz)
    (hown : Own b σ e enc v l) (hb : b ≤ σ.n) (hx : Sl σ e sz enc x m) (hbig : (l.length + m.length) * f.bytes ≤ 2 ^ 47) (hl : l.length < 2 ^ 62) :
    ∃ v' σ', appendOp P σ ts v x = some (v', σ') ∧ Own b σ' e enc v' (l ++ m) ∧ GrowB b σ σ' ∧ (∀ j, j < σ.n → (∀ i off n c, v = .slice (some ⟨i, off, none⟩) n c → j ≠ i) → σ'.get j = σ.get j) ∧ (m ≠ [] → ∃ n c, v' = .slice (some ⟨σ.n, 0, none⟩) n c) := by
  obtain ⟨g1, g2⟩ := first_sl hsz hx
  obtain ⟨v', σ', g3, g4, g5⟩ := appendF_only hsz hc hfs h0 h1 h2 hown hb hbig hl
  refine ⟨v', σ', ?_, g4, g5⟩
  rw [appendOp_K (by rw [hf]; rfl) hu, hf]
  simp only [appK, g1, hfs, g2, Option.bind_some]
  exact g3
end
section
variable {P : Program} {σ : CSt} {ev : Operand → Value} {dst : Option Tmp} {ty : TypeId} {pos : String} {after : Array Edge} {g : Option (Nat × Bool)}
@[simp] theorem copE_lookup (t : TypeId) (m k : Operand) (ok : Bool) : cop P σ ev ⟨dst, .lookup t m k ok, ty, pos, after, g⟩ = OpR.ofV σ (lookupOp P σ t (ev m) (ev k) ok) := (rfl)
@[simp] theorem copE_mapUpdate (t : TypeId) (m k x : Operand) : cop P σ ev ⟨dst, .mapUpdate t m k x, ty, pos, after, g⟩ = OpR.ofS (updateOp P σ t (ev m) (ev k) (ev x)) := (rfl)
theorem copE_makeMap {t kt et : TypeId} (h : P.underlying t = some (.map kt et)) : cop P σ ev ⟨dst, .makeMap t none, ty, pos, after, g⟩ = .val (.map (some σ.n)) (σ.alloc (.map #[] 0)) := by
  simp only [cop, h]
end
end Go.Sm
