/- Part D of the proof. -/
import Derived.IntWalk
import Derived.Shelf.Strings.Repeat
import Derived.Test.YtkcljmaklingoaaGreatDoorProg
import Derived.ChangeSlices
import Derived.ProofKit
import Derived.Carry
import Derived.Sort.AssemblyPlain
import Derived.Test.YtkcljmaklingoaaGreatDoorPartB
import Derived.Test.YtkcljmaklingoaaGreatDoorPartC
/- More operations as equations: copy, append of so many, cap, clear; rows written. -/
set_option linter.unusedVariables false
set_option linter.unusedSimpArgs false
namespace Go.Sm
open Go

/-- A row, written from a place on. -/
def wr (c : List Value) (off : Nat) (vs : List Value) : List Value := c.take off ++ vs ++ c.drop (off + vs.length)
theorem st_wr {c : List Value} {off : Nat} {vs : List Value} (h : off + vs.length ≤ c.length) : st c off vs = some (wr c off vs) := by simp [st, h, wr]
theorem wr_length {c : List Value} {off : Nat} {vs : List Value} (h : off + vs.length ≤ c.length) : (wr c off vs).length = c.length := by simp [wr]; omega
theorem wr_get {c : List Value} {off : Nat} {vs : List Value} (h : off + vs.length ≤ c.length) (k : Nat) : (wr c off vs)[k]? = if k < off then c[k]? else if k < off + vs.length then vs[k - off]? else c[k]? := by
  unfold wr
  by_cases h1 : k < off
  · rw [if_pos h1, List.append_assoc, List.getElem?_append_left (by simp; omega), List.getElem?_take, if_pos h1]
  · rw [if_neg h1]
    have hl : (c.take off).length = off := by simp; omega
    by_cases h2 : k < off + vs.length
    · rw [if_pos h2, List.append_assoc, List.getElem?_append_right (by omega), hl, List.getElem?_append_left (by omega)]
    · rw [if_neg h2, List.getElem?_append_right (by simp; omega)]
      simp only [List.length_append, hl, List.getElem?_drop]
      congr 1
      omega

@[simp] theorem rep_cok (n : Nat) (z : List Value) (h : cokL z = true) : cokL (List.replicate n z).flatten = true := by
  induction n with
  | zero => rfl
  | succ n ih => rw [List.replicate_succ, List.flatten_cons, cokL_append, h, ih]; rfl
section
variable {P : Program} {σ : CSt} {ev : Operand → Value} {dst : Option Tmp} {ty : TypeId} {pos : String} {after : Array Edge} {g : Option (Nat × Bool)}

/-! ### copy -/
def copyIK (σ : CSt) : Option Addr → Nat → List Value → Option CSt
  | some ⟨i, off, none⟩, n, new => if n = 0 then some σ else match σ.get i with
    | some (.cells c e false) => (st c off new).map fun c' => σ.put i (.cells c' e false)
    | _ => none
  | _, n, _ => if n = 0 then some σ else none
def copyK : Option (TypeId × TF) → CSt → Value → Value → Option (Value × CSt)
  | some (_, f), σ, .slice base dl _, s =>
    match lenOf? s with
    | some sl => (firstOf σ f.size (min sl dl) s).bind fun new => if new.length = min sl dl * f.size ∧ cokL new = true then (copyIK σ base (min sl dl) new).map fun σ' => (.int .i64 (min sl dl : Nat), σ') else none
    | none => none
  | _, _, _, _ => none
theorem copyIK_eq (base : Option Addr) (n : Nat) (new : List Value) : copyInto σ base n new = copyIK σ base n new := by
  unfold copyInto copyIK
  by_cases h0 : n = 0
  · simp only [h0, if_true]
    split <;> rfl
  · simp only [h0, if_false]
    split
    · rename_i i off
      simp only [h0, if_false, CSt.cells]
      generalize σ.get i = o
      cases o with
      | none => rfl
      | some o =>
        cases o with
        | cells c e ro => cases ro <;> rfl
        | _ => rfl
    · rename_i h
      split
      · rename_i i off
        exact absurd rfl (h _ _)
      · rw [if_neg h0]
theorem copyOp_K {ts : Array TypeId} {d s : Value} (h : (ts[0]?.bind (elemF P)).isSome = true) : copyOp P σ ts d s = copyK (ts[0]?.bind (elemF P)) σ d s := by
  obtain ⟨⟨e, f⟩, hf⟩ := Option.isSome_iff_exists.1 h
  rw [hf]
  simp only [Option.bind_eq_some_iff] at hf
  obtain ⟨t, ht, hf⟩ := hf
  obtain ⟨inf, g1, g2, g3, g4⟩ := elemOf_some hf
  unfold copyOp
  rw [ht]
  cases d with
  | slice base dl c =>
    cases hs : lenOf? s with
    | none => simp [copyK, hs]
    | some sl =>
      simp only [g1, copyK, hs, g2, copyIK_eq]
      show (match firstOf σ f.size (min sl dl) s with | some new => _ | none => none) = _
      cases firstOf σ f.size (min sl dl) s <;> rfl
  | _ => cases hs : lenOf? s <;> rfl

/-! ### nil[l:h] -/
def sliceN : Option Nat → Option Nat → Option Value
  | some l, some h => if l ≤ h ∧ h ≤ 0 then some (.slice none 0 0) else none
  | _, _ => none
@[simp] theorem sliceN_eq (l h : Nat) : sliceN (some l) (some h) = if l ≤ h ∧ h ≤ 0 then some (.slice none 0 0) else none := (rfl)
theorem sliceOp_nil {t : TypeId} (he : (elemF P t).isSome = true) (lo hi : Option Value) : sliceOp P σ t (.slice none 0 0) lo hi none = sliceN (bound? 0 lo) (bound? 0 hi) := by
  obtain ⟨⟨e, f⟩, hf⟩ := Option.isSome_iff_exists.1 he
  obtain ⟨inf, h1, h2, h3, h4⟩ := elemOf_some hf
  have hb : bound? 0 none = some 0 := rfl
  simp only [sliceOp, h1, hb]
  generalize bound? 0 hi = bh
  cases bound? 0 lo with
  | none => cases bh <;> rfl
  | some l =>
    cases bh with
    | none => rfl
    | some h => simp [sliceN]
/-! ### append(s, make(..)...) -/
def appNK : Option (TypeId × TF) → CSt → Value → Int → Option (Value × CSt)
  | some (e, f), σ, s, n => match f.zero with
    | some z => if 0 ≤ n ∧ n * f.bytes ≤ 2 ^ 47 ∧ z.length = f.size ∧ z.all flat0 = true then appendF σ e f s n.toNat ((List.replicate n.toNat z).flatten) else none
    | none => none
  | none, _, _, _ => none
theorem zerosOf_eq (z : Array Value) (n : Nat) : zerosOf z n = (List.replicate n z.toList).flatten := range_flatten z n
theorem appendOp_N {ts : Array TypeId} {s : Value} {k : IntKind} {n : Int} (h : (ts[0]?.bind (elemF P)).isSome = true) (h' : (ts[1]?.bind (intT P)).isSome = true) : appendOp P σ ts s (.int k n) = appNK (ts[0]?.bind (elemF P)) σ s n := by
  obtain ⟨⟨e, f⟩, hf⟩ := Option.isSome_iff_exists.1 h
  obtain ⟨e1, hf1⟩ := Option.isSome_iff_exists.1 h'
  rw [hf]
  simp only [Option.bind_eq_some_iff] at hf hf1
  obtain ⟨t, ht, hf⟩ := hf
  obtain ⟨u, hu, hf1⟩ := hf1
  obtain ⟨inf, g1, g2, g3, g4⟩ := elemOf_some hf
  have hund : ∃ k, P.underlying u = some (.int k) := by
    unfold intT at hf1
    split at hf1
    · rename_i e2 h2; exact ⟨_, h2⟩
    · cases hf1
  obtain ⟨k', hund⟩ := hund
  simp only [appendOp, ht, hu, g1, hund, appNK]
  cases hz : inf.zero with
  | none =>
    rw [hz] at g4
    simp only [Option.map_none] at g4
    rw [← g4]
  | some z =>
    rw [hz] at g4
    simp only [Option.map_some] at g4
    rw [← g4]
    simp only [g2, g3, Array.length_toList]
    by_cases hc : 0 ≤ n ∧ n * (f.bytes : Int) ≤ 2 ^ 47 ∧ z.cells.size = f.size ∧ z.cells.toList.all flat0 = true
    · rw [if_pos hc, if_pos hc, appendTo_F g2 g3 (by rw [hz]; exact g4), zerosOf_eq]
    · rw [if_neg hc, if_neg hc]

/-! ### cap -/
def capV (P : Program) (σ : CSt) (ts : Array TypeId) (fl : OpR) : Value → OpR
  | .slice none 0 0 => if (ts[0]?.bind (elemT P)).isSome = true then .val (.int .i64 0) σ else fl
  | .slice (some ⟨i, off, none⟩) n k => if k = openCap then capOp P σ ts i off n else if (ts[0]?.bind (elemT P)).isSome = true then .val (.int .i64 k) σ else .fail
  | _ => .fail
@[simp] theorem capV_nil (ts : Array TypeId) (fl : OpR) (h : (ts[0]?.bind (elemT P)).isSome = true) : capV P σ ts fl (.slice none 0 0) = .val (.int .i64 0) σ := by simp [capV, h]
@[simp] theorem capV_known (ts : Array TypeId) (fl : OpR) (i off n k : Nat) (hk : k ≠ openCap) (h : (ts[0]?.bind (elemT P)).isSome = true) : capV P σ ts fl (.slice (some ⟨i, off, none⟩) n k) = .val (.int .i64 k) σ := by simp [capV, h, hk]
theorem und_isSome {ts : Array TypeId} (h : (ts[0]?.bind (elemT P)).isSome = true) : ∃ t e, ts[0]? = some t ∧ P.underlying t = some (.slice e) := by
  cases ht : ts[0]? with
  | none => rw [ht] at h; cases h
  | some t =>
    rw [ht] at h
    obtain ⟨e, he⟩ := und_of_elem (show (elemT P t).isSome = true from h)
    exact ⟨t, e, rfl, he⟩
@[simp] theorem callOp_capV {x : Operand} {ts : Array TypeId} : callOp P σ ev ⟨dst, .call ⟨.builtin .cap, #[x], ts⟩, ty, pos, after, g⟩ ⟨.builtin .cap, #[x], ts⟩ =
    capV P σ ts (flatOp P σ ev ⟨dst, .call ⟨.builtin .cap, #[x], ts⟩, ty, pos, after, g⟩) (ev x) := by
  have ha : (Array.map ev #[x]).toList = [ev x] := by simp
  unfold capV
  split
  · rename_i hx
    simp only [callOp, ha, hx]
    split
    · rename_i h
      obtain ⟨t, e, ht, hu⟩ := und_isSome h
      have h1 : pureRun P (execOp ev ⟨dst, .call ⟨.builtin .cap, #[x], ts⟩, ty, pos, after, g⟩) = some (.value (.int .i64 0)) := by
        have h2 : execOp ev ⟨dst, .call ⟨.builtin .cap, #[x], ts⟩, ty, pos, after, g⟩ = (do pure (Next.value (← Builtin.cap_ ts ty #[.slice none 0 0])) : Sem Next) := by
          simp only [execOp, resolve]
          have : (Array.map ev #[x]) = #[.slice none 0 0] := by simp [hx]
          simp only [this]
          rfl
        rw [h2, pureRun_v]
        have h3 : pureRun P (Builtin.cap_ ts ty #[.slice none 0 0]) = some (.int .i64 0) := by
          simp [Builtin.cap_, ht, pureRun_bind, pureRun_underlying, hu, goInt]
        rw [h3]
        rfl
      simp only [flatOp, Op.operands, Call.operands, h1]
      simp [hx]
    · rfl
  · rename_i i off n k hx
    simp only [callOp, ha, hx]
    by_cases hk : k = openCap
    · rw [if_pos hk, if_pos hk]
    · rw [if_neg hk, if_neg hk]
      by_cases h : (ts[0]?.bind (elemT P)).isSome = true
      · obtain ⟨t, e, ht, hu⟩ := und_isSome h
        rw [if_pos h]
        simp only [ht, hu]
      · rw [if_neg h]
        cases ht : ts[0]? with
        | none => rfl
        | some t =>
          rw [ht] at h
          simp only [Option.bind_some, elemT] at h
          cases hu : P.underlying t with
          | none => simp [hu]
          | some d =>
            cases d with
            | slice e => rw [hu] at h; simp at h
            | _ => simp [hu]
  · rename_i h1 h2
    simp only [callOp, ha]
    split <;> simp_all
variable {E : Env}
theorem wres_ext (x : Ctx) (a : CAct) (d : Option Tmp) (K : CAct → CSt → Prop) (Q : Out → CSt → Prop) {fv : Value} {args : Array Value} {v : Value} (h : extOf E fv args σ = some v) : wres E x a d K Q σ (.call fv args) = K (a.put d v) σ := by simp only [wres, h]
/-! ### clear -/
@[simp] theorem callOp_clear (o : Oper) (x : Operand) (ts : Array TypeId) : callOp P σ ev o ⟨.builtin .clear, #[x], ts⟩ = OpR.ofP (clearOp P σ ts (ev x)) := by
  have : (Array.map ev #[x]).toList = [ev x] := by simp
  simp only [callOp, this]
end
end Go.Sm
/- The row with one element more: plain facts of lists. -/
set_option linter.unusedVariables false
namespace Go.Sm
open Go
section
variable {sz a n : Nat} {row new : List Value}
theorem insRow_get (hl : new.length = sz) (ha : a ≤ n) (hn : n * sz ≤ row.length) (k : Nat) :
    (insRow sz a n row new)[k]? = if k < a * sz then row[k]? else if k < a * sz + sz then new[k - a * sz]? else if k < n * sz + sz then row[k - sz]? else none := by
  have h1 : a * sz ≤ n * sz := Nat.mul_le_mul_right _ ha
  have hlen : (row.take (a * sz)).length = a * sz := by simp; omega
  unfold insRow
  by_cases c1 : k < a * sz
  · rw [if_pos c1, List.append_assoc, List.getElem?_append_left (by omega), List.getElem?_take, if_pos c1]
  · rw [if_neg c1]
    by_cases c2 : k < a * sz + sz
    · rw [if_pos c2, List.append_assoc, List.getElem?_append_right (by omega), hlen, List.getElem?_append_left (by omega)]
    · rw [if_neg c2, List.getElem?_append_right (by simp only [List.length_append, hlen]; omega)]
      simp only [List.length_append, hlen, hl, List.getElem?_drop, List.getElem?_take]
      have e : a * sz + (k - (a * sz + sz)) = k - sz := by omega
      rw [e]
      by_cases c3 : k < n * sz + sz
      · rw [if_pos c3, if_pos (by omega)]
      · rw [if_neg c3, if_neg (by omega)]
theorem insRow_len (hl : new.length = sz) (ha : a ≤ n) (hn : n * sz ≤ row.length) : (insRow sz a n row new).length = n * sz + sz := by
  have h1 : a * sz ≤ n * sz := Nat.mul_le_mul_right _ ha
  simp only [insRow, List.length_append, List.length_take, List.length_drop, hl]
  omega
/-- At the end, where there is room. -/
theorem insA (hl : new.length = sz) (hn : n * sz + sz ≤ row.length) : insRow sz n n row new = (wr row (n * sz) new).take (insRow sz n n row new).length := by
  rw [insRow_len hl (Nat.le_refl _) (by omega)]
  apply List.ext_getElem?
  intro k
  rw [insRow_get hl (Nat.le_refl _) (by omega), List.getElem?_take, wr_get (by omega), hl]
  by_cases c1 : k < n * sz
  · rw [if_pos c1, if_pos (by omega), if_pos c1]
  · rw [if_neg c1]
    by_cases c2 : k < n * sz + sz
    · rw [if_pos c2, if_pos c2, if_neg c1, if_pos c2]
    · rw [if_neg c2, if_neg c2, if_neg c2]
/-- At the end, anew. -/
theorem insB (hl : new.length = sz) (hn : n * sz ≤ row.length) : insRow sz n n row new = (row.take (n * sz) ++ new).take (insRow sz n n row new).length := by
  rw [insRow_len hl (Nat.le_refl _) hn]
  have : insRow sz n n row new = row.take (n * sz) ++ new := by simp [insRow]
  have hl2 : (row.take (n * sz)).length = n * sz := by simp; omega
  rw [this]
  exact (List.take_of_length_le (by rw [List.length_append, hl2, hl]; exact Nat.le_refl _)).symm
theorem seg_get {l m : Nat} (k : Nat) : ((row.drop l).take m)[k]? = if k < m then row[l + k]? else none := by rw [List.getElem?_take, List.getElem?_drop]
/-- Within, anew. -/
theorem insC {z : List Value} (hl : new.length = sz) (ha : a < n) (hn : n * sz ≤ row.length) (hz : z.length = n * sz + sz - a * sz) :
    insRow sz a n row new = (wr (wr (row.take (a * sz) ++ z) (a * sz) new) (a * sz + sz) ((row.drop (a * sz)).take (n * sz - a * sz))).take (insRow sz a n row new).length := by
  have h1 : a * sz + sz ≤ n * sz := by have := Nat.mul_le_mul_right sz ha; rw [Nat.succ_mul] at this; exact this
  have h2 : (row.take (a * sz)).length = a * sz := by simp; omega
  have h3 : a * sz + new.length ≤ (row.take (a * sz) ++ z).length := by simp only [List.length_append, h2]; omega
  have h4 : ((row.drop (a * sz)).take (n * sz - a * sz)).length = n * sz - a * sz := by simp; omega
  rw [insRow_len hl (by omega) hn]
  apply List.ext_getElem?
  intro k
  rw [insRow_get hl (by omega) hn, List.getElem?_take, wr_get (by rw [wr_length h3]; simp only [List.length_append, h2, h4]; omega), wr_get h3, hl, h4, seg_get]
  by_cases c1 : k < a * sz
  · rw [if_pos c1, if_pos (by omega), if_pos (by omega), if_pos c1, List.getElem?_append_left (by omega), List.getElem?_take, if_pos c1]
  · rw [if_neg c1]
    by_cases c2 : k < a * sz + sz
    · rw [if_pos c2, if_pos (by omega), if_pos c2, if_neg c1, if_pos c2]
    · rw [if_neg c2]
      by_cases c3 : k < n * sz + sz
      · rw [if_pos c3, if_pos c3, if_neg c2, if_pos (by omega), if_pos (by omega)]
        congr 1
        omega
      · rw [if_neg c3, if_neg c3]
/-- Within, where there is room. -/
theorem insD (hl : new.length = sz) (ha : a < n) (hn : n * sz + sz ≤ row.length) :
    insRow sz a n row new = (wr (wr row (a * sz + sz) ((row.drop (a * sz)).take (n * sz - a * sz))) (a * sz) new).take (insRow sz a n row new).length := by
  have h1 : a * sz + sz ≤ n * sz := by have := Nat.mul_le_mul_right sz ha; rw [Nat.succ_mul] at this; exact this
  have h4 : ((row.drop (a * sz)).take (n * sz - a * sz)).length = n * sz - a * sz := by simp; omega
  have h3 : a * sz + sz + ((row.drop (a * sz)).take (n * sz - a * sz)).length ≤ row.length := by rw [h4]; omega
  rw [insRow_len hl (by omega) (by omega)]
  apply List.ext_getElem?
  intro k
  rw [insRow_get hl (by omega) (by omega), List.getElem?_take, wr_get (by rw [wr_length h3]; omega), wr_get h3, hl, h4, seg_get]
  by_cases c1 : k < a * sz
  · rw [if_pos c1, if_pos (by omega), if_pos c1, if_pos (by omega)]
  · rw [if_neg c1]
    by_cases c2 : k < a * sz + sz
    · rw [if_pos c2, if_pos (by omega), if_neg c1, if_pos c2]
    · rw [if_neg c2]
      by_cases c3 : k < n * sz + sz
      · rw [if_pos c3, if_pos c3, if_neg c1, if_neg c2, if_neg c2, if_pos (by omega), if_pos (by omega)]
        congr 1
        omega
      · rw [if_neg c3, if_neg c3]
end

theorem i64n (a : Nat) (h : a < 2 ^ 62) : IntKind.i64.wrap (a : Int) = a := IntWalk.i64_in _ (by omega)
theorem i64n1 (a : Nat) (h : a < 2 ^ 61) : IntKind.i64.wrap ((a : Int) + 1) = ((a + 1 : Nat) : Int) := by rw [IntWalk.i64_in _ (by omega)]; omega
theorem apartX_ne {e i oi ni ci j oj nj cj : Nat} {σ : CSt} {c d : List Value} {ed : TypeId} (hne : i ≠ j) (hi : σ.get i = some (.cells c e false)) (hj : σ.get j = some (.cells d ed false)) (hd : 0 < d.length) :
    apartX e #[.slice (some ⟨i, oi, none⟩) ni ci, .slice (some ⟨j, oj, none⟩) nj cj] σ = some (.bool false) := by
  cases d with
  | nil => simp at hd
  | cons x d => simp [apartX, hne, hi, hj]
end Go.Sm
set_option linter.unusedVariables false
set_option linter.unusedSimpArgs false
namespace Go.Sm
open Go Go.Proofs
set_option maxRecDepth 100000
set_option maxHeartbeats 1000000
attribute [local simp] sliceOp_open3 sliceOp_cap sliceOp_open sliceOp_nil appendOp_K appendOp_N copyOp_K
theorem ins_nil_29 (σ : CSt) (j : Nat) (new : List Value) (hj : j < σ.n) (hg : σ.get j = some (.cells new 33 false)) (hl : new.length = 3) (hc : cokL new = true) :
    W E0 (.fn 79 #[.slice none 0 0, .int .i64 0, .slice (some ⟨j, 0, none⟩) 1 1] none) σ (InsPost σ none 0 33 new 1) := by
  rw [W_fn (fn := Tryz.f79) Tryz.func79 rfl rfl rfl]
  have ht : new.take 3 = new := List.take_of_length_le (by omega)
  simp [wops_cons, hg, hl, hc, ht, appK, appendF]
  refine ⟨σ.n, new, openCap, rfl, by simp, by simp, .inl ⟨by omega, rfl⟩, fun y hy _ => ?_⟩
  simp
  omega
theorem ins_zero_29 (σ : CSt) (i j : Nat) (row new : List Value) (hi : i < σ.n) (hj : j < σ.n) (hij : i ≠ j) (hgi : σ.get i = some (.cells row 33 false)) (hg : σ.get j = some (.cells new 33 false)) (hl : new.length = 3) (hc : cokL new = true) :
    W E0 (.fn 79 #[.slice (some ⟨i, 0, none⟩) 0 0, .int .i64 0, .slice (some ⟨j, 0, none⟩) 1 1] none) σ (InsPost σ none 0 33 new 1) := by
  rw [W_fn (fn := Tryz.f79) Tryz.func79 rfl rfl rfl]
  have ht : new.take 3 = new := List.take_of_length_le (by omega)
  have h0 : (0 : Nat) ≠ openCap := by simp [openCap]
  have h1 : 0 < openCap := by simp [openCap]
  simp [wops_cons, hg, hgi, hl, hc, ht, appK, appendF, sliceC, h0, h1]
  refine ⟨σ.n, new, openCap, rfl, by simp, by simp, .inl ⟨by omega, rfl⟩, fun y hy _ => ?_⟩
  simp
  omega
theorem ins_end_29 (σ : CSt) (i j n k : Nat) (row new : List Value) (hi : i < σ.n) (hj : j < σ.n) (hij : i ≠ j) (hgi : σ.get i = some (.cells row 33 false)) (hg : σ.get j = some (.cells new 33 false)) (hl : new.length = 3) (hc : cokL new = true)
    (hn : n * 3 ≤ row.length) (hk : k * 3 ≤ row.length) (hb : (n + 1) * 32 ≤ 140737488355328) (hnk : n ≤ k) (hko : k < openCap) :
    W E0 (.fn 79 #[.slice (some ⟨i, 0, none⟩) n k, .int .i64 n, .slice (some ⟨j, 0, none⟩) 1 1] none) σ (InsPost σ (some i) k 33 (insRow 3 n n row new) (n + 1)) := by
  rw [W_fn (fn := Tryz.f79) Tryz.func79 rfl rfl rfl]
  have ht : new.take 3 = new := List.take_of_length_le (by omega)
  have h0 : k ≠ openCap := by omega
  by_cases hr : n + 1 ≤ k
  · have hst : st row (n * 3) new = some (wr row (n * 3) new) := st_wr (by omega)
    simp [wops_cons, hg, hgi, hl, hc, ht, appK, appendF, sliceC, h0, hko, hnk, hr, hst, -st_eq]
    refine ⟨i, wr row (n * 3) new, k, rfl, by simp, insA hl (by omega), .inr ⟨rfl, rfl, hr⟩, fun y hy hne => ?_⟩
    rw [CSt.get_put, if_neg]
    rintro rfl
    exact hne rfl
  · simp [wops_cons, hg, hgi, hl, hc, ht, appK, appendF, sliceC, h0, hko, hnk, hr, hn, hb]
    refine ⟨σ.n, _, openCap, rfl, by simp, insB hl hn, .inl ⟨Nat.le_refl _, rfl⟩, fun y hy hne => ?_⟩
    rw [CSt.get_alloc, if_neg (by omega)]
theorem ins_mid_29 (σ : CSt) (i j n a k : Nat) (row new : List Value) (hi : i < σ.n) (hj : j < σ.n) (hij : i ≠ j) (hgi : σ.get i = some (.cells row 33 false)) (hg : σ.get j = some (.cells new 33 false)) (hl : new.length = 3) (hc : cokL new = true)
    (hn : n * 3 ≤ row.length) (hk : k * 3 ≤ row.length) (hrc : cokL (row.take (n * 3)) = true) (ha : a < n) (hb : (n + 1) * 32 ≤ 140737488355328) (hn40 : n < 2 ^ 40) (hnk : n ≤ k) (hko : k < openCap) :
    W E0 (.fn 79 #[.slice (some ⟨i, 0, none⟩) n k, .int .i64 a, .slice (some ⟨j, 0, none⟩) 1 1] none) σ (InsPost σ (some i) k 33 (insRow 3 a n row new) (n + 1)) := by
  rw [W_fn (fn := Tryz.f79) Tryz.func79 rfl rfl rfl]
  have ht : new.take 3 = new := List.take_of_length_le (by omega)
  have h0 : k ≠ openCap := by omega
  have hle : a ≤ n := by omega
  have hne : a ≠ n := by omega
  have hw1 := i64n1 n (by omega)
  have hw2 := i64n1 a (by omega)
  have hlt : ¬ k < n ∧ ¬ (a : Int) = n := by omega
  have hnew : ld new 0 3 = some new := by simp [ld, hl, ht]
  have hp1 : (0 : Int) ≤ (n : Int) + 1 ∧ (0 : Int) ≤ (a : Int) + 1 ∧ ((n : Int) + 1).toNat = n + 1 ∧ ((a : Int) + 1).toNat = a + 1 := by omega
  by_cases hr : n + 1 ≤ k
  · have hI : ¬ ((k : Int) < n + 1) := by omega
    have hq : a ≤ k ∧ a + 1 ≤ k ∧ a ≤ n + 1 := by omega
    simp [wops_cons, hg, hgi, hl, hc, ht, appK, appendF, sliceC, h0, hko, hnk, hr, hle, hne, hlt.2, hw1, hw2, hp1, hI, hq, ha, -st_eq]
    rw [wres_ext (E := E0) (v := .bool false)]
    rotate_left
    · simp only [extOf_fn, E0X, extE]
      exact apartX_ne (Ne.symm hij) hg hgi (by omega)
    have hmin : min (n + 1 - a) (n - a) = n - a := by omega
    have hmul : (n - a) * 3 = n * 3 - a * 3 := by omega
    have hmin2 : min 1 (n + 1 - a) = 1 := by omega
    obtain ⟨seg, hseg⟩ : ∃ seg, seg = (row.drop (a * 3)).take (n * 3 - a * 3) := ⟨_, rfl⟩
    have hs1 : ld row (a * 3) ((n - a) * 3) = some seg := by rw [hmul, hseg]; simp; omega
    have hs2 : seg.length = (n - a) * 3 := by rw [hseg]; simp; omega
    have hs3 : cokL seg = true := by rw [hseg, ← List.drop_take]; exact cokL_drop hrc _
    have hs4 : st row ((a + 1) * 3) seg = some (wr row (a * 3 + 3) seg) := by rw [show (a + 1) * 3 = a * 3 + 3 by omega]; exact st_wr (by omega)
    have hs5 : (wr row (a * 3 + 3) seg).length = row.length := wr_length (by omega)
    have hs6 : st (wr row (a * 3 + 3) seg) (a * 3) new = some (wr (wr row (a * 3 + 3) seg) (a * 3) new) := st_wr (by omega)
    have hq2 : ¬ (k = a) ∧ ¬ (k = a + 1) ∧ ¬ (n - a = 0) := by omega
    simp only [Bool.not_false, wops_cons]
    simp [wops_cons, hg, hgi, hl, hc, ht]
    refine W_calm (by kernel_rfl) ?_
    simp [dops_cons, wops_cons, hg, hgi, hl, hc, ht, appK, appendF, sliceC, copyK, copyIK, h0, hko, hnk, hr, hle, hne, hlt.2, hw1, hw2, hp1, hI, hq, hq2, ha, hmin, hmin2, hs1, hs2, hs3, hs4, hs6, hnew, Ne.symm hij, -st_eq, -ld_eq]
    refine ⟨i, _, k, rfl, by simp; rfl, ?_, .inr ⟨rfl, rfl, hr⟩, fun y hy hne => ?_⟩
    · rw [hseg]; exact insD hl ha (by omega)
    · have : y ≠ i := by rintro rfl; exact hne rfl
      simp [this]
  · have hkn : k = n := by omega
    subst hkn
    have hI : ((k : Int) < k + 1) := by omega
    have hw3 : IntKind.i64.wrap ((k : Int) + 1 - a) = ((k + 1 - a : Nat) : Int) := by rw [IntWalk.i64_in _ (by omega)]; omega
    have hz1 : ((k + 1 - a : Nat) : Int) * 32 ≤ 140737488355328 := by omega
    have hz2 : ¬ (k + 1 - a = 0) := by omega
    have hz3 : ¬ (a + (k + 1 - a) ≤ k) := by omega
    have hz4 : a + (k + 1 - a) = k + 1 := by omega
    have hz5 : a * 3 ≤ row.length := by omega
    have hq : a ≤ k + 1 ∧ a + 1 ≤ k + 1 := by omega
    have hmin : min (k + 1 - a) (k - a) = k - a ∧ min (k - a) (k - a) = k - a := by omega
    have hmin2 : min 1 (k + 1 - a) = 1 := by omega
    have hjn : ¬ (j = σ.n) ∧ ¬ (i = σ.n) := by omega
    obtain ⟨z, hz⟩ : ∃ z, z = (List.replicate (k + 1 - a) [Value.int IntKind.u64 0, Value.string ⟨#[]⟩, Value.bool false]).flatten := ⟨_, rfl⟩
    have hzl : z.length = (k + 1 - a) * 3 := by rw [hz]; simp
    have hzc : cokL z = true := by rw [hz]; exact rep_cok _ _ rfl
    have hta : (row.take (a * 3)).length = a * 3 := by simp; omega
    have hrw : (row.take (a * 3) ++ z).length = k * 3 + 3 := by rw [List.length_append, hta, hzl]; omega
    have hc1 : st (row.take (a * 3) ++ z) (a * 3) new = some (wr (row.take (a * 3) ++ z) (a * 3) new) := st_wr (by omega)
    have hc2 : (wr (row.take (a * 3) ++ z) (a * 3) new).length = k * 3 + 3 := by rw [wr_length (by omega)]; exact hrw
    obtain ⟨seg, hseg⟩ : ∃ seg, seg = (row.drop (a * 3)).take (k * 3 - a * 3) := ⟨_, rfl⟩
    have hs1 : ld row (a * 3) ((k - a) * 3) = some seg := by rw [show (k - a) * 3 = k * 3 - a * 3 by omega, hseg]; simp; omega
    have hs2 : seg.length = (k - a) * 3 := by rw [hseg]; simp; omega
    have hs3 : cokL seg = true := by rw [hseg, ← List.drop_take]; exact cokL_drop hrc _
    have hs4 : st (wr (row.take (a * 3) ++ z) (a * 3) new) ((a + 1) * 3) seg = some (wr (wr (row.take (a * 3) ++ z) (a * 3) new) (a * 3 + 3) seg) := by rw [show (a + 1) * 3 = a * 3 + 3 by omega]; exact st_wr (by omega)
    have hq2 : ¬ (k = a) ∧ ¬ (k - a = 0) ∧ k + 1 - (a + 1) = k - a := by omega
    have hld : ld row 0 (a * 3) = some (row.take (a * 3)) := by simp [ld]; omega
    simp [wops_cons, hg, hgi, hl, hc, ht, appK, appendF, sliceC, h0, hko, hnk, hr, hn, hb, hle, hne, hlt.2, hw1, hw2, hw3, hz1, hz2, hz3, hz4, hz5, hp1, hI, hq, hq2, ha, appNK, sliceO, copyK, copyIK, ← hz, hzl, hzc, hc1, hnew, hmin, hmin2, hjn, hld, -st_eq, -ld_eq, -List.append_assoc]
    refine W_calm (by kernel_rfl) ?_
    simp [dops_cons, wops_cons, hg, hgi, hl, hc, ht, sliceC, h0, hko, hnk, hr, hn, hb, hle, hne, hlt.2, hw1, hw2, hp1, hI, hq, hq2, ha, sliceO, copyK, copyIK, hzl, hzc, hs1, hs2, hs3, hs4, hmin, hmin2, hjn, -st_eq, -ld_eq, -List.append_assoc]
    refine ⟨σ.n, _, openCap, rfl, by simp; rfl, ?_, .inl ⟨Nat.le_refl _, rfl⟩, fun y hy hne => ?_⟩
    · rw [hseg]; exact insC hl ha hn (by omega)
    · have : y ≠ σ.n := by omega
      simp [this]
/-- slices.Insert of a chain's versions. -/
theorem insW_29 : InsW E0 79 33 3 32 where
  nil := fun σ j new hj hg hl hc _ => ins_nil_29 σ j new hj hg hl hc
  zero := fun σ i j row new hi hj hij hgi hg hl hc _ => ins_zero_29 σ i j row new hi hj hij hgi hg hl hc
  some_ := fun σ i j n a k row new hi hj hij hgi hg hl hc hn hk hrc ha hb hn40 hnk hko => by
    by_cases he : a = n
    · subst he
      exact ins_end_29 σ i j a k row new hi hj hij hgi hg hl hc hn hk (by omega) hnk hko
    · exact ins_mid_29 σ i j n a k row new hi hj hij hgi hg hl hc hn hk hrc (by omega) (by omega) hn40 hnk hko
end Go.Sm
set_option linter.unusedVariables false
set_option linter.unusedSimpArgs false
namespace Go.Sm
open Go Go.Proofs
set_option maxRecDepth 100000
set_option maxHeartbeats 1000000
attribute [local simp] sliceOp_open3 sliceOp_cap sliceOp_open sliceOp_nil appendOp_K appendOp_N copyOp_K
theorem ins_nil_95 (σ : CSt) (j : Nat) (new : List Value) (hj : j < σ.n) (hg : σ.get j = some (.cells new 116 false)) (hl : new.length = 2) (hc : cokL new = true) :
    W E0 (.fn 65 #[.slice none 0 0, .int .i64 0, .slice (some ⟨j, 0, none⟩) 1 1] none) σ (InsPost σ none 0 116 new 1) := by
  rw [W_fn (fn := Tryz.f65) Tryz.func65 rfl rfl rfl]
  have ht : new.take 2 = new := List.take_of_length_le (by omega)
  simp [wops_cons, hg, hl, hc, ht, appK, appendF]
  refine ⟨σ.n, new, openCap, rfl, by simp, by simp, .inl ⟨by omega, rfl⟩, fun y hy _ => ?_⟩
  simp
  omega
theorem ins_zero_95 (σ : CSt) (i j : Nat) (row new : List Value) (hi : i < σ.n) (hj : j < σ.n) (hij : i ≠ j) (hgi : σ.get i = some (.cells row 116 false)) (hg : σ.get j = some (.cells new 116 false)) (hl : new.length = 2) (hc : cokL new = true) :
    W E0 (.fn 65 #[.slice (some ⟨i, 0, none⟩) 0 0, .int .i64 0, .slice (some ⟨j, 0, none⟩) 1 1] none) σ (InsPost σ none 0 116 new 1) := by
  rw [W_fn (fn := Tryz.f65) Tryz.func65 rfl rfl rfl]
  have ht : new.take 2 = new := List.take_of_length_le (by omega)
  have h0 : (0 : Nat) ≠ openCap := by simp [openCap]
  have h1 : 0 < openCap := by simp [openCap]
  simp [wops_cons, hg, hgi, hl, hc, ht, appK, appendF, sliceC, h0, h1]
  refine ⟨σ.n, new, openCap, rfl, by simp, by simp, .inl ⟨by omega, rfl⟩, fun y hy _ => ?_⟩
  simp
  omega
theorem ins_end_95 (σ : CSt) (i j n k : Nat) (row new : List Value) (hi : i < σ.n) (hj : j < σ.n) (hij : i ≠ j) (hgi : σ.get i = some (.cells row 116 false)) (hg : σ.get j = some (.cells new 116 false)) (hl : new.length = 2) (hc : cokL new = true)
    (hn : n * 2 ≤ row.length) (hk : k * 2 ≤ row.length) (hb : (n + 1) * 40 ≤ 140737488355328) (hnk : n ≤ k) (hko : k < openCap) :
    W E0 (.fn 65 #[.slice (some ⟨i, 0, none⟩) n k, .int .i64 n, .slice (some ⟨j, 0, none⟩) 1 1] none) σ (InsPost σ (some i) k 116 (insRow 2 n n row new) (n + 1)) := by
  rw [W_fn (fn := Tryz.f65) Tryz.func65 rfl rfl rfl]
  have ht : new.take 2 = new := List.take_of_length_le (by omega)
  have h0 : k ≠ openCap := by omega
  by_cases hr : n + 1 ≤ k
  · have hst : st row (n * 2) new = some (wr row (n * 2) new) := st_wr (by omega)
    simp [wops_cons, hg, hgi, hl, hc, ht, appK, appendF, sliceC, h0, hko, hnk, hr, hst, -st_eq]
    refine ⟨i, wr row (n * 2) new, k, rfl, by simp, insA hl (by omega), .inr ⟨rfl, rfl, hr⟩, fun y hy hne => ?_⟩
    rw [CSt.get_put, if_neg]
    rintro rfl
    exact hne rfl
  · simp [wops_cons, hg, hgi, hl, hc, ht, appK, appendF, sliceC, h0, hko, hnk, hr, hn, hb]
    refine ⟨σ.n, _, openCap, rfl, by simp, insB hl hn, .inl ⟨Nat.le_refl _, rfl⟩, fun y hy hne => ?_⟩
    rw [CSt.get_alloc, if_neg (by omega)]
theorem ins_mid_95 (σ : CSt) (i j n a k : Nat) (row new : List Value) (hi : i < σ.n) (hj : j < σ.n) (hij : i ≠ j) (hgi : σ.get i = some (.cells row 116 false)) (hg : σ.get j = some (.cells new 116 false)) (hl : new.length = 2) (hc : cokL new = true)
    (hn : n * 2 ≤ row.length) (hk : k * 2 ≤ row.length) (hrc : cokL (row.take (n * 2)) = true) (ha : a < n) (hb : (n + 1) * 40 ≤ 140737488355328) (hn40 : n < 2 ^ 40) (hnk : n ≤ k) (hko : k < openCap) :
    W E0 (.fn 65 #[.slice (some ⟨i, 0, none⟩) n k, .int .i64 a, .slice (some ⟨j, 0, none⟩) 1 1] none) σ (InsPost σ (some i) k 116 (insRow 2 a n row new) (n + 1)) := by
  rw [W_fn (fn := Tryz.f65) Tryz.func65 rfl rfl rfl]
  have ht : new.take 2 = new := List.take_of_length_le (by omega)
  have h0 : k ≠ openCap := by omega
  have hle : a ≤ n := by omega
  have hne : a ≠ n := by omega
  have hw1 := i64n1 n (by omega)
  have hw2 := i64n1 a (by omega)
  have hlt : ¬ k < n ∧ ¬ (a : Int) = n := by omega
  have hnew : ld new 0 2 = some new := by simp [ld, hl, ht]
  have hp1 : (0 : Int) ≤ (n : Int) + 1 ∧ (0 : Int) ≤ (a : Int) + 1 ∧ ((n : Int) + 1).toNat = n + 1 ∧ ((a : Int) + 1).toNat = a + 1 := by omega
  by_cases hr : n + 1 ≤ k
  · have hI : ¬ ((k : Int) < n + 1) := by omega
    have hq : a ≤ k ∧ a + 1 ≤ k ∧ a ≤ n + 1 := by omega
    simp [wops_cons, hg, hgi, hl, hc, ht, appK, appendF, sliceC, h0, hko, hnk, hr, hle, hne, hlt.2, hw1, hw2, hp1, hI, hq, ha, -st_eq]
    rw [wres_ext (E := E0) (v := .bool false)]
    rotate_left
    · simp only [extOf_fn, E0X, extE]
      exact apartX_ne (Ne.symm hij) hg hgi (by omega)
    have hmin : min (n + 1 - a) (n - a) = n - a := by omega
    have hmul : (n - a) * 2 = n * 2 - a * 2 := by omega
    have hmin2 : min 1 (n + 1 - a) = 1 := by omega
    obtain ⟨seg, hseg⟩ : ∃ seg, seg = (row.drop (a * 2)).take (n * 2 - a * 2) := ⟨_, rfl⟩
    have hs1 : ld row (a * 2) ((n - a) * 2) = some seg := by rw [hmul, hseg]; simp; omega
    have hs2 : seg.length = (n - a) * 2 := by rw [hseg]; simp; omega
    have hs3 : cokL seg = true := by rw [hseg, ← List.drop_take]; exact cokL_drop hrc _
    have hs4 : st row ((a + 1) * 2) seg = some (wr row (a * 2 + 2) seg) := by rw [show (a + 1) * 2 = a * 2 + 2 by omega]; exact st_wr (by omega)
    have hs5 : (wr row (a * 2 + 2) seg).length = row.length := wr_length (by omega)
    have hs6 : st (wr row (a * 2 + 2) seg) (a * 2) new = some (wr (wr row (a * 2 + 2) seg) (a * 2) new) := st_wr (by omega)
    have hq2 : ¬ (k = a) ∧ ¬ (k = a + 1) ∧ ¬ (n - a = 0) := by omega
    simp only [Bool.not_false, wops_cons]
    simp [wops_cons, hg, hgi, hl, hc, ht]
    refine W_calm (by kernel_rfl) ?_
    simp [dops_cons, wops_cons, hg, hgi, hl, hc, ht, appK, appendF, sliceC, copyK, copyIK, h0, hko, hnk, hr, hle, hne, hlt.2, hw1, hw2, hp1, hI, hq, hq2, ha, hmin, hmin2, hs1, hs2, hs3, hs4, hs6, hnew, Ne.symm hij, -st_eq, -ld_eq]
    refine ⟨i, _, k, rfl, by simp; rfl, ?_, .inr ⟨rfl, rfl, hr⟩, fun y hy hne => ?_⟩
    · rw [hseg]; exact insD hl ha (by omega)
    · have : y ≠ i := by rintro rfl; exact hne rfl
      simp [this]
  · have hkn : k = n := by omega
    subst hkn
    have hI : ((k : Int) < k + 1) := by omega
    have hw3 : IntKind.i64.wrap ((k : Int) + 1 - a) = ((k + 1 - a : Nat) : Int) := by rw [IntWalk.i64_in _ (by omega)]; omega
    have hz1 : ((k + 1 - a : Nat) : Int) * 40 ≤ 140737488355328 := by omega
    have hz2 : ¬ (k + 1 - a = 0) := by omega
    have hz3 : ¬ (a + (k + 1 - a) ≤ k) := by omega
    have hz4 : a + (k + 1 - a) = k + 1 := by omega
    have hz5 : a * 2 ≤ row.length := by omega
    have hq : a ≤ k + 1 ∧ a + 1 ≤ k + 1 := by omega
    have hmin : min (k + 1 - a) (k - a) = k - a ∧ min (k - a) (k - a) = k - a := by omega
    have hmin2 : min 1 (k + 1 - a) = 1 := by omega
    have hjn : ¬ (j = σ.n) ∧ ¬ (i = σ.n) := by omega
    obtain ⟨z, hz⟩ : ∃ z, z = (List.replicate (k + 1 - a) [Value.string ⟨#[]⟩, Value.slice none 0 0]).flatten := ⟨_, rfl⟩
    have hzl : z.length = (k + 1 - a) * 2 := by rw [hz]; simp
    have hzc : cokL z = true := by rw [hz]; exact rep_cok _ _ rfl
    have hta : (row.take (a * 2)).length = a * 2 := by simp; omega
    have hrw : (row.take (a * 2) ++ z).length = k * 2 + 2 := by rw [List.length_append, hta, hzl]; omega
    have hc1 : st (row.take (a * 2) ++ z) (a * 2) new = some (wr (row.take (a * 2) ++ z) (a * 2) new) := st_wr (by omega)
    have hc2 : (wr (row.take (a * 2) ++ z) (a * 2) new).length = k * 2 + 2 := by rw [wr_length (by omega)]; exact hrw
    obtain ⟨seg, hseg⟩ : ∃ seg, seg = (row.drop (a * 2)).take (k * 2 - a * 2) := ⟨_, rfl⟩
    have hs1 : ld row (a * 2) ((k - a) * 2) = some seg := by rw [show (k - a) * 2 = k * 2 - a * 2 by omega, hseg]; simp; omega
    have hs2 : seg.length = (k - a) * 2 := by rw [hseg]; simp; omega
    have hs3 : cokL seg = true := by rw [hseg, ← List.drop_take]; exact cokL_drop hrc _
    have hs4 : st (wr (row.take (a * 2) ++ z) (a * 2) new) ((a + 1) * 2) seg = some (wr (wr (row.take (a * 2) ++ z) (a * 2) new) (a * 2 + 2) seg) := by rw [show (a + 1) * 2 = a * 2 + 2 by omega]; exact st_wr (by omega)
    have hq2 : ¬ (k = a) ∧ ¬ (k - a = 0) ∧ k + 1 - (a + 1) = k - a := by omega
    have hld : ld row 0 (a * 2) = some (row.take (a * 2)) := by simp [ld]; omega
    simp [wops_cons, hg, hgi, hl, hc, ht, appK, appendF, sliceC, h0, hko, hnk, hr, hn, hb, hle, hne, hlt.2, hw1, hw2, hw3, hz1, hz2, hz3, hz4, hz5, hp1, hI, hq, hq2, ha, appNK, sliceO, copyK, copyIK, ← hz, hzl, hzc, hc1, hnew, hmin, hmin2, hjn, hld, -st_eq, -ld_eq, -List.append_assoc]
    refine W_calm (by kernel_rfl) ?_
    simp [dops_cons, wops_cons, hg, hgi, hl, hc, ht, sliceC, h0, hko, hnk, hr, hn, hb, hle, hne, hlt.2, hw1, hw2, hp1, hI, hq, hq2, ha, sliceO, copyK, copyIK, hzl, hzc, hs1, hs2, hs3, hs4, hmin, hmin2, hjn, -st_eq, -ld_eq, -List.append_assoc]
    refine ⟨σ.n, _, openCap, rfl, by simp; rfl, ?_, .inl ⟨Nat.le_refl _, rfl⟩, fun y hy hne => ?_⟩
    · rw [hseg]; exact insC hl ha hn (by omega)
    · have : y ≠ σ.n := by omega
      simp [this]
/-- slices.Insert of a chain's versions. -/
theorem insW_95 : InsW E0 65 116 2 40 where
  nil := fun σ j new hj hg hl hc _ => ins_nil_95 σ j new hj hg hl hc
  zero := fun σ i j row new hi hj hij hgi hg hl hc _ => ins_zero_95 σ i j row new hi hj hij hgi hg hl hc
  some_ := fun σ i j n a k row new hi hj hij hgi hg hl hc hn hk hrc ha hb hn40 hnk hko => by
    by_cases he : a = n
    · subst he
      exact ins_end_95 σ i j a k row new hi hj hij hgi hg hl hc hn hk (by omega) hnk hko
    · exact ins_mid_95 σ i j n a k row new hi hj hij hgi hg hl hc hn hk hrc (by omega) (by omega) hn40 hnk hko
end Go.Sm
/- The closed tests, reckoned. -/
namespace Go.Sm
open Go Go.Proofs
def isTrue : Out → CSt → Bool := fun o _ => match o with | .ret (.bool true) false => true | _ => false
def st0 : CSt := { h := ((Tr.nil : Tr CObj).set 1 (.cells [.int .u64 1, .int .u64 0] 0 true)), n := 256 }
set_option maxRecDepth 1000000
theorem aw27 : runB EV 80000 (.fn 27 #[] none) st0 isTrue = true := by kernel_rfl
theorem aw12 : runB EV 40000 (.fn 12 #[] none) st0 isTrue = true := by kernel_rfl
end Go.Sm
/- strings.Repeat, laid at this program (printed by the tools of the shelf). -/
namespace Go.Proofs
open Go.Shelf
def Tryz.lays105_ren : Go.Shelf.Ren := ⟨fun | 105 => 67 | 212 => 80 | 99 => 81 | 165 => 82 | 166 => 83 | 170 => 84 | 169 => 85 | 263 => 97 | 264 => 98 | 206 => 99 | 240 => 100 | 241 => 101 | 276 => 121 | 277 => 122 | n => n, fun | 9 => 9 | 3 => 3 | 4 => 4 | 20 => 20 | 0 => 0 | 46 => 149 | 109 => 157 | 5 => 5 | 72 => 162 | 76 => 166 | 51 => 183 | 146 => 184 | 53 => 31 | 148 => 186 | 70 => 160 | 37 => 25 | 75 => 165 | 127 => 188 | 164 => 210 | 80 => 169 | n => n, fun | n => n⟩
theorem Tryz.lays105 : Go.Proofs.Lays.n105 Tryz.prog Tryz.lays105_ren := {
  mixed := by kernel_rfl
  f99 := Tryz.func81.trans (congrArg some (by kernel_rfl))
  f105 := Tryz.func67.trans (congrArg some (by kernel_rfl))
  f165 := Tryz.func82.trans (congrArg some (by kernel_rfl))
  f166 := Tryz.func83.trans (congrArg some (by kernel_rfl))
  f169 := Tryz.func85.trans (congrArg some (by kernel_rfl))
  f170 := Tryz.func84.trans (congrArg some (by kernel_rfl))
  f206 := Tryz.func99.trans (congrArg some (by kernel_rfl))
  f212 := Tryz.func80.trans (congrArg some (by kernel_rfl))
  f240 := Tryz.func100.trans (congrArg some (by kernel_rfl))
  f241 := Tryz.func101.trans (congrArg some (by kernel_rfl))
  f263 := Tryz.func97.trans (congrArg some (by kernel_rfl))
  f264 := Tryz.func98.trans (congrArg some (by kernel_rfl))
  f276 := Tryz.func121.trans (congrArg some (by kernel_rfl))
  f277 := Tryz.func122.trans (congrArg some (by kernel_rfl))
  t0 := Tryz.underlying0
  a0 := Tryz.isAgg0
  z0 := Tryz.sizeOf0
  v0 := Tryz.zeroValue0
  t3 := Tryz.underlying3
  a3 := Tryz.isAgg3
  z3 := Tryz.sizeOf3
  v3 := Tryz.zeroValue3
  t4 := Tryz.underlying4
  a4 := Tryz.isAgg4
  z4 := Tryz.sizeOf4
  v4 := Tryz.zeroValue4
  t5 := Tryz.underlying5
  a5 := Tryz.isAgg5
  z5 := Tryz.sizeOf5
  v5 := Tryz.zeroValue5
  t9 := Tryz.underlying9
  a9 := Tryz.isAgg9
  z9 := Tryz.sizeOf9
  v9 := Tryz.zeroValue9
  t20 := Tryz.underlying20
  a20 := Tryz.isAgg20
  z20 := Tryz.sizeOf20
  v20 := Tryz.zeroValue20
  t37 := Tryz.underlying25
  a37 := Tryz.isAgg25
  z37 := Tryz.sizeOf25
  v37 := Tryz.zeroValue25
  t46 := Tryz.underlying149
  a46 := Tryz.isAgg149
  z46 := Tryz.sizeOf149
  v46 := Tryz.zeroValue149
  t51 := Tryz.underlying183
  a51 := Tryz.isAgg183
  z51 := Tryz.sizeOf183
  v51 := Tryz.zeroValue183
  t53 := Tryz.underlying31
  a53 := Tryz.isAgg31
  z53 := Tryz.sizeOf31
  v53 := Tryz.zeroValue31
  t70 := Tryz.underlying160
  a70 := Tryz.isAgg160
  z70 := Tryz.sizeOf160
  v70 := Tryz.zeroValue160
  t72 := Tryz.underlying162
  a72 := Tryz.isAgg162
  z72 := Tryz.sizeOf162
  v72 := Tryz.zeroValue162
  t75 := Tryz.underlying165
  a75 := Tryz.isAgg165
  z75 := Tryz.sizeOf165
  v75 := Tryz.zeroValue165
  t76 := Tryz.underlying166
  a76 := Tryz.isAgg166
  z76 := Tryz.sizeOf166
  v76 := Tryz.zeroValue166
  t109 := Tryz.underlying157
  a109 := Tryz.isAgg157
  z109 := Tryz.sizeOf157
  v109 := Tryz.zeroValue157
  t127 := Tryz.underlying188
  a127 := Tryz.isAgg188
  z127 := Tryz.sizeOf188
  v127 := Tryz.zeroValue188
  t146 := Tryz.underlying184
  a146 := Tryz.isAgg184
  z146 := Tryz.sizeOf184
  v146 := Tryz.zeroValue184
  t148 := Tryz.underlying186
  a148 := Tryz.isAgg186
  z148 := Tryz.sizeOf186
  v148 := Tryz.zeroValue186
  t164 := Tryz.underlying210
  a164 := Tryz.isAgg210
  z164 := Tryz.sizeOf210
  v164 := Tryz.zeroValue210 }
theorem Tryz.Builder_Extra_105 : Builder.Extra Tryz.prog Tryz.lays105_ren := {
  sizeBuilder := by kernel_rfl
  liesBuilder := by kernel_rfl
  t5 := Tryz.underlying5
  a5 := Tryz.isAgg5
  z5 := Tryz.sizeOf5
  v5 := Tryz.zeroValue5
  infoByte := by kernel_rfl
  cellsByte := by kernel_rfl
  sizeByte := by kernel_rfl
  neB5 := by decide }
open Go.RowKit Go.Lib in
/-- **strings.Repeat: count ≥ 0, the result within one allocation: count copies of s.** (LAID: no walk: one application.) -/
theorem Tryz.strings_Repeat (s : ByteArray) (c : Nat) (w : World) (hc : c ≤ 9223372036854775807) (hlen : s.size * c ≤ 140737488355328) :
    Calls Tryz.prog 67 #[.string s, .int .i64 c] w fun e w' => e = .returned (.string ⟨(Lib.repeatL s.data.toList c).toArray⟩) ∧ Below w.heap.size w w' := Any.strings_Repeat Tryz.lays105 Tryz.Builder_Extra_105 s c w hc hlen
end Go.Proofs
/- A contract of the machine's, taken as one step of the rules. -/
set_option linter.unusedVariables false
set_option linter.unusedSimpArgs false
namespace Go.Sm
open Go Go.RowKit
/-- A function that hands back a plain value and leaves all as it was. -/
theorem calls_gam {P : Program} {f : FuncId} {args : Array Value} {v : Value} (hbody : ∃ fn, P.funcs[f]? = some fn ∧ fn.body.isSome = true) (ha : ∀ a ∈ args, flat0 a = true) (hv : flat0 v = true)
    (hc : ∀ w : World, Calls P f args w fun e w' => e = .returned v ∧ Below w.heap.size w w') {σ : CSt} {Q : Out → CSt → Prop} (hq : Q (.ret v false) σ) : SimFn P f args none σ Q := by
  refine ⟨hbody, fun ρ w args' cs hR hA hd => ?_⟩
  have heq : args' = args := by
    apply Array.ext
    · exact hA.1.symm
    · intro i h1 h2
      have := hA.2 i h2 h1
      exact this.flat_eq (ha _ (Array.getElem_mem h2))
  subst heq
  obtain ⟨e, w', fr, ⟨rfl, hb⟩, hs, hf, hm, hdf, hk, fn, hfn, hr⟩ := hc w cs
  exact .inl ⟨v, false, σ, ρ, w', v, fr, hq, hR.grow hb.size fun k hk => hb.block k hk, ⟨ρ.le_refl, hb.os, hb.tape, hb.output, hb.size, fun k hkk _ => hb.block k hkk, fun i p a b => .inr ⟨i, p, a, b, rfl⟩⟩, .plain _ hv, hs, fun _ => rfl, hf, hk, hm, hdf, fn, by rw [← hf]; exact hfn, hr⟩
end Go.Sm
/- The environments are sound: what is taken as one step is so. -/
set_option linter.unusedVariables false
namespace Go.Sm
open Go Go.Proofs
set_option maxRecDepth 100000
theorem good_all : (Tryz.prog.funcs.toList.all fun fn => !(fn.name == "runtime.NumGoroutine")) = true := by kernel_rfl
theorem good_mixed : Tryz.prog.follows .mixedOrders = true := by kernel_rfl
theorem good : Good Tryz.prog := by
  refine ⟨fun f fn h _ => ?_, good_mixed⟩
  have := List.all_eq_true.1 good_all fn (by rw [Array.mem_toList_iff]; exact Array.mem_of_getElem? h)
  simpa using this
def isU8 (P : Program) (e : TypeId) : Bool := match P.underlying e with | some (.int .u8) => true | _ => false
theorem not_u8 {P : Program} {e : TypeId} (h : isU8 P e = false) : P.underlying e ≠ some (.int .u8) := by
  intro hh
  unfold isU8 at h
  rw [hh] at h
  cases h
theorem ext_ok {E : Env} (hP : E.P = Tryz.prog) (hx : E.ext = extE) : ExtOk E := by
  intro g args σ v h ρ w args' hR ha
  rw [hx] at h
  rw [hP] at hR ⊢
  unfold extE at h
  split at h
  · exact apart_ok (tS := 112) (tR := 4) (size := 2) Tryz.func75 (by kernel_rfl) (by kernel_rfl) (by kernel_rfl) (by kernel_rfl) (by kernel_rfl) (fun w => by kernel_rfl) (not_u8 (by kernel_rfl)) h hR ha
  · exact apart_ok (tS := 28) (tR := 4) (size := 3) Tryz.func95 (by kernel_rfl) (by kernel_rfl) (by kernel_rfl) (by kernel_rfl) (by kernel_rfl) (fun w => by kernel_rfl) (not_u8 (by kernel_rfl)) h hR ha
  · cases h
theorem gam0 : GamOk E0 := by
  intro f g h
  cases h
theorem gamV : GamOk EV := by
  intro f g h args σ v σ' hg Q hq
  change gamI f = some g at h
  unfold gamI at h
  split at h
  · cases h
    exact ins_gam (E := E0) good (ext_ok rfl rfl) gam0 (by exact ⟨_, Tryz.func65, rfl⟩) (by kernel_rfl) (by decide) insW_95 hg hq
  · cases h
    exact ins_gam (E := E0) good (ext_ok rfl rfl) gam0 (by exact ⟨_, Tryz.func79, rfl⟩) (by kernel_rfl) (by decide) insW_29 hg hq
  · cases h
theorem base0 : Base st0 := by
  refine ⟨rfl, fun i o h => ?_⟩
  simp only [st0, CSt.get, Tr.get_set] at h
  split at h
  · cases h
    rename_i hi
    subst hi
    exact ⟨by decide, _, _, rfl, by simp⟩
  · simp [Tr.get_nil] at h
theorem ext0 {σ : CSt} (h : gnone σ) : Ext st0 σ := by
  intro i o ho
  simp only [st0, CSt.get, Tr.get_set] at ho
  split at ho
  · rename_i hi
    subst hi
    cases ho
    exact h
  · simp [Tr.get_nil] at ho
theorem aw_ok {f : FuncId} {n : Nat} (h : runB EV n (.fn f #[] none) st0 isTrue = true) {args : Array Value} {σ σ' : CSt} {v : Value} (hg : awakeG args σ = some (v, σ')) {Q : Out → CSt → Prop} (hq : Q (.ret v false) σ') : SimFn Tryz.prog f args none σ Q := by
  unfold awakeG at hg
  split at hg
  · rename_i hc
    cases hg
    obtain ⟨rfl, hn⟩ := hc
    refine base_fn (E := EV) good (ext_ok rfl rfl) gamV base0 ((runB_W _ h).weaken fun o s ho => ?_) (by simp) rfl (ext0 hn) hq
    unfold isTrue at ho
    split at ho
    · rfl
    · cases ho
  · cases hg
theorem repL_eq (l : List UInt8) : ∀ n, Go.Lib.repeatL l n = (List.replicate n l).flatten
  | 0 => rfl
  | n + 1 => by rw [Go.Lib.repeatL, repL_eq l n, List.replicate_succ, List.flatten_cons]
theorem rep_ok {args : Array Value} {σ σ' : CSt} {v : Value} (hg : repG args σ = some (v, σ')) {Q : Out → CSt → Prop} (hq : Q (.ret v false) σ') : SimFn Tryz.prog 67 args none σ Q := by
  unfold repG at hg
  split at hg
  · rename_i s c
    split at hg
    · rename_i hc
      cases hg
      obtain ⟨n, rfl⟩ : ∃ n : Nat, c = n := ⟨c.toNat, by omega⟩
      refine calls_gam (v := .string (repS s n)) ⟨_, Tryz.func67, rfl⟩ (by simp [flat0]) (by simp [flat0]) (fun w => ?_) (by simpa using hq)
      have h := Tryz.strings_Repeat s n w (by omega) (by have := hc.2.2; simp only [Int.toNat_natCast] at this; omega)
      rw [repL_eq] at h
      exact h
    · cases hg
  · cases hg
theorem gam1 : GamOk E1 := by
  intro f g h args σ v σ' hg Q hq
  change gamL f = some g at h
  unfold gamL at h
  split at h
  · cases h
    exact ins_gam (E := E0) good (ext_ok rfl rfl) gam0 (by exact ⟨_, Tryz.func65, rfl⟩) (by kernel_rfl) (by decide) insW_95 hg hq
  · cases h
    exact ins_gam (E := E0) good (ext_ok rfl rfl) gam0 (by exact ⟨_, Tryz.func79, rfl⟩) (by kernel_rfl) (by decide) insW_29 hg hq
  · cases h; exact aw_ok aw12 hg hq
  · cases h; exact aw_ok aw27 hg hq
  · cases h; exact rep_ok hg hq
  · cases h
end Go.Sm
/- Arguments that are plain data: how they lie in the abstract state. -/
set_option linter.unusedVariables false
set_option linter.unusedSimpArgs false
namespace Go.Sm
open Go Go.WideShapes Go.ChangeShapes

/-- A cell's kind. -/
inductive PK where
  | int (k : IntKind)
  | bool
  | str
def okK : PK → Value → Prop
  | .int k, v => ∃ n, v = .int k n ∧ (Lit.int k n).wf = true
  | .bool, v => ∃ b, v = .bool b
  | .str, v => ∃ s : ByteArray, v = .string s ∧ s.size ≤ maxLen
def OkL : List PK → List Value → Prop
  | [], [] => True
  | k :: ks, v :: vs => okK k v ∧ OkL ks vs
  | _, _ => False
theorem OkL.length : ∀ {ks : List PK} {vs : List Value}, OkL ks vs → vs.length = ks.length
  | [], [], _ => rfl
  | _ :: ks, _ :: vs, h => by simp [OkL.length h.2]
theorem OkL.append : ∀ {ks ls : List PK} {vs ws : List Value}, OkL ks vs → OkL ls ws → OkL (ks ++ ls) (vs ++ ws)
  | [], _, [], _, _, h => h
  | _ :: _, _, _ :: _, _, h, k => ⟨h.1, OkL.append h.2 k⟩
theorem okK.flat {k : PK} {v : Value} (h : okK k v) : flat0 v = true := by
  cases k with
  | int k => obtain ⟨n, rfl, _⟩ := h; rfl
  | bool => obtain ⟨b, rfl⟩ := h; rfl
  | str => obtain ⟨s, rfl, _⟩ := h; rfl
theorem okK.cellv {k : PK} {v : Value} (h : okK k v) : Sm.cellv v = true := by
  cases k with
  | int k => obtain ⟨n, rfl, _⟩ := h; rfl
  | bool => obtain ⟨b, rfl⟩ := h; rfl
  | str => obtain ⟨s, rfl, _⟩ := h; rfl
theorem OkL.flat : ∀ {ks : List PK} {vs : List Value}, OkL ks vs → ∀ v ∈ vs, flat0 v = true
  | [], [], _ => by simp
  | _ :: ks, _ :: vs, h => fun v hv => by
    rcases List.mem_cons.1 hv with rfl | hv
    · exact h.1.flat
    · exact OkL.flat h.2 v hv

def kindsL (P : Program) (g : TypeId → Option (List PK)) : List Field → Nat → Option (List PK)
  | [], _ => some []
  | fl :: l, off =>
    if fl.offset = off then
      match g fl.type with
      | some ks => if ks.length = P.cellsOf fl.type then (kindsL P g l (off + ks.length)).map (ks ++ ·) else none
      | none => none
    else none
def kindsF (P : Program) : Nat → TypeId → Option (List PK)
  | 0, _ => none
  | f + 1, t =>
    match P.underlying t with
    | some (.int k) => some [.int k]
    | some .bool => some [.bool]
    | some .string => some [.str]
    | some (.struct fs) => match kindsL P (kindsF P f) fs.toList 0 with | some ks => if ks.length = P.cellsOf t then some ks else none | none => none
    | _ => none

section
variable {H : Type} {enc : TypeId × Value → H} {P : Program} {w : World} {base : Nat} {spare : Nat → Bool} {held : Bool}

theorem kindsL_ok {g : TypeId → Option (List PK)} {fuel : Nat} {cs : List Value} (hg : ∀ t ks, g t = some ks → ∀ cs x, DataW.trod enc P w base spare held fuel t cs = some x → OkL ks cs) :
    ∀ (l : List Field) (off : Nat) (ks : List PK), kindsL P g l off = some ks → (∀ fl ∈ l, ∃ x, DataW.trod enc P w base spare held fuel fl.type ((cs.drop fl.offset).take (P.cellsOf fl.type)) = some x) → off + ks.length = cs.length → OkL ks (cs.drop off)
  | [], off, ks, h, _, hl => by
    simp only [kindsL, Option.some.injEq] at h
    subst h
    rw [List.drop_of_length_le (by simpa using Nat.le_of_eq hl.symm)]
    trivial
  | fl :: l, off, ks, h, hx, hl => by
    unfold kindsL at h
    split at h
    · rename_i ho
      split at h
      · rename_i k1 hk1
        split at h
        · rename_i hc
          rw [Option.map_eq_some_iff] at h
          obtain ⟨k2, h2, rfl⟩ := h
          obtain ⟨x, hx1⟩ := hx fl (by simp)
          have a1 := hg _ _ hk1 _ _ hx1
          rw [ho, ← hc] at a1
          have a2 := kindsL_ok hg l (off + k1.length) k2 h2 (fun f hf => hx f (by simp [hf])) (by simp at hl; omega)
          have : cs.drop off = (cs.drop off).take k1.length ++ cs.drop (off + k1.length) := by
            rw [← List.drop_drop, List.take_append_drop]
          rw [this]
          exact a1.append a2
        · cases h
      · cases h
    · cases h

theorem trod_kinds : ∀ (f : Nat) (t : TypeId) (ks : List PK), kindsF P f t = some ks → ∀ (fuel : Nat) (cs : List Value) (x : DataW H × List MemPlace), DataW.trod enc P w base spare held fuel t cs = some x → OkL ks cs
  | 0, _, _, h, _, _, _, _ => by cases h
  | f + 1, t, ks, h, fuel, cs, x, hx => by
    unfold kindsF at h
    cases hu : P.underlying t with
    | none => rw [hu] at h; cases h
    | some d =>
      rw [hu] at h
      cases d with
      | int k =>
        cases h
        obtain ⟨n, rfl, _, hw⟩ := DataW.trod_int hu hx
        exact ⟨⟨n, rfl, hw⟩, trivial⟩
      | bool =>
        cases h
        obtain ⟨b, rfl, _⟩ := DataW.trod_bool hu hx
        exact ⟨⟨b, rfl⟩, trivial⟩
      | string =>
        cases h
        obtain ⟨s, rfl, _, hs⟩ := DataW.trod_string hu hx
        exact ⟨⟨s, rfl, hs⟩, trivial⟩
      | struct fs =>
        simp only at h
        split at h
        · rename_i k1 hk1
          split at h
          · rename_i hc
            cases h
            obtain ⟨xs, n, rfl, _, hlen, hxl, hf⟩ := DataW.trod_struct hu hx
            have := kindsL_ok (cs := cs) (fuel := n) (fun t ks ht cs x hx => trod_kinds f t ks ht n cs x hx) fs.toList 0 ks hk1 (fun fl hfl => ?_) (by omega)
            · simpa using this
            · obtain ⟨i, hi, rfl⟩ := List.mem_iff_getElem.1 hfl
              have h1 := hf i fs.toList[i] (by simp at hi ⊢)
              have : i < xs.length := by simpa [hxl] using hi
              rw [List.getElem?_eq_getElem this] at h1
              exact ⟨_, h1⟩
          · cases h
        · cases h
      | _ => cases h

/-- A slice of plain elements. -/
theorem open_rows {t e : TypeId} {f fuel : Nat} {ks : List PK} {cs : List Value} {x : DataW H × List MemPlace} (ht : P.underlying t = some (.slice e)) (hk : kindsF P f e = some ks) (hc : P.cellsOf e = ks.length)
    (h : DataW.trod enc P w base spare held fuel t cs = some x) :
    cs = [.slice none 0 0] ∨ ∃ (a : Addr) (len cap : Nat) (rows : List (List Value)), cs = [.slice (some a) len cap] ∧ len ≤ cap ∧ cap ≤ maxLen ∧ rows.length = len ∧ (∀ r ∈ rows, OkL ks r) ∧
      ∀ i j, i < len → j < ks.length → ∃ v, (rows.flatten)[i * ks.length + j]? = some v ∧ w.cell? ((a.add (i * ks.length)).add j) = some v := by
  rcases DataW.trod_slice ht h with ⟨h0, _⟩ | ⟨a, len, cap, elems, rest, n, _, rfl, rfl, hb, hl, hm, hlen, hel, hsp, hns⟩
  · exact .inl h0
  refine .inr ⟨a, len, cap, ?_⟩
  have each : ∀ i, i < len → ∃ r, w.cells? base (a.add (i * ks.length)) ks.length = some r ∧ OkL ks r := by
    intro i hi
    have := hel i hi
    rw [List.getElem?_eq_getElem (by omega), Option.bind_eq_some_iff] at this
    obtain ⟨r, h1, h2⟩ := this
    rw [hc] at h1
    exact ⟨r, h1, trod_kinds f e ks hk n r _ h2⟩
  let row : Nat → List Value := fun i => if hi : i < len then (each i hi).choose else []
  have hrow : ∀ i (hi : i < len), w.cells? base (a.add (i * ks.length)) ks.length = some (row i) ∧ OkL ks (row i) := fun i hi => by
    simp only [row, hi, dif_pos]
    exact (each i hi).choose_spec
  have hrl : ∀ i, i < len → (row i).length = ks.length := fun i hi => (hrow i hi).2.length
  refine ⟨(List.range len).map row, rfl, hl, hm, by simp, fun r hr => ?_, fun i j hi hj => ?_⟩
  · simp only [List.mem_map, List.mem_range] at hr
    obtain ⟨i, hi, rfl⟩ := hr
    exact (hrow i hi).2
  · have hflat : ∀ (m : Nat), m ≤ len → (((List.range len).map row).flatten)[i * ks.length + j]? = ((List.range len).map row).flatten[i * ks.length + j]? := fun _ _ => rfl
    have key : (((List.range len).map row).flatten)[i * ks.length + j]? = (row i)[j]? := by
      have e1 : (List.range len).map row = (List.range len).map row := rfl
      have gen : ∀ (l : List (List Value)) (i : Nat), (∀ r ∈ l, r.length = ks.length) → (hi : i < l.length) → l.flatten[i * ks.length + j]? = (l[i])[j]? := by
        intro l
        induction l with
        | nil => intro i _ hi; simp at hi
        | cons r l ih =>
          intro i hr hi
          cases i with
          | zero =>
            simp only [List.flatten_cons, Nat.zero_mul, Nat.zero_add, List.getElem_cons_zero]
            rw [List.getElem?_append_left (by rw [hr r (by simp)]; exact hj)]
          | succ i =>
            simp only [List.flatten_cons, List.getElem_cons_succ]
            rw [List.getElem?_append_right (by rw [hr r (by simp), Nat.add_mul]; omega), hr r (by simp)]
            have : (i + 1) * ks.length + j - ks.length = i * ks.length + j := by rw [Nat.add_mul]; omega
            rw [this]
            exact ih i (fun r h => hr r (by simp [h])) (by simpa using hi)
      rw [gen _ i (fun r hr => by
        simp only [List.mem_map, List.mem_range] at hr
        obtain ⟨i, hi, rfl⟩ := hr
        exact hrl i hi) (by simpa using hi)]
      simp
    rw [key]
    have hlt : j < (row i).length := by rw [hrl i hi]; exact hj
    refine ⟨(row i)[j], List.getElem?_eq_getElem hlt, ?_⟩
    have := (World.cells?_some (hrow i hi).1).2.2 j hj
    rw [this, List.getElem?_eq_getElem hlt]
end
end Go.Sm
/- Slices as lists. -/
set_option linter.unusedVariables false
namespace Go.Sm
open Go

/-- A slice's elements, as they lie. -/
def Sl {α : Type} (σ : CSt) (e : TypeId) (sz : Nat) (enc : α → List Value) (v : Value) (l : List α) : Prop :=
  (v = .slice none 0 0 ∧ l = []) ∨ ∃ i off cap row ro, v = .slice (some ⟨i, off, none⟩) l.length cap ∧ σ.get i = some (.cells row e ro) ∧ i < σ.n ∧ (row.drop off).take (l.length * sz) = l.flatMap enc ∧ off + l.length * sz ≤ row.length ∧
    (cap = openCap ∨ (l.length ≤ cap ∧ cap < openCap))

section
variable {α : Type} {σ σ' : CSt} {e : TypeId} {sz : Nat} {enc : α → List Value} {v : Value} {l : List α}
theorem Sl.nil : Sl σ e sz enc (.slice none 0 0) ([] : List α) := .inl ⟨rfl, rfl⟩
theorem Sl.grow (h : Sl σ e sz enc v l) (hg : Grow σ σ') : Sl σ' e sz enc v l := by
  rcases h with h | ⟨i, off, cap, row, ro, h1, h2, h3, h4⟩
  · exact .inl h
  · exact .inr ⟨i, off, cap, row, ro, h1, hg.get h2 h3, Nat.lt_of_lt_of_le h3 hg.n, h4⟩
/-- A slice that is all of its object. -/
theorem Sl.all {i cap : Nat} {ro : Bool} (hsz : ∀ x, (enc x).length = sz) (hg : σ.get i = some (.cells (l.flatMap enc) e ro)) (hi : i < σ.n) (hc : cap = openCap ∨ (l.length ≤ cap ∧ cap < openCap)) : Sl σ e sz enc (.slice (some ⟨i, 0, none⟩) l.length cap) l := by
  have := enc_length enc hsz l
  exact .inr ⟨i, 0, cap, _, ro, rfl, hg, hi, by rw [List.drop_zero, List.take_of_length_le (by omega)], by omega, hc⟩
theorem Sl.form (h : Sl σ e sz enc v l) : ∃ p c, v = .slice p l.length c := by
  rcases h with ⟨rfl, rfl⟩ | ⟨i, off, cap, row, ro, rfl, _⟩
  · exact ⟨_, _, rfl⟩
  · exact ⟨_, _, rfl⟩
/-- One of its elements. -/
theorem Sl.at {p : Option Addr} {n c : Nat} (h : Sl σ e sz enc (.slice p n c) l) {k : Nat} (hk : k < l.length) : ∃ i off row ro, p = some ⟨i, off, none⟩ ∧ σ.get i = some (.cells row e ro) ∧ i < σ.n ∧ (row.drop off).take (l.length * sz) = l.flatMap enc ∧ off + l.length * sz ≤ row.length := by
  rcases h with ⟨h1, rfl⟩ | ⟨i, off, cap, row, ro, h1, h2, h3, h4, h5, _⟩
  · simp at hk
  · cases h1; exact ⟨i, off, row, ro, rfl, h2, h3, h4, h5⟩
/-- One element of a row. -/
theorem row_get (hsz : ∀ x, (enc x).length = sz) {row : List Value} {off : Nat} (h : (row.drop off).take (l.length * sz) = l.flatMap enc) (k : Nat) (hk : k < l.length) : (row.drop (off + k * sz)).take sz = enc l[k] := by
  have := enc_get enc hsz l k hk
  rw [← h] at this
  rw [← this, List.drop_take, List.drop_drop, List.take_take]
  congr 1
  have : (k + 1) * sz ≤ l.length * sz := Nat.mul_le_mul_right _ hk
  rw [Nat.succ_mul] at this
  omega
theorem row_le {row : List Value} {off : Nat} (h : off + l.length * sz ≤ row.length) (k : Nat) (hk : k < l.length) : off + k * sz + sz ≤ row.length := by
  have : (k + 1) * sz ≤ l.length * sz := Nat.mul_le_mul_right _ hk
  rw [Nat.succ_mul] at this
  omega
/-- One cell of one element. -/
theorem row_cell (hsz : ∀ x, (enc x).length = sz) {row : List Value} {off : Nat} (h : (row.drop off).take (l.length * sz) = l.flatMap enc) (k j : Nat) (hk : k < l.length) (hj : j < sz) : row[off + k * sz + j]? = (enc l[k])[j]? := by
  have := congrArg (·[j]?) (row_get hsz h k hk)
  simp only [List.getElem?_take, hj, if_true, List.getElem?_drop] at this
  exact this
/-- Of a slice from an element on. -/
theorem row_drop (hsz : ∀ x, (enc x).length = sz) {row : List Value} {off : Nat} (h : (row.drop off).take (l.length * sz) = l.flatMap enc) (k : Nat) (hk : k ≤ l.length) : (row.drop (off + k * sz)).take ((l.drop k).length * sz) = (l.drop k).flatMap enc := by
  rw [← enc_drop enc hsz, ← h, List.drop_take, List.drop_drop, List.length_drop, Nat.sub_mul]
theorem row_take (hsz : ∀ x, (enc x).length = sz) {row : List Value} {off : Nat} (h : (row.drop off).take (l.length * sz) = l.flatMap enc) (k : Nat) (hk : k ≤ l.length) : (row.drop off).take ((l.take k).length * sz) = (l.take k).flatMap enc := by
  rw [← enc_take enc hsz, ← h, List.take_take, List.length_take]
  congr 1
  rw [Nat.min_eq_left hk]
  exact (Nat.min_eq_left (Nat.mul_le_mul_right _ hk)).symm
end

/-- A slice that is one's own: all of an object that was made behind a point. -/
def Own {α : Type} (b : Nat) (σ : CSt) (e : TypeId) (enc : α → List Value) (v : Value) (l : List α) : Prop :=
  (v = .slice none 0 0 ∧ l = []) ∨ ∃ i cap, v = .slice (some ⟨i, 0, none⟩) l.length cap ∧ b ≤ i ∧ i < σ.n ∧ σ.get i = some (.cells (l.flatMap enc) e false) ∧ (cap = openCap ∨ (l = [] ∧ cap = 0))
section
variable {α : Type} {σ σ' : CSt} {e : TypeId} {sz : Nat} {enc : α → List Value} {v : Value} {l : List α} {b : Nat}
theorem Own.nil : Own b σ e enc (.slice none 0 0) ([] : List α) := .inl ⟨rfl, rfl⟩
theorem Own.sl (hsz : ∀ x, (enc x).length = sz) (h : Own b σ e enc v l) : Sl σ e sz enc v l := by
  rcases h with h | ⟨i, cap, rfl, hb, hi, hg, hc⟩
  · exact .inl h
  · refine Sl.all hsz hg hi ?_
    rcases hc with rfl | ⟨rfl, rfl⟩
    · exact .inl rfl
    · exact .inr ⟨by simp, by simp [openCap]⟩
theorem Own.grow (h : Own b σ e enc v l) (hg : Grow σ σ') : Own b σ' e enc v l := by
  rcases h with h | ⟨i, cap, h1, hb, hi, h2, h3⟩
  · exact .inl h
  · exact .inr ⟨i, cap, h1, hb, Nat.lt_of_lt_of_le hi hg.n, hg.get h2 hi, h3⟩
theorem Own.keep (h : Own b σ e enc v l) (hn : σ.n ≤ σ'.n) (hg : ∀ i, b ≤ i → i < σ.n → σ'.get i = σ.get i) : Own b σ' e enc v l := by
  rcases h with h | ⟨i, cap, h1, hb, hi, h2, h3⟩
  · exact .inl h
  · exact .inr ⟨i, cap, h1, hb, Nat.lt_of_lt_of_le hi hn, by rw [hg i hb hi]; exact h2, h3⟩
theorem Own.put (h : Own b σ e enc v l) {i : Nat} (hi : i < b) (o : CObj) : Own b (σ.put i o) e enc v l :=
  h.keep (Nat.le_refl _) fun j hj _ => by rw [CSt.get_put, if_neg (by omega)]
theorem Own.weaken {b' : Nat} (h : Own b σ e enc v l) (hb : b' ≤ b) : Own b' σ e enc v l := by
  rcases h with h | ⟨i, cap, h1, hb', h2⟩
  · exact .inl h
  · exact .inr ⟨i, cap, h1, Nat.le_trans hb hb', h2⟩
theorem insRow_enc (hsz : ∀ x, (enc x).length = sz) (a : Nat) (ha : a ≤ l.length) (x : α) : insRow sz a l.length (l.flatMap enc) (enc x) = (l.take a ++ x :: l.drop a).flatMap enc := by
  have := enc_length enc hsz l
  unfold insRow
  rw [List.take_of_length_le (Nat.le_of_eq this), enc_take enc hsz, enc_drop enc hsz]
  simp
theorem cokL_enc (hc : ∀ x, cokL (enc x) = true) (l : List α) : cokL (l.flatMap enc) = true := by
  induction l with
  | nil => rfl
  | cons x l ih => rw [List.flatMap_cons, cokL_append, hc, ih]; rfl
/-- New objects, and changes to those that were made behind a point. -/
def GrowB (b : Nat) (σ σ' : CSt) : Prop := σ.n ≤ σ'.n ∧ ∀ i, i < b → σ'.get i = σ.get i
theorem GrowB.refl (b : Nat) (σ : CSt) : GrowB b σ σ := ⟨Nat.le_refl _, fun _ _ => rfl⟩
theorem GrowB.trans {a b c : CSt} {k : Nat} (h : GrowB k a b) (h' : GrowB k b c) : GrowB k a c := ⟨Nat.le_trans h.1 h'.1, fun i hi => (h'.2 i hi).trans (h.2 i hi)⟩
theorem Grow.toB {a b : CSt} {k : Nat} (h : Grow a b) (hk : k ≤ a.n) : GrowB k a b := ⟨h.n, fun i hi => h.old i (Nat.lt_of_lt_of_le hi hk)⟩
theorem Grow.thenB {a b c : CSt} {k : Nat} (h : Grow a b) (h' : GrowB k b c) (hk : a.n ≤ k) : Grow a c := ⟨Nat.le_trans h.n h'.1, fun i hi => (h'.2 i (Nat.lt_of_lt_of_le hi hk)).trans (h.old i hi)⟩
theorem GrowB.alloc {a b : CSt} {k : Nat} (h : GrowB k a b) (hk : k ≤ b.n) (o : CObj) : GrowB k a (b.alloc o) := ⟨by have := h.1; simp; omega, fun i hi => by rw [CSt.get_alloc, if_neg (by omega)]; exact h.2 i hi⟩
theorem GrowB.put {a b : CSt} {k i : Nat} (h : GrowB k a b) (hi : k ≤ i) (o : CObj) : GrowB k a (b.put i o) := ⟨h.1, fun j hj => by rw [CSt.get_put, if_neg (by omega)]; exact h.2 j hj⟩
end
/-- How a search ends: so many are below. -/
structure Cut {α : Type} (ord : α → Int) (l : List α) (k : Nat) : Prop where
  le : k ≤ l.length
  lo : ∀ j (h : j < l.length), j < k → ord l[j] < 0
  hi : ∀ j (h : j < l.length), k ≤ j → 0 ≤ ord l[j]
end Go.Sm
/- From the arguments to an abstract state. -/
set_option linter.unusedVariables false
namespace Go.Sm
open Go Go.WideShapes Go.ChangeShapes

/-- Nothing can be written. -/
def Calm (σ : CSt) : Prop := ∀ i, ¬ rw_ σ i

section
variable {P : Program} {ρ : Rho} {σ : CSt} {w : World}
/-- A row that is only read. -/
theorem R.addRo (h : R P ρ σ w) (hc : Calm σ) {p : Place} {c : List Value} {e : TypeId} (hlt : p.b < w.heap.size) (hz : p.z = P.cellsOf e) (hl : c.length ≤ p.e) (hcell : ∀ (k : Nat) (u : k < c.length), w.cell? ⟨p.b, p.o + k, none⟩ = some c[k] ∧ flat0 c[k] = true) :
    R P (ρ.set σ.n p) (σ.alloc (.cells c e true)) w ∧ ρ.le (ρ.set σ.n p) ∧ Calm (σ.alloc (.cells c e true)) ∧ (ρ.set σ.n p) σ.n = some p := by
  have hg := h.gn
  have hle : ρ.le (ρ.set σ.n p) := fun j r hr => by
    unfold Rho.set; rw [if_neg]; exact hr
    intro e; rw [e, h.dom _ (Nat.le_refl _)] at hr; cases hr
  have hset : ∀ j, j ≠ σ.n → (ρ.set σ.n p) j = ρ j := fun j hj => by unfold Rho.set; rw [if_neg hj]
  have hself : (ρ.set σ.n p) σ.n = some p := by unfold Rho.set; rw [if_pos rfl]
  have hget : ∀ j, j ≠ σ.n → (σ.alloc (.cells c e true)).get j = σ.get j := fun j hj => by rw [CSt.get_alloc, if_neg hj]
  have hlive : ∀ j, j ≠ σ.n → live (σ.alloc (.cells c e true)) j → live σ j := fun j hj ⟨o, ho, hd⟩ => ⟨o, by rw [← hget j hj]; exact ho, hd⟩
  have hcalm : Calm (σ.alloc (.cells c e true)) := fun j hj => by
    rw [rw_alloc] at hj
    by_cases e : j = σ.n
    · rw [if_pos e] at hj; cases hj.1
    · rw [if_neg e] at hj; exact hc j hj
  refine ⟨⟨fun j hj => ?_, fun j hj => ?_, fun j r hr hj => ?_, fun j o r ho hr => ?_, fun a b r s hne hr hs hra hlb => absurd hra (hcalm a), fun g hgl => ?_, Nat.le_succ_of_le hg⟩, hle, hcalm, hself⟩
  · rw [CSt.n_alloc] at hj; rw [hset j (by omega)]; exact h.dom j (by omega)
  · by_cases e : j = σ.n
    · rw [e]; exact ⟨p, hself⟩
    · rw [hset j e]; exact h.tot j (hlive j e hj)
  · by_cases e : j = σ.n
    · subst e; rw [hself] at hr; cases hr; exact hlt
    · rw [hset j e] at hr; exact h.lt j r hr (hlive j e hj)
  · by_cases e' : j = σ.n
    · subst e'
      rw [CSt.get_alloc, if_pos rfl] at ho
      cases ho
      rw [hself] at hr; cases hr
      refine ⟨⟨hz, hl⟩, fun k u => ?_⟩
      obtain ⟨h1, h2⟩ := hcell k u
      exact ⟨_, h1, .plain _ h2⟩
    · rw [hget j e'] at ho
      rw [hset j e'] at hr
      exact (h.obj j o r ho hr).mono hle
  · obtain ⟨q, h1, h2⟩ := h.glob g hgl
    exact ⟨q, hle _ _ h1, h2⟩

/-- A slice of plain elements among the arguments. -/
theorem open_arg {H : Type} {en : TypeId × Value → H} {base base' : Nat} {spare : Nat → Bool} {held : Bool} {t e : TypeId} {f fuel : Nat} {ks : List PK} {v' : Value} {x : DataW H × List MemPlace}
    (hR : R P ρ σ w) (hc : Calm σ) (ht : P.underlying t = some (.slice e)) (hk : kindsF P f e = some ks) (hce : P.cellsOf e = ks.length) (hval : Value.okWide P w .any base t v') (hd : DataW.trod en P w base' spare held fuel t v'.cells.toList = some x) :
    ∃ ρ' σ' v rows, R P ρ' σ' w ∧ Calm σ' ∧ ρ.le ρ' ∧ VR ρ' v v' ∧ Grow σ σ' ∧ (∀ r ∈ rows, OkL ks r) ∧
      ((v = .slice none 0 0 ∧ rows = []) ∨ ∃ i cap, v = .slice (some ⟨i, 0, none⟩) rows.length cap ∧ i < σ'.n ∧ σ'.get i = some (.cells rows.flatten e true) ∧ rows.length ≤ cap ∧ cap < openCap) := by
  obtain ⟨a0, len, cap, rfl⟩ := okWide_slice ht hval
  have hcells : (Value.slice a0 len cap).cells.toList = [.slice a0 len cap] := rfl
  rw [hcells] at hd
  rcases open_rows ht hk hce hd with h0 | ⟨a, len', cap', rows, h1, h2, h3, h4, h5, h6⟩
  · have h0' : a0 = none ∧ len = 0 ∧ cap = 0 := by simpa using h0
    obtain ⟨rfl, rfl, rfl⟩ := h0'
    exact ⟨ρ, σ, .slice none 0 0, [], hR, hc, Rho.le_refl ρ, .plain _ rfl, Grow.refl σ, by simp, .inl ⟨rfl, rfl⟩⟩
  · have h1' : a0 = some a ∧ len = len' ∧ cap = cap' := by simpa using h1
    obtain ⟨rfl, rfl, rfl⟩ := h1'
    have hok : w.has P .any base a e cap := by
      simp only [Value.okWide, ht, Cell.okWide, Cell.ok] at hval
      exact hval.2.2
    obtain ⟨_, hspot, row, cells, hsh, _⟩ := hok
    have hb : a.block < w.heap.size := by
      unfold World.shape? at hsh
      split at hsh
      · rename_i h; exact (Array.getElem?_eq_some_iff.1 h).1
      · cases hsh
    obtain ⟨ab, ao, asl⟩ := a
    simp only at hspot
    subst hspot
    have hfl : rows.flatten.length = len * ks.length := by
      have : ∀ (l : List (List Value)), (∀ r ∈ l, OkL ks r) → l.flatten.length = l.length * ks.length := by
        intro l
        induction l with
        | nil => simp
        | cons r l ih =>
          intro h
          rw [List.flatten_cons, List.length_append, ih (fun r hr => h r (by simp [hr])), (h r (by simp)).length, List.length_cons, Nat.add_mul]
          omega
      rw [this rows h5, h4]
    have hflat : ∀ v ∈ rows.flatten, flat0 v = true := fun v hv => by
      obtain ⟨r, hr, hv⟩ := List.mem_flatten.1 hv
      exact (h5 r hr).flat v hv
    have hm : cap < openCap := by unfold maxLen at h3; simp [openCap]; omega
    obtain ⟨r1, r2, r3, r4⟩ := hR.addRo hc (p := ⟨ab, ao, len * ks.length, ks.length⟩) (c := rows.flatten) (e := e) hb hce.symm (by simp [hfl]) (fun k u => by
      rw [hfl] at u
      have hk0 : 0 < ks.length := by
        rcases Nat.eq_zero_or_pos ks.length with h | h
        · rw [h] at u; omega
        · exact h
      have hi : k / ks.length < len := by rw [Nat.div_lt_iff_lt_mul hk0]; exact u
      obtain ⟨v, g1, g2⟩ := h6 (k / ks.length) (k % ks.length) hi (Nat.mod_lt _ hk0)
      have hkk : k / ks.length * ks.length + k % ks.length = k := by rw [Nat.mul_comm]; exact Nat.div_add_mod k ks.length
      rw [hkk] at g1
      rw [Addr.add_plain, Addr.add_plain, Nat.add_assoc, hkk] at g2
      obtain ⟨u', e'⟩ := List.getElem?_eq_some_iff.1 g1
      rw [e']
      exact ⟨g2, hflat v (by rw [← e']; exact List.getElem_mem u')⟩)
    refine ⟨_, _, .slice (some ⟨σ.n, 0, none⟩) len cap, rows, r1, r3, r2, ?_, (Grow.refl σ).alloc _, h5, .inr ⟨σ.n, cap, by rw [h4], by simp, by simp, by omega, hm⟩⟩
    exact .slc _ _ _ _ ⟨ab, ao, len * ks.length, ks.length⟩ r4 (by omega)

/-- The rows as one's own data. -/
theorem rows_enc {α : Type} {enc : α → List Value} {ok : α → Prop} {ks : List PK} (h : ∀ r, OkL ks r → ∃ x, ok x ∧ r = enc x) : ∀ rows : List (List Value), (∀ r ∈ rows, OkL ks r) → ∃ l : List α, (∀ x ∈ l, ok x) ∧ rows = l.map enc
  | [], _ => ⟨[], by simp, rfl⟩
  | r :: rows, hr => by
    obtain ⟨x, h1, rfl⟩ := h r (hr r (by simp))
    obtain ⟨l, h2, rfl⟩ := rows_enc h rows fun r hr' => hr r (by simp [hr'])
    exact ⟨x :: l, fun y hy => by
      rcases List.mem_cons.1 hy with rfl | hy
      · exact h1
      · exact h2 y hy, rfl⟩
theorem open_sl {H : Type} {en : TypeId × Value → H} {base base' : Nat} {spare : Nat → Bool} {held : Bool} {t e : TypeId} {f fuel sz : Nat} {ks : List PK} {v' : Value} {x : DataW H × List MemPlace} {α : Type} {enc : α → List Value} {ok : α → Prop}
    (hR : R P ρ σ w) (hc : Calm σ) (ht : P.underlying t = some (.slice e)) (hk : kindsF P f e = some ks) (hce : P.cellsOf e = ks.length) (hsz : ∀ x, (enc x).length = sz) (hen : ∀ r, OkL ks r → ∃ x, ok x ∧ r = enc x)
    (hval : Value.okWide P w .any base t v') (hd : DataW.trod en P w base' spare held fuel t v'.cells.toList = some x) :
    ∃ ρ' σ' v, ∃ l : List α, R P ρ' σ' w ∧ Calm σ' ∧ ρ.le ρ' ∧ VR ρ' v v' ∧ Grow σ σ' ∧ (∀ x ∈ l, ok x) ∧ Sl σ' e sz enc v l := by
  obtain ⟨ρ', σ', v, rows, h1, h2, h3, h4, h5, h6, h7⟩ := open_arg hR hc ht hk hce hval hd
  obtain ⟨l, h8, rfl⟩ := rows_enc hen rows h6
  refine ⟨ρ', σ', v, l, h1, h2, h3, h4, h5, h8, ?_⟩
  rcases h7 with ⟨rfl, h9⟩ | ⟨i, cap, rfl, h9, h10, h11, h12⟩
  · exact .inl ⟨rfl, by simpa using h9⟩
  · rw [List.length_map] at h11 ⊢
    exact Sl.all hsz (by rw [List.flatMap_def]; exact h10) h9 (.inr ⟨h11, h12⟩)
end
end Go.Sm
/- From the rules to a law's contract. -/
set_option linter.unusedVariables false
namespace Go.Sm
open Go Go.WideShapes Go.ChangeShapes Go.RowKit

def isTrueP : Out → CSt → Prop := fun o _ => o = .ret (.bool true) false
theorem Frm.below {ρ ρ' : Rho} {σ σ' : CSt} {w w' : World} (h : Frm ρ σ w ρ' σ' w') (hc : Calm σ) : Below w.heap.size w w' :=
  ⟨h.os, h.tape, h.output, h.size, fun k hk => h.keep k hk fun i p _ hr => absurd hr (hc i)⟩

section
variable {H : Type} {enc : TypeId × Value → H} {P : Program}
theorem trodAll_stays (hl : laidOutB P = true) {W W' : World} (hb : Below W.heap.size W W') : ∀ (ts : List TypeId) (vs : List Value) (ds : List (DataW H)) (p : List MemPlace), (∀ t ∈ ts, P.readableRec t = true ∧ t < P.types.size) →
    DataW.TrodAll enc P W 0 (fun _ => true) true ts vs ds p → (∀ x ∈ p, x.block < W.heap.size) → DataW.TrodAll enc P W' 0 (fun b => decide (b < W.heap.size)) true ts vs ds p
  | [], vs, ds, p, _, h, _ => by
    cases vs <;> cases ds <;> simp_all [DataW.TrodAll]
  | t :: ts, [], ds, p, _, h, _ => by simp [DataW.TrodAll] at h
  | t :: ts, v :: vs, [], p, _, h, _ => by simp [DataW.TrodAll] at h
  | t :: ts, v :: vs, d :: ds, p, ht, h, hp => by
    obtain ⟨p1, p2, h1, h2, rfl⟩ := h
    exact ⟨p1, p2, Below.trod hl (ht t (by simp)).1 (ht t (by simp)).2 h1 hb fun x hx => hp x (by simp [hx]), trodAll_stays hl hb ts vs ds p2 (fun t h => ht t (by simp [h])) h2 fun x hx => hp x (by simp [hx]), rfl⟩

theorem law_calls {E : Env} (G : Good E.P) (HE : ExtOk E) (HG : GamOk E) {f : FuncId} {fn : Func} {s : ChangeSpec} (hl : laidOutB E.P = true) (hts : fn.params.toList.all (fun t => E.P.readableRec t && decide (t < E.P.types.size)) = true) {bt : TypeId}
    (hrt : fn.resultTypes = #[bt]) (hbt : E.P.underlying bt = some .bool) (hvars : s.vars = []) {W : World} {args : Array Value} {ds gs : List (DataW H)} {before : List MemPlace} (hW : DataW.Whole enc E.P fn.params.toList s.vars false W args.toList ds gs before)
    (hfn : s.fn H (ds ++ gs) = { results := [.lit (.bool true)], args := ds }) {ρ : Rho} {σ : CSt} {aa : Array Value} (hR : R E.P ρ σ W) (hc : Calm σ) (hA : AsR ρ aa args) (hw : Sm.W E (.fn f aa none) σ isTrueP) :
    Calls E.P f args W fun e W' => ∃ v, e = .returned v ∧ s.post enc E.P fn false true false false W args v W' := by
  have hW' := hW
  obtain ⟨p, q, hA0, hV, rfl, _, _⟩ := hW
  rw [hvars] at hV
  obtain ⟨rfl, rfl⟩ := trodVars_none hV
  refine (Sm.W.calls G HE HG (Q := fun v _ => v = .bool true) (hw.weaken fun o s h => ⟨_, h, rfl⟩) hR hA).mono fun e W' ⟨v, v', σ', ρ', he, hv, _, hvr, hf⟩ => ?_
  subst hv
  have := hvr.bool
  subst this
  subst he
  have hb := hf.below hc
  have hlt : ∀ x ∈ p, x.block < W.heap.size := fun x hx => by simpa using hW'.lt x (by simp [hx])
  refine ⟨_, rfl, ds, [], p ++ [], [], p, [], hW', ?_, ?_, ?_, hb.frame _, fun h => by cases h⟩
  · rw [hfn, hrt]
    exact ⟨[], [], ⟨1, by simp [DataW.trod, hbt, Value.cells]⟩, rfl, rfl⟩
  · rw [hfn]
    refine trodAll_stays hl hb _ _ _ _ (fun t ht => ?_) hA0 hlt
    have := List.all_eq_true.1 hts t ht
    simpa using this
  · rw [hfn, hvars]
    rfl
end
end Go.Sm
/- append to a slice of one's own. -/
set_option linter.unusedVariables false
namespace Go.Sm
open Go
section
variable {α : Type} {P : Program} {σ : CSt} {e : TypeId} {sz b : Nat} {enc : α → List Value} {v x : Value} {l m : List α} {f : TF} {ts : Array TypeId}

theorem first_sl (hsz : ∀ x, (enc x).length = sz) (h : Sl σ e sz enc x m) : lenOf? x = some m.length ∧ firstOf σ sz m.length x = some (m.flatMap enc) := by
  rcases h with ⟨rfl, rfl⟩ | ⟨i, off, cap, row, ro, rfl, hg, hi, hrow, hlen, hcap⟩
  · exact ⟨rfl, rfl⟩
  · refine ⟨rfl, ?_⟩
    rw [firstOf_sl, hg]
    simp only [firstK_some, ld, if_pos hlen, hrow]
theorem appendF_own (hsz : ∀ x, (enc x).length = sz) (hc : ∀ x, cokL (enc x) = true) (hfs : f.size = sz) (h0 : 0 < sz) (h1 : 0 < f.bytes) (h2 : f.zero.map List.length = some sz) (hown : Own b σ e enc v l) (hb : b ≤ σ.n)
    (hbig : (l.length + m.length) * f.bytes ≤ 2 ^ 47) (hl : l.length < 2 ^ 62) : ∃ v' σ', appendF σ e f v m.length (m.flatMap enc) = some (v', σ') ∧ Own b σ' e enc v' (l ++ m) ∧ GrowB b σ σ' := by
  have hml := enc_length enc hsz m
  have hll := enc_length enc hsz l
  have hcond : (m.flatMap enc).length = m.length * f.size ∧ cokL (m.flatMap enc) = true ∧ 0 < f.size ∧ 0 < f.bytes ∧ f.zero.map List.length = some f.size := by
    rw [hfs]; exact ⟨hml, cokL_enc hc m, h0, h1, h2⟩
  unfold appendF
  rw [if_pos hcond]
  rcases hown with ⟨rfl, rfl⟩ | ⟨i, cap, rfl, hbi, hin, hg, hcap⟩
  · by_cases hm : m.length = 0
    · have : m = [] := List.eq_nil_of_length_eq_zero hm
      subst this
      exact ⟨.slice none 0 0, σ, by simp, Own.nil, GrowB.refl b σ⟩
    · refine ⟨.slice (some ⟨σ.n, 0, none⟩) m.length openCap, σ.alloc (.cells (m.flatMap enc) e false), ?_, .inr ⟨σ.n, openCap, rfl, hb, by simp, by simp, .inl rfl⟩, (GrowB.refl b σ).alloc hb _⟩
      simp only [hm, if_false]
      rw [if_pos (by simpa using hbig)]
  · by_cases hm : m.length = 0
    · have : m = [] := List.eq_nil_of_length_eq_zero hm
      subst this
      refine ⟨.slice (some ⟨i, 0, none⟩) l.length cap, σ, ?_, ?_, GrowB.refl b σ⟩
      · simp only [List.length_nil, if_true]
        rw [if_pos]
        rcases hcap with rfl | ⟨rfl, rfl⟩
        · simp only [openCap]; omega
        · simp
      · rw [List.append_nil]
        exact .inr ⟨i, cap, rfl, hbi, hin, hg, hcap⟩
    · simp only [hm, if_false, hg]
      rcases hcap with rfl | ⟨rfl, rfl⟩
      · refine ⟨.slice (some ⟨σ.n, 0, none⟩) (l ++ m).length openCap, (σ.put i .dead).alloc (.cells ((l ++ m).flatMap enc) e false), ?_, .inr ⟨σ.n, openCap, rfl, hb, by simp, by simp, .inl rfl⟩, ((GrowB.refl b σ).put hbi _).alloc hb _⟩
        simp only [if_true, and_self]
        rw [if_neg, if_pos hbig]
        · have : ld (l.flatMap enc) 0 (l.length * f.size) = some (l.flatMap enc) := by
            rw [hfs, ← hll]
            unfold ld
            rw [if_pos (by omega), List.drop_zero, List.take_of_length_le (Nat.le_refl _)]
          rw [this]
          simp
        · rw [hll, hfs, Nat.add_mul]
          have : 0 < m.length * sz := Nat.mul_pos (by omega) h0
          omega
      · refine ⟨.slice (some ⟨σ.n, 0, none⟩) m.length openCap, σ.alloc (.cells (m.flatMap enc) e false), ?_, .inr ⟨σ.n, openCap, by simp, hb, by simp, by simp, .inl rfl⟩, (GrowB.refl b σ).alloc hb _⟩
        rw [if_neg (by simp [openCap]), if_neg (by rw [List.length_nil]; omega)]
        simp only [List.length_nil, Nat.zero_add, Nat.zero_mul] at hbig ⊢
        rw [if_pos hbig]
        simp [ld]
/-- append(s, x...), s one's own. -/
theorem append_own (hf : ts[0]?.bind (elemF P) = some (e, f)) (hu : (ts[1]?.bind (elemT P)).isSome = true) (hsz : ∀ x, (enc x).length = sz) (hc : ∀ x, cokL (enc x) = true) (hfs : f.size = sz) (h0 : 0 < sz) (h1 : 0 < f.bytes) (h2 : f.zero.map List.length = some sz)
    (hown : Own b σ e enc v l) (hb : b ≤ σ.n) (hx : Sl σ e sz enc x m) (hbig : (l.length + m.length) * f.bytes ≤ 2 ^ 47) (hl : l.length < 2 ^ 62) :
    ∃ v' σ', appendOp P σ ts v x = some (v', σ') ∧ Own b σ' e enc v' (l ++ m) ∧ GrowB b σ σ' := by
  obtain ⟨g1, g2⟩ := first_sl hsz hx
  obtain ⟨v', σ', g3, g4, g5⟩ := appendF_own hsz hc hfs h0 h1 h2 hown hb hbig hl
  refine ⟨v', σ', ?_, g4, g5⟩
  rw [appendOp_K (by rw [hf]; rfl) hu, hf]
  simp only [appK, g1, hfs, g2, Option.bind_some]
  exact g3
end
end Go.Sm
/- append into room that is there. -/
set_option linter.unusedVariables false
namespace Go.Sm
open Go
section
variable {α : Type} {P : Program} {σ : CSt} {e : TypeId} {sz b : Nat} {enc : α → List Value} {v x : Value} {l m : List α} {f : TF} {ts : Array TypeId}
theorem append_fit (hf : ts[0]?.bind (elemF P) = some (e, f)) (hu : (ts[1]?.bind (elemT P)).isSome = true) (hsz : ∀ x, (enc x).length = sz) (hc : ∀ x, cokL (enc x) = true) (hfs : f.size = sz) (h0 : 0 < sz) (h1 : 0 < f.bytes) (h2 : f.zero.map List.length = some sz)
    {g : Nat} {zs : List Value} (hg : σ.get g = some (.cells (l.flatMap enc ++ zs) e false)) (hx : Sl σ e sz enc x m) (hz : m.length * sz ≤ zs.length) (hl : l.length < 2 ^ 62) :
    ∃ σ', appendOp P σ ts (.slice (some ⟨g, 0, none⟩) l.length openCap) x = some (.slice (some ⟨g, 0, none⟩) (l ++ m).length openCap, σ') ∧ σ'.get g = some (.cells ((l ++ m).flatMap enc ++ zs.drop (m.length * sz)) e false) ∧ σ'.n = σ.n ∧ ∀ j, j ≠ g → σ'.get j = σ.get j := by
  obtain ⟨g1, g2⟩ := first_sl hsz hx
  have hml := enc_length enc hsz m
  have hll := enc_length enc hsz l
  rw [appendOp_K (by rw [hf]; rfl) hu, hf]
  simp only [appK, g1, hfs, g2, Option.bind_some]
  have hcond : (m.flatMap enc).length = m.length * f.size ∧ cokL (m.flatMap enc) = true ∧ 0 < f.size ∧ 0 < f.bytes ∧ f.zero.map List.length = some f.size := by
    rw [hfs]; exact ⟨hml, cokL_enc hc m, h0, h1, h2⟩
  unfold appendF
  rw [if_pos hcond]
  by_cases hm : m.length = 0
  · have : m = [] := List.eq_nil_of_length_eq_zero hm
    subst this
    refine ⟨σ, ?_, by simpa using hg, rfl, fun _ _ => rfl⟩
    simp only [List.length_nil, if_true, List.append_nil]
    rw [if_pos (by simp only [openCap]; omega)]
  · refine ⟨σ.put g (.cells ((l ++ m).flatMap enc ++ zs.drop (m.length * sz)) e false), ?_, by simp, rfl, fun j hj => by rw [CSt.get_put, if_neg hj]⟩
    simp only [hm, if_false, hg, if_true, and_self]
    have hle : 0 + (l.length + m.length) * f.size ≤ (l.flatMap enc ++ zs).length := by
      rw [List.length_append, hll, hfs, Nat.add_mul]; omega
    rw [if_pos hle]
    have hst : st (l.flatMap enc ++ zs) (0 + l.length * f.size) (m.flatMap enc) = some ((l ++ m).flatMap enc ++ zs.drop (m.length * sz)) := by
      unfold st
      rw [if_pos (by rw [List.length_append, hll, hml, hfs]; omega), hfs, Nat.zero_add, ← hll, List.take_left, ← List.drop_drop, List.drop_left, hml, List.flatMap_append]
    rw [hst]
    simp
end
section
variable {P : Program} {σ : CSt} {ev : Operand → Value} {dst : Option Tmp} {ty : TypeId} {pos : String} {after : Array Edge} {g : Option (Nat × Bool)}
@[simp] theorem copE_makeFunc (f : FuncId) (first captured : Array Operand) : cop P σ ev ⟨dst, .makeFunc (.func f) first captured, ty, pos, after, g⟩ = .val (.func (.func f) (first.map ev) (captured.map ev)) σ := (rfl)
end
end Go.Sm
/- What may change: objects of some types that were made behind a point. -/
set_option linter.unusedVariables false
namespace Go.Sm
open Go
def Fr (T : TypeId → Prop) (b : Nat) (σ σ' : CSt) : Prop := σ.n ≤ σ'.n ∧ ∀ j, j < σ.n → (j < b ∨ ∀ row e ro, σ.get j = some (.cells row e ro) → ¬ T e) → σ'.get j = σ.get j
section
variable {T T' : TypeId → Prop} {b b' : Nat} {s0 s1 s2 : CSt}
theorem Fr.refl (T : TypeId → Prop) (b : Nat) (σ : CSt) : Fr T b σ σ := ⟨Nat.le_refl _, fun _ _ _ => rfl⟩
theorem Grow.fr (h : Grow s0 s1) : Fr T b s0 s1 := ⟨h.n, fun j hj _ => h.old j hj⟩
theorem Fr.trans (h : Fr T b s0 s1) (h' : Fr T b s1 s2) : Fr T b s0 s2 :=
  ⟨Nat.le_trans h.1 h'.1, fun j hj hc => by rw [h'.2 j (Nat.lt_of_lt_of_le hj h.1) (by rw [h.2 j hj hc]; exact hc), h.2 j hj hc]⟩
theorem Fr.mono (h : Fr T b s0 s1) (hT : ∀ e, T e → T' e) (hb : b' ≤ b) : Fr T' b' s0 s1 :=
  ⟨h.1, fun j hj hc => h.2 j hj (hc.elim (fun h => .inl (Nat.lt_of_lt_of_le h hb)) fun hc => .inr fun row e ro hg ht => hc row e ro hg (hT e ht))⟩
theorem Fr.alloc (h : Fr T b s0 s1) (o : CObj) : Fr T b s0 (s1.alloc o) := h.trans ((Grow.refl s1).alloc o).fr
theorem Fr.put (h : Fr T b s0 s1) {i : Nat} (hi : b ≤ i) {row : List Value} {e : TypeId} {ro : Bool} (hg : s1.get i = some (.cells row e ro)) (ht : T e) (o : CObj) : Fr T b s0 (s1.put i o) :=
  h.trans ⟨Nat.le_refl _, fun j hj hc => by
    rw [CSt.get_put]
    by_cases e' : j = i
    · subst e'
      rcases hc with hc | hc
      · omega
      · exact absurd ht (hc _ _ _ hg)
    · rw [if_neg e']⟩
theorem Fr.new (h : Fr T b s0 s1) {i : Nat} (hi : s0.n ≤ i) (o : CObj) : Fr T b s0 (s1.put i o) := ⟨h.1, fun j hj hc => by rw [CSt.get_put, if_neg (by omega)]; exact h.2 j hj hc⟩
theorem Fr.growB (h : Fr T b s0 s1) (hb : b ≤ s0.n) : GrowB b s0 s1 := ⟨h.1, fun j hj => h.2 j (Nat.lt_of_lt_of_le hj hb) (.inl hj)⟩
theorem Fr.grow (h : Fr T b s0 s1) (hb : s0.n ≤ b) : Grow s0 s1 := ⟨h.1, fun j hj => h.2 j hj (.inl (Nat.lt_of_lt_of_le hj hb))⟩
theorem Fr.get (h : Fr T b s0 s1) {i : Nat} {o : CObj} (hg : s0.get i = some o) (hi : i < s0.n) (hc : i < b ∨ ∀ row e ro, o = .cells row e ro → ¬ T e) : s1.get i = some o := by
  rw [h.2 i hi (hc.elim .inl fun hc => .inr fun row e ro h1 => hc row e ro (by rw [hg] at h1; exact Option.some.inj h1)), hg]
variable {α : Type} {e : TypeId} {sz : Nat} {enc : α → List Value} {v : Value} {l : List α}
theorem Sl.fr (h : Sl s0 e sz enc v l) (ht : ¬ T e) (hg : Fr T b s0 s1) : Sl s1 e sz enc v l := by
  rcases h with h | ⟨i, off, cap, row, ro, h1, h2, h3, h4⟩
  · exact .inl h
  · exact .inr ⟨i, off, cap, row, ro, h1, hg.get h2 h3 (.inr fun row' e' ro' he => by cases he; exact ht), Nat.lt_of_lt_of_le h3 hg.1, h4⟩
theorem Own.fr (h : Own b' s0 e enc v l) (ht : ¬ T e) (hg : Fr T b s0 s1) : Own b' s1 e enc v l := by
  rcases h with h | ⟨i, cap, h1, hb, hi, h2, h3⟩
  · exact .inl h
  · exact .inr ⟨i, cap, h1, hb, Nat.lt_of_lt_of_le hi hg.1, hg.get h2 hi (.inr fun row' e' ro' he => by cases he; exact ht), h3⟩
end
section
variable {P : Program} {σ : CSt} {ev : Operand → Value} {dst : Option Tmp} {ty : TypeId} {pos : String} {after : Array Edge} {g : Option (Nat × Bool)}
def nilK (σ : CSt) : Value → OpR
  | .pointer (some a) => .val (.pointer (some a)) σ
  | .func (.func f) fs cs => .val (.func (.func f) fs cs) σ
  | .func (.yield f) fs cs => .val (.func (.yield f) fs cs) σ
  | .iface t v => .val (.iface t v) σ
  | _ => .fail
@[simp] theorem copE_nilCheck (x : Operand) : cop P σ ev ⟨dst, .nilCheck x, ty, pos, after, g⟩ = nilK σ (ev x) := (rfl)
@[simp] theorem nilK_ptr (a : Addr) : nilK σ (.pointer (some a)) = .val (.pointer (some a)) σ := (rfl)
@[simp] theorem nilK_fn (f : FuncId) (fs cs : Array Value) : nilK σ (.func (.func f) fs cs) = .val (.func (.func f) fs cs) σ := (rfl)
@[simp] theorem nilK_yield (f : Nat) (fs cs : Array Value) : nilK σ (.func (.yield f) fs cs) = .val (.func (.yield f) fs cs) σ := (rfl)
end
end Go.Sm
/- Ranges over functions, as equations. -/
set_option linter.unusedVariables false
set_option linter.unusedSimpArgs false
namespace Go.Sm
open Go
variable {E : Env} {σ : CSt}
/-- Behind the function that is ranged over. -/
def krange (E : Env) (x : Ctx) (a : CAct) (L : Nat) (Q : Out → CSt → Prop) : Out → CSt → Prop := fun o σ =>
  match o with
  | .ret _ _ =>
    match σ.get L with
    | some (.loop st pend fn tm sz ps asg body) =>
      if st = .busy then False else
      match pend with
      | none => Q (.code .normal a) (σ.put L (.loop .exhausted pend fn tm sz ps asg body))
      | some c => W E (.code x c a) (σ.put L (.loop .exhausted pend fn tm sz ps asg body)) Q
    | _ => False
  | .pan v => Q (.code (.panic v) a) σ
  | _ => False
/-- Behind the assignments of a round. -/
def kround1 (E : Env) (L : Nat) (fn : FuncId) (body : Code) (Q : Out → CSt → Prop) : Out → CSt → Prop := fun o σ =>
  match o with
  | .code .normal a =>
    match σ.get L with
    | some (.loop .ready pend fn' tm' sz' ps' asg' body') =>
      W E (.code ⟨fn, some L, none⟩ body a) (σ.put L (.loop .busy pend fn' tm' sz' ps' asg' body')) fun o σ2 =>
        match o with
        | .code e a2 =>
          match jumpOf e with
          | some j =>
            match σ2.get L with
            | some (.loop st _ fn' tm' sz' ps' asg' body') => Q (.ret (.bool j.isNone) false) (σ2.put L (.loop (if j.isNone then .ready else .done) j fn' tm' sz' ps' asg' body'))
            | _ => False
          | none => match e with | .panic v => if a2.df.isEmpty then (match E.P.funcs[fn]? with | some _ => Q (.pan v) σ2 | none => False) else False | _ => False
        | _ => False
    | _ => False
  | _ => False
theorem W_rangeFunc {x : Ctx} {f : Operand} {ps : Array Tmp} {asg body : Code} {a : CAct} {σ : CSt} {Q : Out → CSt → Prop} {g : FuncId} {fs cs : Array Value} (hf : a.eval f = .func (.func g) fs cs) (ha : aroundOk σ x.rnd = true) :
    W E (.code x (.rangeFunc f ps asg body) a) σ Q = W E (.fn g (fs ++ #[.func (.yield σ.n) #[] #[]] ++ cs) none) (σ.alloc (.loop .ready none x.f a.tm a.sz ps asg body)) (krange E x a σ.n Q) := by
  rw [W_eq]
  simp only [F, ha, hf, callv, Bool.not_true, Bool.false_eq_true, if_false]
  rfl
theorem W_round {L : Nat} {args : Array Value} {σ : CSt} {Q : Out → CSt → Prop} {st : LoopState} {pend : Option Code} {fn : FuncId} {tm : Tr Value} {sz : Nat} {ps : Array Tmp} {asg body : Code} (hg : σ.get L = some (.loop st pend fn tm sz ps asg body)) (hs : args.size = ps.size) :
    W E (.round L args) σ Q = W E (.code ⟨fn, some L, none⟩ asg { tm := (ps.toList.zip args.toList).foldl (fun t p => if p.1 < sz then t.set p.1 p.2 else t) tm, sz := sz, df := [], tk := false }) σ (kround1 E L fn body Q) := by
  rw [W_eq]
  simp only [F, hg, hs, if_true]
  rfl
@[simp] theorem wres_yield (x : Ctx) (a : CAct) (d : Option Tmp) (K : CAct → CSt → Prop) (Q : Out → CSt → Prop) (L : Nat) (fs cs args : Array Value) (h : extOf E (.func (.yield L) fs cs) args σ = none) :
    wres E x a d K Q σ (.call (.func (.yield L) fs cs) args) = W E (.round L (fs ++ args)) σ (kret a d K Q) := by
  simp only [wres, h, callv]
  rfl
@[simp] theorem dres_yield (ops : Array Oper) (a0 a : CAct) (d : Option Tmp) (K : CAct → CSt → Prop) (Q : Out → CSt → Prop) (L : Nat) (fs cs args : Array Value) (h : extOf E (.func (.yield L) fs cs) args σ = none) :
    dres E ops a0 a d K Q σ (.call (.func (.yield L) fs cs) args) = W E (.round L (fs ++ args)) σ (kretd ops a0 a d K Q) := by
  simp only [dres, h, callv]
  rfl
@[simp] theorem ext_yield (L : Nat) (fs cs args : Array Value) (σ : CSt) : extOf E (.func (.yield L) fs cs) args σ = none := (rfl)
end Go.Sm
/- Strings in order. -/
set_option linter.unusedVariables false
set_option linter.unusedSimpArgs false
namespace Go.Sm
open Go
def bl : List UInt8 → List UInt8 → Bool := Op.bytesLess
theorem bl_irrefl : ∀ x : List UInt8, bl x x = false
  | [] => rfl
  | a :: x => by
    have h := bl_irrefl x
    unfold bl at h ⊢
    simp [Op.bytesLess, h]
theorem bl_trans : ∀ {x y z : List UInt8}, bl x y = true → bl y z = true → bl x z = true
  | _, [], _, h, _ => by unfold bl at h; simp [Op.bytesLess] at h
  | _, _ :: _, [], _, h => by unfold bl at h; simp [Op.bytesLess] at h
  | [], _ :: _, _ :: _, _, _ => rfl
  | a :: x, b :: y, c :: z, h1, h2 => by
    have ih := @bl_trans x y z
    unfold bl at h1 h2 ih ⊢
    simp only [Op.bytesLess, Bool.or_eq_true, decide_eq_true_eq, Bool.and_eq_true, beq_iff_eq] at h1 h2 ⊢
    rcases h1 with h1 | ⟨rfl, h1⟩
    · rcases h2 with h2 | ⟨rfl, h2⟩
      · exact .inl (UInt8.lt_trans h1 h2)
      · exact .inl h1
    · rcases h2 with h2 | ⟨rfl, h2⟩
      · exact .inl h2
      · exact .inr ⟨rfl, ih h1 h2⟩
theorem bl_tri : ∀ {x y : List UInt8}, bl x y = false → bl y x = false → x = y
  | [], [], _, _ => rfl
  | [], _ :: _, h, _ => by unfold bl at h; simp [Op.bytesLess] at h
  | _ :: _, [], _, h => by unfold bl at h; simp [Op.bytesLess] at h
  | a :: x, b :: y, h1, h2 => by
    have ih := @bl_tri x y
    unfold bl at h1 h2 ih
    simp only [Op.bytesLess, Bool.or_eq_false_iff, decide_eq_false_iff_not, Bool.and_eq_false_iff] at h1 h2
    have e : a = b := UInt8.le_antisymm (UInt8.not_lt.1 h2.1) (UInt8.not_lt.1 h1.1)
    subst e
    rw [ih (by simpa using h1.2) (by simpa using h2.2)]
theorem bl_asymm {x y : List UInt8} (h : bl x y = true) : bl y x = false := by
  cases h' : bl y x with
  | false => rfl
  | true => have := bl_trans h h'; rw [bl_irrefl] at this; cases this
theorem ba_list_inj {s u : ByteArray} (h : s.toList = u.toList) : s = u := by
  have h3 : s.data.toList = u.data.toList := by rw [ByteArray.toList_eq, ByteArray.toList_eq] at h; exact h
  cases s; cases u
  simp only at h3
  rw [Array.toList_inj.1 h3]
/-- One key ahead of another. -/
def klt (s u : ByteArray) : Bool := bl s.toList u.toList
section
variable {P : Program} {σ : CSt} {t : TypeId} {x y : Operand} {s u : ByteArray}
@[simp] theorem bin_strlt : binF P σ .lss t x y (.string s) (.string u) = .val (.bool (klt s u)) σ := by simp [binF, eqGuard, binOp, Op.stringOp, klt, bl]
@[simp] theorem bin_strgt : binF P σ .gtr t x y (.string s) (.string u) = .val (.bool (!(klt s u || s.toList == u.toList))) σ := by simp [binF, eqGuard, binOp, Op.stringOp, klt, bl]
@[simp] theorem bin_strle : binF P σ .leq t x y (.string s) (.string u) = .val (.bool (klt s u || s.toList == u.toList)) σ := by simp [binF, eqGuard, binOp, Op.stringOp, klt, bl]
@[simp] theorem bin_strge : binF P σ .geq t x y (.string s) (.string u) = .val (.bool (!klt s u)) σ := by simp [binF, eqGuard, binOp, Op.stringOp, klt, bl]
end
end Go.Sm
/- Two structs of plain cells against each other. -/
set_option linter.unusedVariables false
set_option linter.unusedSimpArgs false
namespace Go.Sm
open Go

theorem ba_eq {a b : ByteArray} (h : (a == b) = true) : a = b := by
  have h2 : (a.data == b.data) = true := h
  have h3 : a.data = b.data := eq_of_beq h2
  cases a; cases b
  cases h3
  rfl
theorem ba_self (a : ByteArray) : (a == a) = true := by
  have : (a.data == a.data) = true := beq_self_eq_true _
  exact this
def KK : PK → Value → Prop
  | .int k, v => ∃ n, v = .int k n
  | .bool, v => ∃ b, v = .bool b
  | .str, v => ∃ s, v = .string s
def KL : List PK → List Value → Prop
  | [], [] => True
  | k :: ks, v :: vs => KK k v ∧ KL ks vs
  | _, _ => False
theorem KL.length : ∀ {ks : List PK} {vs : List Value}, KL ks vs → vs.length = ks.length
  | [], [], _ => rfl
  | _ :: ks, _ :: vs, h => by simp [KL.length h.2]
theorem KL.split : ∀ {ks ls : List PK} {vs : List Value}, KL (ks ++ ls) vs → KL ks (vs.take ks.length) ∧ KL ls (vs.drop ks.length)
  | [], _, vs, h => ⟨by simp [KL], by simpa using h⟩
  | _ :: ks, ls, v :: vs, h => by
    obtain ⟨h1, h2⟩ := KL.split (ks := ks) (ls := ls) (vs := vs) h.2
    exact ⟨⟨h.1, h1⟩, h2⟩

def wrapV (P : Program) (t : TypeId) (xs : List Value) : Value := if isAggT P t then .agg xs.toArray else xs.getD 0 undef

end Go.Sm
/- Maps: their entries as a list; ranges over them. -/
set_option linter.unusedVariables false
set_option linter.unusedSimpArgs false
namespace Go.Sm
open Go
/-- A map's entries. -/
abbrev MlG (κ : Type) := List (κ × Value)
abbrev Ml := MlG ByteArray
section
variable {κ : Type} [DecidableEq κ]
def EntsG (key : κ → Value) (es : List MapEntry) (M : MlG κ) : Prop := es.map (fun e => (e.key, e.val)) = M.map fun p => (key p.1, p.2)
def posM (k : κ) : MlG κ → Nat → Option (Nat × Value)
  | [], _ => none
  | p :: M, i => if p.1 = k then some (i, p.2) else posM k M (i + 1)
/-- Keys of a kind: the model finds them. -/
structure Keyed (key : κ → Value) (kd : TypeDesc) : Prop where
  flat : ∀ k, flat0 (key k) = true
  same : ∀ k k', Instr.sameNow kd (key k) (key k') = some (decide (k' = k))
  inj : ∀ k k', key k = key k' → k = k'
theorem keyed_str : Keyed Value.string .string := by
  refine ⟨fun k => rfl, fun k k' => ?_, fun k k' h => by cases h; rfl⟩
  by_cases e1 : k' = k
  · subst e1; simp [Instr.sameNow, ba_self]
  · have hne : (k == k') = false := by
      cases h : (k == k') with
      | false => rfl
      | true => exact absurd (ba_eq h).symm e1
    simp [Instr.sameNow, hne, e1]
theorem find_entsG {key : κ → Value} {kd : TypeDesc} (hk : Keyed key kd) (k : κ) : ∀ (es : List MapEntry) (M : MlG κ) (i : Nat), EntsG key es M → Instr.findNow kd (key k) es i = some (posM k M i)
  | [], [], _, _ => rfl
  | [], p :: M, _, h => by simp [EntsG] at h
  | e :: es, [], _, h => by simp [EntsG] at h
  | e :: es, p :: M, i, h => by
    simp only [EntsG, List.map_cons, List.cons.injEq, Prod.mk.injEq] at h
    obtain ⟨⟨h1, h2⟩, h3⟩ := h
    have ih := find_entsG hk k es M (i + 1) h3
    unfold Instr.findNow posM
    rw [h1, hk.same]
    by_cases e1 : p.1 = k
    · simp [e1, h2]
    · simp [e1]
      exact ih
def getM (M : MlG κ) (k : κ) : Option Value := (M.find? fun p => decide (p.1 = k)).map (·.2)
def setM : MlG κ → κ → Value → MlG κ
  | [], k, v => [(k, v)]
  | p :: M, k, v => if p.1 = k then (k, v) :: M else p :: setM M k v
theorem posM_none {k : κ} {v : Value} : ∀ {M : MlG κ} {i : Nat}, posM k M i = none → getM M k = none ∧ setM M k v = M ++ [(k, v)] ∧ ∀ p ∈ M, p.1 ≠ k
  | [], _, _ => ⟨rfl, rfl, by simp⟩
  | p :: M, i, h => by
    unfold posM at h
    by_cases e : p.1 = k
    · rw [if_pos e] at h; cases h
    · rw [if_neg e] at h
      obtain ⟨h1, h2, h3⟩ := posM_none (v := v) h
      unfold getM setM
      rw [if_neg e, h2]
      refine ⟨?_, rfl, fun q hq => ?_⟩
      · rw [List.find?_cons]
        simp only [e, decide_false]
        exact h1
      · rcases List.mem_cons.1 hq with rfl | hq
        · exact e
        · exact h3 q hq
theorem posM_some {k : κ} {v w : Value} {j : Nat} : ∀ {M : MlG κ} {i : Nat}, posM k M i = some (j, w) → i ≤ j ∧ j - i < M.length ∧ getM M k = some w ∧ setM M k v = M.set (j - i) (k, v) ∧ (M[j - i]?).map (·.1) = some k
  | [], _, h => by cases h
  | p :: M, i, h => by
    unfold posM at h
    by_cases e : p.1 = k
    · rw [if_pos e] at h
      cases h
      refine ⟨Nat.le_refl _, by simp, ?_, ?_, by simp [e]⟩
      · unfold getM; rw [List.find?_cons]; simp [e]
      · unfold setM; rw [if_pos e]; simp
    · rw [if_neg e] at h
      obtain ⟨h0, h1, h2, h3, h4⟩ := posM_some (v := v) h
      have hj : j - i = (j - (i + 1)) + 1 := by omega
      refine ⟨by omega, by simp; omega, ?_, ?_, by rw [hj]; simpa using h4⟩
      · unfold getM; rw [List.find?_cons]; simp only [e, decide_false]; exact h2
      · unfold setM; rw [if_neg e, h3, hj, List.set_cons_succ]
/-- The entries; their births are of their own, before the clock; no key twice. -/
structure EntsOk (key : κ → Value) (es : List MapEntry) (clock : Nat) (M : MlG κ) : Prop where
  ents : EntsG key es M
  nodup : (es.map (·.born)).Nodup
  born : ∀ e ∈ es, e.born < clock
  keys : (M.map (·.1)).Nodup
def MpG (key : κ → Value) (σ : CSt) (m : Nat) (M : MlG κ) : Prop := ∃ es clock, σ.get m = some (.map es clock) ∧ EntsOk key es.toList clock M
theorem EntsG.length {κ : Type} {key : κ → Value} {es : List MapEntry} {M : MlG κ} (h : EntsG key es M) : es.length = M.length := by have := congrArg List.length h; simpa using this
theorem entsOk_nil {κ : Type} (key : κ → Value) (c : Nat) : EntsOk key [] c ([] : MlG κ) := ⟨rfl, by simp, by simp, by simp⟩
theorem setM_keys {k : κ} {v : Value} : ∀ {M : MlG κ}, (M.map (·.1)).Nodup → ((setM M k v).map (·.1)).Nodup ∧ ∀ q, q ∈ (setM M k v).map (·.1) ↔ q = k ∨ q ∈ M.map (·.1)
  | [], _ => by simp [setM]
  | p :: M, h => by
    rw [List.map_cons, List.nodup_cons] at h
    obtain ⟨h1, h2⟩ := setM_keys (k := k) (v := v) h.2
    unfold setM
    by_cases e : p.1 = k
    · rw [if_pos e, List.map_cons, List.nodup_cons]
      refine ⟨⟨by rw [← e]; exact h.1, h.2⟩, fun q => ?_⟩
      simp [e]
    · rw [if_neg e, List.map_cons, List.nodup_cons]
      refine ⟨⟨fun hm => ?_, h1⟩, fun q => ?_⟩
      · rcases (h2 p.1).1 hm with h3 | h3
        · exact e h3
        · exact h.1 h3
      · rw [List.mem_cons, h2, List.map_cons, List.mem_cons]
        exact or_left_comm
section
variable {P : Program} {σ : CSt} {t kt et : TypeId} {m : Nat} {M : MlG κ} {k : κ} {key : κ → Value} {kd : TypeDesc}
theorem lookup_mpG (ht : P.underlying t = some (.map kt et)) (hk : keyKind P kt = some kd) (hK : Keyed key kd) {z : Value} (hz : zeroOf? P et = some z) (h : MpG key σ m M) (ok : Bool) : lookupOp P σ t (.map (some m)) (key k) ok = some (if ok then .tuple #[(getM M k).getD z, .bool (getM M k).isSome] else (getM M k).getD z) := by
  obtain ⟨es, clock, hg, he⟩ := h
  have hf : findK P kt (key k) es = some (posM k M 0) := by unfold findK; rw [hk]; exact find_entsG hK k _ M 0 he.ents
  unfold lookupOp
  rw [ht]
  simp only [CSt.maps, hg, Option.map_some, hf, hK.flat, if_true]
  cases hp : posM k M 0 with
  | none => rw [(posM_none (v := z) hp).1]; simp [hz]
  | some jw => obtain ⟨j, w⟩ := jw; rw [(posM_some (v := z) hp).2.2.1]; simp
theorem update_mpG (ht : P.underlying t = some (.map kt et)) (hk : keyKind P kt = some kd) (hK : Keyed key kd) (h : MpG key σ m M) (v : Value) : ∃ o, updateOp P σ t (.map (some m)) (key k) v = some (σ.put m o) ∧ MpG key (σ.put m o) m (setM M k v) := by
  obtain ⟨es, clock, hg, he⟩ := h
  have hf : findK P kt (key k) es = some (posM k M 0) := by unfold findK; rw [hk]; exact find_entsG hK k _ M 0 he.ents
  unfold updateOp
  rw [ht]
  simp only [CSt.maps, hg, hf, hK.flat, if_true]
  have hkeys := (setM_keys (k := k) (v := v) he.keys).1
  cases hp : posM k M 0 with
  | none =>
    refine ⟨_, rfl, _, _, by rw [CSt.get_put, if_pos rfl], ?_⟩
    have hset := (posM_none (v := v) hp).2.1
    rw [hset] at hkeys
    rw [hset]
    have he1 := he.ents
    refine ⟨?_, ?_, fun e h => ?_, hkeys⟩
    · unfold EntsG at he1 ⊢
      simp [he1]
    · rw [Array.toList_push, List.map_append, List.nodup_append]
      refine ⟨he.nodup, by simp, fun a ha b hb => ?_⟩
      obtain ⟨e, h1, rfl⟩ := List.mem_map.1 ha
      simp at hb
      have := he.born e h1
      omega
    · rw [Array.toList_push] at h
      rcases List.mem_append.1 h with h | h
      · have := he.born e h; omega
      · rw [List.mem_singleton] at h; rw [h]; exact Nat.lt_succ_self _
  | some jw =>
    obtain ⟨j, w⟩ := jw
    obtain ⟨h1, h2, h3, h4, h5⟩ := posM_some (v := v) hp
    refine ⟨_, rfl, _, _, by rw [CSt.get_put, if_pos rfl], ?_⟩
    rw [h4] at hkeys
    rw [h4]
    have he1 := he.ents
    have hb : (es.modify j fun e => { e with key := key k, val := v }).toList.map (·.born) = es.toList.map (·.born) := by
      rw [Array.toList_modify]
      apply List.ext_getElem?
      intro n
      simp only [List.getElem?_map, List.getElem?_modify]
      by_cases e : j = n
      · subst e; simp [Option.map_map, Function.comp_def]
      · simp [e]
    refine ⟨?_, by rw [hb]; exact he.nodup, fun e h => ?_, hkeys⟩
    · unfold EntsG at he1 ⊢
      rw [Array.toList_modify, Nat.sub_zero]
      apply List.ext_getElem?
      intro n
      have hn := congrArg (·[n]?) he1
      simp only [List.getElem?_map, List.getElem?_modify, List.getElem?_set] at hn ⊢
      by_cases e : j = n
      · subst e
        rw [Nat.sub_zero] at h2
        have hl := EntsG.length he1
        simp [h2, List.getElem?_eq_getElem (show j < es.toList.length by omega)]
      · simp [e]
        simpa using hn
    · have h6 : e.born ∈ (es.modify j fun e => { e with key := key k, val := v }).toList.map (·.born) := List.mem_map_of_mem h
      rw [hb] at h6
      obtain ⟨e', h7, h8⟩ := List.mem_map.1 h6
      rw [← h8]
      exact he.born e' h7
end
end
abbrev Mp (σ : CSt) (m : Nat) (M : Ml) : Prop := MpG Value.string σ m M
section
variable {P : Program} {σ : CSt} {t kt et : TypeId} {m : Nat} {M : Ml} {k : ByteArray}
theorem lookup_mp (ht : P.underlying t = some (.map kt et)) (hk : keyKind P kt = some .string) {z : Value} (hz : zeroOf? P et = some z) (h : Mp σ m M) : lookupOp P σ t (.map (some m)) (.string k) false = some ((getM M k).getD z) := by
  have := lookup_mpG (k := k) ht hk keyed_str hz h false
  simpa using this
theorem update_mp (ht : P.underlying t = some (.map kt et)) (hk : keyKind P kt = some .string) (h : Mp σ m M) (v : Value) : ∃ o, updateOp P σ t (.map (some m)) (.string k) v = some (σ.put m o) ∧ Mp (σ.put m o) m (setM M k v) := update_mpG ht hk keyed_str h v
end
/-! ### Ranges -/
section
variable {κ : Type} [DecidableEq κ]
/-- A range over a map: what is yet to come. -/
def MIt (key : κ → Value) (σ : CSt) (r m : Nat) (M S : MlG κ) : Prop := ∃ es clock seen, σ.get m = some (.map es clock) ∧ EntsOk key es.toList clock M ∧ σ.get r = some (.miter (some m) clock seen clock) ∧ r ≠ m ∧ EntsG key (es.toList.filter fun e => !seen.contains e.born) S
theorem MIt.congr {κ : Type} {key : κ → Value} {σ σ' : CSt} {r m : Nat} {M S : MlG κ} (h : MIt key σ r m M S) (h1 : σ'.get r = σ.get r) (h2 : σ'.get m = σ.get m) : MIt key σ' r m M S := by
  obtain ⟨es, clock, seen, a, b, c, d⟩ := h
  exact ⟨es, clock, seen, by rw [h2]; exact a, b, by rw [h1]; exact c, d⟩
theorem MIt.mp {κ : Type} {key : κ → Value} {σ : CSt} {r m : Nat} {M S : MlG κ} (h : MIt key σ r m M S) : MpG key σ m M := by
  obtain ⟨es, clock, seen, a, b, c, d⟩ := h
  exact ⟨es, clock, a, b⟩
variable {P : Program} {σ : CSt} {ev : Operand → Value} {dst : Option Tmp} {ty : TypeId} {pos : String} {after : Array Edge} {g : Option (Nat × Bool)}
@[simp] theorem copE_range (t : TypeId) (x : Operand) : cop P σ ev ⟨dst, .range t x, ty, pos, after, g⟩ = OpR.ofP (rangeOp P σ t (ev x)) := (rfl)
@[simp] theorem copE_next (it : Operand) (s : Bool) : cop P σ ev ⟨dst, .next it s, ty, pos, after, g⟩ = nextOp σ (ev it) s := (rfl)
@[simp] theorem copE_entry (it : Operand) : cop P σ ev ⟨dst, .entry it, ty, pos, after, g⟩ = OpR.ofV σ (entryOp σ (ev it)) := (rfl)
theorem range_mpG {κ : Type} {key : κ → Value} {t kt et : TypeId} {m : Nat} {M : MlG κ} (ht : P.underlying t = some (.map kt et)) (h : MpG key σ m M) (hm : m < σ.n) : ∃ o, rangeOp P σ t (.map (some m)) = some (.pointer (some ⟨σ.n, 0, none⟩), σ.alloc o) ∧ MIt key (σ.alloc o) σ.n m M M := by
  obtain ⟨es, clock, hg, he⟩ := h
  refine ⟨.miter (some m) clock #[] clock, ?_, es, clock, #[], ?_, he, by rw [CSt.get_alloc, if_pos rfl], by omega, ?_⟩
  · unfold rangeOp
    rw [ht]
    simp only [CSt.maps, hg]
  · rw [CSt.get_alloc, if_neg (by omega)]; exact hg
  · have : (es.toList.filter fun e => !(#[] : Array Nat).contains e.born) = es.toList := List.filter_eq_self.2 fun e _ => by simp
    rw [this]; exact he.ents
theorem filter_erase_born : ∀ (l : List MapEntry) (j : Nat) (h : j < l.length), (l.map (·.born)).Nodup → l.filter (fun e => !(e.born == l[j].born)) = l.eraseIdx j
  | [], j, h, _ => by simp at h
  | e :: l, 0, h, hn => by
    rw [List.map_cons, List.nodup_cons] at hn
    simp only [List.getElem_cons_zero, List.eraseIdx_zero, List.tail_cons]
    rw [List.filter_cons]
    simp
    intro a ha e2
    exact hn.1 (by rw [← e2]; exact List.mem_map_of_mem ha)
  | e :: l, j + 1, h, hn => by
    rw [List.map_cons, List.nodup_cons] at hn
    have hj : j < l.length := by simpa using h
    have ih := filter_erase_born l j hj hn.2
    simp only [List.getElem_cons_succ, List.eraseIdx_cons_succ]
    rw [List.filter_cons, ih]
    have : (!(e.born == l[j].born)) = true := by
      simp
      intro e2
      exact hn.1 (by rw [e2]; exact List.mem_map_of_mem (List.getElem_mem hj))
    rw [this]; rfl
theorem wres_next {κ : Type} {E : Env} {x : Ctx} {a : CAct} {d : Option Tmp} {K : CAct → CSt → Prop} {Q : Out → CSt → Prop} {key : κ → Value} {r m : Nat} {M S : MlG κ} (h : MIt key σ r m M S)
    (h0 : S = [] → K (a.put d (.tuple #[.bool false])) σ)
    (h1 : ∀ (j : Nat) (hj : j < S.length) (o : CObj), MIt key (σ.put r o) r m M (S.eraseIdx j) → entryOp (σ.put r o) (.pointer (some ⟨r, 0, none⟩)) = some (.tuple #[key S[j].1, S[j].2]) → K (a.put d (.tuple #[.bool true, key S[j].1, S[j].2])) (σ.put r o)) :
    wres E x a d K Q σ (nextOp σ (.pointer (some ⟨r, 0, none⟩)) false) := by
  obtain ⟨es, clock, seen, hm, he, hr, hrm, hS⟩ := h
  have hlast : (!seen.isEmpty && !es.isEmpty && es.all (·.born ≥ clock)) = false := by
    cases hz : es.isEmpty with
    | true => simp
    | false =>
      have : es.all (·.born ≥ clock) = false := by
        rw [Bool.eq_false_iff]
        intro hall
        have hne : es.toList ≠ [] := by
          intro h
          rw [Array.toList_eq_nil_iff] at h
          rw [h] at hz; simp at hz
        obtain ⟨e, l, hl⟩ := List.exists_cons_of_ne_nil hne
        have hmem : e ∈ es.toList := by rw [hl]; simp
        have h1 := he.born e hmem
        have h2 := Array.all_eq_true_iff_forall_mem.1 hall e (Array.mem_toList_iff.1 hmem)
        simp at h2
        omega
      rw [this]; simp
  have hmn : mapNext es clock seen = (if (es.toList.filter fun e => !seen.contains e.born).isEmpty then #[none] else #[]) ++ ((es.toList.filter fun e => !seen.contains e.born).map some).toArray := by
    unfold mapNext
    have e1 : ((es.filter fun e => !seen.contains e.born).filter fun e => decide (e.born < clock)) = es.filter fun e => !seen.contains e.born := by
      apply Array.filter_eq_self.2
      intro e h
      have := he.born e (Array.mem_toList_iff.2 (Array.mem_filter.1 h).1)
      simpa using this
    have e2 : ((es.filter fun e => !seen.contains e.born).filter fun e => decide (e.born ≥ clock)) = #[] := by
      apply Array.filter_eq_empty_iff.2
      intro e h
      have := he.born e (Array.mem_toList_iff.2 (Array.mem_filter.1 h).1)
      simp; omega
    simp only
    rw [e1, e2]
    have e3 : (es.filter fun e => !seen.contains e.born) = (es.toList.filter fun e => !seen.contains e.born).toArray := by
      rw [← Array.toList_filter]
    rw [e3]
    simp
  have hlen := EntsG.length hS
  unfold nextOp
  simp only [hr, CSt.maps, hm]
  rw [hlast, hmn]
  simp only [Bool.false_eq_true, if_false]
  generalize hL : (es.toList.filter fun e => !seen.contains e.born) = L at hS hlen ⊢
  unfold wres picks
  cases L with
  | nil =>
    have hS0 : S = [] := List.eq_nil_of_length_eq_zero (by simpa using hlen.symm)
    simp
    exact h0 hS0
  | cons e0 L =>
    have hpick : ∀ j, j < (e0 :: L).length → K (a.put d (.tuple #[.bool true, (e0 :: L)[j]!.key, (e0 :: L)[j]!.val])) (σ.put r (.miter (some m) clock (seen.push (e0 :: L)[j]!.born) clock)) := by
      intro j hj
      have hjS : j < S.length := by omega
      have hnd : ((e0 :: L).map (·.born)).Nodup := by rw [← hL]; exact List.Nodup.sublist (List.Sublist.map _ List.filter_sublist) he.nodup
      have hfe := filter_erase_born (e0 :: L) j hj hnd
      have hgj : (e0 :: L)[j]! = (e0 :: L)[j] := by rw [getElem!_pos]
      have hmem : (e0 :: L)[j] ∈ es.toList := (List.mem_filter.1 (by rw [hL]; exact List.getElem_mem hj : (e0 :: L)[j] ∈ es.toList.filter fun e => !seen.contains e.born)).1
      rw [hgj]
      generalize hej : (e0 :: L)[j] = ej at hfe hmem ⊢
      have hS' := hS
      unfold EntsG at hS'
      have hp := congrArg (·[j]?) hS'
      simp only [List.getElem?_map, List.getElem?_eq_getElem hj, List.getElem?_eq_getElem hjS, hej, Option.map_some, Option.some.injEq, Prod.mk.injEq] at hp
      rw [hp.1, hp.2]
      refine h1 j hjS _ ⟨es, clock, seen.push ej.born, by rw [CSt.get_put, if_neg (Ne.symm hrm)]; exact hm, he, by rw [CSt.get_put, if_pos rfl], hrm, ?_⟩ ?_
      · have e1 : (es.toList.filter fun e => !(seen.push ej.born).contains e.born) = (e0 :: L).eraseIdx j := by
          rw [← hfe, ← hL, List.filter_filter]
          apply List.filter_congr
          intro e _
          by_cases e2 : e.born = ej.born <;> simp [Array.contains_push, e2]
        rw [e1]
        unfold EntsG at hS ⊢
        rw [List.eraseIdx_eq_take_drop_succ, List.eraseIdx_eq_take_drop_succ, List.map_append, List.map_append, List.map_take, List.map_drop, List.map_take, List.map_drop, hS]
      · unfold entryOp
        have hb : (seen.push ej.born).back? = some ej.born := by simp
        simp only [CSt.get_put, if_true, CSt.maps, if_neg (Ne.symm hrm), hm, hb]
        have hf : es.find? (fun e => e.born == ej.born) = some ej := by
          rw [← Array.find?_toList]
          have : ∀ (l : List MapEntry), (l.map (·.born)).Nodup → ej ∈ l → l.find? (fun e => e.born == ej.born) = some ej := by
            intro l
            induction l with
            | nil => intro _ h; cases h
            | cons a l ih =>
              intro hn h
              rw [List.map_cons, List.nodup_cons] at hn
              rw [List.find?_cons]
              rcases List.mem_cons.1 h with rfl | h
              · simp
              · have : (a.born == ej.born) = false := by
                  simp
                  intro e2
                  exact hn.1 (by rw [e2]; exact List.mem_map_of_mem h)
                rw [this]
                exact ih hn.2 h
          exact this es.toList he.nodup hmem
        rw [hf]
        simp [hp.1, hp.2]
    simp
    split
    · rename_i h
      have hL0 : L = [] := h
      have := hpick 0 (by simp)
      simpa [hL0] using this
    · intro i hi
      have hi' : i < (e0 :: L).length := by simpa using hi
      have := hpick i hi'
      have hq : ((e0 :: L).map some)[i]? = some (some (e0 :: L)[i]!) := by
        rw [List.getElem?_map, List.getElem?_eq_getElem hi', getElem!_pos (e0 :: L) i hi']; rfl
      simp only [List.map_cons] at hq
      rw [hq]
      exact this
end
end Go.Sm
/- append to a slice of one's own: what else stays. -/
set_option linter.unusedVariables false
namespace Go.Sm
open Go
section
variable {α : Type} {P : Program} {σ : CSt} {e : TypeId} {sz b : Nat} {enc : α → List Value} {v x : Value} {l m : List α} {f : TF} {ts : Array TypeId}

theorem appendF_only (hsz : ∀ x, (enc x).length = sz) (hc : ∀ x, cokL (enc x) = true) (hfs : f.size = sz) (h0 : 0 < sz) (h1 : 0 < f.bytes) (h2 : f.zero.map List.length = some sz) (hown : Own b σ e enc v l) (hb : b ≤ σ.n)
    (hbig : (l.length + m.length) * f.bytes ≤ 2 ^ 47) (hl : l.length < 2 ^ 62) : ∃ v' σ', appendF σ e f v m.length (m.flatMap enc) = some (v', σ') ∧ Own b σ' e enc v' (l ++ m) ∧ GrowB b σ σ' ∧ (∀ j, j < σ.n → (∀ i off n c, v = .slice (some ⟨i, off, none⟩) n c → j ≠ i) → σ'.get j = σ.get j) ∧ (m ≠ [] → ∃ n c, v' = .slice (some ⟨σ.n, 0, none⟩) n c) := by
  have hml := enc_length enc hsz m
  have hll := enc_length enc hsz l
  have hcond : (m.flatMap enc).length = m.length * f.size ∧ cokL (m.flatMap enc) = true ∧ 0 < f.size ∧ 0 < f.bytes ∧ f.zero.map List.length = some f.size := by
    rw [hfs]; exact ⟨hml, cokL_enc hc m, h0, h1, h2⟩
  unfold appendF
  rw [if_pos hcond]
  rcases hown with ⟨rfl, rfl⟩ | ⟨i, cap, rfl, hbi, hin, hg, hcap⟩
  · by_cases hm : m.length = 0
    · have : m = [] := List.eq_nil_of_length_eq_zero hm
      subst this
      exact ⟨.slice none 0 0, σ, by simp, Own.nil, GrowB.refl b σ, fun _ _ _ => rfl, fun h => absurd rfl h⟩
    · refine ⟨.slice (some ⟨σ.n, 0, none⟩) m.length openCap, σ.alloc (.cells (m.flatMap enc) e false), ?_, .inr ⟨σ.n, openCap, rfl, hb, by simp, by simp, .inl rfl⟩, (GrowB.refl b σ).alloc hb _, fun j hj _ => by rw [CSt.get_alloc, if_neg (by omega)], fun _ => ⟨_, _, rfl⟩⟩
      simp only [hm, if_false]
      rw [if_pos (by simpa using hbig)]
  · by_cases hm : m.length = 0
    · have : m = [] := List.eq_nil_of_length_eq_zero hm
      subst this
      refine ⟨.slice (some ⟨i, 0, none⟩) l.length cap, σ, ?_, ?_, GrowB.refl b σ, fun _ _ _ => rfl, fun h => absurd rfl h⟩
      · simp only [List.length_nil, if_true]
        rw [if_pos]
        rcases hcap with rfl | ⟨rfl, rfl⟩
        · simp only [openCap]; omega
        · simp
      · rw [List.append_nil]
        exact .inr ⟨i, cap, rfl, hbi, hin, hg, hcap⟩
    · simp only [hm, if_false, hg]
      rcases hcap with rfl | ⟨rfl, rfl⟩
      · refine ⟨.slice (some ⟨σ.n, 0, none⟩) (l ++ m).length openCap, (σ.put i .dead).alloc (.cells ((l ++ m).flatMap enc) e false), ?_, .inr ⟨σ.n, openCap, rfl, hb, by simp, by simp, .inl rfl⟩, ((GrowB.refl b σ).put hbi _).alloc hb _, fun j hj hne => by rw [CSt.get_alloc, if_neg (by simp; omega), CSt.get_put, if_neg (hne _ _ _ _ rfl)], fun _ => ⟨_, _, rfl⟩⟩
        simp only [if_true, and_self]
        rw [if_neg, if_pos hbig]
        · have : ld (l.flatMap enc) 0 (l.length * f.size) = some (l.flatMap enc) := by
            rw [hfs, ← hll]
            unfold ld
            rw [if_pos (by omega), List.drop_zero, List.take_of_length_le (Nat.le_refl _)]
          rw [this]
          simp
        · rw [hll, hfs, Nat.add_mul]
          have : 0 < m.length * sz := Nat.mul_pos (by omega) h0
          omega
      · refine ⟨.slice (some ⟨σ.n, 0, none⟩) m.length openCap, σ.alloc (.cells (m.flatMap enc) e false), ?_, .inr ⟨σ.n, openCap, by simp, hb, by simp, by simp, .inl rfl⟩, (GrowB.refl b σ).alloc hb _, fun j hj _ => by rw [CSt.get_alloc, if_neg (by omega)], fun _ => ⟨_, _, rfl⟩⟩
        rw [if_neg (by simp [openCap]), if_neg (by rw [List.length_nil]; omega)]
        simp only [List.length_nil, Nat.zero_add, Nat.zero_mul] at hbig ⊢
        rw [if_pos hbig]
        simp [ld]
/-- append(s, x...), s one's own. -/
theorem append_only (hf : ts[0]?.bind (elemF P) = some (e, f)) (hu : (ts[1]?.bind (elemT P)).isSome = true) (hsz : ∀ x, (enc x).length = sz) (hc : ∀ x, cokL (enc x) = true) (hfs : f.size = sz) (h0 : 0 < sz) (h1 : 0 < f.bytes) (h2 : f.zero.map List.length = some sz)
    (hown : Own b σ e enc v l) (hb : b ≤ σ.n) (hx : Sl σ e sz enc x m) (hbig : (l.length + m.length) * f.bytes ≤ 2 ^ 47) (hl : l.length < 2 ^ 62) :
    ∃ v' σ', appendOp P σ ts v x = some (v', σ') ∧ Own b σ' e enc v' (l ++ m) ∧ GrowB b σ σ' ∧ (∀ j, j < σ.n → (∀ i off n c, v = .slice (some ⟨i, off, none⟩) n c → j ≠ i) → σ'.get j = σ.get j) ∧ (m ≠ [] → ∃ n c, v' = .slice (some ⟨σ.n, 0, none⟩) n c) := by
  obtain ⟨g1, g2⟩ := first_sl hsz hx
  obtain ⟨v', σ', g3, g4, g5⟩ := appendF_only hsz hc hfs h0 h1 h2 hown hb hbig hl
  refine ⟨v', σ', ?_, g4, g5⟩
  rw [appendOp_K (by rw [hf]; rfl) hu, hf]
  simp only [appK, g1, hfs, g2, Option.bind_some]
  exact g3
end
section
variable {P : Program} {σ : CSt} {ev : Operand → Value} {dst : Option Tmp} {ty : TypeId} {pos : String} {after : Array Edge} {g : Option (Nat × Bool)}
@[simp] theorem copE_lookup (t : TypeId) (m k : Operand) (ok : Bool) : cop P σ ev ⟨dst, .lookup t m k ok, ty, pos, after, g⟩ = OpR.ofV σ (lookupOp P σ t (ev m) (ev k) ok) := (rfl)
@[simp] theorem copE_mapUpdate (t : TypeId) (m k x : Operand) : cop P σ ev ⟨dst, .mapUpdate t m k x, ty, pos, after, g⟩ = OpR.ofS (updateOp P σ t (ev m) (ev k) (ev x)) := (rfl)
theorem copE_makeMap {t kt et : TypeId} (h : P.underlying t = some (.map kt et)) : cop P σ ev ⟨dst, .makeMap t none, ty, pos, after, g⟩ = .val (.map (some σ.n)) (σ.alloc (.map #[] 0)) := by
  simp only [cop, h]
end
end Go.Sm
/- Slices of one's own that have more room behind them. -/
set_option linter.unusedVariables false
set_option linter.unusedSimpArgs false
namespace Go.Sm
open Go
/-- A slice that is one's own: the first part of an object that was made behind a point. -/
def OwnZ {α : Type} (b : Nat) (σ : CSt) (e : TypeId) (enc : α → List Value) (v : Value) (l : List α) : Prop :=
  (v = .slice none 0 0 ∧ l = []) ∨ ∃ i cap zs, v = .slice (some ⟨i, 0, none⟩) l.length cap ∧ b ≤ i ∧ i < σ.n ∧ σ.get i = some (.cells (l.flatMap enc ++ zs) e false) ∧ cokL zs = true ∧ (cap = openCap ∨ (l = [] ∧ cap = 0 ∧ zs = []))
section
variable {α : Type} {σ σ' : CSt} {e : TypeId} {sz : Nat} {enc : α → List Value} {v : Value} {l : List α} {b : Nat}
theorem OwnZ.nil : OwnZ b σ e enc (.slice none 0 0) ([] : List α) := .inl ⟨rfl, rfl⟩
theorem Own.z (h : Own b σ e enc v l) : OwnZ b σ e enc v l := by
  rcases h with h | ⟨i, cap, h1, hb, hi, h2, h3⟩
  · exact .inl h
  · refine .inr ⟨i, cap, [], h1, hb, hi, by rw [List.append_nil]; exact h2, rfl, ?_⟩
    rcases h3 with h3 | ⟨h3, h4⟩
    · exact .inl h3
    · exact .inr ⟨h3, h4, rfl⟩
theorem OwnZ.sl (hsz : ∀ x, (enc x).length = sz) (h : OwnZ b σ e enc v l) : Sl σ e sz enc v l := by
  rcases h with h | ⟨i, cap, zs, rfl, hb, hi, hg, hz, hc⟩
  · exact .inl h
  · have hl := enc_length enc hsz l
    refine .inr ⟨i, 0, cap, _, false, rfl, hg, hi, ?_, ?_, ?_⟩
    · rw [List.drop_zero, ← hl, List.take_left]
    · rw [List.length_append]; omega
    · rcases hc with rfl | ⟨rfl, rfl, _⟩
      · exact .inl rfl
      · exact .inr ⟨by simp, by simp [openCap]⟩
theorem OwnZ.grow (h : OwnZ b σ e enc v l) (hg : Grow σ σ') : OwnZ b σ' e enc v l := by
  rcases h with h | ⟨i, cap, zs, h1, hb, hi, h2, h3⟩
  · exact .inl h
  · exact .inr ⟨i, cap, zs, h1, hb, Nat.lt_of_lt_of_le hi hg.n, hg.get h2 hi, h3⟩
theorem OwnZ.keep (h : OwnZ b σ e enc v l) (hn : σ.n ≤ σ'.n) (hg : ∀ i, b ≤ i → i < σ.n → σ'.get i = σ.get i) : OwnZ b σ' e enc v l := by
  rcases h with h | ⟨i, cap, zs, h1, hb, hi, h2, h3⟩
  · exact .inl h
  · exact .inr ⟨i, cap, zs, h1, hb, Nat.lt_of_lt_of_le hi hn, by rw [hg i hb hi]; exact h2, h3⟩
theorem OwnZ.put (h : OwnZ b σ e enc v l) {i : Nat} (hi : i < b) (o : CObj) : OwnZ b (σ.put i o) e enc v l :=
  h.keep (Nat.le_refl _) fun j hj _ => by rw [CSt.get_put, if_neg (by omega)]
theorem OwnZ.weaken {b' : Nat} (h : OwnZ b σ e enc v l) (hb : b' ≤ b) : OwnZ b' σ e enc v l := by
  rcases h with h | ⟨i, cap, zs, h1, hb', h2⟩
  · exact .inl h
  · exact .inr ⟨i, cap, zs, h1, Nat.le_trans hb hb', h2⟩
theorem OwnZ.fr {T : TypeId → Prop} {b' : Nat} {s0 s1 : CSt} (h : OwnZ b' s0 e enc v l) (ht : ¬ T e) (hg : Fr T b s0 s1) : OwnZ b' s1 e enc v l := by
  rcases h with h | ⟨i, cap, zs, h1, hb, hi, h2, h3⟩
  · exact .inl h
  · exact .inr ⟨i, cap, zs, h1, hb, Nat.lt_of_lt_of_le hi hg.1, hg.get h2 hi (.inr fun row' e' ro' he => by cases he; exact ht), h3⟩
theorem insRow_encZ (hsz : ∀ x, (enc x).length = sz) (a : Nat) (ha : a ≤ l.length) (x : α) (zs : List Value) : insRow sz a l.length (l.flatMap enc ++ zs) (enc x) = (l.take a ++ x :: l.drop a).flatMap enc := by
  have hl := enc_length enc hsz l
  rw [← insRow_enc hsz a ha x]
  unfold insRow
  have h1 : a * sz ≤ (l.flatMap enc).length := by rw [hl]; exact Nat.mul_le_mul_right _ ha
  rw [List.take_append_of_le_length h1, List.take_append_of_le_length (Nat.le_of_eq hl.symm)]
end
end Go.Sm
namespace Go.Sm
open Go
def objOf : Value → Option Nat
  | .slice (some ⟨i, _, _⟩) _ _ => some i
  | _ => none
/-- All but a slice's object is as it was. -/
def ButV (v : Value) (s0 s1 : CSt) : Prop := s0.n ≤ s1.n ∧ ∀ j, j < s0.n → objOf v ≠ some j → s1.get j = s0.get j
theorem ButV.refl (v : Value) (s : CSt) : ButV v s s := ⟨Nat.le_refl _, fun _ _ _ => rfl⟩
theorem ButV.trans {v : Value} {s0 s1 s2 : CSt} (h : ButV v s0 s1) (h' : ButV v s1 s2) : ButV v s0 s2 := ⟨Nat.le_trans h.1 h'.1, fun j hj hne => by rw [h'.2 j (Nat.lt_of_lt_of_le hj h.1) hne, h.2 j hj hne]⟩
theorem ButV.putV {v : Value} {i : Nat} {s0 s1 : CSt} (h : ButV v s0 s1) (hi : objOf v = some i) (o : CObj) : ButV v s0 (s1.put i o) := ⟨h.1, fun j hj hne => by rw [CSt.get_put, if_neg (by rintro rfl; exact hne hi)]; exact h.2 j hj hne⟩
theorem ButV.put {v : Value} {i : Nat} {s0 s1 : CSt} (h : ButV v s0 s1) (hi : s0.n ≤ i) (o : CObj) : ButV v s0 (s1.put i o) := ⟨h.1, fun j hj hne => by rw [CSt.get_put, if_neg (by omega)]; exact h.2 j hj hne⟩
theorem ButV.alloc {v : Value} {s0 s1 : CSt} (h : ButV v s0 s1) (o : CObj) : ButV v s0 (s1.alloc o) := ⟨by have := h.1; simp; omega, fun j hj hne => by have := h.1; rw [CSt.get_alloc, if_neg (by omega)]; exact h.2 j hj hne⟩
/-! ### What is filtered in place -/
end Go.Sm
namespace Go.Sm
open Go
theorem OwnZ.frV {α : Type} {b : Nat} {s s2 : CSt} {e : TypeId} {enc : α → List Value} {v : Value} {l : List α} (h : OwnZ b s e enc v l) (hb : ButV v s s2) : Fr (fun t => t = e) b s s2 := by
  refine ⟨hb.1, fun j hj hc => hb.2 j hj fun ho => ?_⟩
  rcases h with ⟨rfl, _⟩ | ⟨i, cap, zs, rfl, hbi, hi, hg, _⟩
  · cases ho
  · cases ho
    rcases hc with hc | hc
    · omega
    · exact hc _ _ _ hg rfl
end Go.Sm
namespace Go.Sm
open Go
theorem len_mp {κ : Type} {key : κ → Value} {P : Program} {σ : CSt} {t kt et : TypeId} {m : Nat} {M : MlG κ} (ht : P.underlying t = some (.map kt et)) (h : MpG key σ m M) : lenF P σ (some t) (.map (some m)) = .val (.int .i64 (List.length M)) σ := by
  obtain ⟨es, clock, hg, he⟩ := h
  have hl := EntsG.length he.ents
  unfold lenF lenOp
  simp [ht, CSt.maps, hg, ← hl]
end Go.Sm
/- append to a slice of one's own that may have room behind it. -/
set_option linter.unusedVariables false
namespace Go.Sm
open Go
section
variable {α : Type} {P : Program} {σ : CSt} {e : TypeId} {sz b : Nat} {enc : α → List Value} {v x : Value} {l m : List α} {f : TF} {ts : Array TypeId}
theorem append_Z (hf : ts[0]?.bind (elemF P) = some (e, f)) (hu : (ts[1]?.bind (elemT P)).isSome = true) (hsz : ∀ x, (enc x).length = sz) (hc : ∀ x, cokL (enc x) = true) (hfs : f.size = sz) (h0 : 0 < sz) (h1 : 0 < f.bytes) (h2 : f.zero.map List.length = some sz)
    (hown : OwnZ b σ e enc v l) (hb : b ≤ σ.n) (hx : Sl σ e sz enc x m) (hbig : (l.length + m.length) * f.bytes ≤ 2 ^ 47) (hl : l.length < 2 ^ 62) :
    ∃ v' σ', appendOp P σ ts v x = some (v', σ') ∧ OwnZ b σ' e enc v' (l ++ m) ∧ ButV v σ σ' ∧ (objOf v' = objOf v ∨ objOf v' = some σ.n) := by
  rcases hown with ⟨rfl, rfl⟩ | ⟨i, cap, zs, rfl, hbi, hin, hg, hz, hcap⟩
  · by_cases hm : m = []
    · subst hm
      obtain ⟨v', σ', a1, a2, a3, a4, a5⟩ := append_only hf hu hsz hc hfs h0 h1 h2 (Own.nil (b := b) (σ := σ) (e := e) (enc := enc)) hb hx hbig hl
      obtain ⟨g1, g2⟩ := first_sl hsz hx
      rw [appendOp_K (by rw [hf]; rfl) hu, hf] at a1
      have hcond : ([] : List Value).length = 0 * f.size ∧ cokL ([] : List Value) = true ∧ 0 < f.size ∧ 0 < f.bytes ∧ f.zero.map List.length = some f.size := by
        rw [hfs]; exact ⟨by simp, rfl, h0, h1, h2⟩
      refine ⟨.slice none 0 0, σ, ?_, .inl ⟨rfl, rfl⟩, ButV.refl _ _, .inl rfl⟩
      rw [appendOp_K (by rw [hf]; rfl) hu, hf]
      have g2' : firstOf σ sz 0 x = some [] := by simpa using g2
      simp only [appK, g1, hfs, g2', Option.bind_some, List.flatMap_nil, List.length_nil]
      unfold appendF
      rw [if_pos hcond]
      simp
    · obtain ⟨v', σ', a1, a2, a3, a4, a5⟩ := append_only hf hu hsz hc hfs h0 h1 h2 (Own.nil (b := b) (σ := σ) (e := e) (enc := enc)) hb hx hbig hl
      obtain ⟨n, c, rfl⟩ := a5 hm
      exact ⟨_, σ', a1, a2.z, ⟨a3.1, fun j hj hne => a4 j hj (fun i off n c h => by cases h)⟩, .inr rfl⟩
  · rcases hcap with rfl | ⟨rfl, rfl, rfl⟩
    · by_cases hfit : m.length * sz ≤ zs.length
      · obtain ⟨σ', a1, a2, a3, a4⟩ := append_fit (P := P) (ts := ts) hf hu hsz hc hfs h0 h1 h2 hg hx hfit hl
        refine ⟨_, σ', a1, .inr ⟨i, openCap, _, rfl, hbi, by rw [a3]; exact hin, a2, cokL_drop hz _, .inl rfl⟩, ⟨by rw [a3]; exact Nat.le_refl _, fun j hj hne => a4 j (by rintro rfl; exact hne rfl)⟩, .inl rfl⟩
      · have hml := enc_length enc hsz m
        have hll := enc_length enc hsz l
        have hm0 : m.length ≠ 0 := by
          intro e
          rw [e] at hfit
          simp at hfit
        obtain ⟨g1, g2⟩ := first_sl hsz hx
        have hcond : (m.flatMap enc).length = m.length * f.size ∧ cokL (m.flatMap enc) = true ∧ 0 < f.size ∧ 0 < f.bytes ∧ f.zero.map List.length = some f.size := by
          rw [hfs]; exact ⟨hml, cokL_enc hc m, h0, h1, h2⟩
        refine ⟨.slice (some ⟨σ.n, 0, none⟩) (l ++ m).length openCap, (σ.put i .dead).alloc (.cells ((l ++ m).flatMap enc) e false), ?_, .inr ⟨σ.n, openCap, [], rfl, hb, by simp, by simp, rfl, .inl rfl⟩, ((ButV.refl _ _).putV rfl _).alloc _, .inr rfl⟩
        rw [appendOp_K (by rw [hf]; rfl) hu, hf]
        simp only [appK, g1, hfs, g2, Option.bind_some]
        unfold appendF
        rw [if_pos hcond]
        simp only [hm0, if_false, hg, if_true, and_self]
        rw [if_neg, if_pos hbig]
        · have : ld (l.flatMap enc ++ zs) 0 (l.length * f.size) = some (l.flatMap enc) := by
            rw [hfs, ← hll]
            unfold ld
            rw [if_pos (by rw [List.length_append]; omega), List.drop_zero, List.take_left]
          rw [this]
          simp
        · rw [List.length_append, hll, hfs, Nat.add_mul]
          omega
    · by_cases hm : m = []
      · subst hm
        obtain ⟨g1, g2⟩ := first_sl hsz hx
        have hcond : ([] : List Value).length = 0 * f.size ∧ cokL ([] : List Value) = true ∧ 0 < f.size ∧ 0 < f.bytes ∧ f.zero.map List.length = some f.size := by
          rw [hfs]; exact ⟨by simp, rfl, h0, h1, h2⟩
        refine ⟨.slice (some ⟨i, 0, none⟩) 0 0, σ, ?_, .inr ⟨i, 0, [], rfl, hbi, hin, hg, rfl, .inr ⟨rfl, rfl, rfl⟩⟩, ButV.refl _ _, .inl rfl⟩
        rw [appendOp_K (by rw [hf]; rfl) hu, hf]
        have g2' : firstOf σ sz 0 x = some [] := by simpa using g2
        simp only [appK, g1, hfs, g2', Option.bind_some, List.flatMap_nil, List.length_nil]
        unfold appendF
        rw [if_pos hcond]
        simp
      · have ho : Own b σ e enc (.slice (some ⟨i, 0, none⟩) 0 0) ([] : List α) := .inr ⟨i, 0, rfl, hbi, hin, by simpa using hg, .inr ⟨rfl, rfl⟩⟩
        obtain ⟨v', σ', a1, a2, a3, a4, a5⟩ := append_only hf hu hsz hc hfs h0 h1 h2 ho hb hx hbig hl
        obtain ⟨n, c, rfl⟩ := a5 hm
        exact ⟨_, σ', a1, a2.z, ⟨a3.1, fun j hj hne => a4 j hj (fun i' off n c h => by cases h; exact fun e => hne (by rw [e]; rfl))⟩, .inr rfl⟩
end
end Go.Sm
/- Strings put together; numbers as strings. -/
set_option linter.unusedVariables false
set_option linter.unusedSimpArgs false
namespace Go.Sm
open Go
end Go.Sm
/- Comparisons of truth values. -/
set_option linter.unusedVariables false
set_option linter.unusedSimpArgs false
namespace Go.Sm
open Go
variable {P : Program} {σ : CSt} {t : TypeId} {x y : Operand}
end Go.Sm
/- Operations under a condition in a drawn region. -/
set_option linter.unusedVariables false
set_option linter.unusedSimpArgs false
namespace Go.Sm
open Go
end Go.Sm
/- Rows that are sorted in place; operations under a condition in a calm region. -/
set_option linter.unusedVariables false
set_option linter.unusedSimpArgs false
namespace Go.Sm
open Go
section
variable {E : Env} {σ : CSt}
theorem dops_if {ops : Array Oper} {a0 : CAct} {Q : Out → CSt → Prop} {a : CAct} {dst : Option Tmp} {op : Op} {ty : TypeId} {pos : String} {after : Array Edge} {j : Nat} {want : Bool} {rest : List Oper} (hd : ((ops[j]?).bind (·.dst)).isSome = true) (hs : dstOf ops j < a.sz) :
    dops E ops Q a0 (⟨dst, op, ty, pos, after, some (j, want)⟩ :: rest) a σ =
      guardK (a.get (dstOf ops j)) want
        (dres E ops a0 a dst (dops E ops Q a0 rest) Q σ (cop E.P σ a.eval ⟨dst, op, ty, pos, after, some (j, want)⟩))
        (dops E ops Q a0 rest (a.put dst nope) σ) := by
  obtain ⟨d, hd⟩ := Option.isSome_iff_exists.1 hd
  have hdd : dstOf ops j = d := by simp [dstOf, hd]
  rw [hdd] at hs ⊢
  rw [dops]
  simp only [wantedC, hd, hs, if_true]
  unfold guardK
  generalize a.get d = v
  cases v with
  | bool b => cases b <;> cases want <;> rfl
  | chan c => cases c <;> rfl
  | _ => rfl
end
/-- All but one object is as it was. -/
def But (L : Nat) (s0 s1 : CSt) : Prop := s0.n ≤ s1.n ∧ ∀ j, j < s0.n → j ≠ L → s1.get j = s0.get j
theorem But.refl (L : Nat) (s : CSt) : But L s s := ⟨Nat.le_refl _, fun _ _ _ => rfl⟩
theorem But.trans {L : Nat} {s0 s1 s2 : CSt} (h : But L s0 s1) (h' : But L s1 s2) : But L s0 s2 := ⟨Nat.le_trans h.1 h'.1, fun j hj hne => by rw [h'.2 j (Nat.lt_of_lt_of_le hj h.1) hne, h.2 j hj hne]⟩
theorem But.putL {L : Nat} {s0 s1 : CSt} (h : But L s0 s1) (o : CObj) : But L s0 (s1.put L o) := ⟨h.1, fun j hj hne => by rw [CSt.get_put, if_neg hne]; exact h.2 j hj hne⟩
theorem But.put {L i : Nat} {s0 s1 : CSt} (h : But L s0 s1) (hi : s0.n ≤ i) (o : CObj) : But L s0 (s1.put i o) := ⟨h.1, fun j hj hne => by rw [CSt.get_put, if_neg (by omega)]; exact h.2 j hj hne⟩
theorem But.alloc {L : Nat} {s0 s1 : CSt} (h : But L s0 s1) (o : CObj) : But L s0 (s1.alloc o) := ⟨by have := h.1; simp; omega, fun j hj hne => by have := h.1; rw [CSt.get_alloc, if_neg (by omega)]; exact h.2 j hj hne⟩
theorem But.back {L : Nat} {s0 s1 : CSt} {o : CObj} (h : But L s0 s1) (hL : s0.get L = some o) : Grow s0 (s1.put L o) := ⟨h.1, fun j hj => by
  by_cases e : j = L
  · subst e; simp [hL]
  · rw [CSt.get_put, if_neg e]; exact h.2 j hj e⟩
theorem But.get {L i : Nat} {s0 s1 : CSt} {o : CObj} (h : But L s0 s1) (hg : s0.get i = some o) (hi : i < s0.n) (hne : i ≠ L) : s1.get i = some o := by rw [h.2 i hi hne]; exact hg
/-- A loop, with what holds behind it. -/
theorem W_loop_J {E : Env} {x : Ctx} {c : Code} {Q : Out → CSt → Prop} (I : Nat → CAct → CSt → Prop) (J : Out → CSt → Prop) (hstep : ∀ n a σ, I n a σ → W E (.code x c a) σ (kinv I n J)) (n : Nat) (a : CAct) (σ : CSt) (h : I n a σ) (hJ : ∀ o s, J o s → Q o s) : W E (.code x (.loop c) a) σ Q :=
  W.weaken (W_loop_inv (Q := J) I hstep n a σ h) hJ
/-! ### Conditions one by one -/
theorem W_cond_t {E : Env} {x : Ctx} {c : Operand} {t e : Code} {a : CAct} {σ : CSt} {Q : Out → CSt → Prop} (h : a.eval c = .bool true) : W E (.code x (.cond c t e) a) σ Q = W E (.code x t a) σ Q := by simp [h]
theorem W_cond_f {E : Env} {x : Ctx} {c : Operand} {t e : Code} {a : CAct} {σ : CSt} {Q : Out → CSt → Prop} (h : a.eval c = .bool false) : W E (.code x (.cond c t e) a) σ Q = W E (.code x e a) σ Q := by simp [h]
theorem W_cut {E : Env} {t : Task} {σ : CSt} {Q : Out → CSt → Prop} (J : Out → CSt → Prop) (h1 : W E t σ J) (h2 : ∀ o s, J o s → Q o s) : W E t σ Q := W.weaken h1 h2
/-! ### Rows -/
section
def aset {α : Type} (d : Array α) (j : Nat) (x : α) : Array α := d.setIfInBounds j x
@[simp] theorem aset_size {α : Type} (d : Array α) (j : Nat) (x : α) : (aset d j x).size = d.size := by simp [aset]
def rowD {α : Type} (enc : α → List Value) (pre post : List Value) (d : Array α) : List Value := pre ++ d.toList.flatMap enc ++ post
theorem rowD_len {α : Type} {enc : α → List Value} {sz : Nat} {pre post : List Value} {d : Array α} (hsz : ∀ x, (enc x).length = sz) : (rowD enc pre post d).length = pre.length + d.size * sz + post.length := by
  unfold rowD
  rw [List.length_append, List.length_append, enc_length enc hsz, show d.toList.length = d.size from by simp]
variable {α : Type} [Inhabited α]
def aget (d : Array α) (j : Nat) : α := d[j]!
theorem swp_aset (d : Array α) (i j : Nat) : Sort.swp d i j = aset (aset d i (aget d j)) j (aget d i) := rfl
@[simp] theorem swp_sz (d : Array α) (i j : Nat) : (Sort.swp d i j).size = d.size := Sort.swp_size d i j
variable {enc : α → List Value} {sz : Nat} {pre post : List Value} {d : Array α}
theorem aget_eq {j : Nat} (hj : j < d.size) : aget d j = d.toList[j]'(by simpa using hj) := by
  unfold aget; rw [getElem!_pos d j hj]; simp
theorem rowD_ld (hsz : ∀ x, (enc x).length = sz) {j : Nat} (hj : j < d.size) : ld (rowD enc pre post d) (pre.length + j * sz) sz = some (enc (aget d j)) := by
  have hl := rowD_len (enc := enc) (pre := pre) (post := post) (d := d) hsz
  have h1 : j * sz + sz ≤ d.size * sz := by rw [← Nat.succ_mul]; exact Nat.mul_le_mul_right _ hj
  have h2 := row_get (enc := enc) hsz (l := d.toList) (row := rowD enc pre post d) (off := pre.length) (by
    unfold rowD
    rw [List.append_assoc, List.drop_left, List.take_append_of_le_length (by rw [enc_length enc hsz]; exact Nat.le_refl _), List.take_of_length_le (by rw [enc_length enc hsz]; exact Nat.le_refl _)]) j (by simpa using hj)
  unfold ld
  rw [if_pos (by omega), h2, aget_eq hj]
theorem rowD_st {α : Type} {enc : α → List Value} {sz : Nat} {pre post : List Value} {d : Array α} (hsz : ∀ x, (enc x).length = sz) {j : Nat} (hj : j < d.size) (x : α) : st (rowD enc pre post d) (pre.length + j * sz) (enc x) = some (rowD enc pre post (aset d j x)) := by
  have hl := rowD_len (enc := enc) (pre := pre) (post := post) (d := d) hsz
  have h1 : j * sz + sz ≤ d.size * sz := by rw [← Nat.succ_mul]; exact Nat.mul_le_mul_right _ hj
  have h3 := enc_length enc hsz d.toList
  rw [show d.toList.length = d.size from by simp] at h3
  unfold st
  rw [hsz, if_pos (by omega)]
  congr 1
  have h2 := enc_set enc hsz d.toList j x (by simpa using hj)
  have e : (aset d j x).toList = d.toList.set j x := by unfold aset; rw [Array.toList_setIfInBounds]
  unfold rowD
  rw [e, ← h2, List.append_assoc pre, List.append_assoc pre, List.take_append, List.take_of_length_le (by omega), List.append_assoc, List.append_assoc, List.append_assoc, List.append_assoc]
  congr 1
  have e1 : pre.length + j * sz - pre.length = j * sz := by omega
  rw [e1, List.take_append_of_le_length (by rw [h3]; omega)]
  congr 1
  congr 1
  rw [List.drop_append, List.drop_of_length_le (by omega), List.nil_append]
  have e2 : pre.length + j * sz + sz - pre.length = j * sz + sz := by omega
  rw [e2, List.drop_append_of_le_length (by rw [h3]; omega)]
/-- Elements of one cell. -/
theorem rowD_get {v : α → Value} (he : ∀ x, enc x = [v x]) {j : Nat} (hj : j < d.size) : (rowD enc pre post d)[pre.length + j]? = some (v (aget d j)) := by
  have h := rowD_ld (enc := enc) (pre := pre) (post := post) (sz := 1) (fun x => by rw [he]; rfl) hj
  unfold ld at h
  split at h
  · rename_i hl
    have h1 := Option.some.inj h
    have h2 := congrArg (·[0]?) h1
    rw [he] at h2
    simpa [List.getElem?_take, List.getElem?_drop] using h2
  · cases h
theorem rowD_st1 {α : Type} {enc : α → List Value} {pre post : List Value} {d : Array α} {v : α → Value} (he : ∀ x, enc x = [v x]) {j : Nat} (hj : j < d.size) (x : α) : st (rowD enc pre post d) (pre.length + j) [v x] = some (rowD enc pre post (aset d j x)) := by
  have h := rowD_st (enc := enc) (pre := pre) (post := post) (sz := 1) (fun x => by rw [he]; rfl) hj x
  rwa [he, Nat.mul_one] at h
theorem i64p (a : Nat) (h0 : 0 < a) (h : a < 2 ^ 61) : IntKind.i64.wrap ((a : Int) - 1) = ((a - 1 : Nat) : Int) := by
  rw [IntWalk.i64_in _ (by omega)]; omega
end
end Go.Sm
/- Bits; a string's byte. -/
set_option linter.unusedVariables false
set_option linter.unusedSimpArgs false
namespace Go.Sm
open Go
section
variable {P : Program} {σ : CSt} {ev : Operand → Value} {dst : Option Tmp} {ty : TypeId} {pos : String} {after : Array Edge} {g : Option (Nat × Bool)}
variable {t : TypeId} {x y : Operand} {k k' : IntKind} {a b : Int} {s u : ByteArray}
def andI (k : IntKind) (a b : Int) : Int := k.wrap ((BitVec.ofInt k.bits a &&& BitVec.ofInt k.bits b).toNat)
def orI (k : IntKind) (a b : Int) : Int := k.wrap ((BitVec.ofInt k.bits a ||| BitVec.ofInt k.bits b).toNat)
def xorI (k : IntKind) (a b : Int) : Int := k.wrap ((BitVec.ofInt k.bits a ^^^ BitVec.ofInt k.bits b).toNat)
@[simp] theorem bin_and : binF P σ .and t x y (.int k a) (.int k b) = .val (.int k (andI k a b)) σ := by simp [binF, eqGuard, binOp, Op.intBits, andI]
@[simp] theorem bin_or : binF P σ .or t x y (.int k a) (.int k b) = .val (.int k (orI k a b)) σ := by simp [binF, eqGuard, binOp, Op.intBits, orI]
@[simp] theorem bin_xor : binF P σ .xor t x y (.int k a) (.int k b) = .val (.int k (xorI k a b)) σ := by simp [binF, eqGuard, binOp, Op.intBits, xorI]
theorem u64_rng (n : Int) : 0 ≤ IntKind.u64.wrap n ∧ IntKind.u64.wrap n < 2 ^ 64 := by
  have h : IntKind.u64.wrap n = n % 2 ^ 64 := by simp [IntKind.wrap, IntKind.bits, IntKind.signed]
  rw [h]
  omega
/-- s[i], of a string. -/
def idxS (fl : OpR) (ok : Bool) (σ : CSt) : Value → Value → OpR
  | .string s, .int _ n => if ok = true ∧ 0 ≤ n then (match s[n.toNat]? with | some b => .val (.int .u8 b.toNat) σ | none => fl) else fl
  | _, _ => fl
@[simp] theorem copE_index (ix : Operand) : cop P σ ev ⟨dst, .index t x ix, ty, pos, after, g⟩ = idxS (flatOp P σ ev ⟨dst, .index t x ix, ty, pos, after, g⟩) (strT P t) σ (ev x) (ev ix) := by
  unfold idxS
  split
  · rename_i s k n hx hi
    split
    · rename_i h
      split
      · rename_i b hb
        have ht : P.underlying t = some .string := by
          have := h.1
          unfold strT at this
          split at this
          · assumption
          · cases this
        show flatOp P σ ev _ = _
        unfold flatOp
        simp [Op.operands, hx, hi, Sm.flat, flat0, execOp, pureRun_bind, Instr.index, asIntOf, pureRun_underlying, ht, h.2, hb]
      · rfl
    · rfl
  · rfl
/-- min, max of two. -/
def minK (fl : OpR) (σ : CSt) : Value → Value → OpR
  | .int k a, .int _ b => .val (.int k (if b < a then b else a)) σ
  | _, _ => fl
def maxK (fl : OpR) (σ : CSt) : Value → Value → OpR
  | .int k a, .int _ b => .val (.int k (if a < b then b else a)) σ
  | _, _ => fl
@[simp] theorem callOp_min {ts : Array TypeId} : callOp P σ ev ⟨dst, .call ⟨.builtin .min, #[x, y], ts⟩, ty, pos, after, g⟩ ⟨.builtin .min, #[x, y], ts⟩ = minK (flatOp P σ ev ⟨dst, .call ⟨.builtin .min, #[x, y], ts⟩, ty, pos, after, g⟩) σ (ev x) (ev y) := by
  unfold minK
  split
  · rename_i k a k' b hx hy
    show flatOp P σ ev _ = _
    unfold flatOp
    have ho : (⟨.builtin .min, #[x, y], ts⟩ : Call).operands = #[x, y] := by simp [Call.operands]
    simp [Op.operands, ho, hx, hy, Sm.flat, flat0, execOp, pureRun_bind, resolve, invoke, builtin, Builtin.min_, Builtin.min2]
  · rfl
@[simp] theorem callOp_max {ts : Array TypeId} : callOp P σ ev ⟨dst, .call ⟨.builtin .max, #[x, y], ts⟩, ty, pos, after, g⟩ ⟨.builtin .max, #[x, y], ts⟩ = maxK (flatOp P σ ev ⟨dst, .call ⟨.builtin .max, #[x, y], ts⟩, ty, pos, after, g⟩) σ (ev x) (ev y) := by
  unfold maxK
  split
  · rename_i k a k' b hx hy
    show flatOp P σ ev _ = _
    unfold flatOp
    have ho : (⟨.builtin .max, #[x, y], ts⟩ : Call).operands = #[x, y] := by simp [Call.operands]
    simp [Op.operands, ho, hx, hy, Sm.flat, flat0, execOp, pureRun_bind, resolve, invoke, builtin, Builtin.max_, Builtin.max2]
  · rfl
end
end Go.Sm
/- Bytes: slices of them; strings laid behind them. -/
set_option linter.unusedVariables false
set_option linter.unusedSimpArgs false
namespace Go.Sm
open Go
/-- A byte, as it lies. -/
def encY (x : UInt8) : List Value := [.int .u8 x.toNat]
theorem encY_len (x : UInt8) : (encY x).length = 1 := rfl
theorem encY_cok (x : UInt8) : cokL (encY x) = true := rfl
theorem flat_encY (l : List UInt8) : l.flatMap encY = l.map fun b => .int .u8 b.toNat := by
  induction l with
  | nil => rfl
  | cons x l ih => rw [List.flatMap_cons, ih]; rfl
theorem bytesOf_encY (l : List UInt8) : bytesOf? (l.flatMap encY) = some l := by
  induction l with
  | nil => rfl
  | cons x l ih =>
    rw [List.flatMap_cons]
    show bytesOf? (.int .u8 x.toNat :: l.flatMap encY) = _
    simp [bytesOf?, ih]
section
variable {α : Type} {P : Program} {σ : CSt} {e : TypeId} {sz b : Nat} {enc : α → List Value} {v x : Value} {l m : List α} {f : TF} {ts : Array TypeId}
theorem appendOp_S {s : Value} (h : (ts[0]?.bind (elemF P)).isSome = true) (h' : ts[1]?.bind P.underlying = some .string) : appendOp P σ ts s x = appK (ts[0]?.bind (elemF P)) σ s x := by
  obtain ⟨⟨e, f⟩, hf⟩ := Option.isSome_iff_exists.1 h
  rw [hf]
  simp only [Option.bind_eq_some_iff] at hf h'
  obtain ⟨t, ht, hf⟩ := hf
  obtain ⟨u, hu, hund⟩ := h'
  obtain ⟨inf, g1, g2, g3, g4⟩ := elemOf_some hf
  simp only [appendOp, ht, hu, g1, hund, appK]
  cases lenOf? x with
  | none => rfl
  | some n =>
    simp only [g2]
    congr 1
    funext new
    exact appendTo_F g2 g3 g4 _ _ _
theorem first_str (m : List UInt8) : lenOf? (.string ⟨m.toArray⟩) = some m.length ∧ firstOf σ 1 m.length (.string ⟨m.toArray⟩) = some (m.flatMap encY) := by
  have hz : (⟨m.toArray⟩ : ByteArray).size = m.length := by simp [ByteArray.size]
  refine ⟨by rw [lenOf_string, hz], ?_⟩
  have : (⟨m.toArray⟩ : ByteArray).extract 0 m.length = ⟨m.toArray⟩ := by
    rw [← hz]
    apply ByteArray.ext
    rw [ByteArray.data_extract]
    simp [ByteArray.size]
  simp only [firstOf, this, flat_encY]
/-- append to a slice that is full: a new object. -/
theorem appendF_full (hsz : ∀ x, (enc x).length = sz) (hc : ∀ x, cokL (enc x) = true) (hfs : f.size = sz) (h0 : 0 < sz) (h1 : 0 < f.bytes) (h2 : f.zero.map List.length = some sz)
    {i : Nat} {ro : Bool} (hg : σ.get i = some (.cells (l.flatMap enc) e ro)) (hm : m ≠ []) (hbig : (l.length + m.length) * f.bytes ≤ 2 ^ 47) (hl : l.length < openCap) :
    appendF σ e f (.slice (some ⟨i, 0, none⟩) l.length l.length) m.length (m.flatMap enc) = some (.slice (some ⟨σ.n, 0, none⟩) (l.length + m.length) openCap, σ.alloc (.cells ((l ++ m).flatMap enc) e false)) := by
  have hml := enc_length enc hsz m
  have hll := enc_length enc hsz l
  have hm0 : m.length ≠ 0 := fun h => hm (List.eq_nil_of_length_eq_zero h)
  have hcond : (m.flatMap enc).length = m.length * f.size ∧ cokL (m.flatMap enc) = true ∧ 0 < f.size ∧ 0 < f.bytes ∧ f.zero.map List.length = some f.size := by
    rw [hfs]; exact ⟨hml, cokL_enc hc m, h0, h1, h2⟩
  unfold appendF
  rw [if_pos hcond]
  simp only [hm0, if_false, hg]
  rw [if_neg (by omega), if_neg (by omega), if_pos hbig]
  have : ld (l.flatMap enc) 0 (l.length * f.size) = some (l.flatMap enc) := by
    rw [hfs, ← hll]
    unfold ld
    rw [if_pos (by omega), List.drop_zero, List.take_of_length_le (Nat.le_refl _)]
  rw [this]
  simp
theorem appendF_none (hfs : f.size = sz) (h0 : 0 < sz) (h1 : 0 < f.bytes) (h2 : f.zero.map List.length = some sz) (i n : Nat) : appendF σ e f (.slice (some ⟨i, 0, none⟩) n n) 0 [] = some (.slice (some ⟨i, 0, none⟩) n n, σ) := by
  unfold appendF
  rw [if_pos (by rw [hfs]; exact ⟨by simp, rfl, h0, h1, h2⟩)]
  simp
/-- A slice's bytes as a string. -/
theorem convF_tostr {s d e' : TypeId} {v : Value} {l : List UInt8} (hs : P.underlying s = some (.slice e')) (he : P.underlying e' = some (.int .u8)) (hd : P.underlying d = some .string) (h : Sl σ e 1 encY v l) : convF P σ s d v = .val (.string ⟨l.toArray⟩) σ := by
  have h1 : convertOp P σ s d v = .val (.string ⟨l.toArray⟩) σ := by
    rcases h with ⟨rfl, rfl⟩ | ⟨i, off, cap, row, ro, rfl, hg, hi, hrow, hlen, hcap⟩
    · unfold convertOp
      rw [hs, hd]
      simp only [he]
      rfl
    · unfold convertOp
      rw [hs, hd]
      have hld : ld row off l.length = some (l.flatMap encY) := by
        unfold ld
        rw [Nat.mul_one] at hlen hrow
        rw [if_pos hlen, hrow]
      simp only [he, CSt.cells, hg, hld, Option.bind_some, bytesOf_encY]
  simp only [convF, h1]
  rfl
end
section
variable {α : Type} {P : Program} {σ : CSt} {e t : TypeId} {sz : Nat} {enc : α → List Value} {v : Value} {l : List α} {f : TF}
/-- s[lo:hi] -/
theorem Sl.mid (hf : elemF P t = some (e, f)) (hfs : f.size = sz) (h0 : 0 < sz) (hsz : ∀ x, (enc x).length = sz) (h : Sl σ e sz enc v l) (lo hi : Nat) (h1 : lo ≤ hi) (h2 : hi ≤ l.length) {bl bh : Option Value} (hl : bound? 0 bl = some lo) (hh : bound? l.length bh = some hi) :
    ∃ q c, sliceOp P σ t v bl bh none = some (.slice q (hi - lo) c) ∧ Sl σ e sz enc (.slice q (hi - lo) c) ((l.take hi).drop lo) := by
  have he : (elemF P t).isSome = true := by rw [hf]; rfl
  have hlen : ((l.take hi).drop lo).length = hi - lo := by rw [List.length_drop, List.length_take, Nat.min_eq_left h2]
  have hrw : ∀ {row : List Value} {off : Nat}, (row.drop off).take (l.length * sz) = l.flatMap enc → (row.drop (off + lo * sz)).take ((hi - lo) * sz) = ((l.take hi).drop lo).flatMap enc := by
    intro row off hrow
    have a1 := row_take hsz hrow hi h2
    have a2 := row_drop hsz a1 lo (by rw [List.length_take, Nat.min_eq_left h2]; exact h1)
    rw [hlen] at a2
    exact a2
  rcases h with ⟨rfl, rfl⟩ | ⟨i, off, cap, row, ro, rfl, hg, hin, hrow, hle, hcap⟩
  · have hhi : hi = 0 := by simpa using h2
    subst hhi
    have hlo : lo = 0 := by omega
    subst hlo
    refine ⟨none, 0, ?_, by simpa using Sl.nil⟩
    rw [sliceOp_nil he]
    simp only [List.length_nil] at hh
    rw [hl, hh]
    rfl
  · have hb : off + lo * sz + (hi - lo) * sz ≤ row.length := by
      have : lo * sz + (hi - lo) * sz = hi * sz := by rw [← Nat.add_mul]; congr 1; omega
      have : hi * sz ≤ l.length * sz := Nat.mul_le_mul_right _ h2
      omega
    by_cases hc : cap = openCap
    · subst hc
      refine ⟨some ⟨i, off + lo * sz, none⟩, openCap, ?_, .inr ⟨i, off + lo * sz, openCap, row, ro, by rw [hlen], hg, hin, by rw [hlen]; exact hrw hrow, by rw [hlen]; exact hb, .inl rfl⟩⟩
      rw [sliceOp_open he, hl, hh, hf, hg]
      simp only [sliceO, hfs]
      rw [if_pos ⟨trivial, h0, h1, .inl h2⟩]
    · rcases hcap with hcap | ⟨hc1, hc2⟩
      · exact absurd hcap hc
      · by_cases hm : cap = lo
        · refine ⟨some ⟨i, off, none⟩, cap - lo, ?_, .inr ⟨i, off, cap - lo, row, ro, by rw [hlen], hg, hin, ?_, ?_, .inr ⟨by rw [hlen]; omega, by omega⟩⟩⟩
          · rw [sliceOp_cap he _ _ _ _ hc, hl, hh, hf]
            simp only [sliceC]
            rw [if_pos ⟨h1, by omega, trivial, hc2⟩, if_pos hm]
          · have hz : hi - lo = 0 := by omega
            rw [hlen, hz, Nat.zero_mul, List.take_zero]
            have : (l.take hi).drop lo = [] := List.eq_nil_of_length_eq_zero (by rw [hlen, hz])
            rw [this]
            rfl
          · have hz : hi - lo = 0 := by omega
            rw [hlen, hz]
            omega
        · refine ⟨some ⟨i, off + lo * sz, none⟩, cap - lo, ?_, .inr ⟨i, off + lo * sz, cap - lo, row, ro, by rw [hlen], hg, hin, by rw [hlen]; exact hrw hrow, by rw [hlen]; exact hb, .inr ⟨by rw [hlen]; omega, by omega⟩⟩⟩
          rw [sliceOp_cap he _ _ _ _ hc, hl, hh, hf]
          simp only [sliceC, hfs]
          rw [if_pos ⟨h1, by omega, trivial, hc2⟩, if_neg hm]
end
section
/-! ### Seven bits a byte -/
set_option maxRecDepth 100000 in
theorem or_80 (n : Nat) (h : n < 256) : orI .u8 (n : Nat) 128 = ((n % 128 + 128 : Nat) : Int) := by
  have : ∀ n : Fin 256, orI .u8 ((n : Nat) : Int) 128 = ((n.val % 128 + 128 : Nat) : Int) := by decide
  exact this ⟨n, h⟩
set_option maxRecDepth 100000 in
theorem and_7f (n : Nat) (h : n < 256) : andI .u8 (n : Nat) 127 = ((n % 128 : Nat) : Int) := by
  have : ∀ n : Fin 256, andI .u8 ((n : Nat) : Int) 127 = ((n.val % 128 : Nat) : Int) := by decide
  exact this ⟨n, h⟩
theorem or_add (n c s : Nat) (hn : n < 2 ^ s) (h : n + c * 2 ^ s < 2 ^ 64) : orI .u64 (n : Nat) ((c * 2 ^ s : Nat) : Int) = ((n + c * 2 ^ s : Nat) : Int) := by
  have h1 : c * 2 ^ s < 2 ^ 64 := by omega
  have h2 : n < 2 ^ 64 := by omega
  have e : c * 2 ^ s + n = c * 2 ^ s ||| n := by
    rw [Nat.mul_comm]
    exact Nat.two_pow_add_eq_or_of_lt hn c
  have e2 : (n ||| c * 2 ^ s) = n + c * 2 ^ s := by rw [Nat.or_comm, ← e, Nat.add_comm]
  unfold orI
  have h3 : ((BitVec.ofInt 64 (n : Int)) ||| (BitVec.ofInt 64 ((c * 2 ^ s : Nat) : Int))).toNat = n + c * 2 ^ s := by
    rw [BitVec.toNat_or, BitVec.ofInt_natCast, BitVec.ofInt_natCast, BitVec.toNat_ofNat, BitVec.toNat_ofNat, Nat.mod_eq_of_lt h2, Nat.mod_eq_of_lt h1, e2]
  show IntKind.u64.wrap ((((BitVec.ofInt 64 (n : Int)) ||| (BitVec.ofInt 64 ((c * 2 ^ s : Nat) : Int))).toNat : Nat) : Int) = _
  rw [h3]
  have : IntKind.u64.wrap ((n + c * 2 ^ s : Nat) : Int) = ((n + c * 2 ^ s : Nat) : Int) % 2 ^ 64 := by simp [IntKind.wrap, IntKind.bits, IntKind.signed]
  rw [this]
  omega
end
end Go.Sm
/- Numbers as bytes: seven bits a byte, the lowest first (no program). -/
namespace Go.Sm
/-- A number's bytes. -/
def num (n : Nat) : List UInt8 := if h : n < 128 then [UInt8.ofNat n] else UInt8.ofNat (n % 128 + 128) :: num (n / 128)
termination_by n
decreasing_by omega
/-- The number whose bytes these are. -/
def valB : List UInt8 → Nat
  | [] => 0
  | c :: l => c.toNat % 128 + 128 * valB l
/-- More is to come behind each of them. -/
def Hi (l : List UInt8) : Prop := ∀ c ∈ l, 128 ≤ c.toNat
theorem num_lt {n : Nat} (h : n < 128) : num n = [UInt8.ofNat n] := by rw [num, dif_pos h]
theorem num_ge {n : Nat} (h : 128 ≤ n) : num n = UInt8.ofNat (n % 128 + 128) :: num (n / 128) := by rw [num, dif_neg (by omega)]
theorem ofNat_toNat {n : Nat} (h : n < 256) : (UInt8.ofNat n).toNat = n := by simp; omega
theorem u8_eq {a b : UInt8} (h : a.toNat = b.toNat) : a = b := UInt8.toNat_inj.1 h
theorem u8_lt (c : UInt8) : c.toNat < 256 := c.toNat_lt
theorem val_num (n : Nat) : valB (num n) = n := by
  induction n using Nat.strongRecOn with
  | _ n ih =>
    by_cases h : n < 128
    · rw [num_lt h]
      show (UInt8.ofNat n).toNat % 128 + 128 * 0 = n
      rw [ofNat_toNat (by omega)]
      omega
    · rw [num_ge (by omega)]
      show (UInt8.ofNat (n % 128 + 128)).toNat % 128 + 128 * valB (num (n / 128)) = n
      rw [ofNat_toNat (by omega), ih _ (by omega)]
      omega
theorem num_form (n : Nat) : ∃ l c, num n = l ++ [c] ∧ Hi l ∧ c.toNat < 128 ∧ (c.toNat ≠ 0 ∨ l = []) := by
  induction n using Nat.strongRecOn with
  | _ n ih =>
    by_cases h : n < 128
    · exact ⟨[], UInt8.ofNat n, num_lt h, (fun _ hc => absurd hc (by simp)), (by rw [ofNat_toNat (by omega)]; exact h), .inr rfl⟩
    · obtain ⟨l, c, h1, h2, h3, h4⟩ := ih (n / 128) (by omega)
      refine ⟨UInt8.ofNat (n % 128 + 128) :: l, c, ?_, ?_, h3, ?_⟩
      · rw [num_ge (by omega), h1]; rfl
      · intro x hx
        rcases List.mem_cons.1 hx with rfl | hx
        · rw [ofNat_toNat (by omega)]; omega
        · exact h2 x hx
      · refine .inl fun hc => ?_
        rcases h4 with h4 | rfl
        · exact h4 hc
        · have := val_num (n / 128)
          rw [h1] at this
          simp only [List.nil_append, valB, hc] at this
          omega
theorem val_app (l m : List UInt8) : valB (l ++ m) = valB l + 128 ^ l.length * valB m := by
  induction l with
  | nil => simp [valB]
  | cons x l ih =>
    simp only [List.cons_append, valB, ih, List.length_cons, Nat.pow_succ, Nat.mul_add]
    rw [Nat.mul_comm (128 ^ l.length) 128, Nat.mul_assoc, Nat.add_assoc]
theorem val_lt (l : List UInt8) : valB l < 128 ^ l.length := by
  induction l with
  | nil => simp [valB]
  | cons x l ih =>
    simp only [valB, List.length_cons, Nat.pow_succ]
    omega
theorem val_one (c : UInt8) (h : c.toNat < 128) : valB [c] = c.toNat := by
  simp only [valB]; omega
theorem num_of (l : List UInt8) (c : UInt8) (hl : Hi l) (hc : c.toNat < 128) (h0 : c.toNat ≠ 0 ∨ l = []) : num (valB (l ++ [c])) = l ++ [c] := by
  induction l with
  | nil =>
    rw [List.nil_append, val_one c hc, num_lt hc]
    congr 1
    exact u8_eq (ofNat_toNat (by omega))
  | cons x l ih =>
    have hc0 : c.toNat ≠ 0 := by
      rcases h0 with h0 | h0
      · exact h0
      · cases h0
    have hx := hl x List.mem_cons_self
    have hx2 := u8_lt x
    have hpos : 0 < valB (l ++ [c]) := by
      rw [val_app, val_one c hc]
      have : 0 < 128 ^ l.length * c.toNat := Nat.mul_pos (Nat.pow_pos (by omega)) (by omega)
      omega
    have e : valB ((x :: l) ++ [c]) = x.toNat % 128 + 128 * valB (l ++ [c]) := rfl
    rw [e, num_ge (by omega)]
    have e1 : (x.toNat % 128 + 128 * valB (l ++ [c])) / 128 = valB (l ++ [c]) := by omega
    have e2 : (x.toNat % 128 + 128 * valB (l ++ [c])) % 128 + 128 = x.toNat := by omega
    rw [e1, e2, ih (fun y hy => hl y (List.mem_cons_of_mem _ hy)) (.inl hc0)]
    show UInt8.ofNat x.toNat :: (l ++ [c]) = x :: (l ++ [c])
    congr 1
    exact u8_eq (ofNat_toNat hx2)
theorem num_pos (n : Nat) : 1 ≤ (num n).length := by
  obtain ⟨l, c, h, _⟩ := num_form n
  rw [h]; simp
/-- Which numbers have 64 bits. -/
theorem val_64 (l : List UInt8) (c : UInt8) (hc : c.toNat < 128) (h0 : c.toNat ≠ 0 ∨ l = []) : valB (l ++ [c]) < 2 ^ 64 ↔ l.length ≤ 9 ∧ (l.length = 9 → c.toNat ≤ 1) := by
  rw [val_app, val_one c hc]
  have hv := val_lt l
  by_cases h9 : l.length < 9
  · have h1 : 128 ^ l.length ≤ 128 ^ 8 := Nat.pow_le_pow_right (by omega) (by omega)
    have h2 : 128 ^ l.length * c.toNat ≤ 128 ^ 8 * 127 := Nat.mul_le_mul h1 (by omega)
    have h3 : (128 : Nat) ^ 8 = 72057594037927936 := by decide
    have h4 : (2 : Nat) ^ 64 = 18446744073709551616 := by decide
    rw [h3] at h1 h2
    rw [h4]
    constructor
    · intro _; omega
    · intro _; omega
  · by_cases h10 : l.length = 9
    · rw [h10] at hv ⊢
      have h3 : (128 : Nat) ^ 9 = 9223372036854775808 := by decide
      have h4 : (2 : Nat) ^ 64 = 18446744073709551616 := by decide
      rw [h3] at hv ⊢
      rw [h4]
      omega
    · have h1 : 128 ^ 10 ≤ 128 ^ l.length := Nat.pow_le_pow_right (by omega) (by omega)
      have h3 : (128 : Nat) ^ 10 = 1180591620717411303424 := by decide
      have h4 : (2 : Nat) ^ 64 = 18446744073709551616 := by decide
      have hc0 : 1 ≤ c.toNat := by
        rcases h0 with h0 | h0
        · omega
        · rw [h0] at h9; simp at h9
      have h2 : 128 ^ l.length * 1 ≤ 128 ^ l.length * c.toNat := Nat.mul_le_mul_left _ hc0
      rw [h3] at h1
      rw [h4]
      omega
theorem num_len10 {n : Nat} (h : n < 2 ^ 64) : (num n).length ≤ 10 := by
  obtain ⟨l, c, h1, h2, h3, h4⟩ := num_form n
  have hv := val_num n
  rw [h1] at hv
  have := ((val_64 l c h3 h4).1 (by rw [hv]; exact h)).1
  rw [h1, List.length_append]
  simp only [List.length_cons, List.length_nil]
  omega
/-- The number that bytes begin with, and what stands behind it. -/
def rd (b : List UInt8) : Option (Nat × List UInt8) :=
  match b.dropWhile (fun c => decide (128 ≤ c.toNat)) with
  | [] => none
  | c :: r => if (b.takeWhile fun c => decide (128 ≤ c.toNat)).length ≤ 9 ∧ (c.toNat ≠ 0 ∨ (b.takeWhile fun c => decide (128 ≤ c.toNat)) = []) ∧ ((b.takeWhile fun c => decide (128 ≤ c.toNat)).length = 9 → c.toNat ≤ 1) then some (valB ((b.takeWhile fun c => decide (128 ≤ c.toNat)) ++ [c]), r) else none
theorem dw_hi {b : List UInt8} (h : Hi b) : b.dropWhile (fun c => decide (128 ≤ c.toNat)) = [] := by
  induction b with
  | nil => rfl
  | cons x b ih =>
    rw [List.dropWhile_cons, if_pos (by simpa using h x List.mem_cons_self)]
    exact ih fun y hy => h y (List.mem_cons_of_mem _ hy)
theorem rd_hi {b : List UInt8} (h : Hi b) : rd b = none := by
  have : b.dropWhile (fun c => decide (128 ≤ c.toNat)) = [] := by
    have := dw_hi h
    exact this
  unfold rd
  rw [this]
theorem tw_app {l : List UInt8} (hl : Hi l) (m : List UInt8) : (l ++ m).takeWhile (fun c => decide (128 ≤ c.toNat)) = l ++ m.takeWhile (fun c => decide (128 ≤ c.toNat)) := by
  rw [List.takeWhile_append_of_pos]
  intro x hx
  simpa using hl x hx
theorem dw_app {l : List UInt8} (hl : Hi l) (m : List UInt8) : (l ++ m).dropWhile (fun c => decide (128 ≤ c.toNat)) = m.dropWhile (fun c => decide (128 ≤ c.toNat)) := by
  rw [List.dropWhile_append_of_pos]
  intro x hx
  simpa using hl x hx
theorem rd_app {l : List UInt8} (hl : Hi l) (c : UInt8) (hc : c.toNat < 128) (r : List UInt8) : rd (l ++ c :: r) = if l.length ≤ 9 ∧ (c.toNat ≠ 0 ∨ l = []) ∧ (l.length = 9 → c.toNat ≤ 1) then some (valB (l ++ [c]), r) else none := by
  have hd : (decide (128 ≤ c.toNat)) = false := decide_eq_false (by omega)
  unfold rd
  rw [dw_app hl, tw_app hl, List.dropWhile_cons, List.takeWhile_cons, hd]
  simp
theorem rd_long {l : List UInt8} (hl : Hi l) (h : 10 ≤ l.length) (r : List UInt8) : rd (l ++ r) = none := by
  unfold rd
  rw [dw_app hl, tw_app hl]
  split
  · rfl
  · rw [if_neg]
    rw [List.length_append]
    omega
theorem hi_split (b : List UInt8) : Hi b ∨ ∃ l c r, b = l ++ c :: r ∧ Hi l ∧ c.toNat < 128 := by
  induction b with
  | nil => exact .inl fun _ h => absurd h (by simp)
  | cons x b ih =>
    by_cases hx : x.toNat < 128
    · exact .inr ⟨[], x, b, rfl, fun _ h => absurd h (by simp), hx⟩
    · rcases ih with ih | ⟨l, c, r, h1, h2, h3⟩
      · refine .inl fun y hy => ?_
        rcases List.mem_cons.1 hy with rfl | hy
        · omega
        · exact ih y hy
      · refine .inr ⟨x :: l, c, r, by rw [h1]; rfl, fun y hy => ?_, h3⟩
        rcases List.mem_cons.1 hy with rfl | hy
        · omega
        · exact h2 y hy
theorem rd_some {b : List UInt8} {n : Nat} {r : List UInt8} (h : rd b = some (n, r)) : b = num n ++ r ∧ n < 2 ^ 64 := by
  rcases hi_split b with hb | ⟨l, c, r', rfl, hl, hc⟩
  · rw [rd_hi hb] at h; cases h
  · rw [rd_app hl c hc] at h
    split at h
    · rename_i hh
      cases h
      exact ⟨by rw [num_of l c hl hc hh.2.1, List.append_assoc]; rfl, (val_64 l c hc hh.2.1).2 ⟨hh.1, hh.2.2⟩⟩
    · cases h
/-- What the law's own reader compares. -/
theorem num_mod {l : List UInt8} (hl : Hi l) (c : UInt8) (hc : c.toNat < 128) (h9 : l.length ≤ 9) : num (valB (l ++ [c]) % 2 ^ 64) = l ++ [c] ↔ (c.toNat ≠ 0 ∨ l = []) ∧ (l.length = 9 → c.toNat ≤ 1) := by
  constructor
  · intro h
    obtain ⟨l', c', h1, h2, h3, h4⟩ := num_form (valB (l ++ [c]) % 2 ^ 64)
    rw [h] at h1
    have h5 := List.append_inj_left' h1 rfl
    have h6 := List.append_inj_right' h1 rfl
    cases h6
    subst h5
    have hv := val_num (valB (l ++ [c]) % 2 ^ 64)
    rw [h] at hv
    have : valB (l ++ [c]) < 2 ^ 64 := by rw [hv]; exact Nat.mod_lt _ (by decide)
    exact ⟨h4, ((val_64 l c hc h4).1 this).2⟩
  · rintro ⟨h4, h5⟩
    have := (val_64 l c hc h4).2 ⟨h9, h5⟩
    rw [Nat.mod_eq_of_lt this, num_of l c hl hc h4]
theorem rd_len {b r : List UInt8} {n : Nat} (h : rd b = some (n, r)) : b.length = (num n).length + r.length := by
  rw [(rd_some h).1, List.length_append]
end Go.Sm
/- Chains of versions as lists: plain facts. -/
namespace Go.Sm

structure Ver where
  at_ : Int
  val : ByteArray
  gone : Bool
  deriving DecidableEq

/-- The times rise. -/
def Srt (c : List Ver) : Prop := c.Pairwise fun a b => a.at_ < b.at_
/-- The version of a time. -/
def lk (c : List Ver) (t : Int) : Option Ver := c.find? fun v => v.at_ == t

theorem get_mem_drop {α : Type} {l : List α} {k : Nat} (h : k < l.length) : l[k] ∈ l.drop k := by rw [List.drop_eq_getElem_cons h]; exact List.mem_cons_self
theorem lk_none_of {c : List Ver} {t : Int} (h : ∀ v ∈ c, v.at_ ≠ t) : lk c t = none := by
  simp only [lk, List.find?_eq_none]
  intro v hv
  simpa using h v hv
theorem lk_cons (v : Ver) (c : List Ver) (t : Int) : lk (v :: c) t = if v.at_ = t then some v else lk c t := by
  simp only [lk, List.find?_cons]
  by_cases h : v.at_ = t
  · simp [h]
  · have : (v.at_ == t) = false := by simpa using h
    rw [this, if_neg h]
theorem lk_append (c d : List Ver) (t : Int) : lk (c ++ d) t = (lk c t).or (lk d t) := by simp [lk, List.find?_append]
theorem lk_some {c : List Ver} {t : Int} {v : Ver} (h : lk c t = some v) : v ∈ c ∧ v.at_ = t := by
  simp only [lk] at h
  exact ⟨List.mem_of_find?_eq_some h, by simpa using List.find?_some h⟩
theorem Srt.tail {v : Ver} {c : List Ver} (h : Srt (v :: c)) : Srt c := (List.pairwise_cons.1 h).2
theorem Srt.head {v : Ver} {c : List Ver} (h : Srt (v :: c)) : ∀ u ∈ c, v.at_ < u.at_ := (List.pairwise_cons.1 h).1
theorem Srt.lk_mem {c : List Ver} (h : Srt c) {v : Ver} (hv : v ∈ c) : lk c v.at_ = some v := by
  induction c with
  | nil => cases hv
  | cons u c ih =>
    rw [lk_cons]
    rcases List.mem_cons.1 hv with rfl | hv
    · simp
    · have := h.head v hv
      rw [if_neg (by omega)]
      exact ih h.tail hv
theorem Srt.ext : ∀ {c d : List Ver}, Srt c → Srt d → (∀ t, lk c t = lk d t) → c = d
  | [], [], _, _, _ => rfl
  | [], v :: d, _, _, h => by have := h v.at_; rw [lk_cons, if_pos rfl] at this; cases this
  | v :: c, [], _, _, h => by have := h v.at_; rw [lk_cons, if_pos rfl] at this; cases this
  | u :: c, v :: d, hc, hd, h => by
    have h1 := h u.at_
    rw [lk_cons, if_pos rfl, lk_cons] at h1
    have h2 := h v.at_
    rw [lk_cons, lk_cons, if_pos rfl] at h2
    have he : u = v := by
      by_cases e : v.at_ = u.at_
      · rw [if_pos e] at h1; exact Option.some.inj h1
      · rw [if_neg e] at h1
        rw [if_neg (Ne.symm e)] at h2
        have a := hd.head u (lk_some h1.symm).1
        have b := hc.head v (lk_some h2).1
        omega
    subst he
    rw [Srt.ext hc.tail hd.tail fun t => by
      have := h t
      rw [lk_cons, lk_cons] at this
      by_cases e : u.at_ = t
      · rw [lk_none_of fun x hx => by have := hc.head x hx; omega, lk_none_of fun x hx => by have := hd.head x hx; omega]
      · rwa [if_neg e, if_neg e] at this]

/-! ### A version more -/
def putL (c : List Ver) (v : Ver) : List Ver := (c.filter fun u => decide (u.at_ < v.at_)) ++ v :: c.filter fun u => decide (v.at_ < u.at_)
theorem Srt.filter {c : List Ver} (h : Srt c) (p : Ver → Bool) : Srt (c.filter p) := List.Pairwise.filter p h
theorem Srt.put {c : List Ver} (h : Srt c) (v : Ver) : Srt (putL c v) := by
  unfold putL Srt
  rw [List.pairwise_append]
  refine ⟨h.filter _, List.pairwise_cons.2 ⟨fun u hu => by simp at hu; exact hu.2, h.filter _⟩, fun a ha b hb => ?_⟩
  simp at ha hb
  rcases hb with rfl | hb
  · exact ha.2
  · omega
theorem lk_filter {c : List Ver} (p : Ver → Bool) (t : Int) (hp : ∀ v, v.at_ = t → p v = true) : lk (c.filter p) t = lk c t := by
  induction c with
  | nil => rfl
  | cons v c ih =>
    rw [List.filter_cons, lk_cons]
    by_cases e : v.at_ = t
    · rw [if_pos (hp v e), lk_cons, if_pos e, if_pos e]
    · rw [if_neg e]
      split
      · rw [lk_cons, if_neg e, ih]
      · exact ih
theorem lk_filter_none {c : List Ver} (p : Ver → Bool) (t : Int) (hp : ∀ v, v.at_ = t → p v = false) : lk (c.filter p) t = none :=
  lk_none_of fun v hv e => by
    have := (List.mem_filter.1 hv).2
    rw [hp v e] at this
    cases this
theorem lk_put (c : List Ver) (v : Ver) (t : Int) : lk (putL c v) t = if v.at_ = t then some v else lk c t := by
  unfold putL
  rw [lk_append, lk_cons]
  by_cases e : v.at_ = t
  · rw [if_pos e, if_pos e, lk_filter_none _ t fun u hu => by simp; omega]; rfl
  · rw [if_neg e, if_neg e]
    by_cases h : t < v.at_
    · rw [lk_filter _ t fun u hu => by simp; omega, lk_filter_none _ t fun u hu => by simp; omega, Option.or_none]
    · rw [lk_filter_none _ t fun u hu => by simp; omega, lk_filter _ t fun u hu => by simp; omega, Option.none_or]

/-! ### By definition -/
def makeL (l : List Ver) : List Ver := l.foldl putL []
def lastAt (l : List Ver) (t : Int) : Option Ver := (l.filter fun v => v.at_ == t).getLast?
def plainL (l : List Ver) : List Ver := (List.range 256).filterMap fun t : Nat => lastAt l t
theorem lastAt_snoc (l : List Ver) (v : Ver) (t : Int) : lastAt (l ++ [v]) t = if v.at_ = t then some v else lastAt l t := by
  unfold lastAt
  rw [List.filter_append]
  by_cases e : v.at_ = t <;> simp [e]
theorem makeL_snoc (l : List Ver) (v : Ver) : makeL (l ++ [v]) = putL (makeL l) v := by simp [makeL]
theorem lastAt_at {l : List Ver} {t : Int} {v : Ver} (h : lastAt l t = some v) : v ∈ l ∧ v.at_ = t := by
  have := List.mem_of_getLast? h
  simpa using this
theorem rev_ind {α : Type} {P : List α → Prop} (h0 : P []) (h1 : ∀ l a, P l → P (l ++ [a])) (l : List α) : P l := by
  have : ∀ m : List α, P m.reverse := by
    intro m
    induction m with
    | nil => exact h0
    | cons a m ih => rw [List.reverse_cons]; exact h1 _ _ ih
  have := this l.reverse
  rwa [List.reverse_reverse] at this
theorem makeL_srt (l : List Ver) : Srt (makeL l) := rev_ind (P := fun l => Srt (makeL l)) List.Pairwise.nil (fun l v ih => by rw [makeL_snoc]; exact ih.put v) l
theorem lk_makeL (l : List Ver) (t : Int) : lk (makeL l) t = lastAt l t :=
  rev_ind (P := fun l => lk (makeL l) t = lastAt l t) rfl (fun l v ih => by rw [makeL_snoc, lk_put, lastAt_snoc, ih]) l
theorem range_srt (l : List Ver) : ∀ (n : Nat), Srt ((List.range n).filterMap fun t : Nat => lastAt l t) ∧ (∀ v ∈ ((List.range n).filterMap fun t : Nat => lastAt l t), v.at_ < n) ∧
    ∀ t : Int, lk ((List.range n).filterMap fun t : Nat => lastAt l t) t = if 0 ≤ t ∧ t < n then lastAt l t else none
  | 0 => ⟨List.Pairwise.nil, by simp, fun t => by simp [lk]; intro h h'; omega⟩
  | n + 1 => by
    obtain ⟨h1, h2, h3⟩ := range_srt l n
    have hone : ∀ t : Int, lk ([n].filterMap fun t : Nat => lastAt l t) t = if t = n then lastAt l t else none := by
      intro t
      cases hl : lastAt l (n : Int) with
      | none => by_cases e : t = n <;> simp [hl, lk, e]
      | some v =>
        have := (lastAt_at hl).2
        simp only [List.filterMap_cons, hl, List.filterMap_nil, lk_cons, this]
        by_cases e : t = n
        · subst e; simp [hl]
        · rw [if_neg (Ne.symm e), if_neg e]; rfl
    have hmem : ∀ v ∈ ([n].filterMap fun t : Nat => lastAt l t), v.at_ = n := by
      intro v hv
      simp at hv
      exact (lastAt_at hv).2
    simp only [List.range_succ, List.filterMap_append]
    refine ⟨?_, fun v hv => ?_, fun t => ?_⟩
    · unfold Srt
      rw [List.pairwise_append]
      refine ⟨h1, ?_, fun a ha b hb => ?_⟩
      · simp only [List.filterMap_cons, List.filterMap_nil]
        split <;> simp
      · rw [hmem b hb]; exact h2 a ha
    · rcases List.mem_append.1 hv with hv | hv
      · have := h2 v hv; omega
      · have := hmem v hv; omega
    · rw [lk_append, h3, hone]
      by_cases a : 0 ≤ t ∧ t < n
      · rw [if_pos a, if_neg (by omega), if_pos (by omega), Option.or_none]
      · rw [if_neg a, Option.none_or]
        by_cases b : t = n
        · rw [if_pos b, if_pos (by omega)]
        · rw [if_neg b, if_neg (by omega)]
theorem make_plain (l : List Ver) (h : ∀ v ∈ l, 0 ≤ v.at_ ∧ v.at_ < 256) : makeL l = plainL l := by
  obtain ⟨h1, _, h3⟩ := range_srt l 256
  refine Srt.ext (makeL_srt l) h1 fun t => ?_
  unfold plainL
  rw [lk_makeL, h3]
  by_cases a : 0 ≤ t ∧ t < (256 : Nat)
  · rw [if_pos a]
  · rw [if_neg a]
    cases hl : lastAt l t with
    | none => rfl
    | some v =>
      obtain ⟨m, e⟩ := lastAt_at hl
      have := h v m
      omega

/-! ### What a search finds -/
theorem filter_take {α : Type} {l : List α} {k : Nat} (p : α → Bool) (h1 : ∀ x ∈ l.take k, p x = true) (h2 : ∀ x ∈ l.drop k, p x = false) : l.filter p = l.take k := by
  conv => lhs; rw [← List.take_append_drop k l]
  rw [List.filter_append, List.filter_eq_self.2 h1, List.filter_eq_nil_iff.2 fun x hx => by simp [h2 x hx], List.append_nil]
theorem filter_drop {α : Type} {l : List α} {k : Nat} (p : α → Bool) (h1 : ∀ x ∈ l.take k, p x = false) (h2 : ∀ x ∈ l.drop k, p x = true) : l.filter p = l.drop k := by
  conv => lhs; rw [← List.take_append_drop k l]
  rw [List.filter_append, List.filter_eq_self.2 h2, List.filter_eq_nil_iff.2 fun x hx => by simp [h1 x hx], List.nil_append]
/-- What the search tells: how many are below a time. -/
structure Found (c : List Ver) (t : Int) (k : Nat) : Prop where
  le : k ≤ c.length
  lo : ∀ v ∈ c.take k, v.at_ < t
  hi : ∀ v ∈ c.drop k, t ≤ v.at_
theorem Found.lk {c : List Ver} {t : Int} {k : Nat} (hs : Srt c) (h : Found c t k) : Sm.lk c t = if h : k < c.length then (if c[k].at_ = t then some c[k] else none) else none := by
  have e1 : c.take k ++ c.drop k = c := List.take_append_drop k c
  rw [← e1, lk_append, lk_none_of (c := c.take k) fun v hv => by have := h.lo v hv; omega, Option.none_or, e1]
  split
  · rename_i hk
    rw [List.drop_eq_getElem_cons hk, lk_cons]
    split
    · rfl
    · rename_i hne
      have h1 := h.hi c[k] (get_mem_drop hk)
      refine lk_none_of fun v hv => ?_
      have hs2 : Srt (c.drop k) := List.Pairwise.sublist (List.drop_sublist k c) hs
      rw [List.drop_eq_getElem_cons hk] at hs2
      have := hs2.head v hv
      omega
  · rw [List.drop_of_length_le (by omega)]; rfl
theorem Found.put_ins {c : List Ver} {v : Ver} {k : Nat} (hs : Srt c) (h : Found c v.at_ k) (hn : ∀ hk : k < c.length, c[k].at_ ≠ v.at_) : putL c v = c.take k ++ v :: c.drop k := by
  unfold putL
  rw [filter_take (k := k) _ (fun x hx => by simpa using h.lo x hx) fun x hx => by simpa using h.hi x hx]
  rw [filter_drop (k := k) _ (fun x hx => by have := h.lo x hx; simp; omega) fun x hx => ?_]
  have h1 := h.hi x hx
  have hk : k < c.length := by
    by_cases hk : k < c.length
    · exact hk
    · rw [List.drop_of_length_le (by omega)] at hx; cases hx
  have h2 := hn hk
  have hs2 : Srt (c.drop k) := List.Pairwise.sublist (List.drop_sublist k c) hs
  have h3 := h.hi c[k] (get_mem_drop hk)
  rw [List.drop_eq_getElem_cons hk] at hx hs2
  rcases List.mem_cons.1 hx with rfl | hx
  · simp; omega
  · have := hs2.head x hx
    simp; omega
theorem Found.put_set {c : List Ver} {v : Ver} {k : Nat} (hs : Srt c) (h : Found c v.at_ k) (hk : k < c.length) (he : c[k].at_ = v.at_) : putL c v = c.set k v := by
  unfold putL
  rw [filter_take (k := k) _ (fun x hx => by simpa using h.lo x hx) fun x hx => by simpa using h.hi x hx]
  rw [filter_drop (k := k + 1) _ (fun x hx => ?_) fun x hx => ?_]
  · rw [List.set_eq_take_append_cons_drop, if_pos hk]
  · rw [List.take_succ_eq_append_getElem hk] at hx
    simp only [List.mem_append, List.mem_singleton] at hx
    rcases hx with hx | rfl
    · have := h.lo x hx; simp; omega
    · simp; omega
  · have hs2 : Srt (c.drop k) := List.Pairwise.sublist (List.drop_sublist k c) hs
    rw [List.drop_eq_getElem_cons hk] at hs2
    have := hs2.head x hx
    simp; omega

/-! ### The last one up to a time -/
end Go.Sm
/- Records as bytes (no program). -/
set_option linter.unusedVariables false
set_option linter.unusedSimpArgs false
namespace Go.Sm
def byt (s : ByteArray) : List UInt8 := s.data.toList
def str (l : List UInt8) : ByteArray := ⟨l.toArray⟩
theorem byt_str (l : List UInt8) : byt (str l) = l := by simp [byt, str]
theorem str_byt (s : ByteArray) : str (byt s) = s := by cases s; simp [byt, str]
theorem size_str (l : List UInt8) : (str l).size = l.length := by simp [str, ByteArray.size]
theorem len_byt (s : ByteArray) : (byt s).length = s.size := by simp [byt]
/-- A text that bytes begin with. -/
def rdText (most : Nat) (b : List UInt8) : Option (ByteArray × List UInt8) :=
  (rd b).bind fun p => if p.1 ≤ p.2.length ∧ p.1 ≤ most then some (str (p.2.take p.1), p.2.drop p.1) else none
/-- A version's value that bytes begin with. -/
def rdVer (at_ : Int) (b : List UInt8) : Option (Ver × List UInt8) :=
  (rd b).bind fun p => if p.1 = 0 then some (⟨at_, str [], true⟩, p.2) else if p.1 ≤ 201 ∧ p.1 - 1 ≤ p.2.length then some (⟨at_, str (p.2.take (p.1 - 1)), false⟩, p.2.drop (p.1 - 1)) else none
def serText (s : ByteArray) : List UInt8 := num s.size ++ byt s
def serVer (v : Ver) : List UInt8 := if v.gone then [0] else num (v.val.size + 1) ++ byt v.val
structure Wri where
  key : ByteArray
  ver : Ver
  deriving DecidableEq
structure Rcd where
  at_ : Nat
  ws : List Wri
  deriving DecidableEq
def GoodV (v : Ver) : Prop := (v.gone = true → v.val = str []) ∧ v.val.size ≤ 200
def GoodW (at_ : Int) (w : Wri) : Prop := 1 ≤ w.key.size ∧ w.key.size ≤ 32 ∧ GoodV w.ver ∧ w.ver.at_ = at_
/-- Keys rise. -/
def Rise (l : List Wri) : Prop := l.Pairwise fun a c => klt a.key c.key = true
structure GoodR (r : Rcd) : Prop where
  at1 : 1 ≤ r.at_
  at2 : r.at_ ≤ 2 ^ 40
  ws : ∀ w ∈ r.ws, GoodW r.at_ w
  rise : Rise r.ws
end Go.Sm
/- code.Writer: numbers, texts; a version's value. -/
set_option linter.unusedVariables false
set_option linter.unusedSimpArgs false
namespace Go.Sm
open Go Go.Proofs
set_option maxRecDepth 100000
set_option maxHeartbeats 4000000
def encV (v : Ver) : List Value := [.int .u64 v.at_, .string v.val, .bool v.gone]
def TW : TypeId → Prop := fun t => t = 27 ∨ t = 5
instance : DecidablePred TW := fun t => inferInstanceAs (Decidable (t = 27 ∨ t = 5))
/-- A writer: its bytes so far. -/
def Wt (b p : Nat) (σ : CSt) (l : List UInt8) : Prop := ∃ v, σ.get p = some (.cells [v] 27 false) ∧ b ≤ p ∧ p < σ.n ∧ Own b σ 5 encY v l
theorem app_fr {b : Nat} {σ σ' : CSt} {v : Value} {l : List UInt8} (hown : Own b σ 5 encY v l) (hn : σ.n ≤ σ'.n) (hf : ∀ j, j < σ.n → (∀ i off n c, v = .slice (some ⟨i, off, none⟩) n c → j ≠ i) → σ'.get j = σ.get j) : Fr (fun t => t = 5) b σ σ' := by
  refine ⟨hn, fun j hj hc => hf j hj fun i off n c hv => ?_⟩
  rintro rfl
  rcases hown with ⟨h1, _⟩ | ⟨i', cap, h1, hb, hi, hg, _⟩
  · rw [h1] at hv; cases hv
  · rw [h1] at hv
    cases hv
    rcases hc with hc | hc
    · omega
    · exact hc _ _ _ hg rfl
theorem wapp_sl {b : Nat} {σ : CSt} {v x : Value} {l m : List UInt8} (hw : Own b σ 5 encY v l) (hb : b ≤ σ.n) (hx : Sl σ 5 1 encY x m) (hbig : l.length + m.length ≤ 2 ^ 47) :
    ∃ q c σ', appendOp Tryz.prog σ #[25, 25] v x = some (.slice q (l.length + m.length) c, σ') ∧ Own b σ' 5 encY (.slice q (l.length + m.length) c) (l ++ m) ∧ Fr (fun t => t = 5) b σ σ' := by
  obtain ⟨v', σ', a1, a2, a3, a4, _⟩ := append_only (P := Tryz.prog) (ts := #[25, 25]) (e := 5) (sz := 1) (enc := encY) (l := l) (m := m) (b := b) ef25 (by simp) encY_len encY_cok rfl (by decide) (by decide) rfl hw hb hx (by show _ * 1 ≤ _; omega) (by omega)
  obtain ⟨q, c, rfl⟩ := (a2.sl (sz := 1) encY_len).form
  rw [List.length_append] at a1 a2
  exact ⟨q, c, σ', a1, a2, app_fr hw a3.1 a4⟩
theorem Wt.fr {b p : Nat} {σ σ1 : CSt} {v : Value} {l : List UInt8} (hn : σ.n ≤ σ1.n) (hp : b ≤ p) (hpn : p < σ.n) (hown : Own b σ1 5 encY v l) (h1p : ∃ w, σ1.get p = some (.cells [w] 27 false)) : Wt b p (σ1.put p (.cells [v] 27 false)) l := by
  refine ⟨v, by simp, hp, by simp; omega, ?_⟩
  obtain ⟨w, h1p⟩ := h1p
  rcases hown with h | ⟨i, cap, h1, hb, hi, hg, h2⟩
  · exact .inl h
  · refine .inr ⟨i, cap, h1, hb, hi, ?_, h2⟩
    rw [CSt.get_put, if_neg]
    · exact hg
    · rintro rfl
      rw [h1p] at hg
      injection hg with e1
      injection e1 with e2 e3 e4
      exact absurd e3 (by decide)
theorem fr_TW {b : Nat} {σ σ' : CSt} (h : Fr (fun t => t = 5) b σ σ') : Fr TW b σ σ' := h.mono (fun _ => .inr) (Nat.le_refl _)
/-- What stands in it is written back. -/
theorem Wt.back {b p : Nat} {σ σ0 σ1 : CSt} {v v1 : Value} {l : List UInt8} (hgp : σ.get p = some (.cells [v] 27 false)) (hp : b ≤ p) (hpn : p < σ.n) (g : Grow σ σ0) (f : Fr (fun t => t = 5) b σ0 σ1) (hown : Own b σ1 5 encY v1 l) :
    σ1.get p = some (.cells [v] 27 false) ∧ Wt b p (σ1.put p (.cells [v1] 27 false)) l ∧ Fr TW b σ (σ1.put p (.cells [v1] 27 false)) := by
  have h0 := g.get hgp hpn
  have gn := g.n
  have h1 : σ1.get p = some (.cells [v] 27 false) := f.get h0 (by omega) (.inr fun row e ro he => by cases he; decide)
  have fn := f.1
  exact ⟨h1, Wt.fr (σ := σ) (by omega) hp hpn hown ⟨_, h1⟩, (g.fr.trans (fr_TW f)).put hp h1 (.inl rfl) _⟩
theorem u8_of (m : Nat) : IntKind.u8.wrap (m : Int) = ((m % 256 : Nat) : Int) := by
  have : IntKind.u8.wrap (m : Int) = (m : Int) % 2 ^ 8 := by simp [IntKind.wrap, IntKind.bits, IntKind.signed]
  rw [this]
  omega
theorem byte_of (n : Nat) (h : n < 256) : ∃ c : UInt8, c.toNat = n := ⟨UInt8.ofNat n, ofNat_toNat h⟩
theorem Wt.grow {b p : Nat} {σ σ' : CSt} {l : List UInt8} (h : Wt b p σ l) (g : Grow σ σ') : Wt b p σ' l := by
  obtain ⟨v, h1, h2, h3, h4⟩ := h
  have := g.n
  exact ⟨v, g.get h1 h3, h2, by omega, h4.grow g⟩
/-- A version's time and value. -/
def serV (x : Ver) : List UInt8 := num x.at_.toNat ++ serVer x
end Go.Sm
/- Loops by goto. -/
set_option linter.unusedVariables false
set_option linter.unusedSimpArgs false
namespace Go.Sm
open Go
section
variable {E : Env}
/-- What a round of such a loop ends with. -/
def kgo (E : Env) (x : Ctx) (B Z : Code) (I : Nat → CAct → CSt → Prop) (n : Nat) (Q : Out → CSt → Prop) : Out → CSt → Prop := fun o σ => match o with
  | .code (.goto 1) a => ∃ m, m < n ∧ I m a σ
  | .code (.goto 0) a => W E (.code x Z a) σ (kscope E x B Q)
  | o => kscope E x B Q o σ
@[simp] theorem kgo_goto1 {x : Ctx} {B Z : Code} {I : Nat → CAct → CSt → Prop} {n : Nat} {Q : Out → CSt → Prop} {a : CAct} {σ : CSt} : kgo E x B Z I n Q (.code (.goto 1) a) σ = ∃ m, m < n ∧ I m a σ := (rfl)
@[simp] theorem kgo_goto0 {x : Ctx} {B Z : Code} {I : Nat → CAct → CSt → Prop} {n : Nat} {Q : Out → CSt → Prop} {a : CAct} {σ : CSt} : kgo E x B Z I n Q (.code (.goto 0) a) σ = W E (.code x Z a) σ (kscope E x B Q) := (rfl)
@[simp] theorem kgo_normal {x : Ctx} {B Z : Code} {I : Nat → CAct → CSt → Prop} {n : Nat} {Q : Out → CSt → Prop} {a : CAct} {σ : CSt} : kgo E x B Z I n Q (.code .normal a) σ = Q (.code .normal a) σ := (rfl)
@[simp] theorem kgo_ret {x : Ctx} {B Z : Code} {I : Nat → CAct → CSt → Prop} {n : Nat} {Q : Out → CSt → Prop} {a : CAct} {σ : CSt} : kgo E x B Z I n Q (.code .ret a) σ = Q (.code .ret a) σ := (rfl)
@[simp] theorem kgo_exit {x : Ctx} {B Z : Code} {I : Nat → CAct → CSt → Prop} {n : Nat} {Q : Out → CSt → Prop} {i : Nat} {a : CAct} {σ : CSt} : kgo E x B Z I n Q (.code (.exit i) a) σ = Q (.code (.exit i) a) σ := (rfl)
@[simp] theorem kgo_panic {x : Ctx} {B Z : Code} {I : Nat → CAct → CSt → Prop} {n : Nat} {Q : Out → CSt → Prop} {v : Value} {a : CAct} {σ : CSt} : kgo E x B Z I n Q (.code (.panic v) a) σ = Q (.code (.panic v) a) σ := (rfl)
theorem goto_loop {x : Ctx} {B T Z : Code} {Q : Out → CSt → Prop} (h1 : findLabel B 1 = some (.seq .skip T)) (h0 : findLabel B 0 = some Z) (I : Nat → CAct → CSt → Prop)
    (hstep : ∀ n a σ, I n a σ → W E (.code x T a) σ (kgo E x B Z I n Q)) : ∀ n a σ, I n a σ → W E (.code x T a) σ (kscope E x B Q) := by
  intro n
  induction n using Nat.strongRecOn with
  | _ n ih =>
    intro a σ h
    refine (hstep n a σ h).weaken fun o s ho => ?_
    unfold kgo at ho
    split at ho
    · rename_i a'
      obtain ⟨m, hm, hi⟩ := ho
      have := ih m hm a' s hi
      simp only [kscope, h1, W_scoped]
      rw [W_seq, W_skip]
      simpa only [kseq_normal] using this
    · rename_i a'
      simp only [kscope, h0, W_scoped]
      exact ho
    · exact ho
theorem goto_start {x : Ctx} {r T Z : Code} {Q : Out → CSt → Prop} (h1 : findLabel r 1 = none) (h0 : findLabel (.seq r (.seq (.label 1) T)) 0 = some Z) (I : Nat → CAct → CSt → Prop)
    (hstep : ∀ n a σ, I n a σ → W E (.code x T a) σ (kgo E x (.seq r (.seq (.label 1) T)) Z I n Q)) (n : Nat) {a : CAct} {σ : CSt} (hf : W E (.code x r a) σ fun o s => ∃ a', o = .code .normal a' ∧ I n a' s) : W E (.code x (.scope (.seq r (.seq (.label 1) T))) a) σ Q := by
  rw [W_scope, W_scoped, W_seq]
  refine hf.weaken fun o s ho => ?_
  obtain ⟨a', rfl, hi⟩ := ho
  rw [kseq_normal, W_seq, W_label, kseq_normal]
  exact goto_loop (by simp [findLabel, h1]) h0 I hstep n a' s hi
end
end Go.Sm
/- code.Reader: numbers. -/
set_option linter.unusedVariables false
set_option linter.unusedSimpArgs false
namespace Go.Sm
open Go Go.Proofs
set_option maxRecDepth 100000
set_option maxHeartbeats 4000000
def TR : TypeId → Prop := fun t => t = 41
instance : DecidablePred TR := fun t => inferInstanceAs (Decidable (t = 41))
/-- A reader: what is left; nothing, if something was none. -/
def Ro (b p : Nat) (σ : CSt) (o : Option (List UInt8)) : Prop := ∃ v l, σ.get p = some (.cells [v, .bool o.isNone] 41 false) ∧ b ≤ p ∧ p < σ.n ∧ Sl σ 5 1 encY v l ∧ (∀ m, o = some m → l = m) ∧ l.length < 2 ^ 40
theorem cell_y {l : List UInt8} {row : List Value} {off : Nat} (h : (row.drop off).take (l.length * 1) = l.flatMap encY) (k : Nat) (hk : k < l.length) : row[off + k]? = some (.int .u8 l[k].toNat) := by
  have := row_cell (enc := encY) encY_len h k 0 hk (by decide)
  rw [Nat.mul_one, Nat.add_zero] at this
  rw [this]
  rfl
/-- s[k:], s[:k], s[j:k] of bytes. -/
theorem ysl_tail {σ : CSt} {v : Value} {l : List UInt8} (h : Sl σ 5 1 encY v l) (k : Nat) (hk : k ≤ l.length) (kd : IntKind) : ∃ q c, sliceOp Tryz.prog σ 25 v (some (.int kd (k : Nat))) none none = some (.slice q (l.length - k) c) ∧ Sl σ 5 1 encY (.slice q (l.length - k) c) (l.drop k) := by
  have := Sl.mid (P := Tryz.prog) (t := 25) ef25 rfl Nat.one_pos encY_len h k l.length hk (Nat.le_refl _) (bl := some (.int kd (k : Nat))) (bh := none) (by simp) (by simp)
  rw [List.take_of_length_le (Nat.le_refl _)] at this
  exact this
theorem ysl_head {σ : CSt} {v : Value} {l : List UInt8} (h : Sl σ 5 1 encY v l) (k : Nat) (hk : k ≤ l.length) (kd : IntKind) : ∃ q c, sliceOp Tryz.prog σ 25 v none (some (.int kd (k : Nat))) none = some (.slice q k c) ∧ Sl σ 5 1 encY (.slice q k c) (l.take k) := by
  have := Sl.mid (P := Tryz.prog) (t := 25) ef25 rfl Nat.one_pos encY_len h 0 k (by omega) hk (bl := none) (bh := some (.int kd (k : Nat))) (by simp) (by simp)
  rw [List.drop_zero, Nat.sub_zero] at this
  exact this
theorem val_snoc (l : List UInt8) (i : Nat) (h : i < l.length) : valB (l.take (i + 1)) = valB (l.take i) + l[i].toNat % 128 * 2 ^ (7 * i) := by
  rw [List.take_succ_eq_append_getElem h, val_app, List.length_take, Nat.min_eq_left (by omega)]
  have e : (128 : Nat) ^ i = 2 ^ (7 * i) := by rw [Nat.pow_mul]
  have e2 : valB [l[i]] = l[i].toNat % 128 := by simp [valB]
  rw [e, e2, Nat.mul_comm]
theorem acc_or (m : List UInt8) (c : UInt8) (i : Nat) (hm : m.length = i) (hi : i ≤ 8) : orI .u64 (valB m : Nat) (IntKind.u64.wrap (IntKind.u64.wrap ((c.toNat : Int) % 128) * 2 ^ min (7 * i) IntKind.u64.bits)) = ((valB m + c.toNat % 128 * 2 ^ (7 * i) : Nat) : Int) := by
  have h1 := val_lt m
  have h2 : (128 : Nat) ^ i = 2 ^ (7 * i) := by rw [Nat.pow_mul]
  rw [hm, h2] at h1
  have h3 : (2 : Nat) ^ (7 * i) ≤ 2 ^ 56 := Nat.pow_le_pow_right (by omega) (by omega)
  have h4 : c.toNat % 128 * 2 ^ (7 * i) ≤ 127 * 2 ^ 56 := Nat.mul_le_mul (by omega) h3
  have hb : min (7 * i) IntKind.u64.bits = 7 * i := Nat.min_eq_left (by show 7 * i ≤ 64; omega)
  have e1 : IntKind.u64.wrap ((c.toNat : Int) % 128) = ((c.toNat % 128 : Nat) : Int) := by rw [IntWalk.u64_in _ (by omega)]; omega
  have e2 : ((c.toNat % 128 : Nat) : Int) * 2 ^ (7 * i) = ((c.toNat % 128 * 2 ^ (7 * i) : Nat) : Int) := by push_cast; rfl
  rw [hb, e1, e2, IntWalk.u64_in _ (by omega)]
  exact or_add _ _ _ h1 (by omega)
theorem acc_fin (m : List UInt8) (c : UInt8) (i : Nat) (hm : m.length = i) (hi : i ≤ 9) (hc : c.toNat < 128) (h9 : i = 9 → c.toNat ≤ 1) : orI .u64 (valB m : Nat) (IntKind.u64.wrap (IntKind.u64.wrap (c.toNat : Int) * 2 ^ min (7 * i) IntKind.u64.bits)) = ((valB m + c.toNat % 128 * 2 ^ (7 * i) : Nat) : Int) := by
  have h1 := val_lt m
  have h2 : (128 : Nat) ^ i = 2 ^ (7 * i) := by rw [Nat.pow_mul]
  rw [hm, h2] at h1
  have h6 : valB m + c.toNat % 128 * 2 ^ (7 * i) < 2 ^ 64 := by
    by_cases h : i = 9
    · subst h
      have := h9 rfl
      have e : c.toNat % 128 ≤ 1 := by omega
      have h4 : c.toNat % 128 * 2 ^ (7 * 9) ≤ 1 * 2 ^ 63 := Nat.mul_le_mul e (Nat.le_refl _)
      omega
    · have h3 : (2 : Nat) ^ (7 * i) ≤ 2 ^ 56 := Nat.pow_le_pow_right (by omega) (by omega)
      have h4 : c.toNat % 128 * 2 ^ (7 * i) ≤ 127 * 2 ^ 56 := Nat.mul_le_mul (by omega) h3
      omega
  have hb : min (7 * i) IntKind.u64.bits = 7 * i := Nat.min_eq_left (by show 7 * i ≤ 64; omega)
  have e1 : IntKind.u64.wrap (c.toNat : Int) = ((c.toNat % 128 : Nat) : Int) := by rw [IntWalk.u64_in _ (by omega)]; omega
  have e2 : ((c.toNat % 128 : Nat) : Int) * 2 ^ (7 * i) = ((c.toNat % 128 * 2 ^ (7 * i) : Nat) : Int) := by push_cast; rfl
  rw [hb, e1, e2, IntWalk.u64_in _ (by omega)]
  exact or_add _ _ _ h1 h6
theorem rnum_spec (b p : Nat) (o : Option (List UInt8)) (σ : CSt) (hr : Ro b p σ o) (hb : b ≤ σ.n) (Q : Out → CSt → Prop)
    (h : ∀ (n : Nat) σ', n = ((o.bind rd).map (·.1)).getD 0 → n < 2 ^ 64 → Ro b p σ' ((o.bind rd).map (·.2)) → Fr TR b σ σ' → Q (.ret (.int .u64 n) false) σ') : W E1 (.fn 45 #[.pointer (some ⟨p, 0, none⟩)] none) σ Q := by
  obtain ⟨v, l, hg, hbp, hpn, hsl, hol, hbig⟩ := hr
  have hbad : ∀ (o' : Option (Nat × List UInt8)), o.bind rd = none → Q (.ret (.int .u64 0) false) (σ.put p (.cells [v, .bool true] 41 false)) := by
    intro o' ho
    have hf : Fr TR b σ (σ.put p (.cells [v, .bool true] 41 false)) := (Fr.refl TR b σ).put hbp hg rfl _
    have := h 0 _ (by rw [ho]; rfl) (by decide) (by rw [ho]; exact ⟨v, l, by simp, hbp, by simpa using hpn, hsl.fr (by decide) hf, by simp, hbig⟩) hf
    simpa using this
  rw [W_fn (fn := Tryz.f45) Tryz.func45 rfl rfl rfl]
  simp [wops_cons, -W_scope]
  refine goto_start rfl rfl (fun k a s => ∃ tm, ∃ i sh : Nat, ∃ x : Int, a = ⟨tm, 78, [], false⟩ ∧ tm.get 0 = some (.pointer (some ⟨p, 0, none⟩)) ∧ tm.get 3 = some (.int .u64 x) ∧ tm.get 4 = some (.int .i64 (sh : Nat)) ∧ tm.get 5 = some (.int .i64 (i : Nat)) ∧ (s = σ ∧ i ≤ l.length ∧ i ≤ 10 ∧ sh = 7 * i ∧ k = 10 - i ∧ Hi (l.take i) ∧ (i ≤ 9 → x = valB (l.take i)))) ?_ 10 ?_
  · rintro k a s ⟨tm, i, sh, x, rfl, h0, h3, h4, h5, rfl, hil, hi10, hsh, hk, hhi, hx⟩
    cases o with
    | none =>
      have hQ := hbad none rfl
      simp only [Option.isNone_none] at hg
      simpa [wops_cons, wops_if', dstOf, h0, h3, h4, h5, hg] using hQ
    | some l' =>
      obtain rfl := hol l' rfl
      simp only [Option.isNone_some] at hg
      obtain ⟨q, c, rfl⟩ := hsl.form
      simp only [Option.bind_some] at hbad h
      by_cases hlen : i < l.length
      · have hlen1 : ¬ ((l.length : Int) ≤ (i : Int)) := by omega
        by_cases h63 : 63 < sh
        · have hQ := hbad none (by
            have hi : i = 10 := by omega
            subst hi
            rw [← List.take_append_drop 10 l]
            exact rd_long hhi (by rw [List.length_take]; omega) _)
          have h63' : (63 : Int) < (sh : Int) := by omega
          simpa [wops_cons, wops_if', dstOf, h0, h3, h4, h5, hg, hlen1, h63'] using hQ
        · have h63' : ¬ ((63 : Int) < (sh : Int)) := by omega
          have hx1 := hx (by omega)
          subst hx1
          obtain ⟨j, off, row, ro, rfl, hgj, hjn, hrow, hle⟩ := hsl.at hlen
          have hld := cell_y hrow i hlen
          have hl1 := row_le hle i hlen
          have hlen2 : (i : Int) < (l.length : Int) := by omega
          have hcu := u8_lt l[i]
          have hsn := val_snoc l i hlen
          by_cases h128 : 128 ≤ l[i].toNat
          · have h128' : (128 : Int) ≤ (l[i].toNat : Int) := by omega
            have ha := and_7f l[i].toNat hcu
            simp [wops_cons, wops_if', dstOf, h0, h3, h4, h5, hg, hlen, hlen1, hlen2, h63', hgj, hld, hl1, h128, h128', ha]
            have e1 : IntKind.i64.wrap ((sh : Int) + 7) = ((sh + 7 : Nat) : Int) := by rw [IntWalk.i64_in _ (by omega)]; omega
            have e2 : IntKind.i64.wrap ((i : Int) + 1) = ((i + 1 : Nat) : Int) := by rw [IntWalk.i64_in _ (by omega)]; omega
            refine ⟨10 - (i + 1), by omega, i + 1, sh + 7, e1, e2, by omega, by omega, by omega, rfl, ?_, fun hi9 => ?_⟩
            · rw [List.take_succ_eq_append_getElem hlen]
              intro y hy
              rcases List.mem_append.1 hy with hy | hy
              · exact hhi y hy
              · rw [List.mem_singleton.1 hy]; exact h128
            · have hv := acc_or (l.take i) l[i] i (by rw [List.length_take]; omega) (by omega)
              rw [hsn, ← hsh]
              rw [← hsh] at hv
              exact hv
          · have h128' : ¬ ((128 : Int) ≤ (l[i].toNat : Int)) := by omega
            have hl : l = l.take i ++ l[i] :: l.drop (i + 1) := by rw [← List.drop_eq_getElem_cons hlen, List.take_append_drop]
            have hrd := rd_app hhi l[i] (by omega) (l.drop (i + 1))
            rw [← hl] at hrd
            have hti : (l.take i).length = i := by rw [List.length_take]; omega
            have htn : l.take i = [] ↔ i = 0 := by
              constructor
              · intro e; rw [e] at hti; simpa using hti.symm
              · rintro rfl; rfl
            simp only [hti, htn, ← List.take_succ_eq_append_getElem hlen] at hrd
            have e2 : IntKind.i64.wrap ((i : Int) + 1) = (i : Int) + 1 := by rw [IntWalk.i64_in _ (by omega)]
            have hgood : i ≤ 9 ∧ (l[i].toNat ≠ 0 ∨ i = 0) ∧ (i = 9 → l[i].toNat ≤ 1) → ∃ q c', sliceOp Tryz.prog s 25 (.slice (some ⟨j, off, none⟩) l.length c) (some (.int .i64 ((i : Int) + 1))) none none = some (.slice q (l.length - (i + 1)) c') ∧
                orI .u64 (valB (l.take i) : Nat) (IntKind.u64.wrap (IntKind.u64.wrap (l[i].toNat : Int) * 2 ^ min sh IntKind.u64.bits)) = ((valB (l.take (i + 1)) : Nat) : Int) ∧ Q (.ret (.int .u64 (valB (l.take (i + 1)) : Nat)) false) (s.put p (.cells [.slice q (l.length - (i + 1)) c', .bool false] 41 false)) := by
              intro hh
              rw [if_pos hh] at hrd
              obtain ⟨q, c', d1, d2⟩ := ysl_tail hsl (i + 1) (by omega) .i64
              have hf : Fr TR b s (s.put p (.cells [.slice q (l.length - (i + 1)) c', .bool false] 41 false)) := (Fr.refl TR b s).put hbp hg rfl _
              refine ⟨q, c', d1, by rw [hsn, hsh]; exact acc_fin _ _ _ hti hh.1 (by omega) hh.2.2, ?_⟩
              refine h _ _ (by rw [hrd]; rfl) (rd_some hrd).2 ?_ hf
              rw [hrd]
              exact ⟨_, _, by simp, hbp, by simpa using hpn, d2.fr (by decide) hf, by simp, by rw [List.length_drop]; omega⟩
            by_cases hc0 : l[i].toNat = 0
            · by_cases hi0 : i = 0
              · obtain ⟨q, c', d1, d2, d3⟩ := hgood ⟨by omega, .inr hi0, by omega⟩
                have hs63 : ¬ ((sh : Int) = 63) := by omega
                subst hi0
                have hsh0 : sh = 0 := by omega
                subst hsh0
                have hne : ¬ (l = []) := fun e => by rw [e] at hlen; simp at hlen
                have hlen0 : 0 < l.length := hlen
                have hw1 : IntKind.i64.wrap 1 = 1 := by decide
                simp only [Nat.add_zero, Nat.zero_mul] at hld hl1
                simp only [hc0] at hld
                simp at hld
                simp at d1
                simp only [hc0] at d2
                simp at d2
                simpa [wops_cons, wops_if', dstOf, h0, h3, h4, h5, hg, hlen, hlen1, hlen2, h63', hgj, hld, hl1, h128, h128', hc0, hs63, hne, hlen0, hw1, d1, d2] using d3
              · have hQ := hbad none (by rw [hrd, if_neg]; omega)
                have hi0' : 0 < i := by omega
                simpa [wops_cons, wops_if', dstOf, h0, h3, h4, h5, hg, hlen, hlen1, hlen2, h63', hgj, hld, hl1, h128, h128', hc0, hi0, hi0'] using hQ
            · by_cases hs63 : sh = 63
              · have hs63' : (sh : Int) = 63 := by omega
                by_cases hc1 : 1 < l[i].toNat
                · have hQ := hbad none (by rw [hrd, if_neg]; omega)
                  have hc1' : (1 : Int) < (l[i].toNat : Int) := by omega
                  simpa [wops_cons, wops_if', dstOf, h0, h3, h4, h5, hg, hlen, hlen1, hlen2, h63', hgj, hld, hl1, h128, h128', hc0, hs63', hc1, hc1'] using hQ
                · obtain ⟨q, c', d1, d2, d3⟩ := hgood ⟨by omega, .inl hc0, by omega⟩
                  have hc1' : ¬ ((1 : Int) < (l[i].toNat : Int)) := by omega
                  simp only [hs63] at d2
                  simpa [wops_cons, wops_if', dstOf, h0, h3, h4, h5, hg, hlen, hlen1, hlen2, h63', hgj, hld, hl1, h128, h128', hc0, hs63', hs63, hc1, hc1', e2, d1, d2] using d3
              · have hs63' : ¬ ((sh : Int) = 63) := by omega
                obtain ⟨q, c', d1, d2, d3⟩ := hgood ⟨by omega, .inl hc0, by omega⟩
                simpa [wops_cons, wops_if', dstOf, h0, h3, h4, h5, hg, hlen, hlen1, hlen2, h63', hgj, hld, hl1, h128, h128', hc0, hs63', e2, d1, d2] using d3
      · have hlen1 : ((l.length : Int) ≤ (i : Int)) := by omega
        have hQ := hbad none (by
          have : l.take i = l := List.take_of_length_le (by omega)
          rw [this] at hhi
          exact rd_hi hhi)
        simpa [wops_cons, wops_if', dstOf, h0, h3, h4, h5, hg, hlen1] using hQ
  · simp [wops_cons]
    exact ⟨0, 0, rfl, rfl, by omega, by omega, rfl, rfl, (fun _ h => absurd h (by simp)), fun _ => rfl⟩
end Go.Sm
/- code.Reader: texts; a version read; the end. -/
set_option linter.unusedVariables false
set_option linter.unusedSimpArgs false
namespace Go.Sm
open Go Go.Proofs
set_option maxRecDepth 100000
set_option maxHeartbeats 4000000
theorem ystr {σ : CSt} {v : Value} {l : List UInt8} (h : Sl σ 5 1 encY v l) : convF Tryz.prog σ 25 9 v = .val (.string (str l)) σ := convF_tostr (e := 5) (e' := 5) Tryz.underlying25 Tryz.underlying5 Tryz.underlying9 h
/-- The reader's cell is written anew. -/
theorem Ro.back {b p : Nat} {σ : CSt} {v0 v : Value} {bad0 : Bool} (hg : σ.get p = some (.cells [v0, .bool bad0] 41 false)) (hbp : b ≤ p) (hpn : p < σ.n) {l : List UInt8} (hsl : Sl σ 5 1 encY v l) (hbig : l.length < 2 ^ 40) (o : Option (List UInt8)) (ho : ∀ m, o = some m → l = m) :
    Ro b p (σ.put p (.cells [v, .bool o.isNone] 41 false)) o ∧ Fr TR b σ (σ.put p (.cells [v, .bool o.isNone] 41 false)) := by
  have hf : Fr TR b σ (σ.put p (.cells [v, .bool o.isNone] 41 false)) := (Fr.refl TR b σ).put hbp hg rfl _
  exact ⟨⟨v, l, by simp, hbp, by simpa using hpn, hsl.fr (by decide) hf, ho, hbig⟩, hf⟩
theorem rtext_spec (b p most : Nat) (o : Option (List UInt8)) (σ : CSt) (hr : Ro b p σ o) (hb : b ≤ σ.n) (hm : most < 2 ^ 40) (Q : Out → CSt → Prop)
    (h : ∀ σ', Ro b p σ' ((o.bind (rdText most)).map (·.2)) → Fr TR b σ σ' → Q (.ret (.string (((o.bind (rdText most)).map (·.1)).getD (str []))) false) σ') : W E1 (.fn 46 #[.pointer (some ⟨p, 0, none⟩), .int .i64 most] none) σ Q := by
  rw [W_fn (fn := Tryz.f46) Tryz.func46 rfl rfl rfl]
  simp [wops_cons]
  refine rnum_spec b p o σ hr hb _ fun n σ1 hn hn64 h1 f1 => ?_
  have hmu : IntKind.u64.wrap (most : Int) = (most : Int) := IntWalk.u64_in _ (by omega)
  have hbad : o.bind (rdText most) = none → ∀ v l, Sl σ1 5 1 encY v l → l.length < 2 ^ 40 → ∀ bad, σ1.get p = some (.cells [v, .bool bad] 41 false) → b ≤ p → p < σ1.n → Q (.ret (.string ⟨#[]⟩) false) (σ1.put p (.cells [v, .bool true] 41 false)) := by
    intro e v l hsl hl bad hg hbp hpn
    obtain ⟨c1, c2⟩ := Ro.back hg hbp hpn hsl hl none (by simp)
    have := h _ (by rw [e]; exact c1) (f1.trans c2)
    rw [e] at this
    exact this
  cases hbr : o.bind rd with
  | none =>
    rw [hbr] at hn h1
    obtain ⟨v, l, hg, hbp, hpn, hsl, hol, hbig⟩ := h1
    have e : o.bind (rdText most) = none := by
      cases o with
      | none => rfl
      | some m => simp only [Option.bind_some] at hbr ⊢; rw [rdText, hbr]; rfl
    have hQ := hbad e v l hsl hbig _ hg hbp hpn
    simp only [Option.map_none, Option.isNone_none] at hg
    simpa [wops_cons, wops_if', dstOf, hg] using hQ
  | some q =>
    obtain ⟨n', r⟩ := q
    rw [hbr] at hn h1
    obtain rfl : n = n' := hn
    obtain ⟨v, l, hg, hbp, hpn, hsl, hol, hbig⟩ := h1
    obtain rfl := hol r rfl
    have e : o.bind (rdText most) = if n ≤ l.length ∧ n ≤ most then some (str (l.take n), l.drop n) else none := by
      cases o with
      | none => cases hbr
      | some m => simp only [Option.bind_some] at hbr ⊢; rw [rdText, hbr]; rfl
    simp only [Option.map_some, Option.isNone_some] at hg
    obtain ⟨q, c, rfl⟩ := hsl.form
    have hlu : IntKind.u64.wrap (l.length : Int) = (l.length : Int) := IntWalk.u64_in _ (by omega)
    by_cases h1 : n ≤ l.length
    · have h1' : ¬ ((l.length : Int) < (n : Int)) := by omega
      have h1'' : ¬ (l.length < n) := by omega
      by_cases h2 : n ≤ most
      · have h2' : ¬ ((most : Int) < (n : Int)) := by omega
        have h2'' : ¬ (most < n) := by omega
        rw [if_pos ⟨h1, h2⟩] at e
        obtain ⟨q1, c1, d1, d2⟩ := ysl_head hsl n h1 .u64
        obtain ⟨q2, c2, d3, d4⟩ := ysl_tail hsl n h1 .u64
        have hcv := ystr d2
        obtain ⟨b1, b2⟩ := Ro.back hg hbp hpn d4 (by rw [List.length_drop]; omega) (some (l.drop n)) (by simp)
        have hQ := h _ (by rw [e]; exact b1) (f1.trans b2)
        rw [e] at hQ
        simp only [Option.map_some, Option.getD_some, Option.isNone_some] at hQ
        simpa [wops_cons, wops_if', dstOf, hg, hlu, hmu, h1', h1'', h2', h2'', d1, d3, hcv] using hQ
      · have h2' : ((most : Int) < (n : Int)) := by omega
        have h2'' : (most < n) := by omega
        have hQ := hbad (by rw [e, if_neg (fun hh => h2 hh.2)]) _ _ hsl hbig _ hg hbp hpn
        simpa [wops_cons, wops_if', dstOf, hg, hlu, hmu, h1', h1'', h2', h2''] using hQ
    · have h1' : ((l.length : Int) < (n : Int)) := by omega
      have h1'' : (l.length < n) := by omega
      have hQ := hbad (by rw [e, if_neg (fun hh => h1 hh.1)]) _ _ hsl hbig _ hg hbp hpn
      simpa [wops_cons, wops_if', dstOf, hg, hlu, hmu, h1', h1''] using hQ
theorem rend_spec (b p : Nat) (o : Option (List UInt8)) (σ : CSt) (hr : Ro b p σ o) (Q : Out → CSt → Prop) (h : Q (.ret (.bool (decide (o = some []))) false) σ) : W E1 (.fn 19 #[.pointer (some ⟨p, 0, none⟩)] none) σ Q := by
  rw [W_fn (fn := Tryz.f19) Tryz.func19 rfl rfl rfl]
  obtain ⟨v, l, hg, hbp, hpn, hsl, hol, hbig⟩ := hr
  cases o with
  | none =>
    simp only [Option.isNone_none] at hg
    simpa [wops_cons, wops_if', dstOf, hg] using h
  | some m =>
    obtain rfl := hol m rfl
    simp only [Option.isNone_some] at hg
    obtain ⟨q, c, rfl⟩ := hsl.form
    simp only [Option.some.injEq] at h
    have e : decide (l.length = 0) = decide (l = []) := by
      cases l <;> simp
    by_cases hl : l = []
    · have : l.length = 0 := by rw [hl]; rfl
      simpa [wops_cons, wops_if', dstOf, hg, this, hl] using h
    · have h0 : ¬ (l.length = 0) := fun e => hl (List.eq_nil_of_length_eq_zero e)
      simpa [wops_cons, wops_if', dstOf, hg, h0, hl] using h
theorem Ro.grow {b p : Nat} {σ σ' : CSt} {o : Option (List UInt8)} (h : Ro b p σ o) (g : Grow σ σ') : Ro b p σ' o := by
  obtain ⟨v, l, hg, hbp, hpn, hsl, hol, hbig⟩ := h
  have := g.n
  exact ⟨v, l, g.get hg hpn, hbp, by omega, hsl.grow g, hol, hbig⟩
/-- Something else is written. -/
theorem Ro.put33 {b p i : Nat} {s : CSt} {o : Option (List UInt8)} (h : Ro b p s o) {row : List Value} {e : TypeId} {ro : Bool} (hg' : s.get i = some (.cells row e ro)) (h41 : e ≠ 41) (h5 : e ≠ 5) (ob : CObj) : Ro b p (s.put i ob) o := by
  obtain ⟨v, l, hg, hbp, hpn, hsl, hol, hbig⟩ := h
  refine ⟨v, l, ?_, hbp, by simpa using hpn, ?_, hol, hbig⟩
  · rw [CSt.get_put, if_neg]
    · exact hg
    · rintro rfl
      rw [hg] at hg'
      injection hg' with e1
      injection e1 with e2 e3 e4
      exact h41 e3.symm
  · rcases hsl with hsl | ⟨j, off, cap, row', ro', k1, k2, k3, k4⟩
    · exact .inl hsl
    · refine .inr ⟨j, off, cap, row', ro', k1, ?_, by simpa using k3, k4⟩
      rw [CSt.get_put, if_neg]
      · exact k2
      · rintro rfl
        rw [k2] at hg'
        injection hg' with e1
        injection e1 with e2 e3 e4
        exact h5 e3.symm
theorem rread_spec (b p : Nat) (at_ : Int) (o : Option (List UInt8)) (σ : CSt) (hr : Ro b p σ o) (hb : b ≤ σ.n) (Q : Out → CSt → Prop)
    (h : ∀ σ', Ro b p σ' ((o.bind (rdVer at_)).map (·.2)) → Fr TR b σ σ' → Q (.ret (.agg (encV (((o.bind (rdVer at_)).map (·.1)).getD ⟨at_, str [], true⟩)).toArray) false) σ') : W E1 (.fn 44 #[.pointer (some ⟨p, 0, none⟩), .int .u64 at_] none) σ Q := by
  rw [W_fn (fn := Tryz.f44) Tryz.func44 rfl rfl rfl]
  simp [wops_cons]
  have g0 : Grow σ (σ.alloc (.cells [.int .u64 0, .string ⟨#[]⟩, .bool false] 33 false)) := (Grow.refl σ).alloc _
  refine rnum_spec b p o _ (hr.grow g0) (by simp; omega) _ fun n σ1 hn hn64 h1 f1 => ?_
  have hc1 := f1.get (i := σ.n) (by simp; rfl) (by simp) (.inr fun row e ro he => by cases he; decide)
  have f01 := g0.fr.trans f1
  have n1 : σ.n < σ1.n := by have := f1.1; simp at this; omega
  obtain ⟨v, l, hg, hbp, hpn, hsl, hol, hbig⟩ := h1
  have hpσ : p < σ.n := by obtain ⟨_, _, _, _, hp, _⟩ := hr; exact hp
  have hpn1 : ¬ (p = σ.n) := by omega
  have hpn2 : ¬ (σ.n = p) := by omega
  -- what is none, and what is gone
  have hgone : ∀ (o' : Option (List UInt8)) (bad0 : Bool), σ1.get p = some (.cells [v, .bool bad0] 41 false) → (o.bind (rdVer at_)).map (·.2) = o' → ((o.bind (rdVer at_)).map (·.1)).getD ⟨at_, str [], true⟩ = ⟨at_, str [], true⟩ → (∀ m, o' = some m → l = m) →
      Q (.ret (.agg #[.int .u64 at_, .string ⟨#[]⟩, .bool true]) false) ((σ1.put p (.cells [v, .bool o'.isNone] 41 false)).put σ.n (.cells [.int .u64 at_, .string ⟨#[]⟩, .bool true] 33 false)) := by
    intro o' bad0 hg e1 e2 e3
    obtain ⟨c1, c2⟩ := Ro.back hg hbp hpn hsl hbig o' e3
    have hcn : (σ1.put p (.cells [v, .bool o'.isNone] 41 false)).get σ.n = some (.cells [.int .u64 0, .string ⟨#[]⟩, .bool false] 33 false) := by rw [CSt.get_put, if_neg hpn2]; exact hc1
    have := h _ (by rw [e1]; exact c1.put33 hcn (by decide) (by decide) (.cells [.int .u64 at_, .string ⟨#[]⟩, .bool true] 33 false)) ((f01.trans c2).new (Nat.le_refl _) (.cells [.int .u64 at_, .string ⟨#[]⟩, .bool true] 33 false))
    rw [e2] at this
    exact this
  cases hbr : o.bind rd with
  | none =>
    rw [hbr] at hn hg hol
    obtain rfl : n = 0 := hn
    have e : o.bind (rdVer at_) = none := by
      cases o with
      | none => rfl
      | some m => simp only [Option.bind_some] at hbr ⊢; rw [rdVer, hbr]; rfl
    have hQ := hgone none _ hg (by rw [e]; rfl) (by rw [e]; rfl) (by simp)
    simp only [Option.map_none, Option.isNone_none] at hg hQ
    simpa [wops_cons, wops_if', dstOf, hg, hc1, hpn1, hpn2] using hQ
  | some q =>
    obtain ⟨n', r⟩ := q
    rw [hbr] at hn hg hol
    obtain rfl : n = n' := hn
    obtain rfl := hol r rfl
    have e : o.bind (rdVer at_) = if n = 0 then some (⟨at_, str [], true⟩, l) else if n ≤ 201 ∧ n - 1 ≤ l.length then some (⟨at_, str (l.take (n - 1)), false⟩, l.drop (n - 1)) else none := by
      cases o with
      | none => cases hbr
      | some m => simp only [Option.bind_some] at hbr ⊢; rw [rdVer, hbr]; rfl
    obtain ⟨q, c, rfl⟩ := hsl.form
    have hlu : IntKind.u64.wrap (l.length : Int) = (l.length : Int) := IntWalk.u64_in _ (by omega)
    rcases Nat.eq_zero_or_pos n with rfl | hpos
    · rw [if_pos rfl] at e
      have hQ := hgone (some l) _ hg (by rw [e]; rfl) (by rw [e]; rfl) (by simp)
      simp only [Option.map_some, Option.isNone_some] at hg hQ
      simpa [wops_cons, wops_if', dstOf, hg, hc1, hpn1, hpn2] using hQ
    · obtain ⟨m, rfl⟩ : ∃ m, n = m + 1 := ⟨n - 1, by omega⟩
      rw [if_neg (by omega), Nat.add_sub_cancel] at e
      have hn0 : ¬ ((m : Int) + 1 = 0) := by omega
      have hn1 : (0 : Int) < (m : Int) + 1 := by omega
      have hmu : IntKind.u64.wrap ((m : Int) + 1 - 1) = (m : Int) := by rw [IntWalk.u64_in _ (by omega)]; omega
      have hmu' : IntKind.u64.wrap (m : Int) = (m : Int) := IntWalk.u64_in _ (by omega)
      by_cases h2 : m + 1 ≤ 201
      · have h2' : ¬ ((201 : Int) < (m : Int) + 1) := by omega
        by_cases h3 : m ≤ l.length
        · have h3' : ¬ ((l.length : Int) < (m : Int)) := by omega
          have h3'' : ¬ (l.length < m) := by omega
          rw [if_pos ⟨h2, h3⟩] at e
          obtain ⟨q1, c1, d1, d2⟩ := ysl_head hsl m h3 .u64
          have hcv := ystr d2
          simp only [Option.map_some, Option.isNone_some] at hg
          have hps : ¬ (p = σ1.n) := by omega
          have hps2 : ¬ (σ1.n = p) := by omega
          have hsn : ¬ (σ.n = σ1.n) := by omega
          have hsn2 : ¬ (σ1.n = σ.n) := by omega
          have g2 : Grow σ1 ((σ1.alloc (.cells [.int .u64 0, .string ⟨#[]⟩, .bool false] 33 false)).put σ1.n (.cells [.int .u64 at_, .string (str (l.take m)), .bool false] 33 false)) := ⟨by simp, fun j hj => by rw [CSt.get_put, if_neg (by omega), CSt.get_alloc, if_neg (by omega)]⟩
          obtain ⟨q2, c2, d3, d4⟩ := ysl_tail (hsl.grow g2) m h3 .u64
          obtain ⟨e1, e2⟩ := Ro.back (g2.get hg hpn) hbp (by simp; omega) d4 (by rw [List.length_drop]; omega) (some (l.drop m)) (by simp)
          have hcn := e2.get (i := σ.n) (g2.get hc1 n1) (by simp; omega) (.inr fun row e ro he => by cases he; decide)
          have hQ := h _ (by rw [e]; exact e1.put33 hcn (by decide) (by decide) (.cells [.int .u64 at_, .string (str (l.take m)), .bool false] 33 false)) (((f01.trans g2.fr).trans e2).new (Nat.le_refl _) (.cells [.int .u64 at_, .string (str (l.take m)), .bool false] 33 false))
          rw [e] at hQ
          simp only [Option.map_some, Option.getD_some, Option.isNone_some, encV] at hQ
          simpa [wops_cons, wops_if', dstOf, hg, hc1, hpn1, hpn2, hn0, hn1, hmu, hmu', hlu, h2', h3', h3'', d1, d3, hcv, hps, hps2, hsn, hsn2] using hQ
        · have h3' : ((l.length : Int) < (m : Int)) := by omega
          have h3'' : (l.length < m) := by omega
          have hQ := hgone none _ hg (by rw [e, if_neg (fun hh => h3 hh.2)]; rfl) (by rw [e, if_neg (fun hh => h3 hh.2)]; rfl) (by simp)
          simp only [Option.map_some, Option.isNone_some, Option.isNone_none] at hg hQ
          simpa [wops_cons, wops_if', dstOf, hg, hc1, hpn1, hpn2, hn0, hn1, hmu, hmu', hlu, h2', h3', h3''] using hQ
      · have h2' : ((201 : Int) < (m : Int) + 1) := by omega
        have hQ := hgone none _ hg (by rw [e, if_neg (fun hh => h2 hh.1)]; rfl) (by rw [e, if_neg (fun hh => h2 hh.1)]; rfl) (by simp)
        simp only [Option.map_some, Option.isNone_some, Option.isNone_none] at hg hQ
        simpa [wops_cons, wops_if', dstOf, hg, hc1, hpn1, hpn2, hn0, hn1, hmu, hmu', hlu, h2'] using hQ
/-- A version, its time ahead of it. -/
def rdV (b : List UInt8) : Option (Ver × List UInt8) := (rd b).bind fun p => rdVer p.1 p.2
theorem rreadv_spec (b p : Nat) (o : Option (List UInt8)) (σ : CSt) (hr : Ro b p σ o) (hb : b ≤ σ.n) (Q : Out → CSt → Prop)
    (h : ∀ (x : Ver) σ', (∀ y r, o.bind rdV = some (y, r) → x = y) → Ro b p σ' ((o.bind rdV).map (·.2)) → Fr TR b σ σ' → Q (.ret (.agg (encV x).toArray) false) σ') : W E1 (.fn 17 #[.pointer (some ⟨p, 0, none⟩)] none) σ Q := by
  rw [W_fn (fn := Tryz.f17) Tryz.func17 rfl rfl rfl]
  simp [wops_cons]
  have g0 : Grow σ (σ.alloc (.cells [.int .u64 0, .string ⟨#[]⟩, .bool false] 33 false)) := (Grow.refl σ).alloc _
  refine rnum_spec b p o _ (hr.grow g0) (by simp; omega) _ fun n σ1 hn hn64 h1 f1 => ?_
  have hc1 := f1.get (i := σ.n) (by simp; rfl) (by simp) (.inr fun row e ro he => by cases he; decide)
  have n1 : σ.n < σ1.n := by have := f1.1; simp at this; omega
  simp [wops_cons, hc1]
  refine rread_spec b p n _ σ1 h1 (by omega) _ fun σ2 h2 f2 => ?_
  have hc2 := f2.get hc1 n1 (.inr fun row e ro he => by cases he; decide)
  have e : ((o.bind rd).map (·.2)).bind (rdVer n) = o.bind rdV := by
    cases o with
    | none => rfl
    | some m =>
      simp only [Option.bind_some] at hn ⊢
      unfold rdV
      cases hr : rd m with
      | none => rfl
      | some q =>
        rw [hr] at hn
        obtain rfl : n = q.1 := hn
        rfl
  rw [e] at h2 ⊢
  obtain ⟨x, hx⟩ : ∃ x, ((o.bind rdV).map (·.1)).getD ⟨n, str [], true⟩ = x := ⟨_, rfl⟩
  have hxy : ∀ y r, o.bind rdV = some (y, r) → x = y := fun y r hy => by rw [← hx, hy]; rfl
  rw [hx]
  have hQ := h x _ hxy (h2.put33 hc2 (by decide) (by decide) (.cells (encV x) 33 false)) (((g0.fr.trans f1).trans f2).new (Nat.le_refl _) _)
  simp only [encV] at hQ ⊢
  simpa [wops_cons, hc2] using hQ
end Go.Sm
/- record.Encode. -/
set_option linter.unusedVariables false
set_option linter.unusedSimpArgs false
namespace Go.Sm
open Go Go.Proofs
set_option maxRecDepth 100000
set_option maxHeartbeats 4000000
theorem flat_take_le {α : Type} (f : α → List UInt8) (l : List α) (i : Nat) : ((l.take i).flatMap f).length ≤ (l.flatMap f).length := by
  conv => rhs; rw [← List.take_append_drop i l, List.flatMap_append, List.length_append]
  omega
theorem flat_mem_le {α : Type} (f : α → List UInt8) {l : List α} {x : α} (h : x ∈ l) : (f x).length ≤ (l.flatMap f).length := by
  induction l with
  | nil => cases h
  | cons y l ih =>
    rw [List.flatMap_cons, List.length_append]
    rcases List.mem_cons.1 h with rfl | h
    · omega
    · have := ih h
      omega
theorem i64s (k : Nat) (h : k < 2 ^ 62) : IntKind.i64.wrap ((k : Int) + 1) = (k : Int) + 1 := IntWalk.i64_in _ (by omega)
end Go.Sm
/- The laws' own numbers, texts, versions, records as bytes. -/
set_option linter.unusedVariables false
set_option linter.unusedSimpArgs false
namespace Go.Sm
open Go Go.Proofs
set_option maxRecDepth 100000
set_option maxHeartbeats 4000000
/-- Bytes of one's own: with room behind them, or without. -/
def Ow (b : Nat) (σ : CSt) (v : Value) (l : List UInt8) : Prop := Own b σ 5 encY v l ∨ ∃ i, v = .slice (some ⟨i, 0, none⟩) l.length l.length ∧ b ≤ i ∧ i < σ.n ∧ σ.get i = some (.cells (l.flatMap encY) 5 false) ∧ l.length < openCap
theorem Ow.sl {b : Nat} {σ : CSt} {v : Value} {l : List UInt8} (h : Ow b σ v l) : Sl σ 5 1 encY v l := by
  rcases h with h | ⟨i, rfl, hb, hi, hg, hl⟩
  · exact h.sl encY_len
  · exact Sl.all encY_len hg hi (.inr ⟨Nat.le_refl _, hl⟩)
theorem Ow.grow {b : Nat} {σ σ' : CSt} {v : Value} {l : List UInt8} (h : Ow b σ v l) (g : Grow σ σ') : Ow b σ' v l := by
  rcases h with h | ⟨i, rfl, hb, hi, hg, hl⟩
  · exact .inl (h.grow g)
  · exact .inr ⟨i, rfl, hb, Nat.lt_of_lt_of_le hi g.n, g.get hg hi, hl⟩
theorem Ow.weaken {b b' : Nat} {σ : CSt} {v : Value} {l : List UInt8} (h : Ow b σ v l) (hb : b' ≤ b) : Ow b' σ v l := by
  rcases h with h | ⟨i, rfl, h1, h2⟩
  · exact .inl (h.weaken hb)
  · exact .inr ⟨i, rfl, Nat.le_trans hb h1, h2⟩
theorem Ow.fr {T : TypeId → Prop} {b b' : Nat} {s0 s1 : CSt} {v : Value} {l : List UInt8} (h : Ow b' s0 v l) (ht : ¬ T 5) (hg : Fr T b s0 s1) : Ow b' s1 v l := by
  rcases h with (h | ⟨i, cap, h1, h2, h3, h4, h5⟩) | ⟨i, rfl, h2, h3, h4, h5⟩
  · exact .inl (.inl h)
  · exact .inl (.inr ⟨i, cap, h1, h2, Nat.lt_of_lt_of_le h3 hg.1, hg.get h4 h3 (.inr fun row e ro he => by cases he; exact ht), h5⟩)
  · exact .inr ⟨i, rfl, h2, Nat.lt_of_lt_of_le h3 hg.1, hg.get h4 h3 (.inr fun row e ro he => by cases he; exact ht), h5⟩
theorem oapp {b : Nat} {σ : CSt} {v x : Value} {ts : Array TypeId} {l m : List UInt8} (hts : ts[0]? = some 25) (hop : ∀ s, appendOp Tryz.prog σ ts s x = (elemF Tryz.prog 25).bind fun p => appendF σ p.1 p.2 s m.length (m.flatMap encY)) (hw : Ow b σ v l) (hb : b ≤ σ.n) (hbig : l.length + m.length ≤ 2 ^ 46) :
    ∃ q c σ', appendOp Tryz.prog σ ts v x = some (.slice q (l.length + m.length) c, σ') ∧ Ow b σ' (.slice q (l.length + m.length) c) (l ++ m) ∧ Fr (fun t => t = 5) b σ σ' := by
  rcases hw with hw | ⟨i, rfl, h2, h3, h4, h5⟩
  · obtain ⟨v', σ', a1, a2, a3, a4, _⟩ := appendF_only (f := ⟨1, 1, some [.int .u8 0], false, true⟩) (m := m) encY_len encY_cok rfl Nat.one_pos (by decide) rfl hw hb (by show _ * 1 ≤ _; omega) (by omega)
    obtain ⟨q, c, rfl⟩ := (a2.sl (sz := 1) encY_len).form
    rw [List.length_append] at a1 a2
    refine ⟨q, c, σ', ?_, .inl a2, app_fr hw a3.1 a4⟩
    rw [hop, ef25]
    exact a1
  · by_cases hm : m = []
    · subst hm
      refine ⟨some ⟨i, 0, none⟩, l.length, σ, ?_, ?_, Fr.refl _ _ _⟩
      · rw [hop, ef25]
        exact appendF_none rfl Nat.one_pos (by decide) rfl i _
      · rw [List.append_nil]
        exact .inr ⟨i, rfl, h2, h3, h4, h5⟩
    · refine ⟨some ⟨σ.n, 0, none⟩, openCap, σ.alloc (.cells ((l ++ m).flatMap encY) 5 false), ?_, .inl (.inr ⟨σ.n, openCap, by rw [List.length_append], hb, by simp, by simp, .inl rfl⟩), (Fr.refl _ b σ).alloc _⟩
      rw [hop, ef25]
      exact appendF_full encY_len encY_cok rfl Nat.one_pos (by decide) rfl h4 hm (by show _ * 1 ≤ _; omega) h5
theorem oapp_sl {b : Nat} {σ : CSt} {v x : Value} {l m : List UInt8} (hw : Ow b σ v l) (hb : b ≤ σ.n) (hx : Sl σ 5 1 encY x m) (hbig : l.length + m.length ≤ 2 ^ 46) :
    ∃ q c σ', appendOp Tryz.prog σ #[25, 25] v x = some (.slice q (l.length + m.length) c, σ') ∧ Ow b σ' (.slice q (l.length + m.length) c) (l ++ m) ∧ Fr (fun t => t = 5) b σ σ' := by
  refine oapp rfl (fun s => ?_) hw hb hbig
  obtain ⟨g1, g2⟩ := first_sl encY_len hx
  rw [appendOp_K (by simp [ef25]) (by simp)]
  show appK (elemF Tryz.prog 25) σ s x = _
  rw [ef25]
  simp only [appK, g1, g2, Option.bind_some]
theorem oapp_str {b : Nat} {σ : CSt} {v : Value} {l : List UInt8} (s : ByteArray) (hw : Ow b σ v l) (hb : b ≤ σ.n) (hbig : l.length + s.size ≤ 2 ^ 46) :
    ∃ q c σ', appendOp Tryz.prog σ #[25, 9] v (.string s) = some (.slice q (l.length + s.size) c, σ') ∧ Ow b σ' (.slice q (l.length + s.size) c) (l ++ byt s) ∧ Fr (fun t => t = 5) b σ σ' := by
  have := oapp (x := .string s) (ts := #[25, 9]) (m := byt s) rfl (fun t => ?_) hw hb (by rw [len_byt]; exact hbig)
  · rw [len_byt] at this; exact this
  · obtain ⟨g1, g2⟩ := first_str (σ := σ) (byt s)
    have e : (⟨(byt s).toArray⟩ : ByteArray) = s := str_byt s
    rw [e] at g1 g2
    rw [appendOp_S (by simp [ef25]) rfl]
    show appK (elemF Tryz.prog 25) σ t (.string s) = _
    rw [ef25]
    simp only [appK, g1, g2, Option.bind_some]
/-- A new slice of one byte. -/
theorem Ow.one {b : Nat} {σ : CSt} (hb : b ≤ σ.n) (c : UInt8) : Ow b (σ.alloc (.cells [.int .u8 c.toNat] 5 false)) (.slice (some ⟨σ.n, 0, none⟩) 1 1) [c] :=
  .inr ⟨σ.n, rfl, hb, by simp, by simp [encY], by simp [openCap]⟩
theorem lnum_spec : ∀ (n : Nat) (σ : CSt), n < 2 ^ 64 → ∀ (Q : Out → CSt → Prop), (∀ q c σ', Ow σ.n σ' (.slice q (num n).length c) (num n) → Grow σ σ' → Q (.ret (.slice q (num n).length c) false) σ') → W E1 (.fn 14 #[.int .u64 n] none) σ Q := by
  intro n
  induction n using Nat.strongRecOn with
  | _ n ih =>
    intro σ hn Q h
    rw [W_fn (fn := Tryz.f14) Tryz.func14 rfl rfl rfl]
    by_cases h128 : n < 128
    · have h128' : (n : Int) < 128 := by omega
      obtain ⟨c, hc⟩ := byte_of n (by omega)
      have hu : IntKind.u8.wrap (n : Int) = (c.toNat : Int) := by rw [u8_of, Nat.mod_eq_of_lt (by omega), hc]
      have hnum : num n = [c] := by rw [num_lt h128]; congr 1; exact u8_eq (by rw [ofNat_toNat (by omega), hc])
      rw [hnum] at h
      have := h _ _ _ (Ow.one (Nat.le_refl _) c) ((Grow.refl σ).alloc _)
      simpa [wops_cons, h128', hu] using this
    · have h128' : ¬ ((n : Int) < 128) := by omega
      obtain ⟨c, hc⟩ := byte_of (n % 128 + 128) (by omega)
      have hnum : num n = c :: num (n / 128) := by rw [num_ge (by omega)]; congr 1; exact u8_eq (by rw [ofNat_toNat (by omega), hc])
      have hu : IntKind.u8.wrap (IntKind.u8.wrap ((n : Int) % 128) + 128) = (c.toNat : Int) := by
        have e1 : IntKind.u8.wrap ((n : Int) % 128) = (n : Int) % 128 := IntWalk.u8_in _ (by omega)
        rw [e1, IntWalk.u8_in _ (by omega), hc]
        omega
      have hdiv : (n : Int) / 128 = ((n / 128 : Nat) : Int) := by omega
      have hdu : IntKind.u64.wrap ((n : Int) / 128) = ((n / 128 : Nat) : Int) := by rw [IntWalk.u64_in _ (by omega)]; omega
      have htm : (n : Int).tmod 128 = (n : Int) % 128 := Int.tmod_eq_emod_of_nonneg (by omega)
      simp [wops_cons, h128', hu, hdu, htm]
      have g0 : Grow σ (σ.alloc (.cells [.int .u8 c.toNat] 5 false)) := (Grow.refl σ).alloc _
      refine ih (n / 128) (by omega) _ (by omega) _ fun q cp σ1 h1 g1 => ?_
      have hl := num_len10 (n := n / 128) (by omega)
      have gn := g0.n
      have gn1 := g1.n
      obtain ⟨q2, c2, s2, a1, a2, a3⟩ := oapp_sl ((Ow.one (Nat.le_refl _) c).grow g1) (by omega) h1.sl (by simp; omega)
      have f2 : Fr (fun t => t = 5) σ.n σ s2 := (g0.trans g1).fr.trans a3
      have e : [c].length + (num (n / 128)).length = (num n).length := by rw [hnum]; simp; omega
      rw [e] at a1 a2
      have hQ := h q2 c2 s2 (by rw [hnum] at a2 ⊢; exact a2) (f2.grow (Nat.le_refl _))
      simpa [wops_cons, a1] using hQ
theorem lver_spec (x : Ver) (σ : CSt) (hs : x.val.size < 2 ^ 40) (Q : Out → CSt → Prop) (h : ∀ q c σ', Ow σ.n σ' (.slice q (serVer x).length c) (serVer x) → Grow σ σ' → Q (.ret (.slice q (serVer x).length c) false) σ') : W E1 (.fn 15 #[.agg (encV x).toArray] none) σ Q := by
  rw [W_fn (fn := Tryz.f15) Tryz.func15 rfl rfl rfl]
  obtain ⟨at_, val, gone⟩ := x
  have g0 : Grow σ (σ.alloc (.cells [.int .u64 at_, .string val, .bool gone] 33 false)) := (Grow.refl σ).alloc _
  cases gone with
  | true =>
    have hQ := h (some ⟨σ.n + 1, 0, none⟩) 1 ((σ.alloc (.cells [.int .u64 at_, .string val, .bool true] 33 false)).alloc (.cells [.int .u8 0] 5 false)) (by
      have := Ow.one (b := σ.n) (σ := σ.alloc (.cells [.int .u64 at_, .string val, .bool true] 33 false)) (by simp) 0
      simpa [serVer] using this) (g0.alloc _)
    simpa [wops_cons, encV, serVer] using hQ
  | false =>
    have hz : val.size < 2 ^ 40 := hs
    have hu : IntKind.u64.wrap (IntKind.u64.wrap (val.size : Int) + 1) = ((val.size + 1 : Nat) : Int) := by rw [IntWalk.u64_in (val.size : Int) (by omega), IntWalk.u64_in _ (by omega)]; omega
    have hc0 : (σ.alloc (.cells [.int .u64 at_, .string val, .bool false] 33 false)).get σ.n = some (.cells [.int .u64 at_, .string val, .bool false] 33 false) := by simp
    simp [wops_cons, encV]
    refine W_drawn (l := [0, 1, 2, 3, 4, 6, 7, 5, 8, 9]) (b := #[0, 1, 3, 7, 15, 31, 0, 64, 255, 511]) (by kernel_rfl) (by kernel_rfl) (by kernel_rfl) ?_
    simp [dopsR_cons, opAt, isEff, again, befBits, isRead, Nat.add_assoc, hc0]
    rw [hu]
    refine lnum_spec (val.size + 1) _ (by omega) _ fun q cp σ1 h1 g1 => ?_
    have hl := num_len10 (n := val.size + 1) (by omega)
    have gn0 := g0.n
    have gn1 := g1.n
    simp at gn1
    have hc1 := g1.get hc0 (by simp)
    obtain ⟨q2, c2, s2, a1, a2, a3⟩ := oapp_str val h1 (by simp; omega) (by omega)
    have e : (num (val.size + 1)).length + val.size = (serVer ⟨at_, val, false⟩).length := by
      have : serVer ⟨at_, val, false⟩ = num (val.size + 1) ++ byt val := rfl
      rw [this, List.length_append, len_byt]
    rw [e] at a1 a2
    have hQ := h q2 c2 s2 (a2.weaken (by simp)) (((g0.trans g1).fr.trans (a3.mono (fun _ h => h) (by simp))).grow (Nat.le_refl _))
    have tb : ∀ j, j < 8 → Nat.testBit 255 j = true := by decide
    simpa [dopsR_cons, opAt, isEff, again, befBits, isRead, Nat.add_assoc, hc1, a1, tb] using hQ
theorem yeq_spec (v w : Value) (l m : List UInt8) (σ : CSt) (hv : Sl σ 5 1 encY v l) (hw : Sl σ 5 1 encY w m) (hl : l.length < 2 ^ 60) (hm : m.length < 2 ^ 60) (Q : Out → CSt → Prop) (h : Q (.ret (.bool (decide (l = m))) false) σ) : W E1 (.fn 18 #[v, w] none) σ Q := by
  rw [W_fn (fn := Tryz.f18) Tryz.func18 rfl rfl rfl]
  obtain ⟨p1, c1, rfl⟩ := hv.form
  obtain ⟨p2, c2, rfl⟩ := hw.form
  by_cases hlen : l.length = m.length
  · have hlen' : ((l.length : Int) = m.length) := by omega
    simp [wops_cons, hlen, hlen']
    refine W_loop_inv (fun n a σ' => ∃ tm, ∃ k : Nat, a = ⟨tm, 26, [], false⟩ ∧ tm.get 0 = some (.slice p1 m.length c1) ∧ tm.get 1 = some (.slice p2 m.length c2) ∧ tm.get 12 = some (.int .i64 m.length) ∧ tm.get 13 = some (.int .i64 (k : Nat)) ∧ (k ≤ l.length ∧ n = l.length - k ∧ l.take k = m.take k ∧ σ' = σ)) ?_ l.length _ _ ?_
    · rintro n a σ' ⟨tm, k, rfl, h0, h1, h12, h13, hk, hn, htk, rfl⟩
      by_cases hlt : k < l.length
      · have hlt2 : k < m.length := by omega
        have hlt' : (k : Int) < l.length := by omega
        have hlt2' : (k : Int) < m.length := by omega
        obtain ⟨i, off, row, ro, rfl, hg, hin, hrow, hle⟩ := hv.at hlt
        obtain ⟨i2, off2, row2, ro2, rfl, hg2, hin2, hrow2, hle2⟩ := hw.at hlt2
        have hld := cell_y hrow k hlt
        have hl1 := row_le hle k hlt
        have hld2 := cell_y hrow2 k hlt2
        have hl2 := row_le hle2 k hlt2
        have hw := i64s k (by omega)
        simp [wops_cons, h0, h1, h12, h13, hlt2, hlt2']
        refine W_calm (by kernel_rfl) ?_
        simp [dops_cons, h0, h1, h12, h13, hlt, hlt', hlt2, hlt2', hg, hg2, hld, hld2, hl1, hl2]
        by_cases he : l[k] = m[k]
        · have he' : l[k].toNat = m[k].toNat := by rw [he]
          simp [wops_cons, he, he', h0, h1, h12, h13, hw]
          refine ⟨l.length - (k + 1), by omega, k + 1, rfl, by omega, rfl, ?_⟩
          rw [List.take_succ_eq_append_getElem hlt, List.take_succ_eq_append_getElem hlt2, htk, he]
        · have he' : ¬ (l[k].toNat = m[k].toNat) := fun e => he (u8_eq e)
          have he'' : ¬ ((l[k].toNat : Int) = m[k].toNat) := by omega
          have hne : l ≠ m := by rintro rfl; exact he rfl
          rw [decide_eq_false hne] at h
          simpa [wops_cons, he, he', he''] using h
      · have hkl : k = l.length := by omega
        have hlt' : ¬ ((k : Int) < l.length) := by omega
        have hlt2 : ¬ (k < m.length) := by omega
        have hlt2' : ¬ ((k : Int) < m.length) := by omega
        have he : l = m := by
          have := htk
          rwa [List.take_of_length_le (by omega), List.take_of_length_le (by omega)] at this
        rw [decide_eq_true he] at h
        simpa [wops_cons, h12, h13, hlt, hlt', hlt2, hlt2'] using h
    · refine ⟨_, 0, rfl, ?_⟩
      simp [hlen]
  · have hne : l ≠ m := by rintro rfl; exact hlen rfl
    have hi : ¬ ((l.length : Int) = m.length) := by omega
    rw [decide_eq_false hne] at h
    simpa [wops_cons, hi, hlen] using h
end Go.Sm
/- record.Decode. -/
set_option linter.unusedVariables false
set_option linter.unusedSimpArgs false
namespace Go.Sm
open Go Go.Proofs
set_option maxRecDepth 100000
set_option maxHeartbeats 4000000
theorem kle_eq (s u : ByteArray) : (klt s u || s.toList == u.toList) = !klt u s := by
  cases h : klt s u with
  | true =>
    have := bl_asymm h
    unfold klt; rw [this]; rfl
  | false =>
    by_cases e : s.toList = u.toList
    · rw [e]
      have : s = u := ba_list_inj e
      subst this
      have := bl_irrefl s.toList
      unfold klt; simp [this]
    · have : klt u s = true := by
        cases h' : klt u s with
        | true => rfl
        | false => exact absurd (bl_tri h h') e
      rw [this]
      simp [e]
theorem Ro.fr {T : TypeId → Prop} {b b' p : Nat} {σ σ' : CSt} {o : Option (List UInt8)} (h : Ro b p σ o) (h41 : ¬ T 41) (h5 : ¬ T 5) (f : Fr T b' σ σ') : Ro b p σ' o := by
  obtain ⟨v, l, hg, hbp, hpn, hsl, hol, hbig⟩ := h
  exact ⟨v, l, f.get hg hpn (.inr fun row e ro he => by cases he; exact h41), hbp, Nat.lt_of_lt_of_le hpn f.1, hsl.fr h5 f, hol, hbig⟩
end Go.Sm
/- Slices of slices are the same where the object is. -/
set_option linter.unusedVariables false
namespace Go.Sm
open Go
theorem sliceOp_get {P : Program} {σ σ' : CSt} {t : TypeId} {v : Value} {lo hi mx : Option Value} (h : ∀ i, objOf v = some i → σ'.get i = σ.get i) : sliceOp P σ' t v lo hi mx = sliceOp P σ t v lo hi mx := by
  unfold sliceOp
  cases elemOf? P t with
  | none => rfl
  | some p =>
    cases v with
    | slice p len cap =>
      cases p with
      | none => cases len <;> cases cap <;> rfl
      | some a =>
        obtain ⟨i, off, q⟩ := a
        cases q with
        | some _ => rfl
        | none =>
          have e : σ'.cells i = σ.cells i := by unfold CSt.cells; rw [h i rfl]
          simp only [e]
    | _ => rfl
theorem sliceOp_grow {α : Type} {P : Program} {σ σ' : CSt} {e : TypeId} {sz : Nat} {enc : α → List Value} {l : List α} {t : TypeId} {v : Value} {lo hi mx : Option Value} (hsl : Sl σ e sz enc v l) (g : Grow σ σ') : sliceOp P σ' t v lo hi mx = sliceOp P σ t v lo hi mx := by
  refine sliceOp_get fun i hi => ?_
  rcases hsl with ⟨rfl, _⟩ | ⟨i', off, cap, row, ro, rfl, _, hin, _⟩
  · cases hi
  · cases hi; exact g.old _ hin
end Go.Sm
