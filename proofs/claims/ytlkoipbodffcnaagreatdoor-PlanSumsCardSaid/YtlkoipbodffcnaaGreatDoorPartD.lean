/- Part D of the proof. -/
import Derived.IntWalk
import Derived.KernelRfl
import Derived.ChangeSlices
import Derived.ProofKit
import Derived.Carry
import Derived.Sort.AssemblyPlain
import Derived.Test.YtlkoipbodffcnaaGreatDoorPartB
import Derived.Test.YtlkoipbodffcnaaGreatDoorPartC
/- More operations as equations: copy, append of so many, cap, clear; rows written. -/
set_option linter.unusedVariables false
set_option linter.unusedSimpArgs false
namespace Go.Sm
open Go

/-- A row, written from a place on. -/
def wr (c : List Value) (off : Nat) (vs : List Value) : List Value := c.take off ++ vs ++ c.drop (off + vs.length)
theorem st_wr {c : List Value} {off : Nat} {vs : List Value} (h : off + vs.length ≤ c.length) : st c off vs = some (wr c off vs) := by simp [st, h, wr]
theorem wr_length {c : List Value} {off : Nat} {vs : List Value} (h : off + vs.length ≤ c.length) : (wr c off vs).length = c.length := by simp [wr]; omega
theorem wr_get {c : List Value} {off : Nat} {vs : List Value} (h : off + vs.length ≤ c.length) (k : Nat) : (wr c off vs)[k]? = if k < off then c[k]? else if k < off + vs.length then vs[k - off]? else c[k]? := by
  unfold wr
  by_cases h1 : k < off
  · rw [if_pos h1, List.append_assoc, List.getElem?_append_left (by simp; omega), List.getElem?_take, if_pos h1]
  · rw [if_neg h1]
    have hl : (c.take off).length = off := by simp; omega
    by_cases h2 : k < off + vs.length
    · rw [if_pos h2, List.append_assoc, List.getElem?_append_right (by omega), hl, List.getElem?_append_left (by omega)]
    · rw [if_neg h2, List.getElem?_append_right (by simp; omega)]
      simp only [List.length_append, hl, List.getElem?_drop]
      congr 1
      omega

@[simp] theorem rep_cok (n : Nat) (z : List Value) (h : cokL z = true) : cokL (List.replicate n z).flatten = true := by
  induction n with
  | zero => rfl
  | succ n ih => rw [List.replicate_succ, List.flatten_cons, cokL_append, h, ih]; rfl
section
variable {P : Program} {σ : CSt} {ev : Operand → Value} {dst : Option Tmp} {ty : TypeId} {pos : String} {after : Array Edge} {g : Option (Nat × Bool)}

/-! ### copy -/
def copyIK (σ : CSt) : Option Addr → Nat → List Value → Option CSt
  | some ⟨i, off, none⟩, n, new => if n = 0 then some σ else match σ.get i with
    | some (.cells c e false) => (st c off new).map fun c' => σ.put i (.cells c' e false)
    | _ => none
  | _, n, _ => if n = 0 then some σ else none
def copyK : Option (TypeId × TF) → CSt → Value → Value → Option (Value × CSt)
  | some (_, f), σ, .slice base dl _, s =>
    match lenOf? s with
    | some sl => (firstOf σ f.size (min sl dl) s).bind fun new => if new.length = min sl dl * f.size ∧ cokL new = true then (copyIK σ base (min sl dl) new).map fun σ' => (.int .i64 (min sl dl : Nat), σ') else none
    | none => none
  | _, _, _, _ => none
theorem copyIK_eq (base : Option Addr) (n : Nat) (new : List Value) : copyInto σ base n new = copyIK σ base n new := by
  unfold copyInto copyIK
  by_cases h0 : n = 0
  · simp only [h0, if_true]
    split <;> rfl
  · simp only [h0, if_false]
    split
    · rename_i i off
      simp only [h0, if_false, CSt.cells]
      generalize σ.get i = o
      cases o with
      | none => rfl
      | some o =>
        cases o with
        | cells c e ro => cases ro <;> rfl
        | _ => rfl
    · rename_i h
      split
      · rename_i i off
        exact absurd rfl (h _ _)
      · rw [if_neg h0]
theorem copyOp_K {ts : Array TypeId} {d s : Value} (h : (ts[0]?.bind (elemF P)).isSome = true) : copyOp P σ ts d s = copyK (ts[0]?.bind (elemF P)) σ d s := by
  obtain ⟨⟨e, f⟩, hf⟩ := Option.isSome_iff_exists.1 h
  rw [hf]
  simp only [Option.bind_eq_some_iff] at hf
  obtain ⟨t, ht, hf⟩ := hf
  obtain ⟨inf, g1, g2, g3, g4⟩ := elemOf_some hf
  unfold copyOp
  rw [ht]
  cases d with
  | slice base dl c =>
    cases hs : lenOf? s with
    | none => simp [copyK, hs]
    | some sl =>
      simp only [g1, copyK, hs, g2, copyIK_eq]
      show (match firstOf σ f.size (min sl dl) s with | some new => _ | none => none) = _
      cases firstOf σ f.size (min sl dl) s <;> rfl
  | _ => cases hs : lenOf? s <;> rfl

/-! ### nil[l:h] -/
def sliceN : Option Nat → Option Nat → Option Value
  | some l, some h => if l ≤ h ∧ h ≤ 0 then some (.slice none 0 0) else none
  | _, _ => none
@[simp] theorem sliceN_eq (l h : Nat) : sliceN (some l) (some h) = if l ≤ h ∧ h ≤ 0 then some (.slice none 0 0) else none := (rfl)
theorem sliceOp_nil {t : TypeId} (he : (elemF P t).isSome = true) (lo hi : Option Value) : sliceOp P σ t (.slice none 0 0) lo hi none = sliceN (bound? 0 lo) (bound? 0 hi) := by
  obtain ⟨⟨e, f⟩, hf⟩ := Option.isSome_iff_exists.1 he
  obtain ⟨inf, h1, h2, h3, h4⟩ := elemOf_some hf
  have hb : bound? 0 none = some 0 := rfl
  simp only [sliceOp, h1, hb]
  generalize bound? 0 hi = bh
  cases bound? 0 lo with
  | none => cases bh <;> rfl
  | some l =>
    cases bh with
    | none => rfl
    | some h => simp [sliceN]
/-! ### append(s, make(..)...) -/
def appNK : Option (TypeId × TF) → CSt → Value → Int → Option (Value × CSt)
  | some (e, f), σ, s, n => match f.zero with
    | some z => if 0 ≤ n ∧ n * f.bytes ≤ 2 ^ 47 ∧ z.length = f.size ∧ z.all flat0 = true then appendF σ e f s n.toNat ((List.replicate n.toNat z).flatten) else none
    | none => none
  | none, _, _, _ => none
theorem zerosOf_eq (z : Array Value) (n : Nat) : zerosOf z n = (List.replicate n z.toList).flatten := range_flatten z n
theorem appendOp_N {ts : Array TypeId} {s : Value} {k : IntKind} {n : Int} (h : (ts[0]?.bind (elemF P)).isSome = true) (h' : (ts[1]?.bind (intT P)).isSome = true) : appendOp P σ ts s (.int k n) = appNK (ts[0]?.bind (elemF P)) σ s n := by
  obtain ⟨⟨e, f⟩, hf⟩ := Option.isSome_iff_exists.1 h
  obtain ⟨e1, hf1⟩ := Option.isSome_iff_exists.1 h'
  rw [hf]
  simp only [Option.bind_eq_some_iff] at hf hf1
  obtain ⟨t, ht, hf⟩ := hf
  obtain ⟨u, hu, hf1⟩ := hf1
  obtain ⟨inf, g1, g2, g3, g4⟩ := elemOf_some hf
  have hund : ∃ k, P.underlying u = some (.int k) := by
    unfold intT at hf1
    split at hf1
    · rename_i e2 h2; exact ⟨_, h2⟩
    · cases hf1
  obtain ⟨k', hund⟩ := hund
  simp only [appendOp, ht, hu, g1, hund, appNK]
  cases hz : inf.zero with
  | none =>
    rw [hz] at g4
    simp only [Option.map_none] at g4
    rw [← g4]
  | some z =>
    rw [hz] at g4
    simp only [Option.map_some] at g4
    rw [← g4]
    simp only [g2, g3, Array.length_toList]
    by_cases hc : 0 ≤ n ∧ n * (f.bytes : Int) ≤ 2 ^ 47 ∧ z.cells.size = f.size ∧ z.cells.toList.all flat0 = true
    · rw [if_pos hc, if_pos hc, appendTo_F g2 g3 (by rw [hz]; exact g4), zerosOf_eq]
    · rw [if_neg hc, if_neg hc]

/-! ### cap -/
def capV (P : Program) (σ : CSt) (ts : Array TypeId) (fl : OpR) : Value → OpR
  | .slice none 0 0 => if (ts[0]?.bind (elemT P)).isSome = true then .val (.int .i64 0) σ else fl
  | .slice (some ⟨i, off, none⟩) n k => if k = openCap then capOp P σ ts i off n else if (ts[0]?.bind (elemT P)).isSome = true then .val (.int .i64 k) σ else .fail
  | _ => .fail
@[simp] theorem capV_nil (ts : Array TypeId) (fl : OpR) (h : (ts[0]?.bind (elemT P)).isSome = true) : capV P σ ts fl (.slice none 0 0) = .val (.int .i64 0) σ := by simp [capV, h]
@[simp] theorem capV_known (ts : Array TypeId) (fl : OpR) (i off n k : Nat) (hk : k ≠ openCap) (h : (ts[0]?.bind (elemT P)).isSome = true) : capV P σ ts fl (.slice (some ⟨i, off, none⟩) n k) = .val (.int .i64 k) σ := by simp [capV, h, hk]
theorem und_isSome {ts : Array TypeId} (h : (ts[0]?.bind (elemT P)).isSome = true) : ∃ t e, ts[0]? = some t ∧ P.underlying t = some (.slice e) := by
  cases ht : ts[0]? with
  | none => rw [ht] at h; cases h
  | some t =>
    rw [ht] at h
    obtain ⟨e, he⟩ := und_of_elem (show (elemT P t).isSome = true from h)
    exact ⟨t, e, rfl, he⟩
@[simp] theorem callOp_capV {x : Operand} {ts : Array TypeId} : callOp P σ ev ⟨dst, .call ⟨.builtin .cap, #[x], ts⟩, ty, pos, after, g⟩ ⟨.builtin .cap, #[x], ts⟩ =
    capV P σ ts (flatOp P σ ev ⟨dst, .call ⟨.builtin .cap, #[x], ts⟩, ty, pos, after, g⟩) (ev x) := by
  have ha : (Array.map ev #[x]).toList = [ev x] := by simp
  unfold capV
  split
  · rename_i hx
    simp only [callOp, ha, hx]
    split
    · rename_i h
      obtain ⟨t, e, ht, hu⟩ := und_isSome h
      have h1 : pureRun P (execOp ev ⟨dst, .call ⟨.builtin .cap, #[x], ts⟩, ty, pos, after, g⟩) = some (.value (.int .i64 0)) := by
        have h2 : execOp ev ⟨dst, .call ⟨.builtin .cap, #[x], ts⟩, ty, pos, after, g⟩ = (do pure (Next.value (← Builtin.cap_ ts ty #[.slice none 0 0])) : Sem Next) := by
          simp only [execOp, resolve]
          have : (Array.map ev #[x]) = #[.slice none 0 0] := by simp [hx]
          simp only [this]
          rfl
        rw [h2, pureRun_v]
        have h3 : pureRun P (Builtin.cap_ ts ty #[.slice none 0 0]) = some (.int .i64 0) := by
          simp [Builtin.cap_, ht, pureRun_bind, pureRun_underlying, hu, goInt]
        rw [h3]
        rfl
      simp only [flatOp, Op.operands, Call.operands, h1]
      simp [hx]
    · rfl
  · rename_i i off n k hx
    simp only [callOp, ha, hx]
    by_cases hk : k = openCap
    · rw [if_pos hk, if_pos hk]
    · rw [if_neg hk, if_neg hk]
      by_cases h : (ts[0]?.bind (elemT P)).isSome = true
      · obtain ⟨t, e, ht, hu⟩ := und_isSome h
        rw [if_pos h]
        simp only [ht, hu]
      · rw [if_neg h]
        cases ht : ts[0]? with
        | none => rfl
        | some t =>
          rw [ht] at h
          simp only [Option.bind_some, elemT] at h
          cases hu : P.underlying t with
          | none => simp [hu]
          | some d =>
            cases d with
            | slice e => rw [hu] at h; simp at h
            | _ => simp [hu]
  · rename_i h1 h2
    simp only [callOp, ha]
    split <;> simp_all
variable {E : Env}
theorem wres_ext (x : Ctx) (a : CAct) (d : Option Tmp) (K : CAct → CSt → Prop) (Q : Out → CSt → Prop) {fv : Value} {args : Array Value} {v : Value} (h : extOf E fv args σ = some v) : wres E x a d K Q σ (.call fv args) = K (a.put d v) σ := by simp only [wres, h]
/-! ### clear -/
def clearK : Option (TypeId × TF) → CSt → Value → Option (Value × CSt)
  | some (_, f), σ, .slice (some ⟨i, off, none⟩) n _ => if n = 0 then some (undef, σ) else
    match f.zero, σ.get i with
    | some z, some (.cells c e false) => if z.length = f.size ∧ z.all flat0 = true then (st c off ((List.replicate n z).flatten)).map fun c' => (undef, σ.put i (.cells c' e false)) else none
    | _, _ => none
  | some _, σ, .slice none 0 0 => some (undef, σ)
  | _, _, _ => none
theorem clearOp_K {ts : Array TypeId} {x : Value} (h : (ts[0]?.bind (elemF P)).isSome = true) : clearOp P σ ts x = clearK (ts[0]?.bind (elemF P)) σ x := by
  obtain ⟨⟨e, f⟩, hf⟩ := Option.isSome_iff_exists.1 h
  rw [hf]
  simp only [Option.bind_eq_some_iff] at hf
  obtain ⟨t, ht, hf⟩ := hf
  have hf0 := hf
  unfold elemF elemT at hf
  unfold clearOp
  rw [ht]
  cases hu : P.underlying t with
  | none => rw [hu] at hf; cases hf
  | some d =>
    cases d with
    | slice e0 =>
      rw [hu] at hf
      simp only [Option.bind_some, tf] at hf
      cases hi : P.info? e0 with
      | none => rw [hi] at hf; cases hf
      | some inf =>
        rw [hi] at hf
        simp only [Option.map_some, Option.some.injEq, Prod.mk.injEq] at hf
        obtain ⟨rfl, rfl⟩ := hf
        simp only [hu]
        cases x with
        | slice a n c =>
          cases a with
          | none =>
            cases n with
            | zero => cases c <;> simp [clearK]
            | succ n => simp [clearK]
          | some a =>
            obtain ⟨i, off, sp⟩ := a
            cases sp with
            | some s => rfl
            | none =>
              simp only [clearK, hi, CSt.cells]
              split
              · rfl
              · generalize σ.get i = o
                cases hz : inf.zero with
                | none =>
                  cases o with
                  | none => simp [hz]
                  | some o => cases o with
                    | cells c e ro => cases ro <;> simp [hz]
                    | _ => simp [hz]
                | some z =>
                  cases o with
                  | none => simp
                  | some o => cases o with
                    | cells c e ro =>
                      cases ro with
                      | true => simp
                      | false => simp [hz, zerosOf_eq]
                    | _ => simp
        | _ => rfl
    | _ => rw [hu] at hf; cases hf
@[simp] theorem callOp_clear (o : Oper) (x : Operand) (ts : Array TypeId) : callOp P σ ev o ⟨.builtin .clear, #[x], ts⟩ = OpR.ofP (clearOp P σ ts (ev x)) := by
  have : (Array.map ev #[x]).toList = [ev x] := by simp
  simp only [callOp, this]
end
end Go.Sm
/- The row with one element more: plain facts of lists. -/
set_option linter.unusedVariables false
namespace Go.Sm
open Go
section
variable {sz a n : Nat} {row new : List Value}
theorem insRow_get (hl : new.length = sz) (ha : a ≤ n) (hn : n * sz ≤ row.length) (k : Nat) :
    (insRow sz a n row new)[k]? = if k < a * sz then row[k]? else if k < a * sz + sz then new[k - a * sz]? else if k < n * sz + sz then row[k - sz]? else none := by
  have h1 : a * sz ≤ n * sz := Nat.mul_le_mul_right _ ha
  have hlen : (row.take (a * sz)).length = a * sz := by simp; omega
  unfold insRow
  by_cases c1 : k < a * sz
  · rw [if_pos c1, List.append_assoc, List.getElem?_append_left (by omega), List.getElem?_take, if_pos c1]
  · rw [if_neg c1]
    by_cases c2 : k < a * sz + sz
    · rw [if_pos c2, List.append_assoc, List.getElem?_append_right (by omega), hlen, List.getElem?_append_left (by omega)]
    · rw [if_neg c2, List.getElem?_append_right (by simp only [List.length_append, hlen]; omega)]
      simp only [List.length_append, hlen, hl, List.getElem?_drop, List.getElem?_take]
      have e : a * sz + (k - (a * sz + sz)) = k - sz := by omega
      rw [e]
      by_cases c3 : k < n * sz + sz
      · rw [if_pos c3, if_pos (by omega)]
      · rw [if_neg c3, if_neg (by omega)]
theorem insRow_len (hl : new.length = sz) (ha : a ≤ n) (hn : n * sz ≤ row.length) : (insRow sz a n row new).length = n * sz + sz := by
  have h1 : a * sz ≤ n * sz := Nat.mul_le_mul_right _ ha
  simp only [insRow, List.length_append, List.length_take, List.length_drop, hl]
  omega
/-- At the end, where there is room. -/
theorem insA (hl : new.length = sz) (hn : n * sz + sz ≤ row.length) : insRow sz n n row new = (wr row (n * sz) new).take (insRow sz n n row new).length := by
  rw [insRow_len hl (Nat.le_refl _) (by omega)]
  apply List.ext_getElem?
  intro k
  rw [insRow_get hl (Nat.le_refl _) (by omega), List.getElem?_take, wr_get (by omega), hl]
  by_cases c1 : k < n * sz
  · rw [if_pos c1, if_pos (by omega), if_pos c1]
  · rw [if_neg c1]
    by_cases c2 : k < n * sz + sz
    · rw [if_pos c2, if_pos c2, if_neg c1, if_pos c2]
    · rw [if_neg c2, if_neg c2, if_neg c2]
/-- At the end, anew. -/
theorem insB (hl : new.length = sz) (hn : n * sz ≤ row.length) : insRow sz n n row new = (row.take (n * sz) ++ new).take (insRow sz n n row new).length := by
  rw [insRow_len hl (Nat.le_refl _) hn]
  have : insRow sz n n row new = row.take (n * sz) ++ new := by simp [insRow]
  have hl2 : (row.take (n * sz)).length = n * sz := by simp; omega
  rw [this]
  exact (List.take_of_length_le (by rw [List.length_append, hl2, hl]; exact Nat.le_refl _)).symm
theorem seg_get {l m : Nat} (k : Nat) : ((row.drop l).take m)[k]? = if k < m then row[l + k]? else none := by rw [List.getElem?_take, List.getElem?_drop]
theorem mul_sub' (n a sz : Nat) : (n - a) * sz = n * sz - a * sz := Nat.sub_mul ..
/-- Within, anew. -/
theorem insC {z : List Value} (hl : new.length = sz) (ha : a < n) (hn : n * sz ≤ row.length) (hz : z.length = n * sz + sz - a * sz) :
    insRow sz a n row new = (wr (wr (row.take (a * sz) ++ z) (a * sz) new) (a * sz + sz) ((row.drop (a * sz)).take (n * sz - a * sz))).take (insRow sz a n row new).length := by
  have h1 : a * sz + sz ≤ n * sz := by have := Nat.mul_le_mul_right sz ha; rw [Nat.succ_mul] at this; exact this
  have h2 : (row.take (a * sz)).length = a * sz := by simp; omega
  have h3 : a * sz + new.length ≤ (row.take (a * sz) ++ z).length := by simp only [List.length_append, h2]; omega
  have h4 : ((row.drop (a * sz)).take (n * sz - a * sz)).length = n * sz - a * sz := by simp; omega
  rw [insRow_len hl (by omega) hn]
  apply List.ext_getElem?
  intro k
  rw [insRow_get hl (by omega) hn, List.getElem?_take, wr_get (by rw [wr_length h3]; simp only [List.length_append, h2, h4]; omega), wr_get h3, hl, h4, seg_get]
  by_cases c1 : k < a * sz
  · rw [if_pos c1, if_pos (by omega), if_pos (by omega), if_pos c1, List.getElem?_append_left (by omega), List.getElem?_take, if_pos c1]
  · rw [if_neg c1]
    by_cases c2 : k < a * sz + sz
    · rw [if_pos c2, if_pos (by omega), if_pos c2, if_neg c1, if_pos c2]
    · rw [if_neg c2]
      by_cases c3 : k < n * sz + sz
      · rw [if_pos c3, if_pos c3, if_neg c2, if_pos (by omega), if_pos (by omega)]
        congr 1
        omega
      · rw [if_neg c3, if_neg c3]
/-- Within, where there is room. -/
theorem insD (hl : new.length = sz) (ha : a < n) (hn : n * sz + sz ≤ row.length) :
    insRow sz a n row new = (wr (wr row (a * sz + sz) ((row.drop (a * sz)).take (n * sz - a * sz))) (a * sz) new).take (insRow sz a n row new).length := by
  have h1 : a * sz + sz ≤ n * sz := by have := Nat.mul_le_mul_right sz ha; rw [Nat.succ_mul] at this; exact this
  have h4 : ((row.drop (a * sz)).take (n * sz - a * sz)).length = n * sz - a * sz := by simp; omega
  have h3 : a * sz + sz + ((row.drop (a * sz)).take (n * sz - a * sz)).length ≤ row.length := by rw [h4]; omega
  rw [insRow_len hl (by omega) (by omega)]
  apply List.ext_getElem?
  intro k
  rw [insRow_get hl (by omega) (by omega), List.getElem?_take, wr_get (by rw [wr_length h3]; omega), wr_get h3, hl, h4, seg_get]
  by_cases c1 : k < a * sz
  · rw [if_pos c1, if_pos (by omega), if_pos c1, if_pos (by omega)]
  · rw [if_neg c1]
    by_cases c2 : k < a * sz + sz
    · rw [if_pos c2, if_pos (by omega), if_neg c1, if_pos c2]
    · rw [if_neg c2]
      by_cases c3 : k < n * sz + sz
      · rw [if_pos c3, if_pos c3, if_neg c1, if_neg c2, if_neg c2, if_pos (by omega), if_pos (by omega)]
        congr 1
        omega
      · rw [if_neg c3, if_neg c3]
end

theorem i64n (a : Nat) (h : a < 2 ^ 62) : IntKind.i64.wrap (a : Int) = a := IntWalk.i64_in _ (by omega)
theorem i64n1 (a : Nat) (h : a < 2 ^ 61) : IntKind.i64.wrap ((a : Int) + 1) = ((a + 1 : Nat) : Int) := by rw [IntWalk.i64_in _ (by omega)]; omega
theorem apartX_ne {e i oi ni ci j oj nj cj : Nat} {σ : CSt} {c d : List Value} {ed : TypeId} (hne : i ≠ j) (hi : σ.get i = some (.cells c e false)) (hj : σ.get j = some (.cells d ed false)) (hd : 0 < d.length) :
    apartX e #[.slice (some ⟨i, oi, none⟩) ni ci, .slice (some ⟨j, oj, none⟩) nj cj] σ = some (.bool false) := by
  cases d with
  | nil => simp at hd
  | cons x d => simp [apartX, hne, hi, hj]
end Go.Sm
set_option linter.unusedVariables false
set_option linter.unusedSimpArgs false
namespace Go.Sm
open Go Go.Proofs
set_option maxRecDepth 100000
set_option maxHeartbeats 1000000
attribute [local simp] sliceOp_open3 sliceOp_cap sliceOp_open sliceOp_nil appendOp_K appendOp_N copyOp_K
theorem ins_nil_29 (σ : CSt) (j : Nat) (new : List Value) (hj : j < σ.n) (hg : σ.get j = some (.cells new 124 false)) (hl : new.length = 3) (hc : cokL new = true) :
    W E0 (.fn 142 #[.slice none 0 0, .int .i64 0, .slice (some ⟨j, 0, none⟩) 1 1] none) σ (InsPost σ none 0 124 new 1) := by
  rw [W_fn (fn := Tryz.f142) Tryz.func142 rfl rfl rfl]
  have ht : new.take 3 = new := List.take_of_length_le (by omega)
  simp [wops_cons, hg, hl, hc, ht, appK, appendF]
  refine ⟨σ.n, new, openCap, rfl, by simp, by simp, .inl ⟨by omega, rfl⟩, fun y hy _ => ?_⟩
  simp
  omega
theorem ins_zero_29 (σ : CSt) (i j : Nat) (row new : List Value) (hi : i < σ.n) (hj : j < σ.n) (hij : i ≠ j) (hgi : σ.get i = some (.cells row 124 false)) (hg : σ.get j = some (.cells new 124 false)) (hl : new.length = 3) (hc : cokL new = true) :
    W E0 (.fn 142 #[.slice (some ⟨i, 0, none⟩) 0 0, .int .i64 0, .slice (some ⟨j, 0, none⟩) 1 1] none) σ (InsPost σ none 0 124 new 1) := by
  rw [W_fn (fn := Tryz.f142) Tryz.func142 rfl rfl rfl]
  have ht : new.take 3 = new := List.take_of_length_le (by omega)
  have h0 : (0 : Nat) ≠ openCap := by simp [openCap]
  have h1 : 0 < openCap := by simp [openCap]
  simp [wops_cons, hg, hgi, hl, hc, ht, appK, appendF, sliceC, h0, h1]
  refine ⟨σ.n, new, openCap, rfl, by simp, by simp, .inl ⟨by omega, rfl⟩, fun y hy _ => ?_⟩
  simp
  omega
theorem ins_end_29 (σ : CSt) (i j n k : Nat) (row new : List Value) (hi : i < σ.n) (hj : j < σ.n) (hij : i ≠ j) (hgi : σ.get i = some (.cells row 124 false)) (hg : σ.get j = some (.cells new 124 false)) (hl : new.length = 3) (hc : cokL new = true)
    (hn : n * 3 ≤ row.length) (hk : k * 3 ≤ row.length) (hb : (n + 1) * 32 ≤ 140737488355328) (hnk : n ≤ k) (hko : k < openCap) :
    W E0 (.fn 142 #[.slice (some ⟨i, 0, none⟩) n k, .int .i64 n, .slice (some ⟨j, 0, none⟩) 1 1] none) σ (InsPost σ (some i) k 124 (insRow 3 n n row new) (n + 1)) := by
  rw [W_fn (fn := Tryz.f142) Tryz.func142 rfl rfl rfl]
  have ht : new.take 3 = new := List.take_of_length_le (by omega)
  have h0 : k ≠ openCap := by omega
  by_cases hr : n + 1 ≤ k
  · have hst : st row (n * 3) new = some (wr row (n * 3) new) := st_wr (by omega)
    simp [wops_cons, hg, hgi, hl, hc, ht, appK, appendF, sliceC, h0, hko, hnk, hr, hst, -st_eq]
    refine ⟨i, wr row (n * 3) new, k, rfl, by simp, insA hl (by omega), .inr ⟨rfl, rfl, hr⟩, fun y hy hne => ?_⟩
    rw [CSt.get_put, if_neg]
    rintro rfl
    exact hne rfl
  · simp [wops_cons, hg, hgi, hl, hc, ht, appK, appendF, sliceC, h0, hko, hnk, hr, hn, hb]
    refine ⟨σ.n, _, openCap, rfl, by simp, insB hl hn, .inl ⟨Nat.le_refl _, rfl⟩, fun y hy hne => ?_⟩
    rw [CSt.get_alloc, if_neg (by omega)]
theorem ins_mid_29 (σ : CSt) (i j n a k : Nat) (row new : List Value) (hi : i < σ.n) (hj : j < σ.n) (hij : i ≠ j) (hgi : σ.get i = some (.cells row 124 false)) (hg : σ.get j = some (.cells new 124 false)) (hl : new.length = 3) (hc : cokL new = true)
    (hn : n * 3 ≤ row.length) (hk : k * 3 ≤ row.length) (hrc : cokL (row.take (n * 3)) = true) (ha : a < n) (hb : (n + 1) * 32 ≤ 140737488355328) (hn40 : n < 2 ^ 40) (hnk : n ≤ k) (hko : k < openCap) :
    W E0 (.fn 142 #[.slice (some ⟨i, 0, none⟩) n k, .int .i64 a, .slice (some ⟨j, 0, none⟩) 1 1] none) σ (InsPost σ (some i) k 124 (insRow 3 a n row new) (n + 1)) := by
  rw [W_fn (fn := Tryz.f142) Tryz.func142 rfl rfl rfl]
  have ht : new.take 3 = new := List.take_of_length_le (by omega)
  have h0 : k ≠ openCap := by omega
  have hle : a ≤ n := by omega
  have hne : a ≠ n := by omega
  have hw1 := i64n1 n (by omega)
  have hw2 := i64n1 a (by omega)
  have hlt : ¬ k < n ∧ ¬ (a : Int) = n := by omega
  have hnew : ld new 0 3 = some new := by simp [ld, hl, ht]
  have hp1 : (0 : Int) ≤ (n : Int) + 1 ∧ (0 : Int) ≤ (a : Int) + 1 ∧ ((n : Int) + 1).toNat = n + 1 ∧ ((a : Int) + 1).toNat = a + 1 := by omega
  by_cases hr : n + 1 ≤ k
  · have hI : ¬ ((k : Int) < n + 1) := by omega
    have hq : a ≤ k ∧ a + 1 ≤ k ∧ a ≤ n + 1 := by omega
    simp [wops_cons, hg, hgi, hl, hc, ht, appK, appendF, sliceC, h0, hko, hnk, hr, hle, hne, hlt.2, hw1, hw2, hp1, hI, hq, ha, -st_eq]
    rw [wres_ext (E := E0) (v := .bool false)]
    rotate_left
    · simp only [extOf_fn, E0X, extE]
      exact apartX_ne (Ne.symm hij) hg hgi (by omega)
    have hmin : min (n + 1 - a) (n - a) = n - a := by omega
    have hmul : (n - a) * 3 = n * 3 - a * 3 := by omega
    have hmin2 : min 1 (n + 1 - a) = 1 := by omega
    obtain ⟨seg, hseg⟩ : ∃ seg, seg = (row.drop (a * 3)).take (n * 3 - a * 3) := ⟨_, rfl⟩
    have hs1 : ld row (a * 3) ((n - a) * 3) = some seg := by rw [hmul, hseg]; simp; omega
    have hs2 : seg.length = (n - a) * 3 := by rw [hseg]; simp; omega
    have hs3 : cokL seg = true := by rw [hseg, ← List.drop_take]; exact cokL_drop hrc _
    have hs4 : st row ((a + 1) * 3) seg = some (wr row (a * 3 + 3) seg) := by rw [show (a + 1) * 3 = a * 3 + 3 by omega]; exact st_wr (by omega)
    have hs5 : (wr row (a * 3 + 3) seg).length = row.length := wr_length (by omega)
    have hs6 : st (wr row (a * 3 + 3) seg) (a * 3) new = some (wr (wr row (a * 3 + 3) seg) (a * 3) new) := st_wr (by omega)
    have hq2 : ¬ (k = a) ∧ ¬ (k = a + 1) ∧ ¬ (n - a = 0) := by omega
    simp only [Bool.not_false, wops_cons]
    simp [wops_cons, hg, hgi, hl, hc, ht]
    refine W_calm (by kernel_rfl) ?_
    simp [dops_cons, wops_cons, hg, hgi, hl, hc, ht, appK, appendF, sliceC, copyK, copyIK, h0, hko, hnk, hr, hle, hne, hlt.2, hw1, hw2, hp1, hI, hq, hq2, ha, hmin, hmin2, hs1, hs2, hs3, hs4, hs6, hnew, Ne.symm hij, -st_eq, -ld_eq]
    refine ⟨i, _, k, rfl, by simp; rfl, ?_, .inr ⟨rfl, rfl, hr⟩, fun y hy hne => ?_⟩
    · rw [hseg]; exact insD hl ha (by omega)
    · have : y ≠ i := by rintro rfl; exact hne rfl
      simp [this]
  · have hkn : k = n := by omega
    subst hkn
    have hI : ((k : Int) < k + 1) := by omega
    have hw3 : IntKind.i64.wrap ((k : Int) + 1 - a) = ((k + 1 - a : Nat) : Int) := by rw [IntWalk.i64_in _ (by omega)]; omega
    have hz1 : ((k + 1 - a : Nat) : Int) * 32 ≤ 140737488355328 := by omega
    have hz2 : ¬ (k + 1 - a = 0) := by omega
    have hz3 : ¬ (a + (k + 1 - a) ≤ k) := by omega
    have hz4 : a + (k + 1 - a) = k + 1 := by omega
    have hz5 : a * 3 ≤ row.length := by omega
    have hq : a ≤ k + 1 ∧ a + 1 ≤ k + 1 := by omega
    have hmin : min (k + 1 - a) (k - a) = k - a ∧ min (k - a) (k - a) = k - a := by omega
    have hmin2 : min 1 (k + 1 - a) = 1 := by omega
    have hjn : ¬ (j = σ.n) ∧ ¬ (i = σ.n) := by omega
    obtain ⟨z, hz⟩ : ∃ z, z = (List.replicate (k + 1 - a) [Value.int IntKind.u64 0, Value.string ⟨#[]⟩, Value.bool false]).flatten := ⟨_, rfl⟩
    have hzl : z.length = (k + 1 - a) * 3 := by rw [hz]; simp
    have hzc : cokL z = true := by rw [hz]; exact rep_cok _ _ rfl
    have hta : (row.take (a * 3)).length = a * 3 := by simp; omega
    have hrw : (row.take (a * 3) ++ z).length = k * 3 + 3 := by rw [List.length_append, hta, hzl]; omega
    have hc1 : st (row.take (a * 3) ++ z) (a * 3) new = some (wr (row.take (a * 3) ++ z) (a * 3) new) := st_wr (by omega)
    have hc2 : (wr (row.take (a * 3) ++ z) (a * 3) new).length = k * 3 + 3 := by rw [wr_length (by omega)]; exact hrw
    obtain ⟨seg, hseg⟩ : ∃ seg, seg = (row.drop (a * 3)).take (k * 3 - a * 3) := ⟨_, rfl⟩
    have hs1 : ld row (a * 3) ((k - a) * 3) = some seg := by rw [show (k - a) * 3 = k * 3 - a * 3 by omega, hseg]; simp; omega
    have hs2 : seg.length = (k - a) * 3 := by rw [hseg]; simp; omega
    have hs3 : cokL seg = true := by rw [hseg, ← List.drop_take]; exact cokL_drop hrc _
    have hs4 : st (wr (row.take (a * 3) ++ z) (a * 3) new) ((a + 1) * 3) seg = some (wr (wr (row.take (a * 3) ++ z) (a * 3) new) (a * 3 + 3) seg) := by rw [show (a + 1) * 3 = a * 3 + 3 by omega]; exact st_wr (by omega)
    have hq2 : ¬ (k = a) ∧ ¬ (k - a = 0) ∧ k + 1 - (a + 1) = k - a := by omega
    have hld : ld row 0 (a * 3) = some (row.take (a * 3)) := by simp [ld]; omega
    simp [wops_cons, hg, hgi, hl, hc, ht, appK, appendF, sliceC, h0, hko, hnk, hr, hn, hb, hle, hne, hlt.2, hw1, hw2, hw3, hz1, hz2, hz3, hz4, hz5, hp1, hI, hq, hq2, ha, appNK, sliceO, copyK, copyIK, ← hz, hzl, hzc, hc1, hnew, hmin, hmin2, hjn, hld, -st_eq, -ld_eq, -List.append_assoc]
    refine W_calm (by kernel_rfl) ?_
    simp [dops_cons, wops_cons, hg, hgi, hl, hc, ht, sliceC, h0, hko, hnk, hr, hn, hb, hle, hne, hlt.2, hw1, hw2, hp1, hI, hq, hq2, ha, sliceO, copyK, copyIK, hzl, hzc, hs1, hs2, hs3, hs4, hmin, hmin2, hjn, -st_eq, -ld_eq, -List.append_assoc]
    refine ⟨σ.n, _, openCap, rfl, by simp; rfl, ?_, .inl ⟨Nat.le_refl _, rfl⟩, fun y hy hne => ?_⟩
    · rw [hseg]; exact insC hl ha hn (by omega)
    · have : y ≠ σ.n := by omega
      simp [this]
/-- slices.Insert of a chain's versions. -/
theorem insW_29 : InsW E0 142 124 3 32 where
  nil := fun σ j new hj hg hl hc _ => ins_nil_29 σ j new hj hg hl hc
  zero := fun σ i j row new hi hj hij hgi hg hl hc _ => ins_zero_29 σ i j row new hi hj hij hgi hg hl hc
  some_ := fun σ i j n a k row new hi hj hij hgi hg hl hc hn hk hrc ha hb hn40 hnk hko => by
    by_cases he : a = n
    · subst he
      exact ins_end_29 σ i j a k row new hi hj hij hgi hg hl hc hn hk (by omega) hnk hko
    · exact ins_mid_29 σ i j n a k row new hi hj hij hgi hg hl hc hn hk hrc (by omega) (by omega) hn40 hnk hko
end Go.Sm
set_option linter.unusedVariables false
set_option linter.unusedSimpArgs false
namespace Go.Sm
open Go Go.Proofs
set_option maxRecDepth 100000
set_option maxHeartbeats 1000000
attribute [local simp] sliceOp_open3 sliceOp_cap sliceOp_open sliceOp_nil appendOp_K appendOp_N copyOp_K
theorem ins_nil_95 (σ : CSt) (j : Nat) (new : List Value) (hj : j < σ.n) (hg : σ.get j = some (.cells new 155 false)) (hl : new.length = 2) (hc : cokL new = true) :
    W E0 (.fn 126 #[.slice none 0 0, .int .i64 0, .slice (some ⟨j, 0, none⟩) 1 1] none) σ (InsPost σ none 0 155 new 1) := by
  rw [W_fn (fn := Tryz.f126) Tryz.func126 rfl rfl rfl]
  have ht : new.take 2 = new := List.take_of_length_le (by omega)
  simp [wops_cons, hg, hl, hc, ht, appK, appendF]
  refine ⟨σ.n, new, openCap, rfl, by simp, by simp, .inl ⟨by omega, rfl⟩, fun y hy _ => ?_⟩
  simp
  omega
theorem ins_zero_95 (σ : CSt) (i j : Nat) (row new : List Value) (hi : i < σ.n) (hj : j < σ.n) (hij : i ≠ j) (hgi : σ.get i = some (.cells row 155 false)) (hg : σ.get j = some (.cells new 155 false)) (hl : new.length = 2) (hc : cokL new = true) :
    W E0 (.fn 126 #[.slice (some ⟨i, 0, none⟩) 0 0, .int .i64 0, .slice (some ⟨j, 0, none⟩) 1 1] none) σ (InsPost σ none 0 155 new 1) := by
  rw [W_fn (fn := Tryz.f126) Tryz.func126 rfl rfl rfl]
  have ht : new.take 2 = new := List.take_of_length_le (by omega)
  have h0 : (0 : Nat) ≠ openCap := by simp [openCap]
  have h1 : 0 < openCap := by simp [openCap]
  simp [wops_cons, hg, hgi, hl, hc, ht, appK, appendF, sliceC, h0, h1]
  refine ⟨σ.n, new, openCap, rfl, by simp, by simp, .inl ⟨by omega, rfl⟩, fun y hy _ => ?_⟩
  simp
  omega
theorem ins_end_95 (σ : CSt) (i j n k : Nat) (row new : List Value) (hi : i < σ.n) (hj : j < σ.n) (hij : i ≠ j) (hgi : σ.get i = some (.cells row 155 false)) (hg : σ.get j = some (.cells new 155 false)) (hl : new.length = 2) (hc : cokL new = true)
    (hn : n * 2 ≤ row.length) (hk : k * 2 ≤ row.length) (hb : (n + 1) * 40 ≤ 140737488355328) (hnk : n ≤ k) (hko : k < openCap) :
    W E0 (.fn 126 #[.slice (some ⟨i, 0, none⟩) n k, .int .i64 n, .slice (some ⟨j, 0, none⟩) 1 1] none) σ (InsPost σ (some i) k 155 (insRow 2 n n row new) (n + 1)) := by
  rw [W_fn (fn := Tryz.f126) Tryz.func126 rfl rfl rfl]
  have ht : new.take 2 = new := List.take_of_length_le (by omega)
  have h0 : k ≠ openCap := by omega
  by_cases hr : n + 1 ≤ k
  · have hst : st row (n * 2) new = some (wr row (n * 2) new) := st_wr (by omega)
    simp [wops_cons, hg, hgi, hl, hc, ht, appK, appendF, sliceC, h0, hko, hnk, hr, hst, -st_eq]
    refine ⟨i, wr row (n * 2) new, k, rfl, by simp, insA hl (by omega), .inr ⟨rfl, rfl, hr⟩, fun y hy hne => ?_⟩
    rw [CSt.get_put, if_neg]
    rintro rfl
    exact hne rfl
  · simp [wops_cons, hg, hgi, hl, hc, ht, appK, appendF, sliceC, h0, hko, hnk, hr, hn, hb]
    refine ⟨σ.n, _, openCap, rfl, by simp, insB hl hn, .inl ⟨Nat.le_refl _, rfl⟩, fun y hy hne => ?_⟩
    rw [CSt.get_alloc, if_neg (by omega)]
theorem ins_mid_95 (σ : CSt) (i j n a k : Nat) (row new : List Value) (hi : i < σ.n) (hj : j < σ.n) (hij : i ≠ j) (hgi : σ.get i = some (.cells row 155 false)) (hg : σ.get j = some (.cells new 155 false)) (hl : new.length = 2) (hc : cokL new = true)
    (hn : n * 2 ≤ row.length) (hk : k * 2 ≤ row.length) (hrc : cokL (row.take (n * 2)) = true) (ha : a < n) (hb : (n + 1) * 40 ≤ 140737488355328) (hn40 : n < 2 ^ 40) (hnk : n ≤ k) (hko : k < openCap) :
    W E0 (.fn 126 #[.slice (some ⟨i, 0, none⟩) n k, .int .i64 a, .slice (some ⟨j, 0, none⟩) 1 1] none) σ (InsPost σ (some i) k 155 (insRow 2 a n row new) (n + 1)) := by
  rw [W_fn (fn := Tryz.f126) Tryz.func126 rfl rfl rfl]
  have ht : new.take 2 = new := List.take_of_length_le (by omega)
  have h0 : k ≠ openCap := by omega
  have hle : a ≤ n := by omega
  have hne : a ≠ n := by omega
  have hw1 := i64n1 n (by omega)
  have hw2 := i64n1 a (by omega)
  have hlt : ¬ k < n ∧ ¬ (a : Int) = n := by omega
  have hnew : ld new 0 2 = some new := by simp [ld, hl, ht]
  have hp1 : (0 : Int) ≤ (n : Int) + 1 ∧ (0 : Int) ≤ (a : Int) + 1 ∧ ((n : Int) + 1).toNat = n + 1 ∧ ((a : Int) + 1).toNat = a + 1 := by omega
  by_cases hr : n + 1 ≤ k
  · have hI : ¬ ((k : Int) < n + 1) := by omega
    have hq : a ≤ k ∧ a + 1 ≤ k ∧ a ≤ n + 1 := by omega
    simp [wops_cons, hg, hgi, hl, hc, ht, appK, appendF, sliceC, h0, hko, hnk, hr, hle, hne, hlt.2, hw1, hw2, hp1, hI, hq, ha, -st_eq]
    rw [wres_ext (E := E0) (v := .bool false)]
    rotate_left
    · simp only [extOf_fn, E0X, extE]
      exact apartX_ne (Ne.symm hij) hg hgi (by omega)
    have hmin : min (n + 1 - a) (n - a) = n - a := by omega
    have hmul : (n - a) * 2 = n * 2 - a * 2 := by omega
    have hmin2 : min 1 (n + 1 - a) = 1 := by omega
    obtain ⟨seg, hseg⟩ : ∃ seg, seg = (row.drop (a * 2)).take (n * 2 - a * 2) := ⟨_, rfl⟩
    have hs1 : ld row (a * 2) ((n - a) * 2) = some seg := by rw [hmul, hseg]; simp; omega
    have hs2 : seg.length = (n - a) * 2 := by rw [hseg]; simp; omega
    have hs3 : cokL seg = true := by rw [hseg, ← List.drop_take]; exact cokL_drop hrc _
    have hs4 : st row ((a + 1) * 2) seg = some (wr row (a * 2 + 2) seg) := by rw [show (a + 1) * 2 = a * 2 + 2 by omega]; exact st_wr (by omega)
    have hs5 : (wr row (a * 2 + 2) seg).length = row.length := wr_length (by omega)
    have hs6 : st (wr row (a * 2 + 2) seg) (a * 2) new = some (wr (wr row (a * 2 + 2) seg) (a * 2) new) := st_wr (by omega)
    have hq2 : ¬ (k = a) ∧ ¬ (k = a + 1) ∧ ¬ (n - a = 0) := by omega
    simp only [Bool.not_false, wops_cons]
    simp [wops_cons, hg, hgi, hl, hc, ht]
    refine W_calm (by kernel_rfl) ?_
    simp [dops_cons, wops_cons, hg, hgi, hl, hc, ht, appK, appendF, sliceC, copyK, copyIK, h0, hko, hnk, hr, hle, hne, hlt.2, hw1, hw2, hp1, hI, hq, hq2, ha, hmin, hmin2, hs1, hs2, hs3, hs4, hs6, hnew, Ne.symm hij, -st_eq, -ld_eq]
    refine ⟨i, _, k, rfl, by simp; rfl, ?_, .inr ⟨rfl, rfl, hr⟩, fun y hy hne => ?_⟩
    · rw [hseg]; exact insD hl ha (by omega)
    · have : y ≠ i := by rintro rfl; exact hne rfl
      simp [this]
  · have hkn : k = n := by omega
    subst hkn
    have hI : ((k : Int) < k + 1) := by omega
    have hw3 : IntKind.i64.wrap ((k : Int) + 1 - a) = ((k + 1 - a : Nat) : Int) := by rw [IntWalk.i64_in _ (by omega)]; omega
    have hz1 : ((k + 1 - a : Nat) : Int) * 40 ≤ 140737488355328 := by omega
    have hz2 : ¬ (k + 1 - a = 0) := by omega
    have hz3 : ¬ (a + (k + 1 - a) ≤ k) := by omega
    have hz4 : a + (k + 1 - a) = k + 1 := by omega
    have hz5 : a * 2 ≤ row.length := by omega
    have hq : a ≤ k + 1 ∧ a + 1 ≤ k + 1 := by omega
    have hmin : min (k + 1 - a) (k - a) = k - a ∧ min (k - a) (k - a) = k - a := by omega
    have hmin2 : min 1 (k + 1 - a) = 1 := by omega
    have hjn : ¬ (j = σ.n) ∧ ¬ (i = σ.n) := by omega
    obtain ⟨z, hz⟩ : ∃ z, z = (List.replicate (k + 1 - a) [Value.string ⟨#[]⟩, Value.slice none 0 0]).flatten := ⟨_, rfl⟩
    have hzl : z.length = (k + 1 - a) * 2 := by rw [hz]; simp
    have hzc : cokL z = true := by rw [hz]; exact rep_cok _ _ rfl
    have hta : (row.take (a * 2)).length = a * 2 := by simp; omega
    have hrw : (row.take (a * 2) ++ z).length = k * 2 + 2 := by rw [List.length_append, hta, hzl]; omega
    have hc1 : st (row.take (a * 2) ++ z) (a * 2) new = some (wr (row.take (a * 2) ++ z) (a * 2) new) := st_wr (by omega)
    have hc2 : (wr (row.take (a * 2) ++ z) (a * 2) new).length = k * 2 + 2 := by rw [wr_length (by omega)]; exact hrw
    obtain ⟨seg, hseg⟩ : ∃ seg, seg = (row.drop (a * 2)).take (k * 2 - a * 2) := ⟨_, rfl⟩
    have hs1 : ld row (a * 2) ((k - a) * 2) = some seg := by rw [show (k - a) * 2 = k * 2 - a * 2 by omega, hseg]; simp; omega
    have hs2 : seg.length = (k - a) * 2 := by rw [hseg]; simp; omega
    have hs3 : cokL seg = true := by rw [hseg, ← List.drop_take]; exact cokL_drop hrc _
    have hs4 : st (wr (row.take (a * 2) ++ z) (a * 2) new) ((a + 1) * 2) seg = some (wr (wr (row.take (a * 2) ++ z) (a * 2) new) (a * 2 + 2) seg) := by rw [show (a + 1) * 2 = a * 2 + 2 by omega]; exact st_wr (by omega)
    have hq2 : ¬ (k = a) ∧ ¬ (k - a = 0) ∧ k + 1 - (a + 1) = k - a := by omega
    have hld : ld row 0 (a * 2) = some (row.take (a * 2)) := by simp [ld]; omega
    simp [wops_cons, hg, hgi, hl, hc, ht, appK, appendF, sliceC, h0, hko, hnk, hr, hn, hb, hle, hne, hlt.2, hw1, hw2, hw3, hz1, hz2, hz3, hz4, hz5, hp1, hI, hq, hq2, ha, appNK, sliceO, copyK, copyIK, ← hz, hzl, hzc, hc1, hnew, hmin, hmin2, hjn, hld, -st_eq, -ld_eq, -List.append_assoc]
    refine W_calm (by kernel_rfl) ?_
    simp [dops_cons, wops_cons, hg, hgi, hl, hc, ht, sliceC, h0, hko, hnk, hr, hn, hb, hle, hne, hlt.2, hw1, hw2, hp1, hI, hq, hq2, ha, sliceO, copyK, copyIK, hzl, hzc, hs1, hs2, hs3, hs4, hmin, hmin2, hjn, -st_eq, -ld_eq, -List.append_assoc]
    refine ⟨σ.n, _, openCap, rfl, by simp; rfl, ?_, .inl ⟨Nat.le_refl _, rfl⟩, fun y hy hne => ?_⟩
    · rw [hseg]; exact insC hl ha hn (by omega)
    · have : y ≠ σ.n := by omega
      simp [this]
/-- slices.Insert of a chain's versions. -/
theorem insW_95 : InsW E0 126 155 2 40 where
  nil := fun σ j new hj hg hl hc _ => ins_nil_95 σ j new hj hg hl hc
  zero := fun σ i j row new hi hj hij hgi hg hl hc _ => ins_zero_95 σ i j row new hi hj hij hgi hg hl hc
  some_ := fun σ i j n a k row new hi hj hij hgi hg hl hc hn hk hrc ha hb hn40 hnk hko => by
    by_cases he : a = n
    · subst he
      exact ins_end_95 σ i j a k row new hi hj hij hgi hg hl hc hn hk (by omega) hnk hko
    · exact ins_mid_95 σ i j n a k row new hi hj hij hgi hg hl hc hn hk hrc (by omega) (by omega) hn40 hnk hko
end Go.Sm
/- The closed tests, reckoned. -/
namespace Go.Sm
open Go Go.Proofs
def isTrue : Out → CSt → Bool := fun o _ => match o with | .ret (.bool true) false => true | _ => false
def st0 : CSt := { h := ((Tr.nil : Tr CObj).set 0 (.cells [.int .u64 1, .int .u64 0] 0 true)), n := 256 }
set_option maxRecDepth 1000000
theorem aw35 : runB EV 80000 (.fn 35 #[] none) st0 isTrue = true := by kernel_rfl
theorem aw13 : runB EV 40000 (.fn 13 #[] none) st0 isTrue = true := by kernel_rfl
end Go.Sm
/- The environments are sound: what is taken as one step is so. -/
set_option linter.unusedVariables false
namespace Go.Sm
open Go Go.Proofs
set_option maxRecDepth 100000
theorem good_all : (Tryz.prog.funcs.toList.all fun fn => !(fn.name == "runtime.NumGoroutine")) = true := by kernel_rfl
theorem good_mixed : Tryz.prog.follows .mixedOrders = true := by kernel_rfl
theorem good : Good Tryz.prog := by
  refine ⟨fun f fn h _ => ?_, good_mixed⟩
  have := List.all_eq_true.1 good_all fn (by rw [Array.mem_toList_iff]; exact Array.mem_of_getElem? h)
  simpa using this
def isU8 (P : Program) (e : TypeId) : Bool := match P.underlying e with | some (.int .u8) => true | _ => false
theorem not_u8 {P : Program} {e : TypeId} (h : isU8 P e = false) : P.underlying e ≠ some (.int .u8) := by
  intro hh
  unfold isU8 at h
  rw [hh] at h
  cases h
theorem ext_ok {E : Env} (hP : E.P = Tryz.prog) (hx : E.ext = extE) : ExtOk E := by
  intro g args σ v h ρ w args' hR ha
  rw [hx] at h
  rw [hP] at hR ⊢
  unfold extE at h
  split at h
  · exact apart_ok (tS := 153) (tR := 4) (size := 2) Tryz.func143 (by kernel_rfl) (by kernel_rfl) (by kernel_rfl) (by kernel_rfl) (by kernel_rfl) (fun w => by kernel_rfl) (not_u8 (by kernel_rfl)) h hR ha
  · exact apart_ok (tS := 143) (tR := 4) (size := 3) Tryz.func154 (by kernel_rfl) (by kernel_rfl) (by kernel_rfl) (by kernel_rfl) (by kernel_rfl) (fun w => by kernel_rfl) (not_u8 (by kernel_rfl)) h hR ha
  · cases h
theorem gam0 : GamOk E0 := by
  intro f g h
  cases h
theorem gamV : GamOk EV := by
  intro f g h args σ v σ' hg Q hq
  change gamI f = some g at h
  unfold gamI at h
  split at h
  · cases h
    exact ins_gam (E := E0) good (ext_ok rfl rfl) gam0 (by exact ⟨_, Tryz.func126, rfl⟩) (by kernel_rfl) (by decide) insW_95 hg hq
  · cases h
    exact ins_gam (E := E0) good (ext_ok rfl rfl) gam0 (by exact ⟨_, Tryz.func142, rfl⟩) (by kernel_rfl) (by decide) insW_29 hg hq
  · cases h
theorem base0 : Base st0 := by
  refine ⟨rfl, fun i o h => ?_⟩
  simp only [st0, CSt.get, Tr.get_set] at h
  split at h
  · cases h
    rename_i hi
    subst hi
    exact ⟨by decide, _, _, rfl, by simp⟩
  · simp [Tr.get_nil] at h
theorem ext0 {σ : CSt} (h : gnone σ) : Ext st0 σ := by
  intro i o ho
  simp only [st0, CSt.get, Tr.get_set] at ho
  split at ho
  · rename_i hi
    subst hi
    cases ho
    exact h
  · simp [Tr.get_nil] at ho
theorem aw_ok {f : FuncId} {n : Nat} (h : runB EV n (.fn f #[] none) st0 isTrue = true) {args : Array Value} {σ σ' : CSt} {v : Value} (hg : awakeG args σ = some (v, σ')) {Q : Out → CSt → Prop} (hq : Q (.ret v false) σ') : SimFn Tryz.prog f args none σ Q := by
  unfold awakeG at hg
  split at hg
  · rename_i hc
    cases hg
    obtain ⟨rfl, hn⟩ := hc
    refine base_fn (E := EV) good (ext_ok rfl rfl) gamV base0 ((runB_W _ h).weaken fun o s ho => ?_) (by simp) rfl (ext0 hn) hq
    unfold isTrue at ho
    split at ho
    · rfl
    · cases ho
  · cases hg
theorem gam1 : GamOk E1 := by
  intro f g h args σ v σ' hg Q hq
  change gamL f = some g at h
  unfold gamL at h
  split at h
  · cases h
    exact ins_gam (E := E0) good (ext_ok rfl rfl) gam0 (by exact ⟨_, Tryz.func126, rfl⟩) (by kernel_rfl) (by decide) insW_95 hg hq
  · cases h
    exact ins_gam (E := E0) good (ext_ok rfl rfl) gam0 (by exact ⟨_, Tryz.func142, rfl⟩) (by kernel_rfl) (by decide) insW_29 hg hq
  · cases h; exact aw_ok aw13 hg hq
  · cases h; exact aw_ok aw35 hg hq
  · cases h
end Go.Sm
/- Floats that are small whole numbers. -/
set_option linter.unusedVariables false
set_option linter.unusedSimpArgs false
set_option maxRecDepth 100000
namespace Go.Sm
open Go Ieee
def fl (n : Int) : Nat := FloatKind.f64.nearest n
theorem cut_exact (neg : Bool) (k d : Nat) (hk : 0 < k) : Toward.even.cut neg (k * 2 ^ d) d = k := by
  have hp : 0 < 2 ^ d := Nat.two_pow_pos d
  have hl : d ≤ (k * 2 ^ d).log2 := by
    have h0 : k * 2 ^ d ≠ 0 := Nat.pos_iff_ne_zero.1 (Nat.mul_pos hk hp)
    have := (Nat.le_log2 h0 (k := d)).2 (Nat.le_mul_of_pos_left _ hk)
    exact this
  unfold Toward.cut
  simp only [Nat.one_shiftLeft, Nat.min_eq_left (show d ≤ (k * 2 ^ d).log2 + 2 by omega), Nat.mul_div_cancel _ hp, Nat.mul_mod_left]
  have h1 : ¬ (2 ^ d < 2 * 0) := by omega
  have h2 : (2 ^ d == 2 * 0) = false := by simp
  simp [h2]
theorem log2_scale (m e : Nat) (hm : 0 < m) : (m * 2 ^ e).log2 = m.log2 + e := by
  have h0 : m * 2 ^ e ≠ 0 := Nat.pos_iff_ne_zero.1 (Nat.mul_pos hm (Nat.two_pow_pos e))
  have hm0 : m ≠ 0 := by omega
  rw [Nat.log2_eq_iff h0]
  have h1 := Nat.log2_self_le hm0
  have h2 := Nat.lt_log2_self (n := m)
  constructor
  · rw [Nat.pow_add]
    exact Nat.mul_le_mul_right _ h1
  · rw [show m.log2 + e + 1 = m.log2 + 1 + e by omega, Nat.pow_add]
    exact Nat.mul_lt_mul_of_pos_right h2 (Nat.two_pow_pos e)
/-- The word of a whole number, at any scale. -/
def wd (neg : Bool) (m : Nat) : Nat := double.word neg ((m.log2 + 1022) * 2 ^ 52 + m * 2 ^ (52 - m.log2))
theorem log2_lt53 {m : Nat} (hm : 0 < m) (h : m < 2 ^ 53) : m.log2 ≤ 52 := by
  have := (Nat.log2_lt (n := m) (k := 53) (by omega)).2 h
  omega
theorem kept_rng {m : Nat} (hm : 0 < m) (h : m < 2 ^ 53) : 2 ^ 52 ≤ m * 2 ^ (52 - m.log2) ∧ m * 2 ^ (52 - m.log2) < 2 ^ 53 := by
  have hl := log2_lt53 hm h
  have h1 := Nat.log2_self_le (n := m) (by omega)
  have h2 := Nat.lt_log2_self (n := m)
  constructor
  · calc 2 ^ 52 = 2 ^ m.log2 * 2 ^ (52 - m.log2) := by rw [← Nat.pow_add]; congr 1; omega
      _ ≤ _ := Nat.mul_le_mul_right _ h1
  · calc m * 2 ^ (52 - m.log2) < 2 ^ (m.log2 + 1) * 2 ^ (52 - m.log2) := Nat.mul_lt_mul_of_pos_right h2 (Nat.two_pow_pos _)
      _ = 2 ^ 53 := by rw [← Nat.pow_add]; congr 1; omega
theorem nearest_scale (neg : Bool) (m e : Nat) (hm : 0 < m) (h53 : m < 2 ^ 53) : double.nearest neg (m * 2 ^ e) (-(e : Int)) = wd neg m := by
  have hl := log2_lt53 hm h53
  have hp : 0 < m * 2 ^ e := Nat.mul_pos hm (Nat.two_pow_pos e)
  have hk := kept_rng hm h53
  unfold Format.nearest wd
  rw [if_neg (by omega), log2_scale m e hm]
  have hlp : double.leastPlace = -1074 := by decide
  have hf : (double.fractionBits : Int) = 52 := rfl
  have hlast : max (-(e : Int) + ((m.log2 + e : Nat) : Int) - (double.fractionBits : Int)) double.leastPlace = (m.log2 : Int) - 52 := by
    rw [hlp, hf]; omega
  simp only [hlast]
  obtain ⟨d, hd⟩ : ∃ d, d = ((m.log2 : Int) - 52 - -(e : Int)).toNat := ⟨_, rfl⟩
  rw [← hd, Nat.shiftLeft_eq]
  have hsh : m * 2 ^ e * 2 ^ (-(e : Int) - ((m.log2 : Int) - 52)).toNat = (m * 2 ^ (52 - m.log2)) * 2 ^ d := by
    rw [Nat.mul_assoc, Nat.mul_assoc, ← Nat.pow_add, ← Nat.pow_add]
    congr 2
    omega
  rw [hsh, cut_exact _ _ _ (by omega)]
  have h1 : ((m.log2 : Int) - 52 - double.leastPlace).toNat = m.log2 + 1022 := by rw [hlp]; omega
  have h2 : double.binade = 2 ^ 52 := rfl
  have h3 : double.infRung = 2047 * 2 ^ 52 := rfl
  rw [h1, h2, h3, Nat.min_eq_left]
  omega
theorem fl_eq (n : Int) (h : n ≠ 0) (h53 : n.natAbs < 2 ^ 53) : fl n = wd (decide (n < 0)) n.natAbs := by
  have := nearest_scale (decide (n < 0)) n.natAbs 0 (by omega) h53
  rw [Nat.pow_zero, Nat.mul_one] at this
  exact this
theorem fl_zero : fl 0 = 0 := by decide
theorem read_wd (neg : Bool) (m : Nat) (hm : 0 < m) (h53 : m < 2 ^ 53) : double.read (wd neg m) = .number neg (m * 2 ^ (52 - m.log2)) ((m.log2 : Int) - 52) := by
  have hl := log2_lt53 hm h53
  have hk := kept_rng hm h53
  unfold wd
  generalize hK : m * 2 ^ (52 - m.log2) = K at *
  generalize hL : m.log2 = L at *
  have hsw : double.signWeight = 9223372036854775808 := by decide
  have h2 : double.binade = 4503599627370496 := by decide
  have h3 : double.infRung = 2047 * 4503599627370496 := by decide
  have hlp : double.leastPlace = -1074 := by decide
  have hw : double.word neg ((L + 1022) * 2 ^ 52 + K) = (if neg then 9223372036854775808 else 0) + ((L + 1022) * 4503599627370496 + K) := by
    unfold Format.word
    rw [hsw]
    cases neg <;> simp
  rw [hw]
  unfold Format.read
  simp only [hsw, h2, h3, hlp]
  have hk1 : 4503599627370496 ≤ K := hk.1
  have hk2 : K < 9007199254740992 := hk.2
  have e1 : ((if neg = true then 9223372036854775808 else 0) + ((L + 1022) * 4503599627370496 + K)) % 9223372036854775808 = (L + 1022) * 4503599627370496 + K := by
    cases neg <;> simp <;> omega
  have e2 : (((if neg = true then 9223372036854775808 else 0) + ((L + 1022) * 4503599627370496 + K)) / 9223372036854775808 % 2 == 1) = neg := by
    cases neg
    · simp; omega
    · simp; omega
  rw [e1, e2, if_neg (by omega), if_pos (by omega)]
  have e3 : ((L + 1022) * 4503599627370496 + K) % 4503599627370496 = K - 4503599627370496 := by omega
  have e4 : ((L + 1022) * 4503599627370496 + K) / 4503599627370496 = L + 1023 := by omega
  have e5 : 4503599627370496 + (K - 4503599627370496) = K := by omega
  have e6 : (-1074 : Int) + ((L + 1023 - 1 : Nat) : Int) = (L : Int) - 52 := by omega
  rw [e3, e4, e5, e6]
/-- What a whole number's datum looks like. -/
theorem read_fl (n : Int) (h53 : n.natAbs < 2 ^ 53) : ∃ m p, p ≤ (0 : Int) ∧ m = n.natAbs * 2 ^ (-p).toNat ∧ double.read (fl n) = .number (decide (n < 0)) m p := by
  by_cases h : n = 0
  · subst h
    exact ⟨0, -1074, by decide, (Nat.zero_mul _).symm, by rw [fl_zero]; decide⟩
  · have hm : 0 < n.natAbs := by omega
    have hl := log2_lt53 hm h53
    refine ⟨_, _, ?_, ?_, by rw [fl_eq n h h53]; exact read_wd _ _ hm h53⟩
    · omega
    · congr 2; omega
theorem signed_eq (n : Int) (a b : Nat) (s : Bool) (hs : n ≠ 0 → s = decide (n < 0)) : signed s (n.natAbs * 2 ^ a) b = n * 2 ^ (a + b) := by
  unfold signed
  rw [Nat.shiftLeft_eq, Nat.mul_assoc, ← Nat.pow_add]
  by_cases h : n = 0
  · subst h; simp
  · rw [hs h]
    have hc : ((n.natAbs * 2 ^ (a + b) : Nat) : Int) = n.natAbs * 2 ^ (a + b) := by push_cast; rfl
    rw [hc]
    by_cases h0 : n < 0
    · rw [if_pos (by simpa using h0), ← Int.neg_mul]
      congr 1; omega
    · rw [if_neg (by simpa using h0)]
      congr 1; omega
theorem sum_is {a b : Int} {s t : Bool} {m n : Nat} {i j : Int} (hi : i ≤ 0) (hj : j ≤ 0) (hm : m = a.natAbs * 2 ^ (-i).toNat) (hn : n = b.natAbs * 2 ^ (-j).toNat) (hs : s = decide (a < 0)) (ht : b ≠ 0 → t = decide (b < 0)) (h53 : (a + b).natAbs < 2 ^ 53) :
    ((Datum.number s m i).sum (.number t n j)).map double.write = some (fl (a + b)) := by
  subst hm; subst hn
  obtain ⟨B, hB⟩ : ∃ B : Nat, B = (-(min i j)).toNat := ⟨_, rfl⟩
  have e1 : signed s (a.natAbs * 2 ^ (-i).toNat) (i - min i j).toNat = a * 2 ^ B := by
    rw [signed_eq a _ _ s (fun _ => hs)]
    congr 2; omega
  have e2 : signed t (b.natAbs * 2 ^ (-j).toNat) (j - min i j).toNat = b * 2 ^ B := by
    rw [signed_eq b _ _ t ht]
    congr 2; omega
  have hmin : min i j = -(B : Int) := by omega
  have hpos : (0 : Int) < 2 ^ B := by
    have := Nat.two_pow_pos B
    have h2 : ((2 ^ B : Nat) : Int) = 2 ^ B := by push_cast; rfl
    omega
  simp only [Datum.sum, e1, e2, ← Int.add_mul, Option.map_some]
  congr 1
  show double.nearest _ _ _ = _
  by_cases h0 : a + b = 0
  · rw [h0]
    have hst : (s && t) = false := by
      by_cases hb : b = 0
      · have : a = 0 := by omega
        rw [hs, this]; rfl
      · rw [hs, ht hb]
        by_cases h1 : a < 0
        · have : ¬ b < 0 := by omega
          simp [this]
        · simp [h1]
    simp only [Int.zero_mul, if_true, hst, Int.natAbs_zero]
    rw [fl_zero]
    unfold Format.nearest
    rfl
  · have hne : ¬ (a + b) * 2 ^ B = 0 := Int.mul_ne_zero h0 (by omega)
    rw [if_neg hne, hmin]
    have habs : ((a + b) * 2 ^ B).natAbs = (a + b).natAbs * 2 ^ B := by
      rw [Int.natAbs_mul]
      congr 1
    have hlt : decide ((a + b) * 2 ^ B < 0) = decide (a + b < 0) := by
      congr 1
      apply propext
      constructor
      · intro h
        by_cases h1 : a + b < 0
        · exact h1
        · have := Int.mul_nonneg (show 0 ≤ a + b by omega) (Int.le_of_lt hpos)
          omega
      · intro h
        exact Int.mul_neg_of_neg_of_pos h hpos
    rw [habs, hlt, nearest_scale _ _ _ (by omega) h53, fl_eq _ h0 h53]
theorem fadd (a b : Int) (ha : a.natAbs < 2 ^ 52) (hb : b.natAbs < 2 ^ 52) : FloatKind.f64.format.add (fl a) (fl b) = some (fl (a + b)) := by
  obtain ⟨m, i, h1, h2, h3⟩ := read_fl a (by omega)
  obtain ⟨n, j, k1, k2, k3⟩ := read_fl b (by omega)
  show ((double.read (fl a)).sum (double.read (fl b))).map double.write = _
  rw [h3, k3]
  exact sum_is h1 k1 h2 k2 rfl (fun _ => rfl) (by omega)
theorem fsub (a b : Int) (ha : a.natAbs < 2 ^ 52) (hb : b.natAbs < 2 ^ 52) : FloatKind.f64.format.sub (fl a) (fl b) = some (fl (a - b)) := by
  obtain ⟨m, i, h1, h2, h3⟩ := read_fl a (by omega)
  obtain ⟨n, j, k1, k2, k3⟩ := read_fl b (by omega)
  show ((double.read (fl a)).sum (double.read (fl b)).opposite).map double.write = _
  rw [h3, k3]
  rw [Int.sub_eq_add_neg]
  refine sum_is h1 k1 h2 (by rw [Int.natAbs_neg]; exact k2) rfl (fun h => ?_) (by omega)
  by_cases h0 : b < 0
  · rw [decide_eq_true h0, decide_eq_false (show ¬ -b < 0 by omega)]; rfl
  · rw [decide_eq_false h0, decide_eq_true (show -b < 0 by omega)]; rfl
theorem fmul (a b : Int) (ha0 : 0 ≤ a) (hb0 : 0 ≤ b) (ha : a.natAbs < 2 ^ 26) (hb : b.natAbs < 2 ^ 26) : FloatKind.f64.format.mul (fl a) (fl b) = some (fl (a * b)) := by
  obtain ⟨m, i, h1, h2, h3⟩ := read_fl a (by omega)
  obtain ⟨n, j, k1, k2, k3⟩ := read_fl b (by omega)
  show ((double.read (fl a)).product (double.read (fl b))).map double.write = _
  rw [h3, k3]
  have hs1 : decide (a < 0) = false := by simp; omega
  have hs2 : decide (b < 0) = false := by simp; omega
  simp only [Datum.product, hs1, hs2, Option.map_some]
  congr 1
  show double.nearest _ _ _ = _
  subst h2; subst k2
  have hab : (a * b).natAbs = a.natAbs * b.natAbs := Int.natAbs_mul a b
  have hbig : a.natAbs * b.natAbs < 2 ^ 53 := by
    calc a.natAbs * b.natAbs ≤ 2 ^ 26 * 2 ^ 26 := Nat.mul_le_mul (by omega) (by omega)
      _ < 2 ^ 53 := by decide
  have e : a.natAbs * 2 ^ (-i).toNat * (b.natAbs * 2 ^ (-j).toNat) = (a * b).natAbs * 2 ^ ((-i).toNat + (-j).toNat) := by
    rw [hab, Nat.pow_add]
    ac_rfl
  rw [e]
  by_cases h0 : a * b = 0
  · rw [h0, fl_zero]
    simp [Format.nearest, Format.word]
  · have hneg : decide (a * b < 0) = false := by
      have := Int.mul_nonneg ha0 hb0
      simp; omega
    have hij : i + j = -(((-i).toNat + (-j).toNat : Nat) : Int) := by omega
    rw [hij, nearest_scale _ _ _ (by omega) (by omega), fl_eq _ h0 (by omega), hneg]
    rfl
theorem forder (a b : Int) (ha : a.natAbs < 2 ^ 53) (hb : b.natAbs < 2 ^ 53) : FloatKind.f64.format.order (fl a) (fl b) = some (if a < b then .lt else if a = b then .eq else .gt) := by
  obtain ⟨m, i, h1, h2, h3⟩ := read_fl a ha
  obtain ⟨n, j, k1, k2, k3⟩ := read_fl b hb
  show (double.read (fl a)).order (double.read (fl b)) = _
  rw [h3, k3]
  subst h2; subst k2
  obtain ⟨B, hB⟩ : ∃ B : Nat, B = (-(min i j)).toNat := ⟨_, rfl⟩
  have e1 : signed (decide (a < 0)) (a.natAbs * 2 ^ (-i).toNat) (i - min i j).toNat = a * 2 ^ B := by
    rw [signed_eq a _ _ _ (fun _ => rfl)]
    congr 2; omega
  have e2 : signed (decide (b < 0)) (b.natAbs * 2 ^ (-j).toNat) (j - min i j).toNat = b * 2 ^ B := by
    rw [signed_eq b _ _ _ (fun _ => rfl)]
    congr 2; omega
  have hpos : (0 : Int) < 2 ^ B := by
    have := Nat.two_pow_pos B
    have h2 : ((2 ^ B : Nat) : Int) = 2 ^ B := by push_cast; rfl
    omega
  simp only [Datum.order, e1, e2]
  congr 1
  show compareOfLessAndEq (a * 2 ^ B) (b * 2 ^ B) = _
  unfold compareOfLessAndEq
  by_cases hlt : a < b
  · rw [if_pos hlt, if_pos (Int.mul_lt_mul_of_pos_right hlt hpos)]
  · rw [if_neg hlt, if_neg (by have := Int.mul_le_mul_of_nonneg_right (show b ≤ a by omega) (Int.le_of_lt hpos); omega)]
    by_cases he : a = b
    · rw [if_pos he, if_pos (by rw [he])]
    · rw [if_neg he, if_neg (fun h => he (Int.eq_of_mul_eq_mul_right (by omega) h))]
end Go.Sm
/- Arguments that are plain data: how they lie in the abstract state. -/
set_option linter.unusedVariables false
set_option linter.unusedSimpArgs false
namespace Go.Sm
open Go Go.WideShapes Go.ChangeShapes

/-- A cell's kind. -/
inductive PK where
  | int (k : IntKind)
  | bool
  | str
def okK : PK → Value → Prop
  | .int k, v => ∃ n, v = .int k n ∧ (Lit.int k n).wf = true
  | .bool, v => ∃ b, v = .bool b
  | .str, v => ∃ s : ByteArray, v = .string s ∧ s.size ≤ maxLen
def OkL : List PK → List Value → Prop
  | [], [] => True
  | k :: ks, v :: vs => okK k v ∧ OkL ks vs
  | _, _ => False
theorem OkL.length : ∀ {ks : List PK} {vs : List Value}, OkL ks vs → vs.length = ks.length
  | [], [], _ => rfl
  | _ :: ks, _ :: vs, h => by simp [OkL.length h.2]
theorem OkL.append : ∀ {ks ls : List PK} {vs ws : List Value}, OkL ks vs → OkL ls ws → OkL (ks ++ ls) (vs ++ ws)
  | [], _, [], _, _, h => h
  | _ :: _, _, _ :: _, _, h, k => ⟨h.1, OkL.append h.2 k⟩
theorem okK.flat {k : PK} {v : Value} (h : okK k v) : flat0 v = true := by
  cases k with
  | int k => obtain ⟨n, rfl, _⟩ := h; rfl
  | bool => obtain ⟨b, rfl⟩ := h; rfl
  | str => obtain ⟨s, rfl, _⟩ := h; rfl
theorem okK.cellv {k : PK} {v : Value} (h : okK k v) : Sm.cellv v = true := by
  cases k with
  | int k => obtain ⟨n, rfl, _⟩ := h; rfl
  | bool => obtain ⟨b, rfl⟩ := h; rfl
  | str => obtain ⟨s, rfl, _⟩ := h; rfl
theorem OkL.flat : ∀ {ks : List PK} {vs : List Value}, OkL ks vs → ∀ v ∈ vs, flat0 v = true
  | [], [], _ => by simp
  | _ :: ks, _ :: vs, h => fun v hv => by
    rcases List.mem_cons.1 hv with rfl | hv
    · exact h.1.flat
    · exact OkL.flat h.2 v hv

def kindsL (P : Program) (g : TypeId → Option (List PK)) : List Field → Nat → Option (List PK)
  | [], _ => some []
  | fl :: l, off =>
    if fl.offset = off then
      match g fl.type with
      | some ks => if ks.length = P.cellsOf fl.type then (kindsL P g l (off + ks.length)).map (ks ++ ·) else none
      | none => none
    else none
def kindsF (P : Program) : Nat → TypeId → Option (List PK)
  | 0, _ => none
  | f + 1, t =>
    match P.underlying t with
    | some (.int k) => some [.int k]
    | some .bool => some [.bool]
    | some .string => some [.str]
    | some (.struct fs) => match kindsL P (kindsF P f) fs.toList 0 with | some ks => if ks.length = P.cellsOf t then some ks else none | none => none
    | _ => none

section
variable {H : Type} {enc : TypeId × Value → H} {P : Program} {w : World} {base : Nat} {spare : Nat → Bool} {held : Bool}

theorem kindsL_ok {g : TypeId → Option (List PK)} {fuel : Nat} {cs : List Value} (hg : ∀ t ks, g t = some ks → ∀ cs x, DataW.trod enc P w base spare held fuel t cs = some x → OkL ks cs) :
    ∀ (l : List Field) (off : Nat) (ks : List PK), kindsL P g l off = some ks → (∀ fl ∈ l, ∃ x, DataW.trod enc P w base spare held fuel fl.type ((cs.drop fl.offset).take (P.cellsOf fl.type)) = some x) → off + ks.length = cs.length → OkL ks (cs.drop off)
  | [], off, ks, h, _, hl => by
    simp only [kindsL, Option.some.injEq] at h
    subst h
    rw [List.drop_of_length_le (by simpa using Nat.le_of_eq hl.symm)]
    trivial
  | fl :: l, off, ks, h, hx, hl => by
    unfold kindsL at h
    split at h
    · rename_i ho
      split at h
      · rename_i k1 hk1
        split at h
        · rename_i hc
          rw [Option.map_eq_some_iff] at h
          obtain ⟨k2, h2, rfl⟩ := h
          obtain ⟨x, hx1⟩ := hx fl (by simp)
          have a1 := hg _ _ hk1 _ _ hx1
          rw [ho, ← hc] at a1
          have a2 := kindsL_ok hg l (off + k1.length) k2 h2 (fun f hf => hx f (by simp [hf])) (by simp at hl; omega)
          have : cs.drop off = (cs.drop off).take k1.length ++ cs.drop (off + k1.length) := by
            rw [← List.drop_drop, List.take_append_drop]
          rw [this]
          exact a1.append a2
        · cases h
      · cases h
    · cases h

theorem trod_kinds : ∀ (f : Nat) (t : TypeId) (ks : List PK), kindsF P f t = some ks → ∀ (fuel : Nat) (cs : List Value) (x : DataW H × List MemPlace), DataW.trod enc P w base spare held fuel t cs = some x → OkL ks cs
  | 0, _, _, h, _, _, _, _ => by cases h
  | f + 1, t, ks, h, fuel, cs, x, hx => by
    unfold kindsF at h
    cases hu : P.underlying t with
    | none => rw [hu] at h; cases h
    | some d =>
      rw [hu] at h
      cases d with
      | int k =>
        cases h
        obtain ⟨n, rfl, _, hw⟩ := DataW.trod_int hu hx
        exact ⟨⟨n, rfl, hw⟩, trivial⟩
      | bool =>
        cases h
        obtain ⟨b, rfl, _⟩ := DataW.trod_bool hu hx
        exact ⟨⟨b, rfl⟩, trivial⟩
      | string =>
        cases h
        obtain ⟨s, rfl, _, hs⟩ := DataW.trod_string hu hx
        exact ⟨⟨s, rfl, hs⟩, trivial⟩
      | struct fs =>
        simp only at h
        split at h
        · rename_i k1 hk1
          split at h
          · rename_i hc
            cases h
            obtain ⟨xs, n, rfl, _, hlen, hxl, hf⟩ := DataW.trod_struct hu hx
            have := kindsL_ok (cs := cs) (fuel := n) (fun t ks ht cs x hx => trod_kinds f t ks ht n cs x hx) fs.toList 0 ks hk1 (fun fl hfl => ?_) (by omega)
            · simpa using this
            · obtain ⟨i, hi, rfl⟩ := List.mem_iff_getElem.1 hfl
              have h1 := hf i fs.toList[i] (by simp at hi ⊢)
              have : i < xs.length := by simpa [hxl] using hi
              rw [List.getElem?_eq_getElem this] at h1
              exact ⟨_, h1⟩
          · cases h
        · cases h
      | _ => cases h

/-- A slice of plain elements. -/
theorem open_rows {t e : TypeId} {f fuel : Nat} {ks : List PK} {cs : List Value} {x : DataW H × List MemPlace} (ht : P.underlying t = some (.slice e)) (hk : kindsF P f e = some ks) (hc : P.cellsOf e = ks.length)
    (h : DataW.trod enc P w base spare held fuel t cs = some x) :
    cs = [.slice none 0 0] ∨ ∃ (a : Addr) (len cap : Nat) (rows : List (List Value)), cs = [.slice (some a) len cap] ∧ len ≤ cap ∧ cap ≤ maxLen ∧ rows.length = len ∧ (∀ r ∈ rows, OkL ks r) ∧
      ∀ i j, i < len → j < ks.length → ∃ v, (rows.flatten)[i * ks.length + j]? = some v ∧ w.cell? ((a.add (i * ks.length)).add j) = some v := by
  rcases DataW.trod_slice ht h with ⟨h0, _⟩ | ⟨a, len, cap, elems, rest, n, _, rfl, rfl, hb, hl, hm, hlen, hel, hsp, hns⟩
  · exact .inl h0
  refine .inr ⟨a, len, cap, ?_⟩
  have each : ∀ i, i < len → ∃ r, w.cells? base (a.add (i * ks.length)) ks.length = some r ∧ OkL ks r := by
    intro i hi
    have := hel i hi
    rw [List.getElem?_eq_getElem (by omega), Option.bind_eq_some_iff] at this
    obtain ⟨r, h1, h2⟩ := this
    rw [hc] at h1
    exact ⟨r, h1, trod_kinds f e ks hk n r _ h2⟩
  let row : Nat → List Value := fun i => if hi : i < len then (each i hi).choose else []
  have hrow : ∀ i (hi : i < len), w.cells? base (a.add (i * ks.length)) ks.length = some (row i) ∧ OkL ks (row i) := fun i hi => by
    simp only [row, hi, dif_pos]
    exact (each i hi).choose_spec
  have hrl : ∀ i, i < len → (row i).length = ks.length := fun i hi => (hrow i hi).2.length
  refine ⟨(List.range len).map row, rfl, hl, hm, by simp, fun r hr => ?_, fun i j hi hj => ?_⟩
  · simp only [List.mem_map, List.mem_range] at hr
    obtain ⟨i, hi, rfl⟩ := hr
    exact (hrow i hi).2
  · have hflat : ∀ (m : Nat), m ≤ len → (((List.range len).map row).flatten)[i * ks.length + j]? = ((List.range len).map row).flatten[i * ks.length + j]? := fun _ _ => rfl
    have key : (((List.range len).map row).flatten)[i * ks.length + j]? = (row i)[j]? := by
      have e1 : (List.range len).map row = (List.range len).map row := rfl
      have gen : ∀ (l : List (List Value)) (i : Nat), (∀ r ∈ l, r.length = ks.length) → (hi : i < l.length) → l.flatten[i * ks.length + j]? = (l[i])[j]? := by
        intro l
        induction l with
        | nil => intro i _ hi; simp at hi
        | cons r l ih =>
          intro i hr hi
          cases i with
          | zero =>
            simp only [List.flatten_cons, Nat.zero_mul, Nat.zero_add, List.getElem_cons_zero]
            rw [List.getElem?_append_left (by rw [hr r (by simp)]; exact hj)]
          | succ i =>
            simp only [List.flatten_cons, List.getElem_cons_succ]
            rw [List.getElem?_append_right (by rw [hr r (by simp), Nat.add_mul]; omega), hr r (by simp)]
            have : (i + 1) * ks.length + j - ks.length = i * ks.length + j := by rw [Nat.add_mul]; omega
            rw [this]
            exact ih i (fun r h => hr r (by simp [h])) (by simpa using hi)
      rw [gen _ i (fun r hr => by
        simp only [List.mem_map, List.mem_range] at hr
        obtain ⟨i, hi, rfl⟩ := hr
        exact hrl i hi) (by simpa using hi)]
      simp
    rw [key]
    have hlt : j < (row i).length := by rw [hrl i hi]; exact hj
    refine ⟨(row i)[j], List.getElem?_eq_getElem hlt, ?_⟩
    have := (World.cells?_some (hrow i hi).1).2.2 j hj
    rw [this, List.getElem?_eq_getElem hlt]
end
end Go.Sm
/- Two structs of plain cells against each other. -/
set_option linter.unusedVariables false
set_option linter.unusedSimpArgs false
namespace Go.Sm
open Go

theorem ba_eq {a b : ByteArray} (h : (a == b) = true) : a = b := by
  have h2 : (a.data == b.data) = true := h
  have h3 : a.data = b.data := eq_of_beq h2
  cases a; cases b
  cases h3
  rfl
theorem ba_self (a : ByteArray) : (a == a) = true := by
  have : (a.data == a.data) = true := beq_self_eq_true _
  exact this
def KK : PK → Value → Prop
  | .int k, v => ∃ n, v = .int k n
  | .bool, v => ∃ b, v = .bool b
  | .str, v => ∃ s, v = .string s
def KL : List PK → List Value → Prop
  | [], [] => True
  | k :: ks, v :: vs => KK k v ∧ KL ks vs
  | _, _ => False
theorem KL.length : ∀ {ks : List PK} {vs : List Value}, KL ks vs → vs.length = ks.length
  | [], [], _ => rfl
  | _ :: ks, _ :: vs, h => by simp [KL.length h.2]
theorem KL.split : ∀ {ks ls : List PK} {vs : List Value}, KL (ks ++ ls) vs → KL ks (vs.take ks.length) ∧ KL ls (vs.drop ks.length)
  | [], _, vs, h => ⟨by simp [KL], by simpa using h⟩
  | _ :: ks, ls, v :: vs, h => by
    obtain ⟨h1, h2⟩ := KL.split (ks := ks) (ls := ls) (vs := vs) h.2
    exact ⟨⟨h.1, h1⟩, h2⟩

def eqOkF (P : Program) : Nat → TypeId → Bool
  | 0, _ => false
  | f + 1, t =>
    match P.underlying t with
    | some (.int _) | some .bool | some .string => true
    | some (.struct fs) => !P.stoodInHeld t && fs.toList.all fun fl => fl.name != "_" && eqOkF P f fl.type && ((P.info? fl.type).map (·.size) == some (P.cellsOf fl.type)) && decide (0 < P.cellsOf fl.type)
    | _ => false
def wrapV (P : Program) (t : TypeId) (xs : List Value) : Value := if isAggT P t then .agg xs.toArray else xs.getD 0 undef

section
variable {P : Program}
/-- A comparison of two structs of plain cells. -/
theorem pureRun_program : pureRun P program = some P := rfl
theorem pureRun_isAgg {t : TypeId} {d : TypeDesc} (h : P.underlying t = some d) : pureRun P (isAgg t) = some (isAggT P t) := by
  unfold isAgg isAggT
  rw [pureRun_bind, pureRun_underlying, h, Option.bind_some]
  cases d <;> rfl
theorem pureRun_sizeOf {t : TypeId} {n : Nat} (h : (P.info? t).map (·.size) = some n) : pureRun P (Go.sizeOf t) = some n := by
  unfold Go.sizeOf typeInfo
  rw [pureRun_bind, pureRun_bind, pureRun_program, Option.bind_some]
  cases hi : P.info? t with
  | none => rw [hi] at h; cases h
  | some i => rw [hi] at h; simp at h; simp [hi, h]
theorem kinds_und {f : Nat} {t : TypeId} {ks : List PK} (h : kindsF P f t = some ks) : ∃ d, P.underlying t = some d ∧ (isAggT P t = false → ks.length = 1) := by
  cases f with
  | zero => cases h
  | succ f =>
    unfold kindsF at h
    cases hu : P.underlying t with
    | none => rw [hu] at h; cases h
    | some d =>
      rw [hu] at h
      refine ⟨d, rfl, fun ha => ?_⟩
      cases d with
      | int k => cases h; rfl
      | bool => cases h; rfl
      | string => cases h; rfl
      | struct fs => simp [isAggT, hu] at ha
      | _ => cases h
/-- A part of a struct. -/
theorem part_wrap {f : Nat} {t : TypeId} {ks : List PK} (h : kindsF P f t = some ks) (hc : ks.length = P.cellsOf t) (hs : (P.info? t).map (·.size) = some (P.cellsOf t)) {xs : List Value} {off : Nat} (hl : off + ks.length ≤ xs.length) :
    pureRun P (part t xs.toArray off) = some (wrapV P t ((xs.drop off).take ks.length)) := by
  obtain ⟨d, hu, h1⟩ := kinds_und h
  unfold part wrapV
  rw [pureRun_bind, pureRun_isAgg hu, Option.bind_some]
  cases ha : isAggT P t with
  | true =>
    simp only [if_true]
    rw [pureRun_bind, pureRun_sizeOf hs, Option.bind_some, hc]
    have : xs.toArray.extract off (off + P.cellsOf t) = ((xs.drop off).take (P.cellsOf t)).toArray := by
      rw [List.extract_toArray, List.extract_eq_take_drop]
      simp
    rw [this]
    rfl
  | false =>
    have h2 := h1 ha
    rw [h2] at hl ⊢
    have h3 : off < xs.length := by omega
    have h4 : xs.toArray[off]? = some xs[off] := by simp [h3]
    simp only [Bool.false_eq_true, if_false]
    rw [h4]
    have : ((xs.drop off).take 1).getD 0 undef = xs[off] := by
      rw [List.drop_eq_getElem_cons h3]
      rfl
    rw [this]
    rfl

theorem eq_loop {f d : Nat} (ih : ∀ t ks, kindsF P f t = some ks → eqOkF P f t = true → ∀ xs ys : List Value, KL ks xs → KL ks ys → ∃ b, pureRun P (Op.equalIn d t (wrapV P t xs) (wrapV P t ys)) = some b ∧ (b = true ↔ xs = ys)) {xs ys : List Value} :
    ∀ (l : List Field) (off : Nat) (ks : List PK), kindsL P (kindsF P f) l off = some ks → (∀ fl ∈ l, (fl.name != "_") = true ∧ eqOkF P f fl.type = true ∧ (P.info? fl.type).map (·.size) = some (P.cellsOf fl.type) ∧ 0 < P.cellsOf fl.type) → KL ks (xs.drop off) → KL ks (ys.drop off) →
      ∃ b : Bool, pureRun P (forIn l ((none, ()) : Option Bool × Unit) fun f __s => if f.name ≠ "_" then do
                let __do_lift ← part f.type xs.toArray f.offset
                let __do_lift_1 ← part f.type ys.toArray f.offset
                let __do_lift ← Op.equalIn d f.type __do_lift __do_lift_1
                if (!__do_lift) = true then pure (ForInStep.done (some false, ()))
                  else pure (ForInStep.yield (none, ()))
              else pure (ForInStep.yield (none, ()))) = some (if b = true then (none, ()) else (some false, ())) ∧ (b = true ↔ xs.drop off = ys.drop off)
  | [], off, ks, h, _, hx, hy => by
    simp only [kindsL, Option.some.injEq] at h
    subst h
    have e1 : xs.drop off = [] := List.eq_nil_of_length_eq_zero (by simpa using hx.length)
    have e2 : ys.drop off = [] := List.eq_nil_of_length_eq_zero (by simpa using hy.length)
    exact ⟨true, rfl, by simp [e1, e2]⟩
  | fl :: l, off, ks, h, hf, hx, hy => by
    unfold kindsL at h
    split at h
    · rename_i ho
      split at h
      · rename_i k1 hk1
        split at h
        · rename_i hc
          rw [Option.map_eq_some_iff] at h
          obtain ⟨k2, h2, rfl⟩ := h
          obtain ⟨f1, f2, f3, f4⟩ := hf fl (by simp)
          have f1' : fl.name ≠ "_" := by simpa using f1
          obtain ⟨x1, x2⟩ := hx.split
          obtain ⟨y1, y2⟩ := hy.split
          rw [List.drop_drop] at x2 y2
          have lx := hx.length
          have ly := hy.length
          simp only [List.length_append, List.length_drop] at lx ly
          have p1 := part_wrap hk1 hc f3 (xs := xs) (off := off) (by omega)
          have p2 := part_wrap hk1 hc f3 (xs := ys) (off := off) (by omega)
          obtain ⟨b1, g1, g2⟩ := ih _ _ hk1 f2 _ _ x1 y1
          obtain ⟨b2, g3, g4⟩ := eq_loop ih l (off + k1.length) k2 h2 (fun g hg => hf g (by simp [hg])) x2 y2
          rw [List.forIn_cons, pureRun_bind, if_pos f1', pureRun_bind, ho, p1, Option.bind_some, pureRun_bind, p2, Option.bind_some, pureRun_bind, g1, Option.bind_some]
          have hsplit : (xs.drop off = ys.drop off) ↔ ((xs.drop off).take k1.length = (ys.drop off).take k1.length ∧ xs.drop (off + k1.length) = ys.drop (off + k1.length)) := by
            constructor
            · intro e
              rw [← List.drop_drop, ← List.drop_drop, e]
              exact ⟨rfl, rfl⟩
            · rintro ⟨e1, e2⟩
              rw [← List.take_append_drop k1.length (xs.drop off), ← List.take_append_drop k1.length (ys.drop off), e1, List.drop_drop, List.drop_drop, e2]
          cases b1 with
          | false =>
            refine ⟨false, rfl, ?_⟩
            rw [hsplit]
            simp only [Bool.false_eq_true, false_iff] at g2 ⊢
            exact fun e => g2 e.1
          | true =>
            refine ⟨b2, g3, ?_⟩
            rw [hsplit, g4]
            simp only [true_iff] at g2
            exact ⟨fun e => ⟨g2, e⟩, fun e => e.2⟩
        · cases h
      · cases h
    · cases h

theorem eq_kinds : ∀ (f : Nat) (t : TypeId) (ks : List PK), kindsF P f t = some ks → eqOkF P f t = true → ∀ (d : Nat), f ≤ d → ∀ xs ys : List Value, KL ks xs → KL ks ys → ∃ b, pureRun P (Op.equalIn d t (wrapV P t xs) (wrapV P t ys)) = some b ∧ (b = true ↔ xs = ys)
  | 0, _, _, h, _, _, _, _, _, _, _ => by cases h
  | f + 1, t, ks, h, he, d, hd, xs, ys, hx, hy => by
    obtain ⟨d, rfl⟩ : ∃ d', d = d' + 1 := ⟨d - 1, by omega⟩
    unfold kindsF at h
    unfold eqOkF at he
    cases hu : P.underlying t with
    | none => rw [hu] at h; cases h
    | some dd =>
      rw [hu] at h he
      rw [Op.equalIn, pureRun_bind, pureRun_underlying, hu, Option.bind_some]
      cases dd with
      | int k =>
        cases h
        match xs, ys, hx, hy with
        | [x], [y], ⟨⟨n, hx⟩, _⟩, ⟨⟨m, hy⟩, _⟩ =>
          subst hx; subst hy
          refine ⟨n == m, ?_, by simp⟩
          simp [wrapV, isAggT, hu]
      | bool =>
        cases h
        match xs, ys, hx, hy with
        | [x], [y], ⟨⟨n, hx⟩, _⟩, ⟨⟨m, hy⟩, _⟩ =>
          subst hx; subst hy
          refine ⟨n == m, ?_, by simp⟩
          simp [wrapV, isAggT, hu]
      | string =>
        cases h
        match xs, ys, hx, hy with
        | [x], [y], ⟨⟨n, hx⟩, _⟩, ⟨⟨m, hy⟩, _⟩ =>
          subst hx; subst hy
          refine ⟨n == m, ?_, ⟨fun h => by rw [ba_eq h], fun h => by cases h; exact ba_self n⟩⟩
          simp [wrapV, isAggT, hu]
      | struct fs =>
        simp only at h
        split at h
        · rename_i k1 hk1
          split at h
          · rename_i hc
            cases h
            simp only [Bool.and_eq_true, Bool.not_eq_true', List.all_eq_true, beq_iff_eq, decide_eq_true_eq] at he
            obtain ⟨hs, hf⟩ := he
            obtain ⟨b, g1, g2⟩ := eq_loop (d := d) (fun t ks h1 h2 xs ys h3 h4 => eq_kinds f t ks h1 h2 d (by omega) xs ys h3 h4) (xs := xs) (ys := ys) fs.toList 0 ks hk1 (fun fl hfl => ⟨(hf fl hfl).1.1.1, (hf fl hfl).1.1.2, (hf fl hfl).1.2, (hf fl hfl).2⟩) (by simpa using hx) (by simpa using hy)
            rw [List.drop_zero, List.drop_zero] at g2
            refine ⟨b, ?_, g2⟩
            have hw : ∀ zs : List Value, wrapV P t zs = .agg zs.toArray := fun zs => by simp [wrapV, isAggT, hu]
            rw [hw, hw]
            simp only [pureRun_bind, pureRun_program, Option.bind_some, hs, Bool.false_eq_true, if_false]
            rw [Array.forIn_toList] at g1
            rw [g1, Option.bind_some]
            cases b <;> rfl
          · cases h
        · cases h
      | _ => cases h
theorem bin_struct {f : Nat} {t : TypeId} {ks : List PK} (hk : kindsF P f t = some ks) (he : eqOkF P f t = true) (hf : f ≤ 10000) (ha : isAggT P t = true) (hg : P.eqGuardType P.depth t = false) {xs ys : List Value} (hx : KL ks xs) (hy : KL ks ys)
    (hfx : xs.all flat0 = true) (hfy : ys.all flat0 = true) {σ : CSt} {x y : Operand} : ∃ b : Bool, binF P σ .eql t x y (.agg xs.toArray) (.agg ys.toArray) = .val (.bool b) σ ∧ binF P σ .neq t x y (.agg xs.toArray) (.agg ys.toArray) = .val (.bool (!b)) σ ∧ (b = true ↔ xs = ys) := by
  obtain ⟨b, h1, h2⟩ := eq_kinds f t ks hk he 10000 hf xs ys hx hy
  have hw : ∀ zs : List Value, wrapV P t zs = .agg zs.toArray := fun zs => by simp [wrapV, ha]
  rw [hw, hw] at h1
  have hgd : ∀ op, pureRun P (eqGuard op t x y (.agg xs.toArray) (.agg ys.toArray)) = some () := by
    intro op
    unfold eqGuard
    cases op <;> simp [pureRun_bind, pureRun_program, hg]
  have hfl : (flat (.agg xs.toArray) && flat (.agg ys.toArray)) = true := by simp only [flat, Bool.and_eq_true]; exact ⟨hfx, hfy⟩
  have e1 : pureRun P (binOp .eql t (.agg xs.toArray) (.agg ys.toArray)) = some (.bool b) := by
    have : binOp .eql t (.agg xs.toArray) (.agg ys.toArray) = (do pure (.bool (← Op.equal t (.agg xs.toArray) (.agg ys.toArray))) : Sem Value) := rfl
    rw [this, pureRun_bind]
    unfold Op.equal Op.maxDepth
    rw [h1]
    rfl
  have e2 : pureRun P (binOp .neq t (.agg xs.toArray) (.agg ys.toArray)) = some (.bool (!b)) := by
    have : binOp .neq t (.agg xs.toArray) (.agg ys.toArray) = (do pure (.bool (!(← Op.equal t (.agg xs.toArray) (.agg ys.toArray)))) : Sem Value) := rfl
    rw [this, pureRun_bind]
    unfold Op.equal Op.maxDepth
    rw [h1]
    rfl
  refine ⟨b, ?_, ?_, h2⟩
  · unfold binF
    rw [if_pos hfl, pureRun_bind, hgd, Option.bind_some, e1]
    rfl
  · unfold binF
    rw [if_pos hfl, pureRun_bind, hgd, Option.bind_some, e2]
    rfl
end
end Go.Sm
/- Slices as lists. -/
set_option linter.unusedVariables false
namespace Go.Sm
open Go

/-- A slice's elements, as they lie. -/
def Sl {α : Type} (σ : CSt) (e : TypeId) (sz : Nat) (enc : α → List Value) (v : Value) (l : List α) : Prop :=
  (v = .slice none 0 0 ∧ l = []) ∨ ∃ i off cap row ro, v = .slice (some ⟨i, off, none⟩) l.length cap ∧ σ.get i = some (.cells row e ro) ∧ i < σ.n ∧ (row.drop off).take (l.length * sz) = l.flatMap enc ∧ off + l.length * sz ≤ row.length ∧
    (cap = openCap ∨ (l.length ≤ cap ∧ cap < openCap))

section
variable {α : Type} {σ σ' : CSt} {e : TypeId} {sz : Nat} {enc : α → List Value} {v : Value} {l : List α}
theorem Sl.nil : Sl σ e sz enc (.slice none 0 0) ([] : List α) := .inl ⟨rfl, rfl⟩
theorem Sl.grow (h : Sl σ e sz enc v l) (hg : Grow σ σ') : Sl σ' e sz enc v l := by
  rcases h with h | ⟨i, off, cap, row, ro, h1, h2, h3, h4⟩
  · exact .inl h
  · exact .inr ⟨i, off, cap, row, ro, h1, hg.get h2 h3, Nat.lt_of_lt_of_le h3 hg.n, h4⟩
/-- A slice that is all of its object. -/
theorem Sl.all {i cap : Nat} {ro : Bool} (hsz : ∀ x, (enc x).length = sz) (hg : σ.get i = some (.cells (l.flatMap enc) e ro)) (hi : i < σ.n) (hc : cap = openCap ∨ (l.length ≤ cap ∧ cap < openCap)) : Sl σ e sz enc (.slice (some ⟨i, 0, none⟩) l.length cap) l := by
  have := enc_length enc hsz l
  exact .inr ⟨i, 0, cap, _, ro, rfl, hg, hi, by rw [List.drop_zero, List.take_of_length_le (by omega)], by omega, hc⟩
theorem Sl.form (h : Sl σ e sz enc v l) : ∃ p c, v = .slice p l.length c := by
  rcases h with ⟨rfl, rfl⟩ | ⟨i, off, cap, row, ro, rfl, _⟩
  · exact ⟨_, _, rfl⟩
  · exact ⟨_, _, rfl⟩
/-- One of its elements. -/
theorem Sl.at {p : Option Addr} {n c : Nat} (h : Sl σ e sz enc (.slice p n c) l) {k : Nat} (hk : k < l.length) : ∃ i off row ro, p = some ⟨i, off, none⟩ ∧ σ.get i = some (.cells row e ro) ∧ i < σ.n ∧ (row.drop off).take (l.length * sz) = l.flatMap enc ∧ off + l.length * sz ≤ row.length := by
  rcases h with ⟨h1, rfl⟩ | ⟨i, off, cap, row, ro, h1, h2, h3, h4, h5, _⟩
  · simp at hk
  · cases h1; exact ⟨i, off, row, ro, rfl, h2, h3, h4, h5⟩
/-- One element of a row. -/
theorem row_get (hsz : ∀ x, (enc x).length = sz) {row : List Value} {off : Nat} (h : (row.drop off).take (l.length * sz) = l.flatMap enc) (k : Nat) (hk : k < l.length) : (row.drop (off + k * sz)).take sz = enc l[k] := by
  have := enc_get enc hsz l k hk
  rw [← h] at this
  rw [← this, List.drop_take, List.drop_drop, List.take_take]
  congr 1
  have : (k + 1) * sz ≤ l.length * sz := Nat.mul_le_mul_right _ hk
  rw [Nat.succ_mul] at this
  omega
theorem row_le {row : List Value} {off : Nat} (h : off + l.length * sz ≤ row.length) (k : Nat) (hk : k < l.length) : off + k * sz + sz ≤ row.length := by
  have : (k + 1) * sz ≤ l.length * sz := Nat.mul_le_mul_right _ hk
  rw [Nat.succ_mul] at this
  omega
/-- One cell of one element. -/
theorem row_cell (hsz : ∀ x, (enc x).length = sz) {row : List Value} {off : Nat} (h : (row.drop off).take (l.length * sz) = l.flatMap enc) (k j : Nat) (hk : k < l.length) (hj : j < sz) : row[off + k * sz + j]? = (enc l[k])[j]? := by
  have := congrArg (·[j]?) (row_get hsz h k hk)
  simp only [List.getElem?_take, hj, if_true, List.getElem?_drop] at this
  exact this
/-- Of a slice from an element on. -/
theorem row_drop (hsz : ∀ x, (enc x).length = sz) {row : List Value} {off : Nat} (h : (row.drop off).take (l.length * sz) = l.flatMap enc) (k : Nat) (hk : k ≤ l.length) : (row.drop (off + k * sz)).take ((l.drop k).length * sz) = (l.drop k).flatMap enc := by
  rw [← enc_drop enc hsz, ← h, List.drop_take, List.drop_drop, List.length_drop, Nat.sub_mul]
theorem row_take (hsz : ∀ x, (enc x).length = sz) {row : List Value} {off : Nat} (h : (row.drop off).take (l.length * sz) = l.flatMap enc) (k : Nat) (hk : k ≤ l.length) : (row.drop off).take ((l.take k).length * sz) = (l.take k).flatMap enc := by
  rw [← enc_take enc hsz, ← h, List.take_take, List.length_take]
  congr 1
  rw [Nat.min_eq_left hk]
  exact (Nat.min_eq_left (Nat.mul_le_mul_right _ hk)).symm
end

/-- A slice that is one's own: all of an object that was made behind a point. -/
def Own {α : Type} (b : Nat) (σ : CSt) (e : TypeId) (enc : α → List Value) (v : Value) (l : List α) : Prop :=
  (v = .slice none 0 0 ∧ l = []) ∨ ∃ i cap, v = .slice (some ⟨i, 0, none⟩) l.length cap ∧ b ≤ i ∧ i < σ.n ∧ σ.get i = some (.cells (l.flatMap enc) e false) ∧ (cap = openCap ∨ (l = [] ∧ cap = 0))
section
variable {α : Type} {σ σ' : CSt} {e : TypeId} {sz : Nat} {enc : α → List Value} {v : Value} {l : List α} {b : Nat}
theorem Own.nil : Own b σ e enc (.slice none 0 0) ([] : List α) := .inl ⟨rfl, rfl⟩
theorem Own.sl (hsz : ∀ x, (enc x).length = sz) (h : Own b σ e enc v l) : Sl σ e sz enc v l := by
  rcases h with h | ⟨i, cap, rfl, hb, hi, hg, hc⟩
  · exact .inl h
  · refine Sl.all hsz hg hi ?_
    rcases hc with rfl | ⟨rfl, rfl⟩
    · exact .inl rfl
    · exact .inr ⟨by simp, by simp [openCap]⟩
theorem Own.grow (h : Own b σ e enc v l) (hg : Grow σ σ') : Own b σ' e enc v l := by
  rcases h with h | ⟨i, cap, h1, hb, hi, h2, h3⟩
  · exact .inl h
  · exact .inr ⟨i, cap, h1, hb, Nat.lt_of_lt_of_le hi hg.n, hg.get h2 hi, h3⟩
theorem Own.keep (h : Own b σ e enc v l) (hn : σ.n ≤ σ'.n) (hg : ∀ i, b ≤ i → i < σ.n → σ'.get i = σ.get i) : Own b σ' e enc v l := by
  rcases h with h | ⟨i, cap, h1, hb, hi, h2, h3⟩
  · exact .inl h
  · exact .inr ⟨i, cap, h1, hb, Nat.lt_of_lt_of_le hi hn, by rw [hg i hb hi]; exact h2, h3⟩
theorem Own.put (h : Own b σ e enc v l) {i : Nat} (hi : i < b) (o : CObj) : Own b (σ.put i o) e enc v l :=
  h.keep (Nat.le_refl _) fun j hj _ => by rw [CSt.get_put, if_neg (by omega)]
theorem Own.weaken {b' : Nat} (h : Own b σ e enc v l) (hb : b' ≤ b) : Own b' σ e enc v l := by
  rcases h with h | ⟨i, cap, h1, hb', h2⟩
  · exact .inl h
  · exact .inr ⟨i, cap, h1, Nat.le_trans hb hb', h2⟩
theorem insRow_enc (hsz : ∀ x, (enc x).length = sz) (a : Nat) (ha : a ≤ l.length) (x : α) : insRow sz a l.length (l.flatMap enc) (enc x) = (l.take a ++ x :: l.drop a).flatMap enc := by
  have := enc_length enc hsz l
  unfold insRow
  rw [List.take_of_length_le (Nat.le_of_eq this), enc_take enc hsz, enc_drop enc hsz]
  simp
theorem cokL_enc (hc : ∀ x, cokL (enc x) = true) (l : List α) : cokL (l.flatMap enc) = true := by
  induction l with
  | nil => rfl
  | cons x l ih => rw [List.flatMap_cons, cokL_append, hc, ih]; rfl
/-- New objects, and changes to those that were made behind a point. -/
def GrowB (b : Nat) (σ σ' : CSt) : Prop := σ.n ≤ σ'.n ∧ ∀ i, i < b → σ'.get i = σ.get i
theorem GrowB.refl (b : Nat) (σ : CSt) : GrowB b σ σ := ⟨Nat.le_refl _, fun _ _ => rfl⟩
theorem GrowB.trans {a b c : CSt} {k : Nat} (h : GrowB k a b) (h' : GrowB k b c) : GrowB k a c := ⟨Nat.le_trans h.1 h'.1, fun i hi => (h'.2 i hi).trans (h.2 i hi)⟩
theorem Grow.toB {a b : CSt} {k : Nat} (h : Grow a b) (hk : k ≤ a.n) : GrowB k a b := ⟨h.n, fun i hi => h.old i (Nat.lt_of_lt_of_le hi hk)⟩
theorem GrowB.toGrow {a b : CSt} (h : GrowB a.n a b) : Grow a b := ⟨h.1, h.2⟩
theorem Grow.thenB {a b c : CSt} {k : Nat} (h : Grow a b) (h' : GrowB k b c) (hk : a.n ≤ k) : Grow a c := ⟨Nat.le_trans h.n h'.1, fun i hi => (h'.2 i (Nat.lt_of_lt_of_le hi hk)).trans (h.old i hi)⟩
theorem GrowB.alloc {a b : CSt} {k : Nat} (h : GrowB k a b) (hk : k ≤ b.n) (o : CObj) : GrowB k a (b.alloc o) := ⟨by have := h.1; simp; omega, fun i hi => by rw [CSt.get_alloc, if_neg (by omega)]; exact h.2 i hi⟩
theorem GrowB.put {a b : CSt} {k i : Nat} (h : GrowB k a b) (hi : k ≤ i) (o : CObj) : GrowB k a (b.put i o) := ⟨h.1, fun j hj => by rw [CSt.get_put, if_neg (by omega)]; exact h.2 j hj⟩
end
/-- How a search ends: so many are below. -/
structure Cut {α : Type} (ord : α → Int) (l : List α) (k : Nat) : Prop where
  le : k ≤ l.length
  lo : ∀ j (h : j < l.length), j < k → ord l[j] < 0
  hi : ∀ j (h : j < l.length), k ≤ j → 0 ≤ ord l[j]
end Go.Sm
/- From the arguments to an abstract state. -/
set_option linter.unusedVariables false
namespace Go.Sm
open Go Go.WideShapes Go.ChangeShapes

/-- Nothing can be written. -/
def Calm (σ : CSt) : Prop := ∀ i, ¬ rw_ σ i

section
variable {P : Program} {ρ : Rho} {σ : CSt} {w : World}
/-- A row that is only read. -/
theorem R.addRo (h : R P ρ σ w) (hc : Calm σ) {p : Place} {c : List Value} {e : TypeId} (hlt : p.b < w.heap.size) (hz : p.z = P.cellsOf e) (hl : c.length ≤ p.e) (hcell : ∀ (k : Nat) (u : k < c.length), w.cell? ⟨p.b, p.o + k, none⟩ = some c[k] ∧ flat0 c[k] = true) :
    R P (ρ.set σ.n p) (σ.alloc (.cells c e true)) w ∧ ρ.le (ρ.set σ.n p) ∧ Calm (σ.alloc (.cells c e true)) ∧ (ρ.set σ.n p) σ.n = some p := by
  have hg := h.gn
  have hle : ρ.le (ρ.set σ.n p) := fun j r hr => by
    unfold Rho.set; rw [if_neg]; exact hr
    intro e; rw [e, h.dom _ (Nat.le_refl _)] at hr; cases hr
  have hset : ∀ j, j ≠ σ.n → (ρ.set σ.n p) j = ρ j := fun j hj => by unfold Rho.set; rw [if_neg hj]
  have hself : (ρ.set σ.n p) σ.n = some p := by unfold Rho.set; rw [if_pos rfl]
  have hget : ∀ j, j ≠ σ.n → (σ.alloc (.cells c e true)).get j = σ.get j := fun j hj => by rw [CSt.get_alloc, if_neg hj]
  have hlive : ∀ j, j ≠ σ.n → live (σ.alloc (.cells c e true)) j → live σ j := fun j hj ⟨o, ho, hd⟩ => ⟨o, by rw [← hget j hj]; exact ho, hd⟩
  have hcalm : Calm (σ.alloc (.cells c e true)) := fun j hj => by
    rw [rw_alloc] at hj
    by_cases e : j = σ.n
    · rw [if_pos e] at hj; cases hj.1
    · rw [if_neg e] at hj; exact hc j hj
  refine ⟨⟨fun j hj => ?_, fun j hj => ?_, fun j r hr hj => ?_, fun j o r ho hr => ?_, fun a b r s hne hr hs hra hlb => absurd hra (hcalm a), fun g hgl => ?_, Nat.le_succ_of_le hg⟩, hle, hcalm, hself⟩
  · rw [CSt.n_alloc] at hj; rw [hset j (by omega)]; exact h.dom j (by omega)
  · by_cases e : j = σ.n
    · rw [e]; exact ⟨p, hself⟩
    · rw [hset j e]; exact h.tot j (hlive j e hj)
  · by_cases e : j = σ.n
    · subst e; rw [hself] at hr; cases hr; exact hlt
    · rw [hset j e] at hr; exact h.lt j r hr (hlive j e hj)
  · by_cases e' : j = σ.n
    · subst e'
      rw [CSt.get_alloc, if_pos rfl] at ho
      cases ho
      rw [hself] at hr; cases hr
      refine ⟨⟨hz, hl⟩, fun k u => ?_⟩
      obtain ⟨h1, h2⟩ := hcell k u
      exact ⟨_, h1, .plain _ h2⟩
    · rw [hget j e'] at ho
      rw [hset j e'] at hr
      exact (h.obj j o r ho hr).mono hle
  · obtain ⟨q, h1, h2⟩ := h.glob g hgl
    exact ⟨q, hle _ _ h1, h2⟩

/-- A slice of plain elements among the arguments. -/
theorem open_arg {H : Type} {en : TypeId × Value → H} {base base' : Nat} {spare : Nat → Bool} {held : Bool} {t e : TypeId} {f fuel : Nat} {ks : List PK} {v' : Value} {x : DataW H × List MemPlace}
    (hR : R P ρ σ w) (hc : Calm σ) (ht : P.underlying t = some (.slice e)) (hk : kindsF P f e = some ks) (hce : P.cellsOf e = ks.length) (hval : Value.okWide P w .any base t v') (hd : DataW.trod en P w base' spare held fuel t v'.cells.toList = some x) :
    ∃ ρ' σ' v rows, R P ρ' σ' w ∧ Calm σ' ∧ ρ.le ρ' ∧ VR ρ' v v' ∧ Grow σ σ' ∧ (∀ r ∈ rows, OkL ks r) ∧
      ((v = .slice none 0 0 ∧ rows = []) ∨ ∃ i cap, v = .slice (some ⟨i, 0, none⟩) rows.length cap ∧ i < σ'.n ∧ σ'.get i = some (.cells rows.flatten e true) ∧ rows.length ≤ cap ∧ cap < openCap) := by
  obtain ⟨a0, len, cap, rfl⟩ := okWide_slice ht hval
  have hcells : (Value.slice a0 len cap).cells.toList = [.slice a0 len cap] := rfl
  rw [hcells] at hd
  rcases open_rows ht hk hce hd with h0 | ⟨a, len', cap', rows, h1, h2, h3, h4, h5, h6⟩
  · have h0' : a0 = none ∧ len = 0 ∧ cap = 0 := by simpa using h0
    obtain ⟨rfl, rfl, rfl⟩ := h0'
    exact ⟨ρ, σ, .slice none 0 0, [], hR, hc, Rho.le_refl ρ, .plain _ rfl, Grow.refl σ, by simp, .inl ⟨rfl, rfl⟩⟩
  · have h1' : a0 = some a ∧ len = len' ∧ cap = cap' := by simpa using h1
    obtain ⟨rfl, rfl, rfl⟩ := h1'
    have hok : w.has P .any base a e cap := by
      simp only [Value.okWide, ht, Cell.okWide, Cell.ok] at hval
      exact hval.2.2
    obtain ⟨_, hspot, row, cells, hsh, _⟩ := hok
    have hb : a.block < w.heap.size := by
      unfold World.shape? at hsh
      split at hsh
      · rename_i h; exact (Array.getElem?_eq_some_iff.1 h).1
      · cases hsh
    obtain ⟨ab, ao, asl⟩ := a
    simp only at hspot
    subst hspot
    have hfl : rows.flatten.length = len * ks.length := by
      have : ∀ (l : List (List Value)), (∀ r ∈ l, OkL ks r) → l.flatten.length = l.length * ks.length := by
        intro l
        induction l with
        | nil => simp
        | cons r l ih =>
          intro h
          rw [List.flatten_cons, List.length_append, ih (fun r hr => h r (by simp [hr])), (h r (by simp)).length, List.length_cons, Nat.add_mul]
          omega
      rw [this rows h5, h4]
    have hflat : ∀ v ∈ rows.flatten, flat0 v = true := fun v hv => by
      obtain ⟨r, hr, hv⟩ := List.mem_flatten.1 hv
      exact (h5 r hr).flat v hv
    have hm : cap < openCap := by unfold maxLen at h3; simp [openCap]; omega
    obtain ⟨r1, r2, r3, r4⟩ := hR.addRo hc (p := ⟨ab, ao, len * ks.length, ks.length⟩) (c := rows.flatten) (e := e) hb hce.symm (by simp [hfl]) (fun k u => by
      rw [hfl] at u
      have hk0 : 0 < ks.length := by
        rcases Nat.eq_zero_or_pos ks.length with h | h
        · rw [h] at u; omega
        · exact h
      have hi : k / ks.length < len := by rw [Nat.div_lt_iff_lt_mul hk0]; exact u
      obtain ⟨v, g1, g2⟩ := h6 (k / ks.length) (k % ks.length) hi (Nat.mod_lt _ hk0)
      have hkk : k / ks.length * ks.length + k % ks.length = k := by rw [Nat.mul_comm]; exact Nat.div_add_mod k ks.length
      rw [hkk] at g1
      rw [Addr.add_plain, Addr.add_plain, Nat.add_assoc, hkk] at g2
      obtain ⟨u', e'⟩ := List.getElem?_eq_some_iff.1 g1
      rw [e']
      exact ⟨g2, hflat v (by rw [← e']; exact List.getElem_mem u')⟩)
    refine ⟨_, _, .slice (some ⟨σ.n, 0, none⟩) len cap, rows, r1, r3, r2, ?_, (Grow.refl σ).alloc _, h5, .inr ⟨σ.n, cap, by rw [h4], by simp, by simp, by omega, hm⟩⟩
    exact .slc _ _ _ _ ⟨ab, ao, len * ks.length, ks.length⟩ r4 (by omega)

/-- The rows as one's own data. -/
theorem rows_enc {α : Type} {enc : α → List Value} {ok : α → Prop} {ks : List PK} (h : ∀ r, OkL ks r → ∃ x, ok x ∧ r = enc x) : ∀ rows : List (List Value), (∀ r ∈ rows, OkL ks r) → ∃ l : List α, (∀ x ∈ l, ok x) ∧ rows = l.map enc
  | [], _ => ⟨[], by simp, rfl⟩
  | r :: rows, hr => by
    obtain ⟨x, h1, rfl⟩ := h r (hr r (by simp))
    obtain ⟨l, h2, rfl⟩ := rows_enc h rows fun r hr' => hr r (by simp [hr'])
    exact ⟨x :: l, fun y hy => by
      rcases List.mem_cons.1 hy with rfl | hy
      · exact h1
      · exact h2 y hy, rfl⟩
theorem open_sl {H : Type} {en : TypeId × Value → H} {base base' : Nat} {spare : Nat → Bool} {held : Bool} {t e : TypeId} {f fuel sz : Nat} {ks : List PK} {v' : Value} {x : DataW H × List MemPlace} {α : Type} {enc : α → List Value} {ok : α → Prop}
    (hR : R P ρ σ w) (hc : Calm σ) (ht : P.underlying t = some (.slice e)) (hk : kindsF P f e = some ks) (hce : P.cellsOf e = ks.length) (hsz : ∀ x, (enc x).length = sz) (hen : ∀ r, OkL ks r → ∃ x, ok x ∧ r = enc x)
    (hval : Value.okWide P w .any base t v') (hd : DataW.trod en P w base' spare held fuel t v'.cells.toList = some x) :
    ∃ ρ' σ' v, ∃ l : List α, R P ρ' σ' w ∧ Calm σ' ∧ ρ.le ρ' ∧ VR ρ' v v' ∧ Grow σ σ' ∧ (∀ x ∈ l, ok x) ∧ Sl σ' e sz enc v l := by
  obtain ⟨ρ', σ', v, rows, h1, h2, h3, h4, h5, h6, h7⟩ := open_arg hR hc ht hk hce hval hd
  obtain ⟨l, h8, rfl⟩ := rows_enc hen rows h6
  refine ⟨ρ', σ', v, l, h1, h2, h3, h4, h5, h8, ?_⟩
  rcases h7 with ⟨rfl, h9⟩ | ⟨i, cap, rfl, h9, h10, h11, h12⟩
  · exact .inl ⟨rfl, by simpa using h9⟩
  · rw [List.length_map] at h11 ⊢
    exact Sl.all hsz (by rw [List.flatMap_def]; exact h10) h9 (.inr ⟨h11, h12⟩)
end
end Go.Sm
/- From the rules to a law's contract. -/
set_option linter.unusedVariables false
namespace Go.Sm
open Go Go.WideShapes Go.ChangeShapes Go.RowKit

def isTrueP : Out → CSt → Prop := fun o _ => o = .ret (.bool true) false
theorem Frm.below {ρ ρ' : Rho} {σ σ' : CSt} {w w' : World} (h : Frm ρ σ w ρ' σ' w') (hc : Calm σ) : Below w.heap.size w w' :=
  ⟨h.os, h.tape, h.output, h.size, fun k hk => h.keep k hk fun i p _ hr => absurd hr (hc i)⟩

section
variable {H : Type} {enc : TypeId × Value → H} {P : Program}
theorem trodAll_stays (hl : laidOutB P = true) {W W' : World} (hb : Below W.heap.size W W') : ∀ (ts : List TypeId) (vs : List Value) (ds : List (DataW H)) (p : List MemPlace), (∀ t ∈ ts, P.readableRec t = true ∧ t < P.types.size) →
    DataW.TrodAll enc P W 0 (fun _ => true) true ts vs ds p → (∀ x ∈ p, x.block < W.heap.size) → DataW.TrodAll enc P W' 0 (fun b => decide (b < W.heap.size)) true ts vs ds p
  | [], vs, ds, p, _, h, _ => by
    cases vs <;> cases ds <;> simp_all [DataW.TrodAll]
  | t :: ts, [], ds, p, _, h, _ => by simp [DataW.TrodAll] at h
  | t :: ts, v :: vs, [], p, _, h, _ => by simp [DataW.TrodAll] at h
  | t :: ts, v :: vs, d :: ds, p, ht, h, hp => by
    obtain ⟨p1, p2, h1, h2, rfl⟩ := h
    exact ⟨p1, p2, Below.trod hl (ht t (by simp)).1 (ht t (by simp)).2 h1 hb fun x hx => hp x (by simp [hx]), trodAll_stays hl hb ts vs ds p2 (fun t h => ht t (by simp [h])) h2 fun x hx => hp x (by simp [hx]), rfl⟩

theorem law_calls {E : Env} (G : Good E.P) (HE : ExtOk E) (HG : GamOk E) {f : FuncId} {fn : Func} {s : ChangeSpec} (hl : laidOutB E.P = true) (hts : fn.params.toList.all (fun t => E.P.readableRec t && decide (t < E.P.types.size)) = true) {bt : TypeId}
    (hrt : fn.resultTypes = #[bt]) (hbt : E.P.underlying bt = some .bool) (hvars : s.vars = []) {W : World} {args : Array Value} {ds gs : List (DataW H)} {before : List MemPlace} (hW : DataW.Whole enc E.P fn.params.toList s.vars false W args.toList ds gs before)
    (hfn : s.fn H (ds ++ gs) = { results := [.lit (.bool true)], args := ds }) {ρ : Rho} {σ : CSt} {aa : Array Value} (hR : R E.P ρ σ W) (hc : Calm σ) (hA : AsR ρ aa args) (hw : Sm.W E (.fn f aa none) σ isTrueP) :
    Calls E.P f args W fun e W' => ∃ v, e = .returned v ∧ s.post enc E.P fn false true false false W args v W' := by
  have hW' := hW
  obtain ⟨p, q, hA0, hV, rfl, _, _⟩ := hW
  rw [hvars] at hV
  obtain ⟨rfl, rfl⟩ := trodVars_none hV
  refine (Sm.W.calls G HE HG (Q := fun v _ => v = .bool true) (hw.weaken fun o s h => ⟨_, h, rfl⟩) hR hA).mono fun e W' ⟨v, v', σ', ρ', he, hv, _, hvr, hf⟩ => ?_
  subst hv
  have := hvr.bool
  subst this
  subst he
  have hb := hf.below hc
  have hlt : ∀ x ∈ p, x.block < W.heap.size := fun x hx => by simpa using hW'.lt x (by simp [hx])
  refine ⟨_, rfl, ds, [], p ++ [], [], p, [], hW', ?_, ?_, ?_, hb.frame _, fun h => by cases h⟩
  · rw [hfn, hrt]
    exact ⟨[], [], ⟨1, by simp [DataW.trod, hbt, Value.cells]⟩, rfl, rfl⟩
  · rw [hfn]
    refine trodAll_stays hl hb _ _ _ _ (fun t ht => ?_) hA0 hlt
    have := List.all_eq_true.1 hts t ht
    simpa using this
  · rw [hfn, hvars]
    rfl
end
end Go.Sm
/- Comparisons of truth values. -/
set_option linter.unusedVariables false
set_option linter.unusedSimpArgs false
namespace Go.Sm
open Go
variable {P : Program} {σ : CSt} {t : TypeId} {x y : Operand}
theorem eq_bool (h : P.underlying t = some .bool) (a b : Bool) : pureRun P (Op.equal t (.bool a) (.bool b)) = some (a == b) := by
  obtain ⟨c, h1, h2⟩ := eq_kinds (P := P) 1 t [.bool] (by simp [kindsF, h]) (by simp [eqOkF, h]) 10000 (by omega) [.bool a] [.bool b] ⟨⟨a, rfl⟩, trivial⟩ ⟨⟨b, rfl⟩, trivial⟩
  have hw : ∀ v : Value, wrapV P t [v] = v := fun v => by simp [wrapV, isAggT, h]
  rw [hw, hw] at h1
  have e : c = (a == b) := by
    cases a <;> cases b <;> cases c <;> simp at h2 <;> rfl
  unfold Op.equal Op.maxDepth
  rw [h1, e]
theorem bin_booleq (h : P.underlying t = some .bool) (a b : Bool) : binF P σ .eql t x y (.bool a) (.bool b) = .val (.bool (a == b)) σ := by
  have : binOp .eql t (.bool a) (.bool b) = (do pure (.bool (← Op.equal t (.bool a) (.bool b))) : Sem Value) := rfl
  simp only [binF, flat, Bool.and_self, if_true]
  rw [this, pureRun_bind, pureRun_bind, eq_bool h]
  rfl
theorem bin_boolne (h : P.underlying t = some .bool) (a b : Bool) : binF P σ .neq t x y (.bool a) (.bool b) = .val (.bool (a != b)) σ := by
  have : binOp .neq t (.bool a) (.bool b) = (do pure (.bool (!(← Op.equal t (.bool a) (.bool b)))) : Sem Value) := rfl
  simp only [binF, flat, Bool.and_self, if_true]
  rw [this, pureRun_bind, pureRun_bind, eq_bool h]
  rfl
end Go.Sm
/- Operations under a condition in a drawn region. -/
set_option linter.unusedVariables false
set_option linter.unusedSimpArgs false
namespace Go.Sm
open Go
section
variable {E : Env} {σ : CSt}
theorem dopsR_if {ops : Array Oper} {b : Array Nat} {a0 : CAct} {Q : Out → CSt → Prop} {rs : List Rec} {i : Nat} {a : CAct} {dst : Option Tmp} {op : Op} {ty : TypeId} {pos : String} {after : Array Edge} {j : Nat} {want : Bool} {rest : List (Nat × Oper)} (hd : ((ops[j]?).bind (·.dst)).isSome = true) (hs : dstOf ops j < a.sz) :
    dopsR E ops b Q a0 ((i, ⟨dst, op, ty, pos, after, some (j, want)⟩) :: rest) a σ rs =
      guardK (a.get (dstOf ops j)) want
        (if isEff E.P ⟨dst, op, ty, pos, after, some (j, want)⟩ = true then dres E ops a0 a dst (fun a' σ' => again E.P ops b σ' i rs ∧ dopsR E ops b Q a0 rest a' σ' rs) Q σ (cop E.P σ a.eval ⟨dst, op, ty, pos, after, some (j, want)⟩)
          else rres (fun v => dopsR E ops b Q a0 rest (a.put dst v) σ (⟨i, a, v⟩ :: rs)) (cop E.P σ a.eval ⟨dst, op, ty, pos, after, some (j, want)⟩))
        (dopsR E ops b Q a0 rest (a.put dst nope) σ rs) := by
  obtain ⟨d, hd⟩ := Option.isSome_iff_exists.1 hd
  have hdd : dstOf ops j = d := by simp [dstOf, hd]
  rw [hdd] at hs ⊢
  rw [dopsR]
  simp only [wantedC, hd, hs, if_true]
  unfold guardK
  generalize a.get d = v
  cases v with
  | bool b => cases b <;> cases want <;> rfl
  | chan c => cases c <;> rfl
  | _ => rfl
end
end Go.Sm
/- append to a slice of one's own. -/
set_option linter.unusedVariables false
namespace Go.Sm
open Go
section
variable {α : Type} {P : Program} {σ : CSt} {e : TypeId} {sz b : Nat} {enc : α → List Value} {v x : Value} {l m : List α} {f : TF} {ts : Array TypeId}

theorem first_sl (hsz : ∀ x, (enc x).length = sz) (h : Sl σ e sz enc x m) : lenOf? x = some m.length ∧ firstOf σ sz m.length x = some (m.flatMap enc) := by
  rcases h with ⟨rfl, rfl⟩ | ⟨i, off, cap, row, ro, rfl, hg, hi, hrow, hlen, hcap⟩
  · exact ⟨rfl, rfl⟩
  · refine ⟨rfl, ?_⟩
    rw [firstOf_sl, hg]
    simp only [firstK_some, ld, if_pos hlen, hrow]
theorem appendF_own (hsz : ∀ x, (enc x).length = sz) (hc : ∀ x, cokL (enc x) = true) (hfs : f.size = sz) (h0 : 0 < sz) (h1 : 0 < f.bytes) (h2 : f.zero.map List.length = some sz) (hown : Own b σ e enc v l) (hb : b ≤ σ.n)
    (hbig : (l.length + m.length) * f.bytes ≤ 2 ^ 47) (hl : l.length < 2 ^ 62) : ∃ v' σ', appendF σ e f v m.length (m.flatMap enc) = some (v', σ') ∧ Own b σ' e enc v' (l ++ m) ∧ GrowB b σ σ' := by
  have hml := enc_length enc hsz m
  have hll := enc_length enc hsz l
  have hcond : (m.flatMap enc).length = m.length * f.size ∧ cokL (m.flatMap enc) = true ∧ 0 < f.size ∧ 0 < f.bytes ∧ f.zero.map List.length = some f.size := by
    rw [hfs]; exact ⟨hml, cokL_enc hc m, h0, h1, h2⟩
  unfold appendF
  rw [if_pos hcond]
  rcases hown with ⟨rfl, rfl⟩ | ⟨i, cap, rfl, hbi, hin, hg, hcap⟩
  · by_cases hm : m.length = 0
    · have : m = [] := List.eq_nil_of_length_eq_zero hm
      subst this
      exact ⟨.slice none 0 0, σ, by simp, Own.nil, GrowB.refl b σ⟩
    · refine ⟨.slice (some ⟨σ.n, 0, none⟩) m.length openCap, σ.alloc (.cells (m.flatMap enc) e false), ?_, .inr ⟨σ.n, openCap, rfl, hb, by simp, by simp, .inl rfl⟩, (GrowB.refl b σ).alloc hb _⟩
      simp only [hm, if_false]
      rw [if_pos (by simpa using hbig)]
  · by_cases hm : m.length = 0
    · have : m = [] := List.eq_nil_of_length_eq_zero hm
      subst this
      refine ⟨.slice (some ⟨i, 0, none⟩) l.length cap, σ, ?_, ?_, GrowB.refl b σ⟩
      · simp only [List.length_nil, if_true]
        rw [if_pos]
        rcases hcap with rfl | ⟨rfl, rfl⟩
        · simp only [openCap]; omega
        · simp
      · rw [List.append_nil]
        exact .inr ⟨i, cap, rfl, hbi, hin, hg, hcap⟩
    · simp only [hm, if_false, hg]
      rcases hcap with rfl | ⟨rfl, rfl⟩
      · refine ⟨.slice (some ⟨σ.n, 0, none⟩) (l ++ m).length openCap, (σ.put i .dead).alloc (.cells ((l ++ m).flatMap enc) e false), ?_, .inr ⟨σ.n, openCap, rfl, hb, by simp, by simp, .inl rfl⟩, ((GrowB.refl b σ).put hbi _).alloc hb _⟩
        simp only [if_true, and_self]
        rw [if_neg, if_pos hbig]
        · have : ld (l.flatMap enc) 0 (l.length * f.size) = some (l.flatMap enc) := by
            rw [hfs, ← hll]
            unfold ld
            rw [if_pos (by omega), List.drop_zero, List.take_of_length_le (Nat.le_refl _)]
          rw [this]
          simp
        · rw [hll, hfs, Nat.add_mul]
          have : 0 < m.length * sz := Nat.mul_pos (by omega) h0
          omega
      · refine ⟨.slice (some ⟨σ.n, 0, none⟩) m.length openCap, σ.alloc (.cells (m.flatMap enc) e false), ?_, .inr ⟨σ.n, openCap, by simp, hb, by simp, by simp, .inl rfl⟩, (GrowB.refl b σ).alloc hb _⟩
        rw [if_neg (by simp [openCap]), if_neg (by rw [List.length_nil]; omega)]
        simp only [List.length_nil, Nat.zero_add, Nat.zero_mul] at hbig ⊢
        rw [if_pos hbig]
        simp [ld]
/-- append(s, x...), s one's own. -/
theorem append_own (hf : ts[0]?.bind (elemF P) = some (e, f)) (hu : (ts[1]?.bind (elemT P)).isSome = true) (hsz : ∀ x, (enc x).length = sz) (hc : ∀ x, cokL (enc x) = true) (hfs : f.size = sz) (h0 : 0 < sz) (h1 : 0 < f.bytes) (h2 : f.zero.map List.length = some sz)
    (hown : Own b σ e enc v l) (hb : b ≤ σ.n) (hx : Sl σ e sz enc x m) (hbig : (l.length + m.length) * f.bytes ≤ 2 ^ 47) (hl : l.length < 2 ^ 62) :
    ∃ v' σ', appendOp P σ ts v x = some (v', σ') ∧ Own b σ' e enc v' (l ++ m) ∧ GrowB b σ σ' := by
  obtain ⟨g1, g2⟩ := first_sl hsz hx
  obtain ⟨v', σ', g3, g4, g5⟩ := appendF_own hsz hc hfs h0 h1 h2 hown hb hbig hl
  refine ⟨v', σ', ?_, g4, g5⟩
  rw [appendOp_K (by rw [hf]; rfl) hu, hf]
  simp only [appK, g1, hfs, g2, Option.bind_some]
  exact g3
end
end Go.Sm
/- append into room that is there. -/
set_option linter.unusedVariables false
namespace Go.Sm
open Go
section
variable {α : Type} {P : Program} {σ : CSt} {e : TypeId} {sz b : Nat} {enc : α → List Value} {v x : Value} {l m : List α} {f : TF} {ts : Array TypeId}
theorem append_fit (hf : ts[0]?.bind (elemF P) = some (e, f)) (hu : (ts[1]?.bind (elemT P)).isSome = true) (hsz : ∀ x, (enc x).length = sz) (hc : ∀ x, cokL (enc x) = true) (hfs : f.size = sz) (h0 : 0 < sz) (h1 : 0 < f.bytes) (h2 : f.zero.map List.length = some sz)
    {g : Nat} {zs : List Value} (hg : σ.get g = some (.cells (l.flatMap enc ++ zs) e false)) (hx : Sl σ e sz enc x m) (hz : m.length * sz ≤ zs.length) (hl : l.length < 2 ^ 62) :
    ∃ σ', appendOp P σ ts (.slice (some ⟨g, 0, none⟩) l.length openCap) x = some (.slice (some ⟨g, 0, none⟩) (l ++ m).length openCap, σ') ∧ σ'.get g = some (.cells ((l ++ m).flatMap enc ++ zs.drop (m.length * sz)) e false) ∧ σ'.n = σ.n ∧ ∀ j, j ≠ g → σ'.get j = σ.get j := by
  obtain ⟨g1, g2⟩ := first_sl hsz hx
  have hml := enc_length enc hsz m
  have hll := enc_length enc hsz l
  rw [appendOp_K (by rw [hf]; rfl) hu, hf]
  simp only [appK, g1, hfs, g2, Option.bind_some]
  have hcond : (m.flatMap enc).length = m.length * f.size ∧ cokL (m.flatMap enc) = true ∧ 0 < f.size ∧ 0 < f.bytes ∧ f.zero.map List.length = some f.size := by
    rw [hfs]; exact ⟨hml, cokL_enc hc m, h0, h1, h2⟩
  unfold appendF
  rw [if_pos hcond]
  by_cases hm : m.length = 0
  · have : m = [] := List.eq_nil_of_length_eq_zero hm
    subst this
    refine ⟨σ, ?_, by simpa using hg, rfl, fun _ _ => rfl⟩
    simp only [List.length_nil, if_true, List.append_nil]
    rw [if_pos (by simp only [openCap]; omega)]
  · refine ⟨σ.put g (.cells ((l ++ m).flatMap enc ++ zs.drop (m.length * sz)) e false), ?_, by simp, rfl, fun j hj => by rw [CSt.get_put, if_neg hj]⟩
    simp only [hm, if_false, hg, if_true, and_self]
    have hle : 0 + (l.length + m.length) * f.size ≤ (l.flatMap enc ++ zs).length := by
      rw [List.length_append, hll, hfs, Nat.add_mul]; omega
    rw [if_pos hle]
    have hst : st (l.flatMap enc ++ zs) (0 + l.length * f.size) (m.flatMap enc) = some ((l ++ m).flatMap enc ++ zs.drop (m.length * sz)) := by
      unfold st
      rw [if_pos (by rw [List.length_append, hll, hml, hfs]; omega), hfs, Nat.zero_add, ← hll, List.take_left, ← List.drop_drop, List.drop_left, hml, List.flatMap_append]
    rw [hst]
    simp
end
section
variable {P : Program} {σ : CSt} {ev : Operand → Value} {dst : Option Tmp} {ty : TypeId} {pos : String} {after : Array Edge} {g : Option (Nat × Bool)}
@[simp] theorem copE_makeFunc (f : FuncId) (first captured : Array Operand) : cop P σ ev ⟨dst, .makeFunc (.func f) first captured, ty, pos, after, g⟩ = .val (.func (.func f) (first.map ev) (captured.map ev)) σ := (rfl)
end
end Go.Sm
/- What may change: objects of some types that were made behind a point. -/
set_option linter.unusedVariables false
namespace Go.Sm
open Go
def Fr (T : TypeId → Prop) (b : Nat) (σ σ' : CSt) : Prop := σ.n ≤ σ'.n ∧ ∀ j, j < σ.n → (j < b ∨ ∀ row e ro, σ.get j = some (.cells row e ro) → ¬ T e) → σ'.get j = σ.get j
section
variable {T T' : TypeId → Prop} {b b' : Nat} {s0 s1 s2 : CSt}
theorem Fr.refl (T : TypeId → Prop) (b : Nat) (σ : CSt) : Fr T b σ σ := ⟨Nat.le_refl _, fun _ _ _ => rfl⟩
theorem Grow.fr (h : Grow s0 s1) : Fr T b s0 s1 := ⟨h.n, fun j hj _ => h.old j hj⟩
theorem Fr.trans (h : Fr T b s0 s1) (h' : Fr T b s1 s2) : Fr T b s0 s2 :=
  ⟨Nat.le_trans h.1 h'.1, fun j hj hc => by rw [h'.2 j (Nat.lt_of_lt_of_le hj h.1) (by rw [h.2 j hj hc]; exact hc), h.2 j hj hc]⟩
theorem Fr.mono (h : Fr T b s0 s1) (hT : ∀ e, T e → T' e) (hb : b' ≤ b) : Fr T' b' s0 s1 :=
  ⟨h.1, fun j hj hc => h.2 j hj (hc.elim (fun h => .inl (Nat.lt_of_lt_of_le h hb)) fun hc => .inr fun row e ro hg ht => hc row e ro hg (hT e ht))⟩
theorem Fr.alloc (h : Fr T b s0 s1) (o : CObj) : Fr T b s0 (s1.alloc o) := h.trans ((Grow.refl s1).alloc o).fr
theorem Fr.put (h : Fr T b s0 s1) {i : Nat} (hi : b ≤ i) {row : List Value} {e : TypeId} {ro : Bool} (hg : s1.get i = some (.cells row e ro)) (ht : T e) (o : CObj) : Fr T b s0 (s1.put i o) :=
  h.trans ⟨Nat.le_refl _, fun j hj hc => by
    rw [CSt.get_put]
    by_cases e' : j = i
    · subst e'
      rcases hc with hc | hc
      · omega
      · exact absurd ht (hc _ _ _ hg)
    · rw [if_neg e']⟩
theorem Fr.new (h : Fr T b s0 s1) {i : Nat} (hi : s0.n ≤ i) (o : CObj) : Fr T b s0 (s1.put i o) := ⟨h.1, fun j hj hc => by rw [CSt.get_put, if_neg (by omega)]; exact h.2 j hj hc⟩
theorem Fr.growB (h : Fr T b s0 s1) (hb : b ≤ s0.n) : GrowB b s0 s1 := ⟨h.1, fun j hj => h.2 j (Nat.lt_of_lt_of_le hj hb) (.inl hj)⟩
theorem Fr.grow (h : Fr T b s0 s1) (hb : s0.n ≤ b) : Grow s0 s1 := ⟨h.1, fun j hj => h.2 j hj (.inl (Nat.lt_of_lt_of_le hj hb))⟩
theorem Fr.get (h : Fr T b s0 s1) {i : Nat} {o : CObj} (hg : s0.get i = some o) (hi : i < s0.n) (hc : i < b ∨ ∀ row e ro, o = .cells row e ro → ¬ T e) : s1.get i = some o := by
  rw [h.2 i hi (hc.elim .inl fun hc => .inr fun row e ro h1 => hc row e ro (by rw [hg] at h1; exact Option.some.inj h1)), hg]
variable {α : Type} {e : TypeId} {sz : Nat} {enc : α → List Value} {v : Value} {l : List α}
theorem Sl.fr (h : Sl s0 e sz enc v l) (ht : ¬ T e) (hg : Fr T b s0 s1) : Sl s1 e sz enc v l := by
  rcases h with h | ⟨i, off, cap, row, ro, h1, h2, h3, h4⟩
  · exact .inl h
  · exact .inr ⟨i, off, cap, row, ro, h1, hg.get h2 h3 (.inr fun row' e' ro' he => by cases he; exact ht), Nat.lt_of_lt_of_le h3 hg.1, h4⟩
theorem Own.fr (h : Own b' s0 e enc v l) (ht : ¬ T e) (hg : Fr T b s0 s1) : Own b' s1 e enc v l := by
  rcases h with h | ⟨i, cap, h1, hb, hi, h2, h3⟩
  · exact .inl h
  · exact .inr ⟨i, cap, h1, hb, Nat.lt_of_lt_of_le hi hg.1, hg.get h2 hi (.inr fun row' e' ro' he => by cases he; exact ht), h3⟩
end
section
variable {P : Program} {σ : CSt} {ev : Operand → Value} {dst : Option Tmp} {ty : TypeId} {pos : String} {after : Array Edge} {g : Option (Nat × Bool)}
def nilK (σ : CSt) : Value → OpR
  | .pointer (some a) => .val (.pointer (some a)) σ
  | .func (.func f) fs cs => .val (.func (.func f) fs cs) σ
  | .func (.yield f) fs cs => .val (.func (.yield f) fs cs) σ
  | .iface t v => .val (.iface t v) σ
  | _ => .fail
@[simp] theorem copE_nilCheck (x : Operand) : cop P σ ev ⟨dst, .nilCheck x, ty, pos, after, g⟩ = nilK σ (ev x) := (rfl)
@[simp] theorem nilK_ptr (a : Addr) : nilK σ (.pointer (some a)) = .val (.pointer (some a)) σ := (rfl)
@[simp] theorem nilK_fn (f : FuncId) (fs cs : Array Value) : nilK σ (.func (.func f) fs cs) = .val (.func (.func f) fs cs) σ := (rfl)
@[simp] theorem nilK_yield (f : Nat) (fs cs : Array Value) : nilK σ (.func (.yield f) fs cs) = .val (.func (.yield f) fs cs) σ := (rfl)
end
end Go.Sm
/- Strings in order. -/
set_option linter.unusedVariables false
set_option linter.unusedSimpArgs false
namespace Go.Sm
open Go
def bl : List UInt8 → List UInt8 → Bool := Op.bytesLess
theorem bl_irrefl : ∀ x : List UInt8, bl x x = false
  | [] => rfl
  | a :: x => by
    have h := bl_irrefl x
    unfold bl at h ⊢
    simp [Op.bytesLess, h]
theorem bl_trans : ∀ {x y z : List UInt8}, bl x y = true → bl y z = true → bl x z = true
  | _, [], _, h, _ => by unfold bl at h; simp [Op.bytesLess] at h
  | _, _ :: _, [], _, h => by unfold bl at h; simp [Op.bytesLess] at h
  | [], _ :: _, _ :: _, _, _ => rfl
  | a :: x, b :: y, c :: z, h1, h2 => by
    have ih := @bl_trans x y z
    unfold bl at h1 h2 ih ⊢
    simp only [Op.bytesLess, Bool.or_eq_true, decide_eq_true_eq, Bool.and_eq_true, beq_iff_eq] at h1 h2 ⊢
    rcases h1 with h1 | ⟨rfl, h1⟩
    · rcases h2 with h2 | ⟨rfl, h2⟩
      · exact .inl (UInt8.lt_trans h1 h2)
      · exact .inl h1
    · rcases h2 with h2 | ⟨rfl, h2⟩
      · exact .inl h2
      · exact .inr ⟨rfl, ih h1 h2⟩
theorem bl_tri : ∀ {x y : List UInt8}, bl x y = false → bl y x = false → x = y
  | [], [], _, _ => rfl
  | [], _ :: _, h, _ => by unfold bl at h; simp [Op.bytesLess] at h
  | _ :: _, [], _, h => by unfold bl at h; simp [Op.bytesLess] at h
  | a :: x, b :: y, h1, h2 => by
    have ih := @bl_tri x y
    unfold bl at h1 h2 ih
    simp only [Op.bytesLess, Bool.or_eq_false_iff, decide_eq_false_iff_not, Bool.and_eq_false_iff] at h1 h2
    have e : a = b := UInt8.le_antisymm (UInt8.not_lt.1 h2.1) (UInt8.not_lt.1 h1.1)
    subst e
    rw [ih (by simpa using h1.2) (by simpa using h2.2)]
theorem bl_asymm {x y : List UInt8} (h : bl x y = true) : bl y x = false := by
  cases h' : bl y x with
  | false => rfl
  | true => have := bl_trans h h'; rw [bl_irrefl] at this; cases this
theorem ba_list_inj {s u : ByteArray} (h : s.toList = u.toList) : s = u := by
  have h3 : s.data.toList = u.data.toList := by rw [ByteArray.toList_eq, ByteArray.toList_eq] at h; exact h
  cases s; cases u
  simp only at h3
  rw [Array.toList_inj.1 h3]
/-- One key ahead of another. -/
def klt (s u : ByteArray) : Bool := bl s.toList u.toList
section
variable {P : Program} {σ : CSt} {t : TypeId} {x y : Operand} {s u : ByteArray}
@[simp] theorem bin_strlt : binF P σ .lss t x y (.string s) (.string u) = .val (.bool (klt s u)) σ := by simp [binF, eqGuard, binOp, Op.stringOp, klt, bl]
@[simp] theorem bin_strgt : binF P σ .gtr t x y (.string s) (.string u) = .val (.bool (!(klt s u || s.toList == u.toList))) σ := by simp [binF, eqGuard, binOp, Op.stringOp, klt, bl]
@[simp] theorem bin_strle : binF P σ .leq t x y (.string s) (.string u) = .val (.bool (klt s u || s.toList == u.toList)) σ := by simp [binF, eqGuard, binOp, Op.stringOp, klt, bl]
@[simp] theorem bin_strge : binF P σ .geq t x y (.string s) (.string u) = .val (.bool (!klt s u)) σ := by simp [binF, eqGuard, binOp, Op.stringOp, klt, bl]
end
end Go.Sm
/- Rows that are sorted in place; operations under a condition in a calm region. -/
set_option linter.unusedVariables false
set_option linter.unusedSimpArgs false
namespace Go.Sm
open Go
section
variable {E : Env} {σ : CSt}
theorem dops_if {ops : Array Oper} {a0 : CAct} {Q : Out → CSt → Prop} {a : CAct} {dst : Option Tmp} {op : Op} {ty : TypeId} {pos : String} {after : Array Edge} {j : Nat} {want : Bool} {rest : List Oper} (hd : ((ops[j]?).bind (·.dst)).isSome = true) (hs : dstOf ops j < a.sz) :
    dops E ops Q a0 (⟨dst, op, ty, pos, after, some (j, want)⟩ :: rest) a σ =
      guardK (a.get (dstOf ops j)) want
        (dres E ops a0 a dst (dops E ops Q a0 rest) Q σ (cop E.P σ a.eval ⟨dst, op, ty, pos, after, some (j, want)⟩))
        (dops E ops Q a0 rest (a.put dst nope) σ) := by
  obtain ⟨d, hd⟩ := Option.isSome_iff_exists.1 hd
  have hdd : dstOf ops j = d := by simp [dstOf, hd]
  rw [hdd] at hs ⊢
  rw [dops]
  simp only [wantedC, hd, hs, if_true]
  unfold guardK
  generalize a.get d = v
  cases v with
  | bool b => cases b <;> cases want <;> rfl
  | chan c => cases c <;> rfl
  | _ => rfl
end
/-- All but one object is as it was. -/
def But (L : Nat) (s0 s1 : CSt) : Prop := s0.n ≤ s1.n ∧ ∀ j, j < s0.n → j ≠ L → s1.get j = s0.get j
theorem But.refl (L : Nat) (s : CSt) : But L s s := ⟨Nat.le_refl _, fun _ _ _ => rfl⟩
theorem Grow.but {L : Nat} {s0 s1 : CSt} (h : Grow s0 s1) : But L s0 s1 := ⟨h.n, fun j hj _ => h.old j hj⟩
theorem But.trans {L : Nat} {s0 s1 s2 : CSt} (h : But L s0 s1) (h' : But L s1 s2) : But L s0 s2 := ⟨Nat.le_trans h.1 h'.1, fun j hj hne => by rw [h'.2 j (Nat.lt_of_lt_of_le hj h.1) hne, h.2 j hj hne]⟩
theorem But.putL {L : Nat} {s0 s1 : CSt} (h : But L s0 s1) (o : CObj) : But L s0 (s1.put L o) := ⟨h.1, fun j hj hne => by rw [CSt.get_put, if_neg hne]; exact h.2 j hj hne⟩
theorem But.put {L i : Nat} {s0 s1 : CSt} (h : But L s0 s1) (hi : s0.n ≤ i) (o : CObj) : But L s0 (s1.put i o) := ⟨h.1, fun j hj hne => by rw [CSt.get_put, if_neg (by omega)]; exact h.2 j hj hne⟩
theorem But.alloc {L : Nat} {s0 s1 : CSt} (h : But L s0 s1) (o : CObj) : But L s0 (s1.alloc o) := ⟨by have := h.1; simp; omega, fun j hj hne => by have := h.1; rw [CSt.get_alloc, if_neg (by omega)]; exact h.2 j hj hne⟩
theorem But.back {L : Nat} {s0 s1 : CSt} {o : CObj} (h : But L s0 s1) (hL : s0.get L = some o) : Grow s0 (s1.put L o) := ⟨h.1, fun j hj => by
  by_cases e : j = L
  · subst e; simp [hL]
  · rw [CSt.get_put, if_neg e]; exact h.2 j hj e⟩
theorem But.get {L i : Nat} {s0 s1 : CSt} {o : CObj} (h : But L s0 s1) (hg : s0.get i = some o) (hi : i < s0.n) (hne : i ≠ L) : s1.get i = some o := by rw [h.2 i hi hne]; exact hg
theorem But.from_ {L : Nat} {s0 s1 s2 : CSt} (g : Grow s0 s1) (h : But L s1 s2) (hL : s0.n ≤ L) : Grow s0 s2 := ⟨Nat.le_trans g.n h.1, fun i hi => by rw [h.2 i (Nat.lt_of_lt_of_le hi g.n) (by omega)]; exact g.old i hi⟩
theorem Own.but {α : Type} {b L : Nat} {σ σ' : CSt} {e : TypeId} {enc : α → List Value} {v : Value} {l : List α} (h : Own b σ e enc v l) (hL : L < b) (hg : But L σ σ') : Own b σ' e enc v l := h.keep hg.1 fun i hbi hin => hg.2 i hin (by omega)
/-- A loop, with what holds behind it. -/
theorem W_loop_J {E : Env} {x : Ctx} {c : Code} {Q : Out → CSt → Prop} (I : Nat → CAct → CSt → Prop) (J : Out → CSt → Prop) (hstep : ∀ n a σ, I n a σ → W E (.code x c a) σ (kinv I n J)) (n : Nat) (a : CAct) (σ : CSt) (h : I n a σ) (hJ : ∀ o s, J o s → Q o s) : W E (.code x (.loop c) a) σ Q :=
  W.weaken (W_loop_inv (Q := J) I hstep n a σ h) hJ
/-! ### Conditions one by one -/
theorem W_cond_t {E : Env} {x : Ctx} {c : Operand} {t e : Code} {a : CAct} {σ : CSt} {Q : Out → CSt → Prop} (h : a.eval c = .bool true) : W E (.code x (.cond c t e) a) σ Q = W E (.code x t a) σ Q := by simp [h]
theorem W_cond_f {E : Env} {x : Ctx} {c : Operand} {t e : Code} {a : CAct} {σ : CSt} {Q : Out → CSt → Prop} (h : a.eval c = .bool false) : W E (.code x (.cond c t e) a) σ Q = W E (.code x e a) σ Q := by simp [h]
theorem W_cut {E : Env} {t : Task} {σ : CSt} {Q : Out → CSt → Prop} (J : Out → CSt → Prop) (h1 : W E t σ J) (h2 : ∀ o s, J o s → Q o s) : W E t σ Q := W.weaken h1 h2
/-! ### Rows -/
section
def aset {α : Type} (d : Array α) (j : Nat) (x : α) : Array α := d.setIfInBounds j x
@[simp] theorem aset_size {α : Type} (d : Array α) (j : Nat) (x : α) : (aset d j x).size = d.size := by simp [aset]
def rowD {α : Type} (enc : α → List Value) (pre post : List Value) (d : Array α) : List Value := pre ++ d.toList.flatMap enc ++ post
theorem rowD_len {α : Type} {enc : α → List Value} {sz : Nat} {pre post : List Value} {d : Array α} (hsz : ∀ x, (enc x).length = sz) : (rowD enc pre post d).length = pre.length + d.size * sz + post.length := by
  unfold rowD
  rw [List.length_append, List.length_append, enc_length enc hsz, show d.toList.length = d.size from by simp]
variable {α : Type} [Inhabited α]
def aget (d : Array α) (j : Nat) : α := d[j]!
theorem swp_aset (d : Array α) (i j : Nat) : Sort.swp d i j = aset (aset d i (aget d j)) j (aget d i) := rfl
@[simp] theorem swp_sz (d : Array α) (i j : Nat) : (Sort.swp d i j).size = d.size := Sort.swp_size d i j
theorem aget_aset (d : Array α) (j k : Nat) (x : α) (hj : j < d.size) : aget (aset d j x) k = if k = j then x else aget d k := by
  unfold aget aset
  rw [getElem!_def, getElem!_def, Array.getElem?_setIfInBounds]
  by_cases e : j = k
  · subst e; simp [hj]
  · rw [if_neg e, if_neg (Ne.symm e)]
variable {enc : α → List Value} {sz : Nat} {pre post : List Value} {d : Array α}
theorem aget_eq {j : Nat} (hj : j < d.size) : aget d j = d.toList[j]'(by simpa using hj) := by
  unfold aget; rw [getElem!_pos d j hj]; simp
theorem rowD_ld (hsz : ∀ x, (enc x).length = sz) {j : Nat} (hj : j < d.size) : ld (rowD enc pre post d) (pre.length + j * sz) sz = some (enc (aget d j)) := by
  have hl := rowD_len (enc := enc) (pre := pre) (post := post) (d := d) hsz
  have h1 : j * sz + sz ≤ d.size * sz := by rw [← Nat.succ_mul]; exact Nat.mul_le_mul_right _ hj
  have h2 := row_get (enc := enc) hsz (l := d.toList) (row := rowD enc pre post d) (off := pre.length) (by
    unfold rowD
    rw [List.append_assoc, List.drop_left, List.take_append_of_le_length (by rw [enc_length enc hsz]; exact Nat.le_refl _), List.take_of_length_le (by rw [enc_length enc hsz]; exact Nat.le_refl _)]) j (by simpa using hj)
  unfold ld
  rw [if_pos (by omega), h2, aget_eq hj]
theorem rowD_st {α : Type} {enc : α → List Value} {sz : Nat} {pre post : List Value} {d : Array α} (hsz : ∀ x, (enc x).length = sz) {j : Nat} (hj : j < d.size) (x : α) : st (rowD enc pre post d) (pre.length + j * sz) (enc x) = some (rowD enc pre post (aset d j x)) := by
  have hl := rowD_len (enc := enc) (pre := pre) (post := post) (d := d) hsz
  have h1 : j * sz + sz ≤ d.size * sz := by rw [← Nat.succ_mul]; exact Nat.mul_le_mul_right _ hj
  have h3 := enc_length enc hsz d.toList
  rw [show d.toList.length = d.size from by simp] at h3
  unfold st
  rw [hsz, if_pos (by omega)]
  congr 1
  have h2 := enc_set enc hsz d.toList j x (by simpa using hj)
  have e : (aset d j x).toList = d.toList.set j x := by unfold aset; rw [Array.toList_setIfInBounds]
  unfold rowD
  rw [e, ← h2, List.append_assoc pre, List.append_assoc pre, List.take_append, List.take_of_length_le (by omega), List.append_assoc, List.append_assoc, List.append_assoc, List.append_assoc]
  congr 1
  have e1 : pre.length + j * sz - pre.length = j * sz := by omega
  rw [e1, List.take_append_of_le_length (by rw [h3]; omega)]
  congr 1
  congr 1
  rw [List.drop_append, List.drop_of_length_le (by omega), List.nil_append]
  have e2 : pre.length + j * sz + sz - pre.length = j * sz + sz := by omega
  rw [e2, List.drop_append_of_le_length (by rw [h3]; omega)]
/-- Elements of one cell. -/
theorem rowD_get {v : α → Value} (he : ∀ x, enc x = [v x]) {j : Nat} (hj : j < d.size) : (rowD enc pre post d)[pre.length + j]? = some (v (aget d j)) := by
  have h := rowD_ld (enc := enc) (pre := pre) (post := post) (sz := 1) (fun x => by rw [he]; rfl) hj
  unfold ld at h
  split at h
  · rename_i hl
    have h1 := Option.some.inj h
    have h2 := congrArg (·[0]?) h1
    rw [he] at h2
    simpa [List.getElem?_take, List.getElem?_drop] using h2
  · cases h
theorem rowD_st1 {α : Type} {enc : α → List Value} {pre post : List Value} {d : Array α} {v : α → Value} (he : ∀ x, enc x = [v x]) {j : Nat} (hj : j < d.size) (x : α) : st (rowD enc pre post d) (pre.length + j) [v x] = some (rowD enc pre post (aset d j x)) := by
  have h := rowD_st (enc := enc) (pre := pre) (post := post) (sz := 1) (fun x => by rw [he]; rfl) hj x
  rwa [he, Nat.mul_one] at h
theorem i64p (a : Nat) (h0 : 0 < a) (h : a < 2 ^ 61) : IntKind.i64.wrap ((a : Int) - 1) = ((a - 1 : Nat) : Int) := by
  rw [IntWalk.i64_in _ (by omega)]; omega
end
end Go.Sm
/- Bits; a string's byte. -/
set_option linter.unusedVariables false
set_option linter.unusedSimpArgs false
namespace Go.Sm
open Go
section
variable {P : Program} {σ : CSt} {ev : Operand → Value} {dst : Option Tmp} {ty : TypeId} {pos : String} {after : Array Edge} {g : Option (Nat × Bool)}
variable {t : TypeId} {x y : Operand} {k k' : IntKind} {a b : Int} {s u : ByteArray}
def andI (k : IntKind) (a b : Int) : Int := k.wrap ((BitVec.ofInt k.bits a &&& BitVec.ofInt k.bits b).toNat)
def orI (k : IntKind) (a b : Int) : Int := k.wrap ((BitVec.ofInt k.bits a ||| BitVec.ofInt k.bits b).toNat)
def xorI (k : IntKind) (a b : Int) : Int := k.wrap ((BitVec.ofInt k.bits a ^^^ BitVec.ofInt k.bits b).toNat)
@[simp] theorem bin_and : binF P σ .and t x y (.int k a) (.int k b) = .val (.int k (andI k a b)) σ := by simp [binF, eqGuard, binOp, Op.intBits, andI]
@[simp] theorem bin_or : binF P σ .or t x y (.int k a) (.int k b) = .val (.int k (orI k a b)) σ := by simp [binF, eqGuard, binOp, Op.intBits, orI]
@[simp] theorem bin_xor : binF P σ .xor t x y (.int k a) (.int k b) = .val (.int k (xorI k a b)) σ := by simp [binF, eqGuard, binOp, Op.intBits, xorI]
theorem u64_rng (n : Int) : 0 ≤ IntKind.u64.wrap n ∧ IntKind.u64.wrap n < 2 ^ 64 := by
  have h : IntKind.u64.wrap n = n % 2 ^ 64 := by simp [IntKind.wrap, IntKind.bits, IntKind.signed]
  rw [h]
  omega
/-- s[i], of a string. -/
def idxS (fl : OpR) (ok : Bool) (σ : CSt) : Value → Value → OpR
  | .string s, .int _ n => if ok = true ∧ 0 ≤ n then (match s[n.toNat]? with | some b => .val (.int .u8 b.toNat) σ | none => fl) else fl
  | _, _ => fl
@[simp] theorem copE_index (ix : Operand) : cop P σ ev ⟨dst, .index t x ix, ty, pos, after, g⟩ = idxS (flatOp P σ ev ⟨dst, .index t x ix, ty, pos, after, g⟩) (strT P t) σ (ev x) (ev ix) := by
  unfold idxS
  split
  · rename_i s k n hx hi
    split
    · rename_i h
      split
      · rename_i b hb
        have ht : P.underlying t = some .string := by
          have := h.1
          unfold strT at this
          split at this
          · assumption
          · cases this
        show flatOp P σ ev _ = _
        unfold flatOp
        simp [Op.operands, hx, hi, Sm.flat, flat0, execOp, pureRun_bind, Instr.index, asIntOf, pureRun_underlying, ht, h.2, hb]
      · rfl
    · rfl
  · rfl
/-- min, max of two. -/
def minK (fl : OpR) (σ : CSt) : Value → Value → OpR
  | .int k a, .int _ b => .val (.int k (if b < a then b else a)) σ
  | _, _ => fl
def maxK (fl : OpR) (σ : CSt) : Value → Value → OpR
  | .int k a, .int _ b => .val (.int k (if a < b then b else a)) σ
  | _, _ => fl
@[simp] theorem callOp_min {ts : Array TypeId} : callOp P σ ev ⟨dst, .call ⟨.builtin .min, #[x, y], ts⟩, ty, pos, after, g⟩ ⟨.builtin .min, #[x, y], ts⟩ = minK (flatOp P σ ev ⟨dst, .call ⟨.builtin .min, #[x, y], ts⟩, ty, pos, after, g⟩) σ (ev x) (ev y) := by
  unfold minK
  split
  · rename_i k a k' b hx hy
    show flatOp P σ ev _ = _
    unfold flatOp
    have ho : (⟨.builtin .min, #[x, y], ts⟩ : Call).operands = #[x, y] := by simp [Call.operands]
    simp [Op.operands, ho, hx, hy, Sm.flat, flat0, execOp, pureRun_bind, resolve, invoke, builtin, Builtin.min_, Builtin.min2]
  · rfl
@[simp] theorem callOp_max {ts : Array TypeId} : callOp P σ ev ⟨dst, .call ⟨.builtin .max, #[x, y], ts⟩, ty, pos, after, g⟩ ⟨.builtin .max, #[x, y], ts⟩ = maxK (flatOp P σ ev ⟨dst, .call ⟨.builtin .max, #[x, y], ts⟩, ty, pos, after, g⟩) σ (ev x) (ev y) := by
  unfold maxK
  split
  · rename_i k a k' b hx hy
    show flatOp P σ ev _ = _
    unfold flatOp
    have ho : (⟨.builtin .max, #[x, y], ts⟩ : Call).operands = #[x, y] := by simp [Call.operands]
    simp [Op.operands, ho, hx, hy, Sm.flat, flat0, execOp, pureRun_bind, resolve, invoke, builtin, Builtin.max_, Builtin.max2]
  · rfl
end
end Go.Sm
/- Operations on floats and complex numbers that are small and whole. -/
set_option linter.unusedVariables false
set_option linter.unusedSimpArgs false
namespace Go.Sm
open Go
section
variable {P : Program} {σ : CSt} {ev : Operand → Value} {t : TypeId} {x y : Operand} {a b c d : Int}
@[simp] theorem isNil_float (op : BinOp) (t : TypeId) (k : FloatKind) (n : Nat) (y : Value) : isNilCmp P op t (.float k n) y = none := by simp [isNilCmp, nilPair_of]
@[simp] theorem isNil_complex (op : BinOp) (t : TypeId) (k : FloatKind) (n m : Nat) (y : Value) : isNilCmp P op t (.complex k n m) y = none := by
  have h : nilPair P t (.complex k n m) y = false := by
    unfold nilPair
    split <;> simp_all
  simp [isNilCmp, h]
theorem fl_one : fl 1 = 4607182418800017408 := by decide
theorem bin_fadd (ha : a.natAbs < 2 ^ 52) (hb : b.natAbs < 2 ^ 52) : binF P σ .add t x y (.float .f64 (fl a)) (.float .f64 (fl b)) = .val (.float .f64 (fl (a + b))) σ := by
  simp [binF, eqGuard, binOp, Op.floatArith, fadd a b ha hb]
theorem bin_fmul (ha0 : 0 ≤ a) (hb0 : 0 ≤ b) (ha : a.natAbs < 2 ^ 26) (hb : b.natAbs < 2 ^ 26) : binF P σ .mul t x y (.float .f64 (fl a)) (.float .f64 (fl b)) = .val (.float .f64 (fl (a * b))) σ := by
  simp [binF, eqGuard, binOp, Op.floatArith, fmul a b ha0 hb0 ha hb]
theorem bin_flss (ha : a.natAbs < 2 ^ 53) (hb : b.natAbs < 2 ^ 53) : binF P σ .lss t x y (.float .f64 (fl a)) (.float .f64 (fl b)) = .val (.bool (decide (a < b))) σ := by
  simp only [binF, eqGuard, binOp, Op.floatCmp, forder a b ha hb]
  by_cases h : a < b
  · simp [h]
  · by_cases h2 : a = b
    · simp [h2]
    · simp [h, h2]
theorem bin_fgeq (ha : a.natAbs < 2 ^ 53) (hb : b.natAbs < 2 ^ 53) : binF P σ .geq t x y (.float .f64 (fl a)) (.float .f64 (fl b)) = .val (.bool (decide (b ≤ a))) σ := by
  simp only [binF, eqGuard, binOp, Op.floatCmp, forder a b ha hb]
  by_cases h : a < b
  · have : ¬ b ≤ a := by omega
    simp [h, this]
  · by_cases h2 : a = b
    · simp [h2]
    · have : b ≤ a := by omega
      simp [h, h2, this]
theorem bin_fleq (ha : a.natAbs < 2 ^ 53) (hb : b.natAbs < 2 ^ 53) : binF P σ .leq t x y (.float .f64 (fl a)) (.float .f64 (fl b)) = .val (.bool (decide (a ≤ b))) σ := by
  simp only [binF, eqGuard, binOp, Op.floatCmp, forder a b ha hb]
  by_cases h : a < b
  · have : a ≤ b := by omega
    simp [h, this]
  · by_cases h2 : a = b
    · simp [h2]
    · have : ¬ a ≤ b := by omega
      simp [h, h2, this]
theorem bin_feql (ha : a.natAbs < 2 ^ 53) (hb : b.natAbs < 2 ^ 53) : binF P σ .eql t x y (.float .f64 (fl a)) (.float .f64 (fl b)) = .val (.bool (decide (a = b))) σ := by
  simp only [binF, eqGuard, binOp, Op.floatCmp, forder a b ha hb]
  by_cases h : a < b
  · have : ¬ a = b := by omega
    simp [h, this]
  · by_cases h2 : a = b
    · simp [h2]
    · simp [h, h2]
theorem bin_csub (ha : a.natAbs < 2 ^ 52) (hb : b.natAbs < 2 ^ 52) (hc : c.natAbs < 2 ^ 52) (hd : d.natAbs < 2 ^ 52) : binF P σ .sub t x y (.complex .f64 (fl a) (fl b)) (.complex .f64 (fl c) (fl d)) = .val (.complex .f64 (fl (a - c)) (fl (b - d))) σ := by
  simp [binF, eqGuard, binOp, Op.complexOp, Op.Complex.arith, Op.floatArith, fsub a c ha hc, fsub b d hb hd]
theorem bin_cadd (ha : a.natAbs < 2 ^ 52) (hb : b.natAbs < 2 ^ 52) (hc : c.natAbs < 2 ^ 52) (hd : d.natAbs < 2 ^ 52) : binF P σ .add t x y (.complex .f64 (fl a) (fl b)) (.complex .f64 (fl c) (fl d)) = .val (.complex .f64 (fl (a + c)) (fl (b + d))) σ := by
  simp [binF, eqGuard, binOp, Op.complexOp, Op.Complex.arith, Op.floatArith, fadd a c ha hc, fadd b d hb hd]
/-- min, max of two, floats too. -/
def minF (f : OpR) (σ : CSt) : Value → Value → OpR
  | .int k a, .int _ b => .val (.int k (if b < a then b else a)) σ
  | .float .f64 a, .float .f64 b => match FloatKind.f64.format.order a b with
    | some .lt => .val (.float .f64 a) σ
    | some .gt => .val (.float .f64 b) σ
    | some .eq => .val (.float .f64 (if (FloatKind.f64.decode a).neg then a else b)) σ
    | none => f
  | _, _ => f
def maxF (f : OpR) (σ : CSt) : Value → Value → OpR
  | .int k a, .int _ b => .val (.int k (if a < b then b else a)) σ
  | .float .f64 a, .float .f64 b => match FloatKind.f64.format.order a b with
    | some .lt => .val (.float .f64 b) σ
    | some .gt => .val (.float .f64 a) σ
    | some .eq => .val (.float .f64 (if (FloatKind.f64.decode a).neg then b else a)) σ
    | none => f
  | _, _ => f
variable {dst : Option Tmp} {ty : TypeId} {pos : String} {after : Array Edge} {g : Option (Nat × Bool)} {ts : Array TypeId}
theorem callOp_minF : callOp P σ ev ⟨dst, .call ⟨.builtin .min, #[x, y], ts⟩, ty, pos, after, g⟩ ⟨.builtin .min, #[x, y], ts⟩ = minF (flatOp P σ ev ⟨dst, .call ⟨.builtin .min, #[x, y], ts⟩, ty, pos, after, g⟩) σ (ev x) (ev y) := by
  unfold minF
  split
  · rename_i k a k' b hx hy
    rw [callOp_min, hx, hy]
    rfl
  · rename_i n m hx hy
    show flatOp P σ ev _ = _
    have ho : (⟨.builtin .min, #[x, y], ts⟩ : Call).operands = #[x, y] := by simp [Call.operands]
    split <;> rename_i ho2
    · unfold flatOp
      simp [Op.operands, ho, hx, hy, Sm.flat, flat0, execOp, pureRun_bind, resolve, invoke, builtin, Builtin.min_, Builtin.min2, ho2]
    · unfold flatOp
      simp [Op.operands, ho, hx, hy, Sm.flat, flat0, execOp, pureRun_bind, resolve, invoke, builtin, Builtin.min_, Builtin.min2, ho2]
    · unfold flatOp
      simp [Op.operands, ho, hx, hy, Sm.flat, flat0, execOp, pureRun_bind, resolve, invoke, builtin, Builtin.min_, Builtin.min2, ho2]
    · rfl
  · rfl
theorem callOp_maxF : callOp P σ ev ⟨dst, .call ⟨.builtin .max, #[x, y], ts⟩, ty, pos, after, g⟩ ⟨.builtin .max, #[x, y], ts⟩ = maxF (flatOp P σ ev ⟨dst, .call ⟨.builtin .max, #[x, y], ts⟩, ty, pos, after, g⟩) σ (ev x) (ev y) := by
  unfold maxF
  split
  · rename_i k a k' b hx hy
    rw [callOp_max, hx, hy]
    rfl
  · rename_i n m hx hy
    show flatOp P σ ev _ = _
    have ho : (⟨.builtin .max, #[x, y], ts⟩ : Call).operands = #[x, y] := by simp [Call.operands]
    split <;> rename_i ho2
    · unfold flatOp
      simp [Op.operands, ho, hx, hy, Sm.flat, flat0, execOp, pureRun_bind, resolve, invoke, builtin, Builtin.max_, Builtin.max2, ho2]
    · unfold flatOp
      simp [Op.operands, ho, hx, hy, Sm.flat, flat0, execOp, pureRun_bind, resolve, invoke, builtin, Builtin.max_, Builtin.max2, ho2]
    · unfold flatOp
      simp [Op.operands, ho, hx, hy, Sm.flat, flat0, execOp, pureRun_bind, resolve, invoke, builtin, Builtin.max_, Builtin.max2, ho2]
    · rfl
  · rfl
theorem minF_fl {f : OpR} (ha : a.natAbs < 2 ^ 53) (hb : b.natAbs < 2 ^ 53) : minF f σ (.float .f64 (fl a)) (.float .f64 (fl b)) = .val (.float .f64 (fl (min a b))) σ := by
  simp only [minF, forder a b ha hb]
  by_cases h : a < b
  · rw [if_pos h, show min a b = a by omega]
  · rw [if_neg h]
    by_cases h2 : a = b
    · subst h2
      rw [if_pos rfl, show min a a = a by omega]
      simp
    · rw [if_neg h2, show min a b = b by omega]
theorem maxF_fl {f : OpR} (ha : a.natAbs < 2 ^ 53) (hb : b.natAbs < 2 ^ 53) : maxF f σ (.float .f64 (fl a)) (.float .f64 (fl b)) = .val (.float .f64 (fl (max a b))) σ := by
  simp only [maxF, forder a b ha hb]
  by_cases h : a < b
  · rw [if_pos h, show max a b = b by omega]
  · rw [if_neg h]
    by_cases h2 : a = b
    · subst h2
      rw [if_pos rfl, show max a a = a by omega]
      simp
    · rw [if_neg h2, show max a b = a by omega]
def realK (f : OpR) (σ : CSt) : Value → OpR
  | .complex k re _ => .val (.float k re) σ
  | _ => f
def imagK (f : OpR) (σ : CSt) : Value → OpR
  | .complex k _ im => .val (.float k im) σ
  | _ => f
def cplxK (f : OpR) (σ : CSt) : Value → Value → OpR
  | .float .f64 re, .float .f64 im => .val (.complex .f64 re im) σ
  | _, _ => f
@[simp] theorem callOp_real : callOp P σ ev ⟨dst, .call ⟨.builtin .real, #[x], ts⟩, ty, pos, after, g⟩ ⟨.builtin .real, #[x], ts⟩ = realK (flatOp P σ ev ⟨dst, .call ⟨.builtin .real, #[x], ts⟩, ty, pos, after, g⟩) σ (ev x) := by
  unfold realK
  split
  · rename_i k re im hx
    show flatOp P σ ev _ = _
    unfold flatOp
    have ho : (⟨.builtin .real, #[x], ts⟩ : Call).operands = #[x] := by simp [Call.operands]
    simp [Op.operands, ho, hx, Sm.flat, flat0, execOp, pureRun_bind, resolve, invoke, builtin, show ∀ ta tt, Builtin.real_ ta tt #[.complex k re im] = pure (.float k re) from fun _ _ => rfl]
  · rfl
@[simp] theorem callOp_imag : callOp P σ ev ⟨dst, .call ⟨.builtin .imag, #[x], ts⟩, ty, pos, after, g⟩ ⟨.builtin .imag, #[x], ts⟩ = imagK (flatOp P σ ev ⟨dst, .call ⟨.builtin .imag, #[x], ts⟩, ty, pos, after, g⟩) σ (ev x) := by
  unfold imagK
  split
  · rename_i k re im hx
    show flatOp P σ ev _ = _
    unfold flatOp
    have ho : (⟨.builtin .imag, #[x], ts⟩ : Call).operands = #[x] := by simp [Call.operands]
    simp [Op.operands, ho, hx, Sm.flat, flat0, execOp, pureRun_bind, resolve, invoke, builtin, show ∀ ta tt, Builtin.imag_ ta tt #[.complex k re im] = pure (.float k im) from fun _ _ => rfl]
  · rfl
@[simp] theorem callOp_cplx : callOp P σ ev ⟨dst, .call ⟨.builtin .complex, #[x, y], ts⟩, ty, pos, after, g⟩ ⟨.builtin .complex, #[x, y], ts⟩ = cplxK (flatOp P σ ev ⟨dst, .call ⟨.builtin .complex, #[x, y], ts⟩, ty, pos, after, g⟩) σ (ev x) (ev y) := by
  unfold cplxK
  split
  · rename_i re im hx hy
    show flatOp P σ ev _ = _
    unfold flatOp
    have ho : (⟨.builtin .complex, #[x, y], ts⟩ : Call).operands = #[x, y] := by simp [Call.operands]
    simp [Op.operands, ho, hx, hy, Sm.flat, flat0, execOp, pureRun_bind, resolve, invoke, builtin, show ∀ ta tt, Builtin.complex_ ta tt #[.float .f64 re, .float .f64 im] = pure (.complex .f64 re im) from fun _ _ => rfl]
  · rfl
theorem convF_float {s d : TypeId} (hs : (P.underlying s).isSome = true) (hd : P.underlying d = some (.float .f64)) (k : IntKind) (n : Int) : convF P σ s d (.int k n) = .val (.float .f64 (fl n)) σ := by
  obtain ⟨us, hs⟩ := Option.isSome_iff_exists.1 hs
  have h1 : convertOp P σ s d (.int k n) = .fail := by
    unfold convertOp
    rw [hs, hd]
    cases us <;> rfl
  simp only [convF, h1, or_fail, Sm.flat, flat0, if_true, convert, pureRun_bind, pureRun_underlying, hs, hd, Option.bind_some]
  rfl
end
end Go.Sm
/- Sets of times as rows of spans: plain facts. -/
namespace Go.Sm
structure Sn where
  lo : Int
  hi : Int
  deriving DecidableEq
def inS (t : Int) (s : Sn) : Prop := s.lo ≤ t ∧ t ≤ s.hi
instance (t : Int) (s : Sn) : Decidable (inS t s) := by unfold inS; exact inferInstance
def mem (l : List Sn) (t : Int) : Prop := ∃ s ∈ l, inS t s
@[simp] theorem mem_nil (t : Int) : ¬ mem [] t := fun ⟨s, h, _⟩ => by simp at h
theorem mem_cons {s : Sn} {l : List Sn} {t : Int} : mem (s :: l) t ↔ inS t s ∨ mem l t := by
  unfold mem
  simp
theorem mem_append {l m : List Sn} {t : Int} : mem (l ++ m) t ↔ mem l t ∨ mem m t := by
  unfold mem
  constructor
  · rintro ⟨s, h, k⟩
    rcases List.mem_append.1 h with h | h
    · exact .inl ⟨s, h, k⟩
    · exact .inr ⟨s, h, k⟩
  · rintro (⟨s, h, k⟩ | ⟨s, h, k⟩)
    · exact ⟨s, List.mem_append.2 (.inl h), k⟩
    · exact ⟨s, List.mem_append.2 (.inr h), k⟩
theorem mem_perm {l m : List Sn} (h : l.Perm m) {t : Int} : mem l t ↔ mem m t :=
  ⟨fun ⟨s, a, b⟩ => ⟨s, h.subset a, b⟩, fun ⟨s, a, b⟩ => ⟨s, h.symm.subset a, b⟩⟩
def full (s : Sn) : Bool := decide (s.lo ≤ s.hi)
theorem mem_filter_full {l : List Sn} {t : Int} : mem (l.filter full) t ↔ mem l t := by
  constructor
  · rintro ⟨s, h, k⟩
    exact ⟨s, (List.mem_filter.1 h).1, k⟩
  · rintro ⟨s, h, k⟩
    exact ⟨s, List.mem_filter.2 ⟨h, by unfold full; have := k.1; have := k.2; simp; omega⟩, k⟩
/-- Spans that have times, rising, apart. -/
structure Canon (l : List Sn) : Prop where
  full : ∀ s ∈ l, s.lo ≤ s.hi
  apart : l.Pairwise fun a b => a.hi + 1 < b.lo
theorem Canon.nil : Canon [] := ⟨by simp, List.Pairwise.nil⟩
theorem Canon.tail {s : Sn} {l : List Sn} (h : Canon (s :: l)) : Canon l := ⟨fun a ha => h.full a (by simp [ha]), (List.pairwise_cons.1 h.apart).2⟩
theorem Canon.above {s : Sn} {l : List Sn} (h : Canon (s :: l)) {t : Int} (ht : mem l t) : s.hi + 1 < t := by
  obtain ⟨a, ha, h1, h2⟩ := ht
  have := (List.pairwise_cons.1 h.apart).1 a ha
  omega
theorem Canon.ext : ∀ {l m : List Sn}, Canon l → Canon m → (∀ t, mem l t ↔ mem m t) → l = m
  | [], [], _, _, _ => rfl
  | [], b :: m, _, hm, h => by
    have h1 := hm.full b (by simp)
    exact absurd ((h b.lo).2 (mem_cons.2 (.inl ⟨Int.le_refl _, h1⟩))) (mem_nil _)
  | a :: l, [], hl, _, h => by
    have h1 := hl.full a (by simp)
    exact absurd ((h a.lo).1 (mem_cons.2 (.inl ⟨Int.le_refl _, h1⟩))) (mem_nil _)
  | a :: l, b :: m, hl, hm, h => by
    have a1 := hl.full a (by simp)
    have b1 := hm.full b (by simp)
    have ha := (h a.lo).1 (mem_cons.2 (.inl ⟨Int.le_refl _, a1⟩))
    have hb := (h b.lo).2 (mem_cons.2 (.inl ⟨Int.le_refl _, b1⟩))
    have hlo1 : b.lo ≤ a.lo := by
      rcases mem_cons.1 ha with h2 | h2
      · exact h2.1
      · have := hm.above h2; omega
    have hlo2 : a.lo ≤ b.lo := by
      rcases mem_cons.1 hb with h2 | h2
      · exact h2.1
      · have := hl.above h2; omega
    have hhi1 : ¬ a.hi < b.hi := fun hlt => by
      have := (h (a.hi + 1)).2 (mem_cons.2 (.inl ⟨by omega, by omega⟩))
      rcases mem_cons.1 this with h2 | h2
      · have := h2.2; omega
      · have := hl.above h2; omega
    have hhi2 : ¬ b.hi < a.hi := fun hlt => by
      have := (h (b.hi + 1)).1 (mem_cons.2 (.inl ⟨by omega, by omega⟩))
      rcases mem_cons.1 this with h2 | h2
      · have := h2.2; omega
      · have := hm.above h2; omega
    have e : a = b := by
      cases a; cases b
      simp only [Sn.mk.injEq]
      simp only at hlo1 hlo2 hhi1 hhi2
      omega
    subst e
    refine congrArg (a :: ·) (Canon.ext hl.tail hm.tail fun t => ?_)
    constructor
    · intro ht
      have h3 := hl.above ht
      rcases mem_cons.1 ((h t).1 (mem_cons.2 (.inr ht))) with h2 | h2
      · have := h2.2; omega
      · exact h2
    · intro ht
      have h3 := hm.above ht
      rcases mem_cons.1 ((h t).2 (mem_cons.2 (.inr ht))) with h2 | h2
      · have := h2.2; omega
      · exact h2
/-- One span more, at the row's end. -/
def pushS (out : List Sn) (s : Sn) : List Sn :=
  match out.getLast? with
  | some z => if s.lo ≤ z.hi ∨ s.lo - 1 = z.hi then out.dropLast ++ [⟨z.lo, max z.hi s.hi⟩] else out ++ [s]
  | none => [s]
def joinS (l : List Sn) : List Sn := l.foldl pushS []
theorem joinS_snoc (l : List Sn) (s : Sn) : joinS (l ++ [s]) = pushS (joinS l) s := by simp [joinS]
theorem pushS_len (out : List Sn) (s : Sn) : (pushS out s).length ≤ out.length + 1 := by
  unfold pushS
  split
  · rename_i z hz
    split
    · have : out ≠ [] := by rintro rfl; simp at hz
      have := List.length_pos_iff.2 this
      simp
    · simp
  · simp
theorem joinS_len (l : List Sn) : (joinS l).length ≤ l.length := by
  have : ∀ (l : List Sn) (o : List Sn), (l.foldl pushS o).length ≤ o.length + l.length := by
    intro l
    induction l with
    | nil => intro o; simp
    | cons a l ih =>
      intro o
      have h1 := ih (pushS o a)
      have h2 := pushS_len o a
      simp; omega
  simpa [joinS] using this l []
/-- What one knows of the row underway. -/
structure JInv (out l : List Sn) : Prop where
  can : Canon out
  mem : ∀ t, mem out t ↔ mem l t
  low : ∀ s ∈ out, ∃ u ∈ l, s.lo = u.lo
  hig : ∀ s ∈ out, ∃ u ∈ l, s.hi = u.hi
theorem JInv.push {out l : List Sn} {s : Sn} (h : JInv out l) (hs : s.lo ≤ s.hi) (hle : ∀ u ∈ l, u.lo ≤ s.lo) : JInv (pushS out s) (l ++ [s]) := by
  unfold pushS
  cases hz : out.getLast? with
  | none =>
    have : out = [] := by simpa using hz
    subst this
    refine ⟨⟨by simpa using hs, by simp⟩, fun t => ?_, fun a ha => ⟨s, by simp, by simp at ha; rw [ha]⟩, fun a ha => ⟨s, by simp, by simp at ha; rw [ha]⟩⟩
    rw [mem_append, ← h.mem t]
    simp
  | some z =>
    obtain ⟨out', rfl⟩ : ∃ o', out = o' ++ [z] := by
      obtain ⟨ys, h1⟩ := List.getLast?_eq_some_iff.1 hz
      exact ⟨ys, h1⟩
    have hzm : z ∈ out' ++ [z] := by simp
    have hz1 := h.can.full z hzm
    obtain ⟨w, hw, ew⟩ := h.low z hzm
    have hzs : z.lo ≤ s.lo := by rw [ew]; exact hle w hw
    have hap := List.pairwise_append.1 h.can.apart
    have hpz : ∀ a ∈ out', a.hi + 1 < z.lo := fun a ha => hap.2.2 a ha z (by simp)
    simp only
    split
    · rename_i hc
      have hc' : s.lo ≤ z.hi + 1 := by omega
      rw [List.dropLast_concat]
      refine ⟨⟨fun a ha => ?_, ?_⟩, fun t => ?_, fun a ha => ?_, fun a ha => ?_⟩
      · rcases List.mem_append.1 ha with ha | ha
        · exact h.can.full a (by simp [ha])
        · simp at ha; subst ha; show z.lo ≤ max z.hi s.hi; omega
      · refine List.pairwise_append.2 ⟨hap.1, by simp, fun a ha b hb => ?_⟩
        simp at hb; subst hb
        exact hpz a ha
      · rw [mem_append, mem_append, ← h.mem t, mem_append, mem_cons, mem_cons, mem_cons]
        have : inS t ⟨z.lo, max z.hi s.hi⟩ ↔ inS t z ∨ inS t s := by
          unfold inS
          show z.lo ≤ t ∧ t ≤ max z.hi s.hi ↔ _
          omega
        rw [this]
        simp [or_assoc]
      · rcases List.mem_append.1 ha with ha | ha
        · obtain ⟨u, hu, e⟩ := h.low a (by simp [ha])
          exact ⟨u, by simp [hu], e⟩
        · simp at ha; subst ha
          exact ⟨w, by simp [hw], ew⟩
      · rcases List.mem_append.1 ha with ha | ha
        · obtain ⟨u, hu, e⟩ := h.hig a (by simp [ha])
          exact ⟨u, by simp [hu], e⟩
        · simp at ha; subst ha
          by_cases hm : z.hi ≤ s.hi
          · exact ⟨s, by simp, by show max z.hi s.hi = s.hi; omega⟩
          · obtain ⟨u, hu, e⟩ := h.hig z hzm
            exact ⟨u, by simp [hu], by show max z.hi s.hi = u.hi; omega⟩
    · rename_i hc
      have hc' : z.hi + 1 < s.lo := by omega
      refine ⟨⟨fun a ha => ?_, ?_⟩, fun t => ?_, fun a ha => ?_, fun a ha => ?_⟩
      · rcases List.mem_append.1 ha with ha | ha
        · exact h.can.full a ha
        · simp at ha; subst ha; exact hs
      · refine List.pairwise_append.2 ⟨h.can.apart, by simp, fun a ha b hb => ?_⟩
        simp at hb; subst hb
        rcases List.mem_append.1 ha with ha | ha
        · have := hpz a ha; omega
        · simp at ha; subst ha; exact hc'
      · rw [mem_append (l := out' ++ [z]) (m := [s]), h.mem t, mem_append]
      · rcases List.mem_append.1 ha with ha | ha
        · obtain ⟨u, hu, e⟩ := h.low a ha
          exact ⟨u, by simp [hu], e⟩
        · simp at ha; subst ha; exact ⟨a, by simp, rfl⟩
      · rcases List.mem_append.1 ha with ha | ha
        · obtain ⟨u, hu, e⟩ := h.hig a ha
          exact ⟨u, by simp [hu], e⟩
        · simp at ha; subst ha; exact ⟨a, by simp, rfl⟩
theorem joinS_inv {l : List Sn} (hs : ∀ s ∈ l, s.lo ≤ s.hi) (hp : l.Pairwise fun a b => a.lo ≤ b.lo) : JInv (joinS l) l := by
  have : ∀ k, k ≤ l.length → JInv (joinS (l.take k)) (l.take k) := by
    intro k
    induction k with
    | zero => intro _; rw [List.take_zero]; exact ⟨Canon.nil, fun t => Iff.rfl, by simp [joinS], by simp [joinS]⟩
    | succ k ih =>
      intro hk
      have hkl : k < l.length := hk
      rw [List.take_succ_eq_append_getElem hkl, joinS_snoc]
      refine (ih (by omega)).push (hs _ (List.getElem_mem hkl)) fun u hu => ?_
      obtain ⟨i, hi, rfl⟩ := List.mem_iff_getElem.1 hu
      rw [List.length_take] at hi
      rw [List.getElem_take]
      exact List.pairwise_iff_getElem.1 hp i k (by omega) hkl (by omega)
  have h := this l.length (Nat.le_refl _)
  rwa [List.take_of_length_le (Nat.le_refl _)] at h
/-- The set of a row of spans: the one row that is rising, apart, and has the same times. -/
def IsOf (l r : List Sn) : Prop := Canon r ∧ ∀ t, mem r t ↔ mem l t
theorem IsOf.eq {l m r s : List Sn} (h : IsOf l r) (k : IsOf m s) (e : ∀ t, mem l t ↔ mem m t) : r = s :=
  Canon.ext h.1 k.1 fun t => by rw [h.2, k.2, e]
theorem IsOf.nil_iff {l r : List Sn} (h : IsOf l r) : r = [] ↔ ∀ t, ¬ mem l t := by
  constructor
  · rintro rfl t ht
    exact mem_nil t ((h.2 t).2 ht)
  · intro k
    exact Canon.ext h.1 Canon.nil fun t => by rw [h.2]; simp [k t]
end Go.Sm
/- Spans: what two have, what one has without the other; rows of them. -/
namespace Go.Sm
def noneS : Sn := ⟨1, 0⟩
def plainS (s : Sn) : Sn := if s.lo ≤ s.hi then s else noneS
def meetS (s o : Sn) : Sn := plainS ⟨max s.lo o.lo, min s.hi o.hi⟩
def aboveS (s : Sn) (u : Int) : Sn := if s.hi ≤ u then noneS else plainS ⟨max s.lo (u + 1), s.hi⟩
def belowS (s : Sn) (u : Int) : Sn := if u ≤ s.lo then noneS else plainS ⟨s.lo, min s.hi (u - 1)⟩
def lowS (s o : Sn) : Sn := if o.lo ≤ o.hi then belowS s o.lo else plainS s
def highS (s o : Sn) : Sn := if o.lo ≤ o.hi then aboveS s o.hi else noneS
@[simp] theorem in_none (t : Int) : ¬ inS t noneS := fun h => by have h1 := h.1; have h2 := h.2; simp only [noneS] at h1 h2; omega
theorem in_plain {s : Sn} {t : Int} : inS t (plainS s) ↔ inS t s := by
  unfold plainS
  split
  · rfl
  · rename_i h
    constructor
    · exact fun k => absurd k (in_none t)
    · rintro ⟨h1, h2⟩; omega
theorem in_meet {s o : Sn} {t : Int} : inS t (meetS s o) ↔ inS t s ∧ inS t o := by
  unfold meetS
  rw [in_plain]
  unfold inS
  simp only
  omega
theorem in_above {s : Sn} {u t : Int} : inS t (aboveS s u) ↔ inS t s ∧ u < t := by
  unfold aboveS
  split
  · rename_i h
    constructor
    · exact fun k => absurd k (in_none t)
    · rintro ⟨⟨h1, h2⟩, h3⟩; omega
  · rw [in_plain]
    unfold inS
    simp only
    omega
theorem in_below {s : Sn} {u t : Int} : inS t (belowS s u) ↔ inS t s ∧ t < u := by
  unfold belowS
  split
  · rename_i h
    constructor
    · exact fun k => absurd k (in_none t)
    · rintro ⟨⟨h1, h2⟩, h3⟩; omega
  · rw [in_plain]
    unfold inS
    simp only
    omega
theorem in_less {s o : Sn} {t : Int} : (inS t (lowS s o) ∨ inS t (highS s o)) ↔ inS t s ∧ ¬ inS t o := by
  unfold lowS highS
  split
  · rename_i h
    rw [in_below, in_above]
    unfold inS
    omega
  · rename_i h
    rw [in_plain]
    have := in_none t
    have h2 : ¬ inS t o := fun ⟨h1, h2⟩ => by omega
    simp [this, h2]
/-- Within 64 bits. -/
def Sn.ok (s : Sn) : Prop := (0 ≤ s.lo ∧ s.lo < 18446744073709551616) ∧ 0 ≤ s.hi ∧ s.hi < 18446744073709551616
theorem ok_none : noneS.ok := by unfold Sn.ok noneS; simp
theorem ok_plain {s : Sn} (h : s.ok) : (plainS s).ok := by unfold plainS; split; exact h; exact ok_none
theorem ok_meet {s o : Sn} (h : s.ok) (k : o.ok) : (meetS s o).ok := by
  obtain ⟨⟨h1, h2⟩, h3, h4⟩ := h
  obtain ⟨⟨k1, k2⟩, k3, k4⟩ := k
  exact ok_plain ⟨⟨by simp only; omega, by simp only; omega⟩, by simp only; omega, by simp only; omega⟩
theorem ok_above {s : Sn} (h : s.ok) {u : Int} (hu : 0 ≤ u) : (aboveS s u).ok := by
  unfold aboveS
  obtain ⟨⟨h1, h2⟩, h3, h4⟩ := h
  split
  · exact ok_none
  · exact ok_plain ⟨⟨by simp only; omega, by simp only; omega⟩, by simp only; omega, by simp only; omega⟩
theorem ok_below {s : Sn} (h : s.ok) {u : Int} (hu : u < 18446744073709551616) : (belowS s u).ok := by
  unfold belowS
  obtain ⟨⟨h1, h2⟩, h3, h4⟩ := h
  split
  · exact ok_none
  · exact ok_plain ⟨⟨by simp only; omega, by simp only; omega⟩, by simp only; omega, by simp only; omega⟩
theorem ok_low {s o : Sn} (h : s.ok) (k : o.ok) : (lowS s o).ok := by
  unfold lowS
  split
  · exact ok_below h k.1.2
  · exact ok_plain h
theorem ok_high {s o : Sn} (h : s.ok) (k : o.ok) : (highS s o).ok := by
  unfold highS
  split
  · exact ok_above h k.2.1
  · exact ok_none
def meetL (l m : List Sn) : List Sn := l.flatMap fun s => m.map (meetS s)
theorem mem_meetL {l m : List Sn} {t : Int} : mem (meetL l m) t ↔ mem l t ∧ mem m t := by
  unfold mem meetL
  constructor
  · rintro ⟨s, h, k⟩
    obtain ⟨a, ha, h2⟩ := List.mem_flatMap.1 h
    obtain ⟨b, hb, rfl⟩ := List.mem_map.1 h2
    have := in_meet.1 k
    exact ⟨⟨a, ha, this.1⟩, b, hb, this.2⟩
  · rintro ⟨⟨a, ha, h1⟩, b, hb, h2⟩
    exact ⟨meetS a b, List.mem_flatMap.2 ⟨a, ha, List.mem_map.2 ⟨b, hb, rfl⟩⟩, in_meet.2 ⟨h1, h2⟩⟩
/-- Without one span. -/
def cutS1 (l : List Sn) (o : Sn) : List Sn := l.flatMap fun s => [lowS s o, highS s o]
theorem mem_cutS1 {l : List Sn} {o : Sn} {t : Int} : mem (cutS1 l o) t ↔ mem l t ∧ ¬ inS t o := by
  unfold mem cutS1
  constructor
  · rintro ⟨s, h, k⟩
    obtain ⟨a, ha, h2⟩ := List.mem_flatMap.1 h
    have : inS t a ∧ ¬ inS t o := by
      simp only [List.mem_cons, List.not_mem_nil, or_false] at h2
      rcases h2 with rfl | rfl
      · exact in_less.1 (.inl k)
      · exact in_less.1 (.inr k)
    exact ⟨⟨a, ha, this.1⟩, this.2⟩
  · rintro ⟨⟨a, ha, h1⟩, h2⟩
    rcases in_less.2 ⟨h1, h2⟩ with h | h
    · exact ⟨_, List.mem_flatMap.2 ⟨a, ha, by simp⟩, h⟩
    · exact ⟨_, List.mem_flatMap.2 ⟨a, ha, List.mem_cons_of_mem _ (by simp)⟩, h⟩
def lessL (l m : List Sn) : List Sn := m.foldl (fun out o => (cutS1 out o).filter full) l
theorem lessL_snoc (l m : List Sn) (o : Sn) : lessL l (m ++ [o]) = (cutS1 (lessL l m) o).filter full := by simp [lessL]
theorem mem_lessL {l : List Sn} {t : Int} : ∀ {m : List Sn}, mem (lessL l m) t ↔ mem l t ∧ ¬ mem m t := by
  intro m
  unfold lessL
  induction m generalizing l with
  | nil => simp
  | cons o m ih =>
    rw [List.foldl_cons, ih, mem_filter_full, mem_cutS1, mem_cons, and_assoc, not_or]
theorem cutS1_len (l : List Sn) (o : Sn) : (cutS1 l o).length = l.length * 2 := by
  induction l with
  | nil => rfl
  | cons a l ih => unfold cutS1 at *; rw [List.flatMap_cons, List.length_append, ih]; simp; omega
theorem lessL_len (l : List Sn) : ∀ m : List Sn, (lessL l m).length ≤ l.length * 2 ^ m.length := by
  intro m
  unfold lessL
  induction m generalizing l with
  | nil => simp
  | cons o m ih =>
    rw [List.foldl_cons, List.length_cons, Nat.pow_succ]
    refine Nat.le_trans (ih _) ?_
    have h1 := List.length_filter_le full (cutS1 l o)
    rw [cutS1_len] at h1
    calc (List.filter full (cutS1 l o)).length * 2 ^ m.length ≤ (l.length * 2) * 2 ^ m.length := Nat.mul_le_mul_right _ h1
      _ = l.length * (2 ^ m.length * 2) := by rw [Nat.mul_assoc, Nat.mul_comm 2]
theorem meetL_len (l m : List Sn) : (meetL l m).length = l.length * m.length := by
  induction l with
  | nil => simp [meetL]
  | cons a l ih => unfold meetL at *; rw [List.flatMap_cons, List.length_append, ih, List.length_map, List.length_cons, Nat.add_mul]; omega
theorem meetL_ok {l m : List Sn} (h : ∀ s ∈ l, s.ok) (k : ∀ s ∈ m, s.ok) : ∀ s ∈ meetL l m, s.ok := by
  intro s hs
  obtain ⟨a, ha, h2⟩ := List.mem_flatMap.1 hs
  obtain ⟨b, hb, rfl⟩ := List.mem_map.1 h2
  exact ok_meet (h a ha) (k b hb)
theorem cutS1_ok {l : List Sn} {o : Sn} (h : ∀ s ∈ l, s.ok) (k : o.ok) : ∀ s ∈ cutS1 l o, s.ok := by
  intro s hs
  obtain ⟨a, ha, h2⟩ := List.mem_flatMap.1 hs
  simp only [List.mem_cons, List.not_mem_nil, or_false] at h2
  rcases h2 with rfl | rfl
  · exact ok_low (h a ha) k
  · exact ok_high (h a ha) k
theorem JInv.ok {out l : List Sn} (h : JInv out l) (k : ∀ s ∈ l, s.ok) : ∀ s ∈ out, s.ok := fun s hs => by
  obtain ⟨u, hu, e⟩ := h.low s hs
  obtain ⟨w, hw, e2⟩ := h.hig s hs
  exact ⟨by rw [e]; exact (k u hu).1, by rw [e2]; exact (k w hw).2⟩
end Go.Sm
/- Spans: their functions. -/
set_option linter.unusedVariables false
set_option linter.unusedSimpArgs false
namespace Go.Sm
open Go Go.Proofs
set_option maxRecDepth 100000
set_option maxHeartbeats 4000000
def encS (s : Sn) : List Value := [.int .u64 s.lo, .int .u64 s.hi]
theorem lenS (s : Sn) : (encS s).length = 2 := rfl
theorem cokS (s : Sn) : cokL (encS s) = true := rfl
theorem empty_spec (s : Sn) (σ : CSt) (Q : Out → CSt → Prop) (h : ∀ σ', Grow σ σ' → Q (.ret (.bool (!full s)) false) σ') : W E1 (.fn 51 #[.agg (encS s).toArray] none) σ Q := by
  rw [W_fn (fn := Tryz.f51) Tryz.func51 rfl rfl rfl]
  have := h _ ((Grow.refl σ).alloc (.cells (encS s) 31 false))
  by_cases e : s.lo ≤ s.hi
  · have e2 : ¬ s.hi < s.lo := by omega
    simpa [wops_cons, encS, full, e, e2] using this
  · have e2 : s.hi < s.lo := by omega
    simpa [wops_cons, encS, full, e, e2] using this
theorem gnone_grow {σ σ' : CSt} (h : gnone σ) (hz : 0 < σ.n) (g : Grow σ σ') : gnone σ' := g.get h hz
theorem glim : 0 < globalLimit := by decide
theorem plain_spec (s : Sn) (σ : CSt) (hn : gnone σ) (hz : 0 < σ.n) (Q : Out → CSt → Prop) (h : ∀ σ', Grow σ σ' → Q (.ret (.agg (encS (plainS s)).toArray) false) σ') : W E1 (.fn 77 #[.agg (encS s).toArray] none) σ Q := by
  rw [W_fn (fn := Tryz.f77) Tryz.func77 rfl rfl rfl]
  have g1 : Grow σ ((σ.alloc (.cells (encS s) 31 false)).alloc (.cells [.int .u64 0, .int .u64 0] 31 false)) := ((Grow.refl σ).alloc _).alloc _
  have hc1 : ((σ.alloc (.cells (encS s) 31 false)).alloc (.cells [.int .u64 0, .int .u64 0] 31 false)).get σ.n = some (.cells (encS s) 31 false) := by simp
  have hc2 : ((σ.alloc (.cells (encS s) 31 false)).alloc (.cells [.int .u64 0, .int .u64 0] 31 false)).get (σ.n + 1) = some (.cells [.int .u64 0, .int .u64 0] 31 false) := by simp
  have hn1 : ((σ.alloc (.cells (encS s) 31 false)).alloc (.cells [.int .u64 0, .int .u64 0] 31 false)).n = σ.n + 2 := by simp
  simp only [encS] at hn1 g1 hc1 hc2
  simp [wops_cons, encS]
  generalize (σ.alloc (.cells [.int .u64 s.lo, .int .u64 s.hi] 31 false)).alloc (.cells [.int .u64 0, .int .u64 0] 31 false) = σ1 at g1 hc1 hc2 hn1 ⊢
  have hemp := empty_spec s σ1
  simp only [encS] at hemp
  refine hemp _ fun σ2 g2 => ?_
  have hc12 := g2.get hc1 (by omega)
  have hc22 := g2.get hc2 (by omega)
  have hn2 := gnone_grow (gnone_grow hn hz g1) (by omega) g2
  have gn2 := g2.n
  unfold gnone at hn2
  by_cases e : s.lo ≤ s.hi
  · have hne : ¬ σ.n = σ.n + 1 := by omega
    have g3 : Grow σ (σ2.put (σ.n + 1) (.cells (encS s) 31 false)) := (g1.trans g2).put (by omega) _
    have := h _ g3
    simpa [wops_cons, full, plainS, encS, e, hc12, hc22] using this
  · have g3 : Grow σ (σ2.put (σ.n + 1) (.cells (encS noneS) 31 false)) := (g1.trans g2).put (by omega) _
    have := h _ g3
    simpa [wops_cons, full, plainS, encS, noneS, e, hc12, hc22, hn2, glim] using this
theorem below_spec (s : Sn) (hs : s.ok) (u : Int) (hu0 : 0 ≤ u) (hu : u < 18446744073709551616) (σ : CSt) (hn : gnone σ) (hz : 0 < σ.n) (Q : Out → CSt → Prop) (h : ∀ σ', Grow σ σ' → Q (.ret (.agg (encS (belowS s u)).toArray) false) σ') : W E1 (.fn 61 #[.agg (encS s).toArray, .int .u64 u] none) σ Q := by
  rw [W_fn (fn := Tryz.f61) Tryz.func61 rfl rfl rfl]
  have g1 : Grow σ ((σ.alloc (.cells (encS s) 31 false)).alloc (.cells [.int .u64 0, .int .u64 0] 31 false)) := ((Grow.refl σ).alloc _).alloc _
  have hc1 : ((σ.alloc (.cells (encS s) 31 false)).alloc (.cells [.int .u64 0, .int .u64 0] 31 false)).get σ.n = some (.cells (encS s) 31 false) := by simp
  have hc2 : ((σ.alloc (.cells (encS s) 31 false)).alloc (.cells [.int .u64 0, .int .u64 0] 31 false)).get (σ.n + 1) = some (.cells [.int .u64 0, .int .u64 0] 31 false) := by simp
  have hn1 : ((σ.alloc (.cells (encS s) 31 false)).alloc (.cells [.int .u64 0, .int .u64 0] 31 false)).n = σ.n + 2 := by simp
  simp only [encS] at hn1 g1 hc1 hc2
  by_cases e : u ≤ s.lo
  · have hn2 := gnone_grow hn hz g1
    unfold gnone at hn2
    have g3 : Grow σ (((σ.alloc (.cells (encS s) 31 false)).alloc (.cells [.int .u64 0, .int .u64 0] 31 false)).put (σ.n + 1) (.cells (encS noneS) 31 false)) := by simp only [encS]; exact g1.put (by omega) _
    have := h _ g3
    simp only [encS] at this hn2
    simp [wops_cons, encS, e]
    generalize (σ.alloc (.cells [.int .u64 s.lo, .int .u64 s.hi] 31 false)).alloc (.cells [.int .u64 0, .int .u64 0] 31 false) = σ1 at this g1 hc1 hc2 hn1 hn2 ⊢
    simpa [wops_cons, belowS, encS, noneS, e, hc1, hc2, hn2, glim] using this
  · have e' : s.lo < u := by omega
    have hw : IntKind.u64.wrap (u - 1) = u - 1 := IntWalk.u64_in _ (by have := hs.1.1; omega)
    simp [wops_cons, encS, e]
    generalize (σ.alloc (.cells [.int .u64 s.lo, .int .u64 s.hi] 31 false)).alloc (.cells [.int .u64 0, .int .u64 0] 31 false) = σ1 at g1 hc1 hc2 hn1 ⊢
    have hmin : (if u - 1 < s.hi then u - 1 else s.hi) = min s.hi (u - 1) := by split <;> omega
    have hp := plain_spec ⟨s.lo, min s.hi (u - 1)⟩ σ1 (gnone_grow hn hz g1) (by omega)
    simp only [encS] at hp
    simp [wops_cons, minK, encS, e, hc1, hc2, hw, hmin]
    refine hp _ fun σ2 g2 => ?_
    have hc22 := g2.get hc2 (by omega)
    have gn2 := g2.n
    have g3 : Grow σ (σ2.put (σ.n + 1) (.cells (encS (belowS s u)) 31 false)) := (g1.trans g2).put (by omega) _
    have := h _ g3
    have hb : belowS s u = plainS ⟨s.lo, min s.hi (u - 1)⟩ := by unfold belowS; rw [if_neg e]
    rw [hb] at this
    simpa [wops_cons, encS, hc22] using this
theorem above_spec (s : Sn) (hs : s.ok) (u : Int) (hu0 : 0 ≤ u) (hu : u < 18446744073709551616) (σ : CSt) (hn : gnone σ) (hz : 0 < σ.n) (Q : Out → CSt → Prop) (h : ∀ σ', Grow σ σ' → Q (.ret (.agg (encS (aboveS s u)).toArray) false) σ') : W E1 (.fn 63 #[.agg (encS s).toArray, .int .u64 u] none) σ Q := by
  rw [W_fn (fn := Tryz.f63) Tryz.func63 rfl rfl rfl]
  have g1 : Grow σ ((σ.alloc (.cells (encS s) 31 false)).alloc (.cells [.int .u64 0, .int .u64 0] 31 false)) := ((Grow.refl σ).alloc _).alloc _
  have hc1 : ((σ.alloc (.cells (encS s) 31 false)).alloc (.cells [.int .u64 0, .int .u64 0] 31 false)).get σ.n = some (.cells (encS s) 31 false) := by simp
  have hc2 : ((σ.alloc (.cells (encS s) 31 false)).alloc (.cells [.int .u64 0, .int .u64 0] 31 false)).get (σ.n + 1) = some (.cells [.int .u64 0, .int .u64 0] 31 false) := by simp
  have hn1 : ((σ.alloc (.cells (encS s) 31 false)).alloc (.cells [.int .u64 0, .int .u64 0] 31 false)).n = σ.n + 2 := by simp
  simp only [encS] at hn1 g1 hc1 hc2
  by_cases e : s.hi ≤ u
  · have hn2 := gnone_grow hn hz g1
    unfold gnone at hn2
    have g3 : Grow σ (((σ.alloc (.cells (encS s) 31 false)).alloc (.cells [.int .u64 0, .int .u64 0] 31 false)).put (σ.n + 1) (.cells (encS noneS) 31 false)) := by simp only [encS]; exact g1.put (by omega) _
    have := h _ g3
    simp only [encS] at this hn2
    simp [wops_cons, encS, e]
    generalize (σ.alloc (.cells [.int .u64 s.lo, .int .u64 s.hi] 31 false)).alloc (.cells [.int .u64 0, .int .u64 0] 31 false) = σ1 at this g1 hc1 hc2 hn1 hn2 ⊢
    simpa [wops_cons, aboveS, encS, noneS, e, hc1, hc2, hn2, glim] using this
  · have e' : u < s.hi := by omega
    have hw : IntKind.u64.wrap (u + 1) = u + 1 := IntWalk.u64_in _ (by have := hs.2.2; omega)
    simp [wops_cons, encS, e]
    generalize (σ.alloc (.cells [.int .u64 s.lo, .int .u64 s.hi] 31 false)).alloc (.cells [.int .u64 0, .int .u64 0] 31 false) = σ1 at g1 hc1 hc2 hn1 ⊢
    have hmin : (if s.lo < u + 1 then u + 1 else s.lo) = max s.lo (u + 1) := by split <;> omega
    have hp := plain_spec ⟨max s.lo (u + 1), s.hi⟩ σ1 (gnone_grow hn hz g1) (by omega)
    simp only [encS] at hp
    simp [wops_cons, maxK, encS, e, hc1, hc2, hw, hmin]
    refine hp _ fun σ2 g2 => ?_
    have hc22 := g2.get hc2 (by omega)
    have gn2 := g2.n
    have g3 : Grow σ (σ2.put (σ.n + 1) (.cells (encS (aboveS s u)) 31 false)) := (g1.trans g2).put (by omega) _
    have := h _ g3
    have hb : aboveS s u = plainS ⟨max s.lo (u + 1), s.hi⟩ := by unfold aboveS; rw [if_neg e]
    rw [hb] at this
    simpa [wops_cons, encS, hc22] using this
theorem meet_spec (s o : Sn) (hs : s.ok) (ho : o.ok) (σ : CSt) (hn : gnone σ) (hz : 0 < σ.n) (Q : Out → CSt → Prop) (h : ∀ σ', Grow σ σ' → Q (.ret (.agg (encS (meetS s o)).toArray) false) σ') : W E1 (.fn 64 #[.agg (encS s).toArray, .agg (encS o).toArray] none) σ Q := by
  rw [W_fn (fn := Tryz.f64) Tryz.func64 rfl rfl rfl]
  have g1 : Grow σ (((σ.alloc (.cells (encS s) 31 false)).alloc (.cells (encS o) 31 false)).alloc (.cells [.int .u64 0, .int .u64 0] 31 false)) := (((Grow.refl σ).alloc _).alloc _).alloc _
  have hc1 : (((σ.alloc (.cells (encS s) 31 false)).alloc (.cells (encS o) 31 false)).alloc (.cells [.int .u64 0, .int .u64 0] 31 false)).get σ.n = some (.cells (encS s) 31 false) := by simp; omega
  have hc2 : (((σ.alloc (.cells (encS s) 31 false)).alloc (.cells (encS o) 31 false)).alloc (.cells [.int .u64 0, .int .u64 0] 31 false)).get (σ.n + 1) = some (.cells (encS o) 31 false) := by simp
  have hc3 : (((σ.alloc (.cells (encS s) 31 false)).alloc (.cells (encS o) 31 false)).alloc (.cells [.int .u64 0, .int .u64 0] 31 false)).get (σ.n + 2) = some (.cells [.int .u64 0, .int .u64 0] 31 false) := by simp
  have hn1 : (((σ.alloc (.cells (encS s) 31 false)).alloc (.cells (encS o) 31 false)).alloc (.cells [.int .u64 0, .int .u64 0] 31 false)).n = σ.n + 3 := by simp
  simp only [encS] at hn1 g1 hc1 hc2 hc3
  simp [wops_cons, encS, Nat.add_assoc]
  generalize ((σ.alloc (.cells [.int .u64 s.lo, .int .u64 s.hi] 31 false)).alloc (.cells [.int .u64 o.lo, .int .u64 o.hi] 31 false)).alloc (.cells [.int .u64 0, .int .u64 0] 31 false) = σ1 at g1 hc1 hc2 hc3 hn1 ⊢
  have hmin : (if o.hi < s.hi then o.hi else s.hi) = min s.hi o.hi := by split <;> omega
  have hmax : (if s.lo < o.lo then o.lo else s.lo) = max s.lo o.lo := by split <;> omega
  have hp := plain_spec ⟨max s.lo o.lo, min s.hi o.hi⟩ σ1 (gnone_grow hn hz g1) (by omega)
  simp only [encS] at hp
  simp [wops_cons, minK, maxK, encS, hc1, hc2, hmin, hmax]
  refine hp _ fun σ2 g2 => ?_
  have hc32 := g2.get hc3 (by omega)
  have gn2 := g2.n
  have g3 : Grow σ (σ2.put (σ.n + 2) (.cells (encS (meetS s o)) 31 false)) := (g1.trans g2).put (by omega) _
  have := h _ g3
  unfold meetS at this
  simpa [wops_cons, encS, hc32] using this
end Go.Sm
/- Spans: one without another; the order. -/
set_option linter.unusedVariables false
set_option linter.unusedSimpArgs false
namespace Go.Sm
open Go Go.Proofs
set_option maxRecDepth 100000
set_option maxHeartbeats 4000000
theorem ga_top {σ : CSt} {o : CObj} {i : Nat} (h : i = σ.n) : (σ.alloc o).get i = some o := by rw [CSt.get_alloc, if_pos h]
theorem ga_old {σ : CSt} {o : CObj} {i : Nat} (h : i < σ.n) : (σ.alloc o).get i = σ.get i := by rw [CSt.get_alloc, if_neg (by omega)]
theorem less_spec (s o : Sn) (hs : s.ok) (ho : o.ok) (σ : CSt) (hn : gnone σ) (hz : 0 < σ.n) (Q : Out → CSt → Prop) (h : ∀ σ', Grow σ σ' → Q (.ret (.tuple #[.agg (encS (lowS s o)).toArray, .agg (encS (highS s o)).toArray]) false) σ') : W E1 (.fn 58 #[.agg (encS s).toArray, .agg (encS o).toArray] none) σ Q := by
  rw [W_fn (fn := Tryz.f58) Tryz.func58 rfl rfl rfl]
  have g1 : Grow σ ((((σ.alloc (.cells (encS s) 31 false)).alloc (.cells (encS o) 31 false)).alloc (.cells [.int .u64 0, .int .u64 0] 31 false)).alloc (.cells [.int .u64 0, .int .u64 0] 31 false)) := ((((Grow.refl σ).alloc _).alloc _).alloc _).alloc _
  have hc1 : ((((σ.alloc (.cells (encS s) 31 false)).alloc (.cells (encS o) 31 false)).alloc (.cells [.int .u64 0, .int .u64 0] 31 false)).alloc (.cells [.int .u64 0, .int .u64 0] 31 false)).get σ.n = some (.cells (encS s) 31 false) := by rw [ga_old (by simp only [CSt.n_alloc]; omega), ga_old (by simp only [CSt.n_alloc]; omega), ga_old (by simp only [CSt.n_alloc]; omega), ga_top (by simp only [CSt.n_alloc])]
  have hc2 : ((((σ.alloc (.cells (encS s) 31 false)).alloc (.cells (encS o) 31 false)).alloc (.cells [.int .u64 0, .int .u64 0] 31 false)).alloc (.cells [.int .u64 0, .int .u64 0] 31 false)).get (σ.n + 1) = some (.cells (encS o) 31 false) := by rw [ga_old (by simp only [CSt.n_alloc]; omega), ga_old (by simp only [CSt.n_alloc]; omega), ga_top (by simp only [CSt.n_alloc])]
  have hc3 : ((((σ.alloc (.cells (encS s) 31 false)).alloc (.cells (encS o) 31 false)).alloc (.cells [.int .u64 0, .int .u64 0] 31 false)).alloc (.cells [.int .u64 0, .int .u64 0] 31 false)).get (σ.n + 2) = some (.cells [.int .u64 0, .int .u64 0] 31 false) := by rw [ga_old (by simp only [CSt.n_alloc]; omega), ga_top (by simp only [CSt.n_alloc])]
  have hc4 : ((((σ.alloc (.cells (encS s) 31 false)).alloc (.cells (encS o) 31 false)).alloc (.cells [.int .u64 0, .int .u64 0] 31 false)).alloc (.cells [.int .u64 0, .int .u64 0] 31 false)).get (σ.n + 3) = some (.cells [.int .u64 0, .int .u64 0] 31 false) := by rw [ga_top (by simp only [CSt.n_alloc])]
  have hn1 : ((((σ.alloc (.cells (encS s) 31 false)).alloc (.cells (encS o) 31 false)).alloc (.cells [.int .u64 0, .int .u64 0] 31 false)).alloc (.cells [.int .u64 0, .int .u64 0] 31 false)).n = σ.n + 4 := by simp
  simp only [encS] at hn1 g1 hc1 hc2 hc3 hc4
  simp [wops_cons, encS, Nat.add_assoc]
  generalize (((σ.alloc (.cells [.int .u64 s.lo, .int .u64 s.hi] 31 false)).alloc (.cells [.int .u64 o.lo, .int .u64 o.hi] 31 false)).alloc (.cells [.int .u64 0, .int .u64 0] 31 false)).alloc (.cells [.int .u64 0, .int .u64 0] 31 false) = σ1 at g1 hc1 hc2 hc3 hc4 hn1 ⊢
  have hemp := empty_spec o σ1
  simp only [encS] at hemp

  refine hemp _ fun σ2 g2 => ?_
  have hc12 := g2.get hc1 (by omega)
  have hc22 := g2.get hc2 (by omega)
  have hc32 := g2.get hc3 (by omega)
  have hc42 := g2.get hc4 (by omega)
  have hn2 := gnone_grow (gnone_grow hn hz g1) (by omega) g2
  have gn2 := g2.n
  have hz2 : 0 < σ2.n := by omega
  have g12 := g1.trans g2
  have hnG := hn2
  unfold gnone at hnG
  by_cases e : o.lo ≤ o.hi
  · simp [wops_cons, full, e, hc12, hc22]
    refine W_drawn (l := [0, 1, 2, 4, 5, 6, 3, 7, 8, 9]) (b := #[0, 0, 2, 7, 0, 0, 32, 127, 255, 511]) (by kernel_rfl) (by kernel_rfl) (by kernel_rfl) ?_
    simp [dopsR_cons, opAt, isEff, again, befBits, isRead, Nat.add_assoc, hc12, hc22]
    have hb := below_spec s hs o.lo ho.1.1 ho.1.2 σ2 hn2 hz2
    simp only [encS] at hb
    refine hb _ fun σ3 g3 => ?_
    have hc13 := g3.get hc12 (by omega)
    have hc23 := g3.get hc22 (by omega)
    have hc33 := g3.get hc32 (by omega)
    have hc43 := g3.get hc42 (by omega)
    have gn3 := g3.n
    simp [dopsR_cons, opAt, isEff, again, befBits, isRead, Nat.add_assoc, hc13, hc23]
    have ha := above_spec s hs o.hi ho.2.1 ho.2.2 σ3 (gnone_grow hn2 hz2 g3) (by omega)
    simp only [encS] at ha
    refine ha _ fun σ4 g4 => ?_
    have hc14 := g4.get hc13 (by omega)
    have hc24 := g4.get hc23 (by omega)
    have hc34 := g4.get hc33 (by omega)
    have hc44 := g4.get hc43 (by omega)
    have gn4 := g4.n
    have hne : ¬ σ.n + 2 = σ.n + 3 := by omega
    have hne2 : ¬ σ.n + 3 = σ.n + 2 := by omega
    have hfin := h _ ((((g12.trans g3).trans g4).put (i := σ.n + 2) (by omega) (.cells (encS (belowS s o.lo)) 31 false)).put (i := σ.n + 3) (by omega) (.cells (encS (aboveS s o.hi)) 31 false))
    have e1 : lowS s o = belowS s o.lo := by unfold lowS; rw [if_pos e]
    have e2 : highS s o = aboveS s o.hi := by unfold highS; rw [if_pos e]
    rw [e1, e2] at hfin
    simp only [encS] at hfin
    simp [dopsR_cons, wops_cons, opAt, isEff, again, befBits, isRead, Nat.add_assoc, encS, hc14, hc24, hc34, hc44, hne, hne2]
    simpa [wops_cons, hc34, hc44, hne, hne2] using hfin
  · simp [wops_cons, full, e, hc12, hc22]
    refine W_drawn (l := [0, 2, 1, 3, 4]) (b := #[0, 1, 0, 3, 15]) (by kernel_rfl) (by kernel_rfl) (by kernel_rfl) ?_
    simp [dopsR_cons, opAt, isEff, again, befBits, isRead, Nat.add_assoc, hc12, hc22, hnG, glim]
    have hp := plain_spec s σ2 hn2 hz2
    simp only [encS] at hp
    refine hp _ fun σ3 g3 => ?_
    have hc33 := g3.get hc32 (by omega)
    have hc43 := g3.get hc42 (by omega)
    have hc13 := g3.get hc12 (by omega)
    have gn3 := g3.n
    have hn3 := gnone_grow hn2 hz2 g3
    unfold gnone at hn3
    have hne : ¬ σ.n + 2 = σ.n + 3 := by omega
    have hne2 : ¬ σ.n + 3 = σ.n + 2 := by omega
    have hfin := h _ (((g12.trans g3).put (i := σ.n + 2) (by omega) (.cells (encS (plainS s)) 31 false)).put (i := σ.n + 3) (by omega) (.cells (encS noneS) 31 false))
    have e1 : lowS s o = plainS s := by unfold lowS; rw [if_neg e]
    have e2 : highS s o = noneS := by unfold highS; rw [if_neg e]
    rw [e1, e2] at hfin
    simp only [encS, noneS] at hfin
    simp [dopsR_cons, wops_cons, opAt, isEff, again, befBits, isRead, Nat.add_assoc, encS, hc13, hc33, hc43, hn3, glim, hne, hne2]
    simpa [wops_cons, hc33, hc43, hne, hne2] using hfin
end Go.Sm
/- Boxes: made, points in them, cells. -/
set_option linter.unusedVariables false
set_option linter.unusedSimpArgs false
namespace Go.Sm
open Go Go.Proofs
set_option maxRecDepth 100000
set_option maxHeartbeats 4000000
structure BB where
  x : Int
  y : Int
  w : Int
  h : Int
def BB.ok (b : BB) : Prop := (0 ≤ b.x ∧ b.x < 256) ∧ (0 ≤ b.y ∧ b.y < 256) ∧ (0 ≤ b.w ∧ b.w < 256) ∧ 0 ≤ b.h ∧ b.h < 256
def encB (b : BB) : List Value := [.int .u8 b.x, .int .u8 b.y, .int .u8 b.w, .int .u8 b.h]
theorem lenB (b : BB) : (encB b).length = 4 := rfl
theorem cokB (b : BB) : cokL (encB b) = true := rfl
structure Bx where
  x0 : Int
  y0 : Int
  x1 : Int
  y1 : Int
  deriving DecidableEq
def Bx.ok (b : Bx) : Prop := (-1000 < b.x0 ∧ b.x0 < 1000) ∧ (-1000 < b.y0 ∧ b.y0 < 1000) ∧ (-1000 < b.x1 ∧ b.x1 < 1000) ∧ -1000 < b.y1 ∧ b.y1 < 1000
def encX (b : Bx) : List Value := [.complex .f64 (fl b.x0) (fl b.y0), .complex .f64 (fl b.x1) (fl b.y1)]
theorem lenX (b : Bx) : (encX b).length = 2 := rfl
theorem cokX (b : Bx) : cokL (encX b) = true := rfl
def boxOf (b : BB) : Bx := ⟨b.x.tmod 40, b.y.tmod 10, b.x.tmod 40 + b.w.tmod 20, b.y.tmod 10 + b.h.tmod 6⟩
@[simp] theorem tf66 : tf Tryz.prog 66 = some ⟨1, 16, (some [.complex .f64 0 0]), false, true⟩ := by kernel_rfl
@[simp] theorem clist_cx (k : FloatKind) (n m : Nat) : clist (.complex k n m) = [.complex k n m] := rfl
@[simp] theorem cok_cx (k : FloatKind) (n m : Nat) : cok (.complex k n m) = true := rfl
@[simp] theorem tf68 : tf Tryz.prog 68 = some ⟨2, 32, (some [.complex .f64 0 0, .complex .f64 0 0]), true, true⟩ := by kernel_rfl
@[simp] theorem ef75 : elemF Tryz.prog 75 = some (68, ⟨2, 32, (some [.complex .f64 0 0, .complex .f64 0 0]), true, true⟩) := by kernel_rfl
theorem u71 : Tryz.prog.underlying 71 = some (.float .f64) := by kernel_rfl
theorem cv71 {σ : CSt} {s : TypeId} (hs : (Tryz.prog.underlying s).isSome = true) (k : IntKind) (n : Int) : convF Tryz.prog σ s 71 (.int k n) = .val (.float .f64 (fl n)) σ := convF_float hs u71 k n
theorem box_rng {b : BB} (hb : b.ok) : (0 ≤ b.x.tmod 40 ∧ b.x.tmod 40 < 40) ∧ (0 ≤ b.y.tmod 10 ∧ b.y.tmod 10 < 10) ∧ (0 ≤ b.w.tmod 20 ∧ b.w.tmod 20 < 20) ∧ 0 ≤ b.h.tmod 6 ∧ b.h.tmod 6 < 6 :=
  ⟨⟨Int.tmod_nonneg 40 hb.1.1, Int.tmod_lt_of_pos _ (by decide)⟩, ⟨Int.tmod_nonneg 10 hb.2.1.1, Int.tmod_lt_of_pos _ (by decide)⟩, ⟨Int.tmod_nonneg 20 hb.2.2.1.1, Int.tmod_lt_of_pos _ (by decide)⟩, Int.tmod_nonneg 6 hb.2.2.2.1, Int.tmod_lt_of_pos _ (by decide)⟩
theorem boxOf_ok {b : BB} (hb : b.ok) : (boxOf b).ok := by
  have := box_rng hb
  simp only [Bx.ok, boxOf]
  omega
theorem bmake_spec (b : BB) (hb : b.ok) (σ : CSt) (Q : Out → CSt → Prop) (h : ∀ σ', Grow σ σ' → Q (.ret (.agg (encX (boxOf b)).toArray) false) σ') : W E1 (.fn 37 #[.agg (encB b).toArray] none) σ Q := by
  rw [W_fn (fn := Tryz.f37) Tryz.func37 rfl rfl rfl]
  have hr := box_rng hb
  have g1 : Grow σ ((σ.alloc (.cells (encB b) 63 false)).alloc (.cells [.complex .f64 0 0, .complex .f64 0 0] 68 false)) := ((Grow.refl σ).alloc _).alloc _
  have hc1 : ((σ.alloc (.cells (encB b) 63 false)).alloc (.cells [.complex .f64 0 0, .complex .f64 0 0] 68 false)).get σ.n = some (.cells (encB b) 63 false) := by rw [ga_old (by simp only [CSt.n_alloc]; omega), ga_top (by simp only [CSt.n_alloc])]
  have hc2 : ((σ.alloc (.cells (encB b) 63 false)).alloc (.cells [.complex .f64 0 0, .complex .f64 0 0] 68 false)).get (σ.n + 1) = some (.cells [.complex .f64 0 0, .complex .f64 0 0] 68 false) := by rw [ga_top (by simp only [CSt.n_alloc])]
  have hn1 : ((σ.alloc (.cells (encB b) 63 false)).alloc (.cells [.complex .f64 0 0, .complex .f64 0 0] 68 false)).n = σ.n + 2 := by simp
  simp only [encB] at hn1 g1 hc1 hc2
  simp [wops_cons, encB, Nat.add_assoc]
  generalize (σ.alloc (.cells [.int .u8 b.x, .int .u8 b.y, .int .u8 b.w, .int .u8 b.h] 63 false)).alloc (.cells [.complex .f64 0 0, .complex .f64 0 0] 68 false) = σ1 at g1 hc1 hc2 hn1 ⊢
  refine W_calm (by kernel_rfl) ?_
  have f1 : ∀ {P : Program} {σ : CSt} {t : TypeId} {x y : Operand}, binF P σ .add t x y (.float .f64 (fl (b.x.tmod 40))) (.float .f64 (fl (b.w.tmod 20))) = .val (.float .f64 (fl (b.x.tmod 40 + b.w.tmod 20))) σ := bin_fadd (by omega) (by omega)
  have f2 : ∀ {P : Program} {σ : CSt} {t : TypeId} {x y : Operand}, binF P σ .add t x y (.float .f64 (fl (b.y.tmod 10))) (.float .f64 (fl (b.h.tmod 6))) = .val (.float .f64 (fl (b.y.tmod 10 + b.h.tmod 6))) σ := bin_fadd (by omega) (by omega)
  have hfin := h _ (g1.put (i := σ.n + 1) (by omega) (.cells (encX (boxOf b)) 68 false))
  simp only [encX, boxOf] at hfin
  simpa [dops_cons, wops_cons, cv71, cplxK, hc1, hc2, f1, f2] using hfin
theorem has_spec (b : BB) (hb : b.ok) (x y : Int) (σ : CSt) (Q : Out → CSt → Prop) (h : ∀ σ', Grow σ σ' → Q (.ret (.bool (decide (b.x.tmod 40 ≤ x ∧ x ≤ b.x.tmod 40 + b.w.tmod 20 ∧ b.y.tmod 10 ≤ y ∧ y ≤ b.y.tmod 10 + b.h.tmod 6))) false) σ') : W E1 (.fn 36 #[.agg (encB b).toArray, .int .i64 x, .int .i64 y] none) σ Q := by
  rw [W_fn (fn := Tryz.f36) Tryz.func36 rfl rfl rfl]
  have hr := box_rng hb
  have hfin := h _ ((Grow.refl σ).alloc (.cells (encB b) 63 false))
  have w1 : IntKind.i64.wrap (b.x.tmod 40) = b.x.tmod 40 := IntWalk.i64_in _ (by omega)
  have w2 : IntKind.i64.wrap (b.w.tmod 20) = b.w.tmod 20 := IntWalk.i64_in _ (by omega)
  have w3 : IntKind.i64.wrap (b.y.tmod 10) = b.y.tmod 10 := IntWalk.i64_in _ (by omega)
  have w4 : IntKind.i64.wrap (b.h.tmod 6) = b.h.tmod 6 := IntWalk.i64_in _ (by omega)
  have w5 : IntKind.i64.wrap (b.x.tmod 40 + b.w.tmod 20) = b.x.tmod 40 + b.w.tmod 20 := IntWalk.i64_in _ (by omega)
  have w6 : IntKind.i64.wrap (b.y.tmod 10 + b.h.tmod 6) = b.y.tmod 10 + b.h.tmod 6 := IntWalk.i64_in _ (by omega)
  by_cases c1 : b.x.tmod 40 ≤ x
  · by_cases c2 : x ≤ b.x.tmod 40 + b.w.tmod 20
    · by_cases c3 : b.y.tmod 10 ≤ y
      · by_cases c4 : y ≤ b.y.tmod 10 + b.h.tmod 6
        · simpa [wops_cons, wops_if', dstOf, encB, w1, w2, w3, w4, w5, w6, c1, c2, c3, c4] using hfin
        · simpa [wops_cons, wops_if', dstOf, encB, w1, w2, w3, w4, w5, w6, c1, c2, c3, c4] using hfin
      · simpa [wops_cons, wops_if', dstOf, encB, w1, w2, w3, w4, w5, w6, c1, c2, c3] using hfin
    · simpa [wops_cons, wops_if', dstOf, encB, w1, w2, w3, w4, w5, w6, c1, c2] using hfin
  · simpa [wops_cons, wops_if', dstOf, encB, w1, w2, w3, w4, w5, w6, c1] using hfin
def hasX (b : Bx) (x y : Int) : Bool := decide (b.x0 ≤ x ∧ b.y0 ≤ y ∧ x ≤ b.x1 ∧ y ≤ b.y1)
theorem bhas_spec (b : Bx) (hb : b.ok) (x y : Int) (hx : -1000 < x ∧ x < 1000) (hy : -1000 < y ∧ y < 1000) (σ : CSt) (Q : Out → CSt → Prop) (h : ∀ σ', Grow σ σ' → Q (.ret (.bool (hasX b x y)) false) σ') : W E1 (.fn 38 #[.agg (encX b).toArray, .complex .f64 (fl x) (fl y)] none) σ Q := by
  rw [W_fn (fn := Tryz.f38) Tryz.func38 rfl rfl rfl]
  obtain ⟨h1, h2, h3, h4⟩ := hb
  have hfin := h _ ((Grow.refl σ).alloc (.cells (encX b) 68 false))
  have f1 : ∀ {P : Program} {σ : CSt} {t : TypeId} {o o' : Operand}, binF P σ .sub t o o' (.complex .f64 (fl x) (fl y)) (.complex .f64 (fl b.x0) (fl b.y0)) = .val (.complex .f64 (fl (x - b.x0)) (fl (y - b.y0))) σ := bin_csub (by omega) (by omega) (by omega) (by omega)
  have f2 : ∀ {P : Program} {σ : CSt} {t : TypeId} {o o' : Operand}, binF P σ .sub t o o' (.complex .f64 (fl b.x1) (fl b.y1)) (.complex .f64 (fl x) (fl y)) = .val (.complex .f64 (fl (b.x1 - x)) (fl (b.y1 - y))) σ := bin_csub (by omega) (by omega) (by omega) (by omega)
  have z0 : (0 : Nat) = fl 0 := fl_zero.symm
  have k : ∀ n : Int, -4000 < n ∧ n < 4000 → ∀ {P : Program} {σ : CSt} {t : TypeId} {o o' : Operand}, binF P σ .geq t o o' (.float .f64 (fl n)) (.float .f64 0) = .val (.bool (decide (0 ≤ n))) σ := fun n hn => by
    intro P σ t o o'
    have := bin_fgeq (P := P) (σ := σ) (t := t) (x := o) (y := o') (a := n) (b := 0) (by omega) (by decide)
    rw [fl_zero] at this
    exact this
  have k1 := @k (x - b.x0) (by omega)
  have k2 := @k (y - b.y0) (by omega)
  have k3 := @k (b.x1 - x) (by omega)
  have k4 := @k (b.y1 - y) (by omega)
  simp [wops_cons, encX]
  refine W_calm (by kernel_rfl) ?_
  by_cases c1 : b.x0 ≤ x
  · by_cases c2 : b.y0 ≤ y
    · by_cases c3 : x ≤ b.x1
      · by_cases c4 : y ≤ b.y1
        · have : hasX b x y = true := by simp [hasX, c1, c2, c3, c4]
          rw [this] at hfin
          simpa [dops_cons, wops_cons, wops_if', dstOf, encX, realK, imagK, f1, f2, k1, k2, k3, k4, Int.sub_nonneg, c1, c2, c3, c4] using hfin
        · have : hasX b x y = false := by simp [hasX]; omega
          rw [this] at hfin
          simpa [dops_cons, wops_cons, wops_if', dstOf, encX, realK, imagK, f1, f2, k1, k2, k3, k4, Int.sub_nonneg, c1, c2, c3, c4] using hfin
      · have : hasX b x y = false := by simp [hasX]; omega
        rw [this] at hfin
        simpa [dops_cons, wops_cons, wops_if', dstOf, encX, realK, imagK, f1, f2, k1, k2, k3, k4, Int.sub_nonneg, c1, c2, c3] using hfin
    · have : hasX b x y = false := by simp [hasX]; omega
      rw [this] at hfin
      simpa [dops_cons, wops_cons, wops_if', dstOf, encX, realK, imagK, f1, f2, k1, k2, k3, k4, Int.sub_nonneg, c1, c2] using hfin
  · have : hasX b x y = false := by simp [hasX]; omega
    rw [this] at hfin
    simpa [dops_cons, wops_cons, wops_if', dstOf, encX, realK, imagK, f1, f2, k1, k2, k3, k4, Int.sub_nonneg, c1] using hfin
def cellsX (b : Bx) : Int := (b.x1 - b.x0 + 1) * (b.y1 - b.y0 + 1)
theorem cells_spec (b : Bx) (hb : b.ok) (hp : b.x0 ≤ b.x1 ∧ b.y0 ≤ b.y1) (σ : CSt) (Q : Out → CSt → Prop) (h : ∀ σ', Grow σ σ' → Q (.ret (.float .f64 (fl (cellsX b))) false) σ') : W E1 (.fn 39 #[.agg (encX b).toArray] none) σ Q := by
  rw [W_fn (fn := Tryz.f39) Tryz.func39 rfl rfl rfl]
  obtain ⟨h1, h2, h3, h4⟩ := hb
  have hfin := h _ ((Grow.refl σ).alloc (.cells (encX b) 68 false))
  have f1 : ∀ {P : Program} {σ : CSt} {t : TypeId} {o o' : Operand}, binF P σ .sub t o o' (.complex .f64 (fl b.x1) (fl b.y1)) (.complex .f64 (fl b.x0) (fl b.y0)) = .val (.complex .f64 (fl (b.x1 - b.x0)) (fl (b.y1 - b.y0))) σ := bin_csub (by omega) (by omega) (by omega) (by omega)
  have f2 : ∀ {P : Program} {σ : CSt} {t : TypeId} {o o' : Operand}, binF P σ .add t o o' (.complex .f64 (fl (b.x1 - b.x0)) (fl (b.y1 - b.y0))) (.complex .f64 4607182418800017408 4607182418800017408) = .val (.complex .f64 (fl (b.x1 - b.x0 + 1)) (fl (b.y1 - b.y0 + 1))) σ := by
    intro P σ t o o'
    have := bin_cadd (P := P) (σ := σ) (t := t) (x := o) (y := o') (a := b.x1 - b.x0) (b := b.y1 - b.y0) (c := 1) (d := 1) (by omega) (by omega) (by decide) (by decide)
    rw [fl_one] at this
    exact this
  have f3 : ∀ {P : Program} {σ : CSt} {t : TypeId} {o o' : Operand}, binF P σ .mul t o o' (.float .f64 (fl (b.x1 - b.x0 + 1))) (.float .f64 (fl (b.y1 - b.y0 + 1))) = .val (.float .f64 (fl (cellsX b))) σ := bin_fmul (by omega) (by omega) (by omega) (by omega)
  simpa [wops_cons, encX, realK, imagK, f1, f2, f3] using hfin
end Go.Sm
/- Boxes: what two have. -/
set_option linter.unusedVariables false
set_option linter.unusedSimpArgs false
namespace Go.Sm
open Go Go.Proofs
set_option maxRecDepth 100000
set_option maxHeartbeats 4000000
def mt (a b : Bx) : Bx := ⟨max a.x0 b.x0, max a.y0 b.y0, min a.x1 b.x1, min a.y1 b.y1⟩
def mtok (a b : Bx) : Bool := decide ((mt a b).x0 ≤ (mt a b).x1 ∧ (mt a b).y0 ≤ (mt a b).y1)
def zX : Bx := ⟨0, 0, 0, 0⟩
theorem bmeet_spec (a b : Bx) (ha : a.ok) (hb : b.ok) (σ : CSt) (Q : Out → CSt → Prop) (h : ∀ σ', Grow σ σ' → Q (.ret (.tuple #[.agg (encX (if mtok a b then mt a b else zX)).toArray, .bool (mtok a b)]) false) σ') : W E1 (.fn 41 #[.agg (encX a).toArray, .agg (encX b).toArray] none) σ Q := by
  rw [W_fn (fn := Tryz.f41) Tryz.func41 rfl rfl rfl]
  obtain ⟨a1, a2, a3, a4⟩ := ha
  obtain ⟨b1, b2, b3, b4⟩ := hb
  have g1 : Grow σ (((σ.alloc (.cells (encX a) 68 false)).alloc (.cells (encX b) 68 false)).alloc (.cells [.complex .f64 0 0, .complex .f64 0 0] 68 false)) := (((Grow.refl σ).alloc _).alloc _).alloc _
  have hc1 : (((σ.alloc (.cells (encX a) 68 false)).alloc (.cells (encX b) 68 false)).alloc (.cells [.complex .f64 0 0, .complex .f64 0 0] 68 false)).get σ.n = some (.cells (encX a) 68 false) := by rw [ga_old (by simp only [CSt.n_alloc]; omega), ga_old (by simp only [CSt.n_alloc]; omega), ga_top rfl]
  have hc2 : (((σ.alloc (.cells (encX a) 68 false)).alloc (.cells (encX b) 68 false)).alloc (.cells [.complex .f64 0 0, .complex .f64 0 0] 68 false)).get (σ.n + 1) = some (.cells (encX b) 68 false) := by rw [ga_old (by simp only [CSt.n_alloc]; omega), ga_top (by simp only [CSt.n_alloc])]
  have hc3 : (((σ.alloc (.cells (encX a) 68 false)).alloc (.cells (encX b) 68 false)).alloc (.cells [.complex .f64 0 0, .complex .f64 0 0] 68 false)).get (σ.n + 2) = some (.cells [.complex .f64 0 0, .complex .f64 0 0] 68 false) := by rw [ga_top (by simp only [CSt.n_alloc])]
  have hn1 : (((σ.alloc (.cells (encX a) 68 false)).alloc (.cells (encX b) 68 false)).alloc (.cells [.complex .f64 0 0, .complex .f64 0 0] 68 false)).n = σ.n + 3 := by simp
  simp only [encX] at hn1 g1 hc1 hc2 hc3
  simp [wops_cons, encX, Nat.add_assoc, -W_region]
  rw [W_region]
  simp [wops_cons, encX, Nat.add_assoc, -W_region]
  generalize ((σ.alloc (.cells [.complex .f64 (fl a.x0) (fl a.y0), .complex .f64 (fl a.x1) (fl a.y1)] 68 false)).alloc (.cells [.complex .f64 (fl b.x0) (fl b.y0), .complex .f64 (fl b.x1) (fl b.y1)] 68 false)).alloc (.cells [.complex .f64 0 0, .complex .f64 0 0] 68 false) = σ1 at g1 hc1 hc2 hc3 hn1 ⊢
  have m1 : ∀ {f : OpR} {σ : CSt}, maxF f σ (.float .f64 (fl a.x0)) (.float .f64 (fl b.x0)) = .val (.float .f64 (fl (max a.x0 b.x0))) σ := maxF_fl (by omega) (by omega)
  have m2 : ∀ {f : OpR} {σ : CSt}, maxF f σ (.float .f64 (fl a.y0)) (.float .f64 (fl b.y0)) = .val (.float .f64 (fl (max a.y0 b.y0))) σ := maxF_fl (by omega) (by omega)
  have m3 : ∀ {f : OpR} {σ : CSt}, minF f σ (.float .f64 (fl a.x1)) (.float .f64 (fl b.x1)) = .val (.float .f64 (fl (min a.x1 b.x1))) σ := minF_fl (by omega) (by omega)
  have m4 : ∀ {f : OpR} {σ : CSt}, minF f σ (.float .f64 (fl a.y1)) (.float .f64 (fl b.y1)) = .val (.float .f64 (fl (min a.y1 b.y1))) σ := minF_fl (by omega) (by omega)
  have hsub : ∀ {P : Program} {σ : CSt} {t : TypeId} {o o' : Operand}, binF P σ .sub t o o' (.complex .f64 (fl (min a.x1 b.x1)) (fl (min a.y1 b.y1))) (.complex .f64 (fl (max a.x0 b.x0)) (fl (max a.y0 b.y0))) = .val (.complex .f64 (fl (min a.x1 b.x1 - max a.x0 b.x0)) (fl (min a.y1 b.y1 - max a.y0 b.y0))) σ := bin_csub (by omega) (by omega) (by omega) (by omega)
  have k : ∀ n : Int, -4000 < n ∧ n < 4000 → ∀ {P : Program} {σ : CSt} {t : TypeId} {o o' : Operand}, binF P σ .lss t o o' (.float .f64 (fl n)) (.float .f64 0) = .val (.bool (decide (n < 0))) σ := fun n hn => by
    intro P σ t o o'
    have := bin_flss (P := P) (σ := σ) (t := t) (x := o) (y := o') (a := n) (b := 0) (by omega) (by decide)
    rw [fl_zero] at this
    exact this
  have k1 := @k (min a.x1 b.x1 - max a.x0 b.x0) (by omega)
  have k2 := @k (min a.y1 b.y1 - max a.y0 b.y0) (by omega)
  have g2 : Grow σ ((σ1.alloc (.cells [.complex .f64 0 0, .complex .f64 0 0] 68 false)).put σ1.n (.cells (encX (mt a b)) 68 false)) := (g1.alloc _).put g1.n _
  have hd2 : ((σ1.alloc (.cells [.complex .f64 0 0, .complex .f64 0 0] 68 false)).put σ1.n (.cells (encX (mt a b)) 68 false)).get (σ.n + 2) = some (.cells [.complex .f64 0 0, .complex .f64 0 0] 68 false) := by rw [CSt.get_put, if_neg (by omega), ga_old (by omega)]; exact hc3
  have hd3 : ((σ1.alloc (.cells [.complex .f64 0 0, .complex .f64 0 0] 68 false)).put σ1.n (.cells (encX (mt a b)) 68 false)).get σ1.n = some (.cells (encX (mt a b)) 68 false) := by simp
  simp only [encX, mt] at g2 hd2 hd3
  rw [W_region]
  simp [wops_cons, realK, imagK, cplxK, -callOp_min, -callOp_max, callOp_minF, callOp_maxF, m1, m2, m3, m4, hc1, hc2, hc3, -W_region]
  generalize (σ1.alloc (.cells [.complex .f64 0 0, .complex .f64 0 0] 68 false)).put σ1.n (.cells [.complex .f64 (fl (max a.x0 b.x0)) (fl (max a.y0 b.y0)), .complex .f64 (fl (min a.x1 b.x1)) (fl (min a.y1 b.y1))] 68 false) = σ2 at g2 hd2 hd3 ⊢
  by_cases c1 : min a.x1 b.x1 - max a.x0 b.x0 < 0
  · have e : mtok a b = false := decide_eq_false (by show ¬ (max a.x0 b.x0 ≤ min a.x1 b.x1 ∧ max a.y0 b.y0 ≤ min a.y1 b.y1); omega)
    have hfin := h _ (g2.put (i := σ.n + 2) (by omega) (.cells (encX zX) 68 false))
    rw [e] at hfin
    simp only [encX, zX, Bool.false_eq_true, if_false, fl_zero] at hfin
    simpa [wops_cons, wops_if', dstOf, realK, imagK, hd2, hd3, hsub, k1, k2, c1] using hfin
  · by_cases c2 : min a.y1 b.y1 - max a.y0 b.y0 < 0
    · have e : mtok a b = false := decide_eq_false (by show ¬ (max a.x0 b.x0 ≤ min a.x1 b.x1 ∧ max a.y0 b.y0 ≤ min a.y1 b.y1); omega)
      have hfin := h _ (g2.put (i := σ.n + 2) (by omega) (.cells (encX zX) 68 false))
      rw [e] at hfin
      simp only [encX, zX, Bool.false_eq_true, if_false, fl_zero] at hfin
      simpa [wops_cons, wops_if', dstOf, realK, imagK, hd2, hd3, hsub, k1, k2, c1, c2] using hfin
    · have e : mtok a b = true := decide_eq_true (by show max a.x0 b.x0 ≤ min a.x1 b.x1 ∧ max a.y0 b.y0 ≤ min a.y1 b.y1; omega)
      have hfin := h _ (g2.put (i := σ.n + 2) (by omega) (.cells (encX (mt a b)) 68 false))
      rw [e] at hfin
      simp only [encX, mt, if_true] at hfin
      simpa [wops_cons, wops_if', dstOf, realK, imagK, hd2, hd3, hsub, k1, k2, c1, c2] using hfin
end Go.Sm
/- Boxes: are two the same? -/
set_option linter.unusedVariables false
set_option linter.unusedSimpArgs false
namespace Go.Sm
open Go Go.Proofs
set_option maxRecDepth 100000
set_option maxHeartbeats 4000000
theorem u66 : Tryz.prog.underlying 66 = some (.complex .f64) := by kernel_rfl
theorem eq_cx (d m n m' n' : Nat) : pureRun Tryz.prog (Op.equalIn (d + 1) 66 (.complex .f64 m n) (.complex .f64 m' n')) = some (Op.floatEq .f64 m m' && Op.floatEq .f64 n n') := by
  rw [Op.equalIn, pureRun_bind, pureRun_underlying, u66]
  simp
theorem part66 (x y : Value) : pureRun Tryz.prog (part 66 #[x, y] 0) = some x ∧ pureRun Tryz.prog (part 66 #[x, y] 1) = some y := by
  have hu : isAggT Tryz.prog 66 = false := by kernel_rfl
  constructor
  · unfold part
    rw [pureRun_bind, pureRun_isAgg u66, Option.bind_some, hu]
    rfl
  · unfold part
    rw [pureRun_bind, pureRun_isAgg u66, Option.bind_some, hu]
    rfl
theorem fs68 : ∃ f0 f1 : Field, Tryz.prog.underlying 68 = some (.struct #[f0, f1]) ∧ f0.name ≠ "_" ∧ f1.name ≠ "_" ∧ f0.type = 66 ∧ f1.type = 66 ∧ f0.offset = 0 ∧ f1.offset = 1 := ⟨_, _, rfl, by decide, by decide, rfl, rfl, rfl, rfl⟩
theorem sih68 : Tryz.prog.stoodInHeld 68 = false := by kernel_rfl
theorem eq_box (d a b c e a' b' c' e' : Nat) : pureRun Tryz.prog (Op.equalIn (d + 1 + 1) 68 (.agg #[.complex .f64 a b, .complex .f64 c e]) (.agg #[.complex .f64 a' b', .complex .f64 c' e'])) = some ((Op.floatEq .f64 a a' && Op.floatEq .f64 b b') && (Op.floatEq .f64 c c' && Op.floatEq .f64 e e')) := by
  obtain ⟨f0, f1, hu, n0, n1, t0, t1, o0, o1⟩ := fs68
  have p1 := part66 (.complex .f64 a b) (.complex .f64 c e)
  have p2 := part66 (.complex .f64 a' b') (.complex .f64 c' e')
  have q1 := eq_cx d a b a' b'
  have q2 := eq_cx d c e c' e'
  rw [Op.equalIn, pureRun_bind, pureRun_underlying, hu, Option.bind_some]
  simp only [pureRun_bind, pureRun_program, Option.bind_some, sih68, Bool.false_eq_true, if_false]
  rw [← Array.forIn_toList]
  simp only [List.forIn_cons, List.forIn_nil, pureRun_bind, if_pos n0, if_pos n1, n0, n1, t0, t1, o0, o1, p1.1, p1.2, p2.1, p2.2, q1, q2, Option.bind_some]
  cases h1 : (Op.floatEq .f64 a a' && Op.floatEq .f64 b b') with
  | false => rfl
  | true =>
    simp only [Bool.not_true, Bool.false_eq_true, if_false, pureRun_pure, Option.bind_some, pureRun_bind, p1.2, p2.2, q2, Bool.true_and]
    cases h2 : (Op.floatEq .f64 c c' && Op.floatEq .f64 e e') with
    | false => rfl
    | true => rfl
theorem floatEq_fl (a b : Int) (ha : a.natAbs < 2 ^ 53) (hb : b.natAbs < 2 ^ 53) : Op.floatEq .f64 (fl a) (fl b) = decide (a = b) := by
  unfold Op.floatEq
  rw [forder a b ha hb]
  by_cases h : a < b
  · have : ¬ a = b := by omega
    simp [h, this]
  · by_cases h2 : a = b
    · simp [h2]
    · simp [h, h2]
theorem bin_box (a b : Bx) (ha : a.ok) (hb : b.ok) (σ : CSt) (x y : Operand) : binF Tryz.prog σ .eql 68 x y (.agg (encX a).toArray) (.agg (encX b).toArray) = .val (.bool (decide (a = b))) σ ∧ binF Tryz.prog σ .neq 68 x y (.agg (encX a).toArray) (.agg (encX b).toArray) = .val (.bool (!decide (a = b))) σ := by
  have he := eq_box 9998 (fl a.x0) (fl a.y0) (fl a.x1) (fl a.y1) (fl b.x0) (fl b.y0) (fl b.x1) (fl b.y1)
  obtain ⟨a1, a2, a3, a4⟩ := ha
  obtain ⟨b1, b2, b3, b4⟩ := hb
  rw [floatEq_fl _ _ (by omega) (by omega), floatEq_fl _ _ (by omega) (by omega), floatEq_fl _ _ (by omega) (by omega), floatEq_fl _ _ (by omega) (by omega)] at he
  have hd : ((decide (a.x0 = b.x0) && decide (a.y0 = b.y0)) && (decide (a.x1 = b.x1) && decide (a.y1 = b.y1))) = decide (a = b) := by
    cases a; cases b
    simp [Bool.and_assoc]
  rw [hd] at he
  have he' : pureRun Tryz.prog (Op.equal 68 (.agg (encX a).toArray) (.agg (encX b).toArray)) = some (decide (a = b)) := he
  have hgt : Tryz.prog.eqGuardType Tryz.prog.depth 68 = false := by kernel_rfl
  have hgd : ∀ op, pureRun Tryz.prog (eqGuard op 68 x y (.agg (encX a).toArray) (.agg (encX b).toArray)) = some () := by
    intro op
    unfold eqGuard
    cases op <;> simp [pureRun_bind, pureRun_program, hgt]
  have e1 : pureRun Tryz.prog (binOp .eql 68 (.agg (encX a).toArray) (.agg (encX b).toArray)) = some (.bool (decide (a = b))) := by
    have : binOp .eql 68 (.agg (encX a).toArray) (.agg (encX b).toArray) = (do pure (.bool (← Op.equal 68 (.agg (encX a).toArray) (.agg (encX b).toArray))) : Sem Value) := rfl
    rw [this, pureRun_bind, he']
    rfl
  have e2 : pureRun Tryz.prog (binOp .neq 68 (.agg (encX a).toArray) (.agg (encX b).toArray)) = some (.bool (!decide (a = b))) := by
    have : binOp .neq 68 (.agg (encX a).toArray) (.agg (encX b).toArray) = (do pure (.bool (!(← Op.equal 68 (.agg (encX a).toArray) (.agg (encX b).toArray)))) : Sem Value) := rfl
    rw [this, pureRun_bind, he']
    rfl
  have hfl : (flat (.agg (encX a).toArray) && flat (.agg (encX b).toArray)) = true := rfl
  constructor
  · unfold binF
    rw [if_pos hfl, pureRun_bind, hgd, Option.bind_some, e1]
    rfl
  · unfold binF
    rw [if_pos hfl, pureRun_bind, hgd, Option.bind_some, e2]
    rfl
end Go.Sm
/- Strings put together; numbers as strings. -/
set_option linter.unusedVariables false
set_option linter.unusedSimpArgs false
namespace Go.Sm
open Go
section
variable {P : Program} {σ : CSt} {t : TypeId} {x y : Operand}
theorem ba_app (a b : List UInt8) : (⟨a.toArray⟩ : ByteArray) ++ ⟨b.toArray⟩ = ⟨(a ++ b).toArray⟩ := by
  apply ByteArray.ext
  rw [ByteArray.data_append]
  simp
theorem bin_stradd (a b : List UInt8) (h : a.length + b.length < 2 ^ 62) : binF P σ .add t x y (.string ⟨a.toArray⟩) (.string ⟨b.toArray⟩) = .val (.string ⟨(a ++ b).toArray⟩) σ := by
  have hm : IntKind.i64.max = 9223372036854775807 := rfl
  have hs : ¬ ((((⟨a.toArray⟩ : ByteArray).size + (⟨b.toArray⟩ : ByteArray).size : Nat) : Int) > IntKind.i64.max) := by
    have h1 : (⟨a.toArray⟩ : ByteArray).size = a.length := by simp [ByteArray.size]
    have h2 : (⟨b.toArray⟩ : ByteArray).size = b.length := by simp [ByteArray.size]
    rw [h1, h2, hm]
    omega
  simp only [binF, eqGuard, binOp, Op.stringOp]
  rw [if_neg hs, ba_app]
  rfl
theorem convF_str {s d : TypeId} (hs : ∃ k, P.underlying s = some (.int k)) (hd : P.underlying d = some .string) (k : IntKind) (n : Int) : convF P σ s d (.int k n) = .val (.string (Utf8.encode n)) σ := by
  obtain ⟨k', hs⟩ := hs
  have h1 : convertOp P σ s d (.int k n) = .fail := by
    unfold convertOp
    rw [hs, hd]
  simp only [convF, h1, or_fail, Sm.flat, flat0, if_true, convert, pureRun_bind, pureRun_underlying, hs, hd, Option.bind_some]
  rfl
theorem convF_bytes {s d e : TypeId} (hs : P.underlying s = some .string) (hd : P.underlying d = some (.slice e)) (he : P.underlying e = some (.int .u8)) (hi : (P.info? e).map (·.size) = some 1) (l : List UInt8) (hl : l.length < 2 ^ 62) : convF P σ s d (.string ⟨l.toArray⟩) = .val (.slice (some ⟨σ.n, 0, none⟩) l.length openCap) (σ.alloc (.cells (l.map fun b => .int .u8 b.toNat) e false)) := by
  obtain ⟨inf, hi1, hi2⟩ := Option.map_eq_some_iff.1 hi
  have h1 : convertOp P σ s d (.string ⟨l.toArray⟩) = .val (.slice (some ⟨σ.n, 0, none⟩) l.length openCap) (σ.alloc (.cells (l.map fun b => .int .u8 b.toNat) e false)) := by
    have hz : (⟨l.toArray⟩ : ByteArray).size = l.length := by simp [ByteArray.size]
    unfold convertOp
    rw [hs, hd]
    simp only [he, hi1, hz]
    rw [if_pos ⟨hi2, hl⟩]
  simp only [convF, h1]
  rfl
end
end Go.Sm
/- Boxes, drawn. -/
set_option linter.unusedVariables false
set_option linter.unusedSimpArgs false
namespace Go.Sm
open Go Go.Proofs
set_option maxRecDepth 100000
set_option maxHeartbeats 4000000
def cntB (bs : List Bx) (x y : Int) : Nat := (bs.filter fun b => hasX b x y).length
theorem cntB_snoc (bs : List Bx) (b : Bx) (x y : Int) : cntB (bs ++ [b]) x y = cntB bs x y + (if hasX b x y then 1 else 0) := by
  unfold cntB
  rw [List.filter_append, List.length_append, List.filter_cons, List.filter_nil]
  split <;> rfl
theorem cntB_le (bs : List Bx) (x y : Int) : cntB bs x y ≤ bs.length := List.length_filter_le _ _
def chrB (n : Nat) : List UInt8 := if n = 0 then [46] else if 9 < n then [43] else [UInt8.ofNat (48 + n)]
theorem chrB_len (n : Nat) : (chrB n).length = 1 := by
  unfold chrB
  split
  · rfl
  · split <;> rfl
def rowB (bs : List Bx) (F y : Int) : Nat → List UInt8
  | 0 => []
  | n + 1 => rowB bs F y n ++ chrB (cntB bs (F + n) y)
theorem rowB_len (bs : List Bx) (F y : Int) : ∀ n, (rowB bs F y n).length = n
  | 0 => rfl
  | n + 1 => by simp [rowB, rowB_len bs F y n, chrB_len]
def drawB (bs : List Bx) (F : Int) (wide high : Nat) : Nat → List UInt8
  | 0 => []
  | n + 1 => drawB bs F wide high n ++ (rowB bs F ((high : Int) - 1 - n) wide ++ [10])
theorem drawB_len (bs : List Bx) (F : Int) (wide high : Nat) : ∀ n, (drawB bs F wide high n).length = n * (wide + 1)
  | 0 => by simp [drawB]
  | n + 1 => by simp [drawB, drawB_len bs F wide high n, rowB_len, Nat.add_mul]
def sv (l : List UInt8) : Value := .string ⟨l.toArray⟩
@[simp] theorem isNil_sv {P : Program} (op : BinOp) (t : TypeId) (l : List UInt8) (y : Value) : isNilCmp P op t (sv l) y = none := isNil_string op t _ y
theorem sv_add {P : Program} {σ : CSt} {t : TypeId} {x y : Operand} (a b : List UInt8) (h : a.length + b.length < 2 ^ 62) : binF P σ .add t x y (sv a) (.string ⟨b.toArray⟩) = .val (sv (a ++ b)) σ := bin_stradd a b h
theorem u9 : Tryz.prog.underlying 9 = some .string := by kernel_rfl
theorem u21 : Tryz.prog.underlying 21 = some (.int .i32) := by kernel_rfl
theorem cv9 {σ : CSt} (k : IntKind) (n : Int) : convF Tryz.prog σ 21 9 (.int k n) = .val (.string (Utf8.encode n)) σ := convF_str ⟨_, u21⟩ u9 k n
theorem enc_dig (n : Nat) (h : n ≤ 9) : Utf8.encode (48 + (n : Int)) = ⟨[UInt8.ofNat (48 + n)].toArray⟩ := by
  have : n = 0 ∨ n = 1 ∨ n = 2 ∨ n = 3 ∨ n = 4 ∨ n = 5 ∨ n = 6 ∨ n = 7 ∨ n = 8 ∨ n = 9 := by omega
  rcases this with rfl | rfl | rfl | rfl | rfl | rfl | rfl | rfl | rfl | rfl <;> rfl
theorem draw_spec (bs : List Bx) (hok : ∀ b ∈ bs, b.ok) (hbl : bs.length < 2 ^ 20) (F : Int) (hF : 0 ≤ F ∧ F ≤ 100) (wide high : Nat) (hw : wide ≤ 100) (hh : high ≤ 100) (v : Value) (σ : CSt) (hsl : Sl σ 68 2 encX v bs) (Q : Out → CSt → Prop)
    (h : ∀ σ', Grow σ σ' → Q (.ret (sv (drawB bs F wide high high)) false) σ') : W E1 (.fn 40 #[v, .int .u64 F, .int .i64 wide, .int .i64 high] none) σ Q := by
  rw [W_fn (fn := Tryz.f40) Tryz.func40 rfl rfl rfl]
  obtain ⟨p, c, rfl⟩ := hsl.form
  have hwh : IntKind.i64.wrap ((high : Int) - 1) = (high : Int) - 1 := IntWalk.i64_in _ (by omega)
  simp [wops_cons, hwh]
  refine W_loop_J (fun n a s => ∃ tm, ∃ k : Nat, a = ⟨tm, 63, [], false⟩ ∧ tm.get 0 = some (.slice p bs.length c) ∧ tm.get 1 = some (.int .u64 F) ∧ tm.get 2 = some (.int .i64 wide) ∧ tm.get 9 = some (sv (drawB bs F wide high k)) ∧ tm.get 10 = some (.int .i64 ((high : Int) - 1 - k)) ∧ k ≤ high ∧ n = high - k ∧ Grow σ s)
    (fun out s => ∃ tm, out = .code (.exit 0) ⟨tm, 63, [], false⟩ ∧ tm.get 9 = some (sv (drawB bs F wide high high)) ∧ Grow σ s) ?_ high _ _ ?_ ?_
  · rintro n a s ⟨tm, k, rfl, e0, e1, e2, e9, e10, hk, hnn, gs⟩
    by_cases hkl : k < high
    · obtain ⟨y, hy⟩ : ∃ y : Int, y = (high : Int) - 1 - k := ⟨_, rfl⟩
      have hyr : 0 ≤ y ∧ y < 100 := by omega
      have hk0 : (0 : Int) ≤ y := hyr.1
      have hwk : IntKind.i64.wrap (y - 1) = (high : Int) - 1 - (k + 1 : Nat) := by rw [IntWalk.i64_in _ (by omega)]; omega
      rw [← hy] at e10
      simp [wops_cons, cv71, cplxK, e0, e1, e2, e9, e10, hk0]
      have hlD := drawB_len bs F wide high k
      have hlD2 : k * (wide + 1) ≤ 100 * 101 := Nat.mul_le_mul (by omega) (by omega)
      refine W_loop_J (fun n a t => ∃ tm, ∃ i : Nat, a = ⟨tm, 63, [], false⟩ ∧ tm.get 0 = some (.slice p bs.length c) ∧ tm.get 1 = some (.int .u64 F) ∧ tm.get 2 = some (.int .i64 wide) ∧ tm.get 9 = some (sv (drawB bs F wide high k ++ rowB bs F y i)) ∧ tm.get 10 = some (.int .i64 y) ∧ tm.get 11 = some (.complex .f64 (fl (F + i)) (fl y)) ∧ tm.get 26 = some (.int .i64 wide) ∧ tm.get 27 = some (.int .i64 (i : Nat)) ∧ i ≤ wide ∧ n = wide - i ∧ Grow s t)
        (fun out t => ∃ tm, out = .code (.exit 2) ⟨tm, 63, [], false⟩ ∧ tm.get 0 = some (.slice p bs.length c) ∧ tm.get 1 = some (.int .u64 F) ∧ tm.get 2 = some (.int .i64 wide) ∧ tm.get 9 = some (sv (drawB bs F wide high k ++ rowB bs F y wide)) ∧ tm.get 10 = some (.int .i64 y) ∧ Grow s t) ?_ wide _ _ ?_ ?_
      · rintro n2 a2 t ⟨tm2, i, rfl, f0, f1, f2, f9, f10, f11, f26, f27, hi, hnn2, gt⟩
        by_cases hil : i < wide
        · have hil' : (i : Int) < wide := by omega
          have hwi := i64n1 i (by omega)
          have hlR := rowB_len bs F y i
          have hstp : ∀ {P : Program} {σ : CSt} {t : TypeId} {o o' : Operand}, binF P σ .add t o o' (.complex .f64 (fl (F + i)) (fl y)) (.complex .f64 4607182418800017408 0) = .val (.complex .f64 (fl (F + (i + 1 : Nat))) (fl y)) σ := by
            intro P σ t o o'
            have := bin_cadd (P := P) (σ := σ) (t := t) (x := o) (y := o') (a := F + i) (b := y) (c := 1) (d := 0) (by omega) (by omega) (by decide) (by decide)
            rw [fl_one, fl_zero, Int.add_zero, show F + (i : Int) + 1 = F + (i + 1 : Nat) by omega] at this
            exact this
          obtain ⟨R, hR⟩ : ∃ R, R = drawB bs F wide high k ++ rowB bs F y i := ⟨_, rfl⟩
          have hRl : R.length < 2 ^ 20 := by rw [hR, List.length_append]; omega
          have hRn : drawB bs F wide high k ++ rowB bs F y (i + 1) = R ++ chrB (cntB bs (F + i) y) := by rw [hR, rowB, List.append_assoc]
          rw [← hR] at f9
          simp [wops_cons, f0, f1, f2, f9, f10, f11, f26, f27, hil, hil']
          refine W_loop_J (fun n a z => ∃ tm, ∃ j : Nat, a = ⟨tm, 63, [], false⟩ ∧ tm.get 0 = some (.slice p bs.length c) ∧ tm.get 1 = some (.int .u64 F) ∧ tm.get 2 = some (.int .i64 wide) ∧ tm.get 9 = some (sv R) ∧ tm.get 10 = some (.int .i64 y) ∧ tm.get 11 = some (.complex .f64 (fl (F + i)) (fl y)) ∧ tm.get 12 = some (.int .i64 (cntB (bs.take j) (F + i) y)) ∧ tm.get 26 = some (.int .i64 wide) ∧ tm.get 27 = some (.int .i64 (i : Nat)) ∧ tm.get 29 = some (.slice p bs.length c) ∧ tm.get 30 = some (.int .i64 bs.length) ∧ tm.get 31 = some (.int .i64 (j : Nat)) ∧ j ≤ bs.length ∧ n = bs.length - j ∧ Grow t z)
            (fun out z => ∃ tm, out = .code (.exit 4) ⟨tm, 63, [], false⟩ ∧ tm.get 0 = some (.slice p bs.length c) ∧ tm.get 1 = some (.int .u64 F) ∧ tm.get 2 = some (.int .i64 wide) ∧ tm.get 9 = some (sv R) ∧ tm.get 10 = some (.int .i64 y) ∧ tm.get 11 = some (.complex .f64 (fl (F + i)) (fl y)) ∧ tm.get 12 = some (.int .i64 (cntB bs (F + i) y)) ∧ tm.get 26 = some (.int .i64 wide) ∧ tm.get 27 = some (.int .i64 (i : Nat)) ∧ Grow t z) ?_ bs.length _ _ ?_ ?_
          · rintro n3 a3 z ⟨tm3, j, rfl, b0, b1, b2, b9, b10, b11, b12, b26, b27, b29, b30, b31, hj, hnn3, gz⟩
            by_cases hjl : j < bs.length
            · obtain ⟨ix, off, row, ro, rfl, hg, hin', hrow, hle⟩ := (hsl.grow ((gs.trans gt).trans gz)).at hjl
              have hld := row_get (enc := encX) lenX hrow j hjl
              have hl1 := row_le hle j hjl
              have hwj := i64n1 j (by omega)
              have hjl' : (j : Int) < bs.length := by omega
              have hcl := cntB_le (bs.take j) (F + i) y
              have hbt : (bs.take j).length ≤ bs.length := by rw [List.length_take]; omega
              have hsn : cntB (bs.take (j + 1)) (F + i) y = cntB (bs.take j) (F + i) y + (if hasX bs[j] (F + i) y then 1 else 0) := by
                rw [List.take_succ_eq_append_getElem hjl, cntB_snoc]
              have hbh := bhas_spec bs[j] (hok _ (List.getElem_mem hjl)) (F + i) y (by omega) (by omega)
              have hwc : IntKind.i64.wrap ((cntB (bs.take j) (F + i) y : Int) + 1) = ((cntB (bs.take j) (F + i) y + 1 : Nat) : Int) := by rw [IntWalk.i64_in _ (by omega)]; omega
              have hg6 : Grow z ((z.alloc (.cells [.complex .f64 0 0, .complex .f64 0 0] 68 false)).put z.n (.cells (encX bs[j]) 68 false)) := ((Grow.refl z).alloc _).put (Nat.le_refl _) _
              have hc6 : ((z.alloc (.cells [.complex .f64 0 0, .complex .f64 0 0] 68 false)).put z.n (.cells (encX bs[j]) 68 false)).get z.n = some (.cells (encX bs[j]) 68 false) := by simp
              simp only [encX] at hbh hg6 hc6
              simp [wops_cons, b0, b1, b2, b9, b10, b11, b12, b26, b27, b29, b30, b31, hjl, hjl', hg, hld, hl1]
              simp [wops_cons, encX, b0, b1, b2, b9, b10, b11, b12, b26, b27, b29, b30, b31]
              refine hbh _ _ fun z2 g2 => ?_
              cases hhx : hasX bs[j] (F + i) y with
              | true =>
                rw [hhx, if_pos rfl] at hsn
                simp [wops_cons, b0, b1, b2, b9, b10, b11, b12, b26, b27, b29, b30, b31, hwj, hwc]
                exact ⟨bs.length - (j + 1), by omega, j + 1, by rw [hsn]; omega, by omega, by omega, rfl, gz.trans (hg6.trans g2)⟩
              | false =>
                rw [hhx, if_neg (by decide), Nat.add_zero] at hsn
                simp [wops_cons, b0, b1, b2, b9, b10, b11, b12, b26, b27, b29, b30, b31, hwj]
                exact ⟨bs.length - (j + 1), by omega, j + 1, by rw [hsn]; omega, by omega, by omega, rfl, gz.trans (hg6.trans g2)⟩
            · have hjl' : j = bs.length := by omega
              subst hjl'
              rw [List.take_of_length_le (Nat.le_refl _)] at b12
              simp [wops_cons, b0, b1, b2, b9, b10, b11, b12, b26, b27, b29, b30, b31]
              exact gz
          · refine ⟨_, 0, rfl, ?_⟩
            simp [f0, f1, f2, f9, f10, f11, f26, f27]
            exact ⟨rfl, Grow.refl _⟩
          · rintro out z ⟨tm3, rfl, b0, b1, b2, b9, b10, b11, b12, b26, b27, gz⟩
            have a1 : ∀ {P : Program} {σ : CSt} {t : TypeId} {o o' : Operand}, binF P σ .add t o o' (sv R) (.string ⟨#[46]⟩) = .val (sv (R ++ [46])) σ := sv_add R [46] (by simp; omega)
            have a2 : ∀ {P : Program} {σ : CSt} {t : TypeId} {o o' : Operand}, binF P σ .add t o o' (sv R) (.string ⟨#[43]⟩) = .val (sv (R ++ [43])) σ := sv_add R [43] (by simp; omega)
            have hcn := cntB_le bs (F + i) y
            generalize cntB bs (F + i) y = cn at *
            by_cases c0 : cn = 0
            · have hch : chrB cn = [46] := by rw [c0]; rfl
              rw [hch] at hRn
              simp [wops_cons, b0, b1, b2, b9, b10, b11, b12, b26, b27, c0, a1, hstp, hwi]
              exact ⟨wide - (i + 1), by omega, i + 1, by rw [hRn], by rw [Int.natCast_add, Int.natCast_one], by omega, by omega, rfl, gt.trans gz⟩
            · have c0' : ¬ (cn : Int) = 0 := by omega
              by_cases c9 : 9 < cn
              · have hch : chrB cn = [43] := by unfold chrB; rw [if_neg c0, if_pos c9]
                have c9' : (9 : Int) < cn := by omega
                rw [hch] at hRn
                simp [wops_cons, b0, b1, b2, b9, b10, b11, b12, b26, b27, c0, c0', c9, c9', a2, hstp, hwi]
                exact ⟨wide - (i + 1), by omega, i + 1, by rw [hRn], by rw [Int.natCast_add, Int.natCast_one], by omega, by omega, rfl, gt.trans gz⟩
              · have c9' : ¬ (9 : Int) < cn := by omega
                obtain ⟨d, hd⟩ : ∃ d, d = UInt8.ofNat (48 + cn) := ⟨_, rfl⟩
                have hch : chrB cn = [d] := by unfold chrB; rw [if_neg c0, if_neg c9, hd]
                have hen : Utf8.encode (48 + (cn : Int)) = ⟨[d].toArray⟩ := by rw [hd]; exact enc_dig cn (by omega)
                have a3 : ∀ {P : Program} {σ : CSt} {t : TypeId} {o o' : Operand}, binF P σ .add t o o' (sv R) (.string ⟨#[d]⟩) = .val (sv (R ++ [d])) σ := sv_add R [d] (by simp; omega)
                have w1 : IntKind.i64.wrap (48 + (cn : Int)) = 48 + cn := IntWalk.i64_in _ (by omega)
                have w2 : IntKind.i32.wrap (48 + (cn : Int)) = 48 + cn := by
                  rw [IntKind.wrap_i32]; omega
                rw [hch] at hRn
                simp [wops_cons, b0, b1, b2, b9, b10, b11, b12, b26, b27, c0, c0', c9, c9', a3, hstp, hwi, w1, w2, cv9, hen]
                exact ⟨wide - (i + 1), by omega, i + 1, by rw [hRn], by rw [Int.natCast_add, Int.natCast_one], by omega, by omega, rfl, gt.trans gz⟩
        · have hil' : i = wide := by omega
          subst hil'
          simp [wops_cons, f0, f1, f2, f9, f10, f11, f26, f27]
          exact gt
      · refine ⟨_, 0, rfl, ?_⟩
        simp [e0, e1, e2, e9, e10]
        rw [rowB, List.append_nil]
        exact ⟨rfl, Grow.refl _⟩
      · rintro out t ⟨tm2, rfl, f0, f1, f2, f9, f10, gt⟩
        have hlw := rowB_len bs F y wide
        have a4 : ∀ {P : Program} {σ : CSt} {t : TypeId} {o o' : Operand}, binF P σ .add t o o' (sv (drawB bs F wide high k ++ rowB bs F y wide)) (.string ⟨#[10]⟩) = .val (sv (drawB bs F wide high (k + 1))) σ := by
          intro P σ t o o'
          have := sv_add (P := P) (σ := σ) (t := t) (x := o) (y := o') (drawB bs F wide high k ++ rowB bs F y wide) [10] (by simp; omega)
          rw [drawB, ← List.append_assoc, ← hy]
          exact this
        simp [wops_cons, f0, f1, f2, f9, f10, a4, hwk]
        exact ⟨high - (k + 1), by omega, k + 1, rfl, by omega, by omega, rfl, gs.trans gt⟩
    · have hkl' : k = high := by omega
      subst hkl'
      rw [show (k : Int) - 1 - k = -1 by omega] at e10
      simp [wops_cons, e0, e1, e2, e9, e10]
      exact gs
  · refine ⟨_, 0, rfl, ?_⟩
    simp
    exact ⟨rfl, Grow.refl _⟩
  · rintro out s ⟨tm, rfl, e9, gs⟩
    simpa [wops_cons, e9] using h s gs
end Go.Sm
/- Locks out of small numbers. -/
set_option linter.unusedVariables false
set_option linter.unusedSimpArgs false
namespace Go.Sm
open Go Go.Proofs
set_option maxRecDepth 100000
set_option maxHeartbeats 4000000
/-- A key, by a number. -/
def keyOf (n : Int) : ByteArray := match n.toNat with
  | 0 => ⟨#[97]⟩ | 1 => ⟨#[98]⟩ | 2 => ⟨#[98, 97]⟩ | 3 => ⟨#[98, 98]⟩ | 4 => ⟨#[99]⟩ | 5 => ⟨#[122, 122]⟩ | 6 => ⟨#[]⟩ | _ => ⟨#[255]⟩
theorem key_spec (n : Int) (h0 : 0 ≤ n) (h1 : n < 256) (σ : CSt) (Q : Out → CSt → Prop) (h : ∀ σ', Grow σ σ' → Q (.ret (.string (keyOf (n.tmod 8))) false) σ') : W E1 (.fn 17 #[.int .u8 n] none) σ Q := by
  rw [W_fn (fn := Tryz.f17) Tryz.func17 rfl rfl rfl]
  have h2 : 0 ≤ n.tmod 8 := Int.tmod_nonneg 8 h0
  have h3 : n.tmod 8 < 8 := Int.tmod_lt_of_pos n (by decide)
  obtain ⟨k, hk⟩ : ∃ k : Nat, n.tmod 8 = k := ⟨(n.tmod 8).toNat, by omega⟩
  have h4 : k < 8 := by omega
  rw [hk] at h
  have hg := fun o => h _ ((Grow.refl σ).alloc o)
  match k, hk, h4, hg with
  | 0, hk, _, hg => have := hg (.cells [.string ⟨#[97]⟩, .string ⟨#[98]⟩, .string ⟨#[98, 97]⟩, .string ⟨#[98, 98]⟩, .string ⟨#[99]⟩, .string ⟨#[122, 122]⟩, .string ⟨#[]⟩, .string ⟨#[255]⟩] 9 false); simpa [wops_cons, hk, keyOf] using this
  | 1, hk, _, hg => have := hg (.cells [.string ⟨#[97]⟩, .string ⟨#[98]⟩, .string ⟨#[98, 97]⟩, .string ⟨#[98, 98]⟩, .string ⟨#[99]⟩, .string ⟨#[122, 122]⟩, .string ⟨#[]⟩, .string ⟨#[255]⟩] 9 false); simpa [wops_cons, hk, keyOf] using this
  | 2, hk, _, hg => have := hg (.cells [.string ⟨#[97]⟩, .string ⟨#[98]⟩, .string ⟨#[98, 97]⟩, .string ⟨#[98, 98]⟩, .string ⟨#[99]⟩, .string ⟨#[122, 122]⟩, .string ⟨#[]⟩, .string ⟨#[255]⟩] 9 false); simpa [wops_cons, hk, keyOf] using this
  | 3, hk, _, hg => have := hg (.cells [.string ⟨#[97]⟩, .string ⟨#[98]⟩, .string ⟨#[98, 97]⟩, .string ⟨#[98, 98]⟩, .string ⟨#[99]⟩, .string ⟨#[122, 122]⟩, .string ⟨#[]⟩, .string ⟨#[255]⟩] 9 false); simpa [wops_cons, hk, keyOf] using this
  | 4, hk, _, hg => have := hg (.cells [.string ⟨#[97]⟩, .string ⟨#[98]⟩, .string ⟨#[98, 97]⟩, .string ⟨#[98, 98]⟩, .string ⟨#[99]⟩, .string ⟨#[122, 122]⟩, .string ⟨#[]⟩, .string ⟨#[255]⟩] 9 false); simpa [wops_cons, hk, keyOf] using this
  | 5, hk, _, hg => have := hg (.cells [.string ⟨#[97]⟩, .string ⟨#[98]⟩, .string ⟨#[98, 97]⟩, .string ⟨#[98, 98]⟩, .string ⟨#[99]⟩, .string ⟨#[122, 122]⟩, .string ⟨#[]⟩, .string ⟨#[255]⟩] 9 false); simpa [wops_cons, hk, keyOf] using this
  | 6, hk, _, hg => have := hg (.cells [.string ⟨#[97]⟩, .string ⟨#[98]⟩, .string ⟨#[98, 97]⟩, .string ⟨#[98, 98]⟩, .string ⟨#[99]⟩, .string ⟨#[122, 122]⟩, .string ⟨#[]⟩, .string ⟨#[255]⟩] 9 false); simpa [wops_cons, hk, keyOf] using this
  | 7, hk, _, hg => have := hg (.cells [.string ⟨#[97]⟩, .string ⟨#[98]⟩, .string ⟨#[98, 97]⟩, .string ⟨#[98, 98]⟩, .string ⟨#[99]⟩, .string ⟨#[122, 122]⟩, .string ⟨#[]⟩, .string ⟨#[255]⟩] 9 false); simpa [wops_cons, hk, keyOf] using this
structure S3 where
  lo : Int
  hi : Int
  near : Int
def S3.ok (s : S3) : Prop := ((0 ≤ s.lo ∧ s.lo < 18446744073709551616) ∧ 0 ≤ s.hi ∧ s.hi < 18446744073709551616) ∧ 0 ≤ s.near ∧ s.near < 256
def encT (s : S3) : List Value := [.int .u64 s.lo, .int .u64 s.hi, .int .u8 s.near]
def makeS (s : S3) : Sn :=
  if s.near.tmod 4 = 0 then ⟨s.lo, s.hi⟩
  else if s.near.tmod 4 = 1 then ⟨IntKind.u64.wrap (-(s.lo.tmod 20)), IntKind.u64.wrap (-(s.hi.tmod 20))⟩
  else ⟨s.lo.tmod 30, s.hi.tmod 30⟩
theorem wrap64 (n : Int) : 0 ≤ IntKind.u64.wrap n ∧ IntKind.u64.wrap n < 18446744073709551616 := by
  have h : IntKind.u64.wrap n = n % 18446744073709551616 := by simp [IntKind.wrap, IntKind.bits, IntKind.signed]
  rw [h]
  omega
theorem makeS_ok {s : S3} (h : s.ok) : (makeS s).ok := by
  obtain ⟨⟨⟨h1, h2⟩, h3, h4⟩, h5, h6⟩ := h
  have a1 := Int.tmod_nonneg 30 h1
  have a2 := Int.tmod_nonneg 30 h3
  have a3 := Int.tmod_lt_of_pos s.lo (show (0 : Int) < 30 by decide)
  have a4 := Int.tmod_lt_of_pos s.hi (show (0 : Int) < 30 by decide)
  unfold makeS
  split
  · exact ⟨⟨h1, h2⟩, h3, h4⟩
  · split
    · exact ⟨wrap64 _, wrap64 _⟩
    · exact ⟨⟨a1, by show s.lo.tmod 30 < _; omega⟩, a2, by show s.hi.tmod 30 < _; omega⟩
theorem makeS_spec (s : S3) (hs : s.ok) (σ : CSt) (Q : Out → CSt → Prop) (h : ∀ σ', Grow σ σ' → Q (.ret (.agg (encS (makeS s)).toArray) false) σ') : W E1 (.fn 60 #[.agg (encT s).toArray] none) σ Q := by
  rw [W_fn (fn := Tryz.f60) Tryz.func60 rfl rfl rfl]
  obtain ⟨⟨⟨h1, h2⟩, h3, h4⟩, h5, h6⟩ := hs
  have hne : ¬ σ.n = σ.n + 1 := by omega
  have hG := fun l => h (((σ.alloc (.cells (encT s) 44 false)).alloc (.cells [.int .u64 0, .int .u64 0] 31 false)).put (σ.n + 1) (.cells l 31 false)) ((((Grow.refl σ).alloc _).alloc _).put (by omega) _)
  simp only [encT] at hG
  by_cases e0 : s.near.tmod 4 = 0
  · have := hG (encS (makeS s))
    simp only [makeS, e0, if_true, encS] at this
    simpa [wops_cons, encT, encS, e0, hne] using this
  · by_cases e1 : s.near.tmod 4 = 1
    · have := hG (encS (makeS s))
      simp only [makeS, e1, if_true, encS] at this
      simpa [wops_cons, encT, encS, e0, e1, hne] using this
    · have := hG (encS (makeS s))
      simp only [makeS, e0, e1, if_false, encS] at this
      simpa [wops_cons, encT, encS, e0, e1, hne] using this
end Go.Sm
/- Locks: made, good or not, added; the spans' order. -/
set_option linter.unusedVariables false
set_option linter.unusedSimpArgs false
namespace Go.Sm
open Go Go.Proofs
set_option maxRecDepth 100000
set_option maxHeartbeats 4000000
theorem klt_irrefl (k : ByteArray) : klt k k = false := bl_irrefl _
theorem klt_trans {a b c : ByteArray} (h : klt a b = true) (h' : klt b c = true) : klt a c = true := bl_trans h h'
theorem klt_tri {a b : ByteArray} (h : klt a b = false) (h' : klt b a = false) : a = b := ba_list_inj (bl_tri h h')
theorem kle_eq (s u : ByteArray) : (klt s u || s.toList == u.toList) = !klt u s := by
  cases h : klt s u with
  | true =>
    have := bl_asymm h
    unfold klt; rw [this]; rfl
  | false =>
    by_cases e : s.toList = u.toList
    · have e2 := ba_list_inj e
      subst e2
      simp [klt_irrefl]
    · cases h2 : klt u s with
      | true => simp [e]
      | false => exact absurd (bl_tri h h2) e
structure LL where
  owner : Int
  frm : Int
  to : Int
  s : S3
def LL.ok (l : LL) : Prop := (0 ≤ l.owner ∧ l.owner < 256) ∧ (0 ≤ l.frm ∧ l.frm < 256) ∧ (0 ≤ l.to ∧ l.to < 256) ∧ l.s.ok
def encL (l : LL) : List Value := [.int .u8 l.owner, .int .u8 l.frm, .int .u8 l.to, .int .u64 l.s.lo, .int .u64 l.s.hi, .int .u8 l.s.near]
theorem lenL (l : LL) : (encL l).length = 6 := rfl
theorem cokLL (l : LL) : cokL (encL l) = true := rfl
structure Lk where
  owner : Int
  frm : ByteArray
  to : ByteArray
  sp : Sn
  deriving DecidableEq
def encK (k : Lk) : List Value := [.int .i64 k.owner, .string k.frm, .string k.to, .int .u64 k.sp.lo, .int .u64 k.sp.hi]
theorem lenK (k : Lk) : (encK k).length = 5 := rfl
theorem cokK (k : Lk) : cokL (encK k) = true := rfl
def lkOf (l : LL) : Lk := ⟨l.owner.tmod 5, keyOf (l.frm.tmod 8), keyOf (l.to.tmod 8), makeS l.s⟩
def goodK (k : Lk) : Bool := !klt k.to k.frm && full k.sp
theorem lmake_spec (l : LL) (hl : l.ok) (σ : CSt) (Q : Out → CSt → Prop) (h : ∀ σ', Grow σ σ' → Q (.ret (.agg (encK (lkOf l)).toArray) false) σ') : W E1 (.fn 26 #[.agg (encL l).toArray] none) σ Q := by
  rw [W_fn (fn := Tryz.f26) Tryz.func26 rfl rfl rfl]
  obtain ⟨⟨ho0, ho1⟩, ⟨hf0, hf1⟩, ⟨ht0, ht1⟩, hs⟩ := hl
  have g1 : Grow σ ((σ.alloc (.cells (encL l) 46 false)).alloc (.cells [.int .i64 0, .string ⟨#[]⟩, .string ⟨#[]⟩, .int .u64 0, .int .u64 0] 33 false)) := ((Grow.refl σ).alloc _).alloc _
  have hc1 : ((σ.alloc (.cells (encL l) 46 false)).alloc (.cells [.int .i64 0, .string ⟨#[]⟩, .string ⟨#[]⟩, .int .u64 0, .int .u64 0] 33 false)).get σ.n = some (.cells (encL l) 46 false) := by rw [ga_old (by simp only [CSt.n_alloc]; omega), ga_top (by simp only [CSt.n_alloc])]
  have hc2 : ((σ.alloc (.cells (encL l) 46 false)).alloc (.cells [.int .i64 0, .string ⟨#[]⟩, .string ⟨#[]⟩, .int .u64 0, .int .u64 0] 33 false)).get (σ.n + 1) = some (.cells [.int .i64 0, .string ⟨#[]⟩, .string ⟨#[]⟩, .int .u64 0, .int .u64 0] 33 false) := by rw [ga_top (by simp only [CSt.n_alloc])]
  have hn1 : ((σ.alloc (.cells (encL l) 46 false)).alloc (.cells [.int .i64 0, .string ⟨#[]⟩, .string ⟨#[]⟩, .int .u64 0, .int .u64 0] 33 false)).n = σ.n + 2 := by simp
  simp only [encL] at hn1 g1 hc1 hc2
  simp [wops_cons, encL, Nat.add_assoc]
  generalize (σ.alloc (.cells [.int .u8 l.owner, .int .u8 l.frm, .int .u8 l.to, .int .u64 l.s.lo, .int .u64 l.s.hi, .int .u8 l.s.near] 46 false)).alloc (.cells [.int .i64 0, .string ⟨#[]⟩, .string ⟨#[]⟩, .int .u64 0, .int .u64 0] 33 false) = σ1 at g1 hc1 hc2 hn1 ⊢
  have hw : IntKind.i64.wrap (l.owner.tmod 5) = l.owner.tmod 5 := by
    have := Int.tmod_nonneg 5 ho0
    have := Int.tmod_lt_of_pos l.owner (show (0 : Int) < 5 by decide)
    exact IntWalk.i64_in _ (by omega)
  refine W_drawn (l := [0, 1, 2, 3, 4, 5, 7, 8, 10, 11, 6, 9, 12, 13, 14]) (b := #[0, 1, 3, 7, 0, 16, 48, 0, 128, 496, 0, 1024, 4080, 8191, 16383]) (by kernel_rfl) (by kernel_rfl) (by kernel_rfl) ?_
  simp [dopsR_cons, opAt, isEff, again, befBits, isRead, Nat.add_assoc, hc1, hw]
  refine key_spec l.frm hf0 hf1 σ1 _ fun σ2 g2 => ?_
  have hc12 := g2.get hc1 (by omega)
  have hc22 := g2.get hc2 (by omega)
  have gn2 := g2.n
  simp [dopsR_cons, opAt, isEff, again, befBits, isRead, Nat.add_assoc, hc12, hw]
  refine key_spec l.to ht0 ht1 σ2 _ fun σ3 g3 => ?_
  have hc13 := g3.get hc12 (by omega)
  have hc23 := g3.get hc22 (by omega)
  have gn3 := g3.n
  simp [dopsR_cons, opAt, isEff, again, befBits, isRead, Nat.add_assoc, hc13, hw]
  have hm := makeS_spec l.s hs σ3
  simp only [encT] at hm
  refine hm _ fun σ4 g4 => ?_
  have hc14 := g4.get hc13 (by omega)
  have hc24 := g4.get hc23 (by omega)
  have gn4 := g4.n
  have hfin := h _ ((((g1.trans g2).trans g3).trans g4).put (i := σ.n + 1) (by omega) (.cells (encK (lkOf l)) 33 false))
  simp only [encK, lkOf] at hfin
  simpa [dopsR_cons, wops_cons, opAt, isEff, again, befBits, isRead, Nat.add_assoc, encS, hc14, hc24, hw] using hfin
theorem good_spec (k : Lk) (σ : CSt) (Q : Out → CSt → Prop) (h : ∀ σ', Grow σ σ' → Q (.ret (.bool (goodK k)) false) σ') : W E1 (.fn 30 #[.agg (encK k).toArray] none) σ Q := by
  rw [W_fn (fn := Tryz.f30) Tryz.func30 rfl rfl rfl]
  have := h _ ((Grow.refl σ).alloc (.cells (encK k) 33 false))
  have hk : (klt k.frm k.to || k.frm.toList == k.to.toList) = !klt k.to k.frm := kle_eq _ _
  simp only [goodK, full] at this
  cases hk2 : klt k.to k.frm with
  | true =>
    rw [hk2] at this hk
    simpa [wops_cons, wops_if', dstOf, encK, hk] using this
  | false =>
    rw [hk2] at this hk
    by_cases e : k.sp.lo ≤ k.sp.hi
    · simpa [wops_cons, wops_if', dstOf, encK, hk, e] using this
    · simpa [wops_cons, wops_if', dstOf, encK, hk, e] using this
def ordS (a b : Sn) : Int := if a.lo < b.lo then -1 else if b.lo < a.lo then 1 else 0
theorem ord_spec (a b : Sn) (σ : CSt) (Q : Out → CSt → Prop) (h : ∀ σ', Grow σ σ' → Q (.ret (.int .i64 (ordS a b)) false) σ') : W E1 (.fn 53 #[.agg (encS a).toArray, .agg (encS b).toArray] none) σ Q := by
  rw [W_fn (fn := Tryz.f53) Tryz.func53 rfl rfl rfl]
  have := h _ (((Grow.refl σ).alloc (.cells (encS a) 31 false)).alloc (.cells (encS b) 31 false))
  have hne : ¬ σ.n = σ.n + 1 := by omega
  by_cases e : a.lo < b.lo
  · simpa [wops_cons, encS, ordS, e, hne] using this
  · by_cases e2 : b.lo < a.lo
    · simpa [wops_cons, encS, ordS, e, e2, hne] using this
    · simpa [wops_cons, encS, ordS, e, e2, hne] using this
end Go.Sm
/- Ranges over functions, as equations. -/
set_option linter.unusedVariables false
set_option linter.unusedSimpArgs false
namespace Go.Sm
open Go
variable {E : Env} {σ : CSt}
/-- Behind the function that is ranged over. -/
def krange (E : Env) (x : Ctx) (a : CAct) (L : Nat) (Q : Out → CSt → Prop) : Out → CSt → Prop := fun o σ =>
  match o with
  | .ret _ _ =>
    match σ.get L with
    | some (.loop st pend fn tm sz ps asg body) =>
      if st = .busy then False else
      match pend with
      | none => Q (.code .normal a) (σ.put L (.loop .exhausted pend fn tm sz ps asg body))
      | some c => W E (.code x c a) (σ.put L (.loop .exhausted pend fn tm sz ps asg body)) Q
    | _ => False
  | .pan v => Q (.code (.panic v) a) σ
  | _ => False
/-- Behind the assignments of a round. -/
def kround1 (E : Env) (L : Nat) (fn : FuncId) (body : Code) (Q : Out → CSt → Prop) : Out → CSt → Prop := fun o σ =>
  match o with
  | .code .normal a =>
    match σ.get L with
    | some (.loop .ready pend fn' tm' sz' ps' asg' body') =>
      W E (.code ⟨fn, some L, none⟩ body a) (σ.put L (.loop .busy pend fn' tm' sz' ps' asg' body')) fun o σ2 =>
        match o with
        | .code e a2 =>
          match jumpOf e with
          | some j =>
            match σ2.get L with
            | some (.loop st _ fn' tm' sz' ps' asg' body') => Q (.ret (.bool j.isNone) false) (σ2.put L (.loop (if j.isNone then .ready else .done) j fn' tm' sz' ps' asg' body'))
            | _ => False
          | none => match e with | .panic v => if a2.df.isEmpty then (match E.P.funcs[fn]? with | some _ => Q (.pan v) σ2 | none => False) else False | _ => False
        | _ => False
    | _ => False
  | _ => False
theorem W_rangeFunc {x : Ctx} {f : Operand} {ps : Array Tmp} {asg body : Code} {a : CAct} {σ : CSt} {Q : Out → CSt → Prop} {g : FuncId} {fs cs : Array Value} (hf : a.eval f = .func (.func g) fs cs) (ha : aroundOk σ x.rnd = true) :
    W E (.code x (.rangeFunc f ps asg body) a) σ Q = W E (.fn g (fs ++ #[.func (.yield σ.n) #[] #[]] ++ cs) none) (σ.alloc (.loop .ready none x.f a.tm a.sz ps asg body)) (krange E x a σ.n Q) := by
  rw [W_eq]
  simp only [F, ha, hf, callv, Bool.not_true, Bool.false_eq_true, if_false]
  rfl
theorem W_round {L : Nat} {args : Array Value} {σ : CSt} {Q : Out → CSt → Prop} {st : LoopState} {pend : Option Code} {fn : FuncId} {tm : Tr Value} {sz : Nat} {ps : Array Tmp} {asg body : Code} (hg : σ.get L = some (.loop st pend fn tm sz ps asg body)) (hs : args.size = ps.size) :
    W E (.round L args) σ Q = W E (.code ⟨fn, some L, none⟩ asg { tm := (ps.toList.zip args.toList).foldl (fun t p => if p.1 < sz then t.set p.1 p.2 else t) tm, sz := sz, df := [], tk := false }) σ (kround1 E L fn body Q) := by
  rw [W_eq]
  simp only [F, hg, hs, if_true]
  rfl
@[simp] theorem wres_yield (x : Ctx) (a : CAct) (d : Option Tmp) (K : CAct → CSt → Prop) (Q : Out → CSt → Prop) (L : Nat) (fs cs args : Array Value) (h : extOf E (.func (.yield L) fs cs) args σ = none) :
    wres E x a d K Q σ (.call (.func (.yield L) fs cs) args) = W E (.round L (fs ++ args)) σ (kret a d K Q) := by
  simp only [wres, h, callv]
  rfl
@[simp] theorem dres_yield (ops : Array Oper) (a0 a : CAct) (d : Option Tmp) (K : CAct → CSt → Prop) (Q : Out → CSt → Prop) (L : Nat) (fs cs args : Array Value) (h : extOf E (.func (.yield L) fs cs) args σ = none) :
    dres E ops a0 a d K Q σ (.call (.func (.yield L) fs cs) args) = W E (.round L (fs ++ args)) σ (kretd ops a0 a d K Q) := by
  simp only [dres, h, callv]
  rfl
@[simp] theorem ext_yield (L : Nat) (fs cs args : Array Value) (σ : CSt) : extOf E (.func (.yield L) fs cs) args σ = none := (rfl)
end Go.Sm
