/- Part D of the proof. -/
import Derived.ChangeSlices
import Derived.ProofKit
import Derived.Carry
import Derived.Sort.AssemblyPlain
import Derived.Test.YtngpgkbkelcihaaGreatDoorPartB
import Derived.Test.YtngpgkbkelcihaaGreatDoorPartC
/- Arguments that are plain data: how they lie in the abstract state. -/
set_option linter.unusedVariables false
set_option linter.unusedSimpArgs false
namespace Go.Sm
open Go Go.WideShapes Go.ChangeShapes

/-- A cell's kind. -/
inductive PK where
  | int (k : IntKind)
  | bool
  | str
def okK : PK → Value → Prop
  | .int k, v => ∃ n, v = .int k n ∧ (Lit.int k n).wf = true
  | .bool, v => ∃ b, v = .bool b
  | .str, v => ∃ s : ByteArray, v = .string s ∧ s.size ≤ maxLen
def OkL : List PK → List Value → Prop
  | [], [] => True
  | k :: ks, v :: vs => okK k v ∧ OkL ks vs
  | _, _ => False
theorem OkL.length : ∀ {ks : List PK} {vs : List Value}, OkL ks vs → vs.length = ks.length
  | [], [], _ => rfl
  | _ :: ks, _ :: vs, h => by simp [OkL.length h.2]
theorem OkL.append : ∀ {ks ls : List PK} {vs ws : List Value}, OkL ks vs → OkL ls ws → OkL (ks ++ ls) (vs ++ ws)
  | [], _, [], _, _, h => h
  | _ :: _, _, _ :: _, _, h, k => ⟨h.1, OkL.append h.2 k⟩
theorem okK.flat {k : PK} {v : Value} (h : okK k v) : flat0 v = true := by
  cases k with
  | int k => obtain ⟨n, rfl, _⟩ := h; rfl
  | bool => obtain ⟨b, rfl⟩ := h; rfl
  | str => obtain ⟨s, rfl, _⟩ := h; rfl
theorem okK.cellv {k : PK} {v : Value} (h : okK k v) : Sm.cellv v = true := by
  cases k with
  | int k => obtain ⟨n, rfl, _⟩ := h; rfl
  | bool => obtain ⟨b, rfl⟩ := h; rfl
  | str => obtain ⟨s, rfl, _⟩ := h; rfl
theorem OkL.flat : ∀ {ks : List PK} {vs : List Value}, OkL ks vs → ∀ v ∈ vs, flat0 v = true
  | [], [], _ => by simp
  | _ :: ks, _ :: vs, h => fun v hv => by
    rcases List.mem_cons.1 hv with rfl | hv
    · exact h.1.flat
    · exact OkL.flat h.2 v hv

def kindsL (P : Program) (g : TypeId → Option (List PK)) : List Field → Nat → Option (List PK)
  | [], _ => some []
  | fl :: l, off =>
    if fl.offset = off then
      match g fl.type with
      | some ks => if ks.length = P.cellsOf fl.type then (kindsL P g l (off + ks.length)).map (ks ++ ·) else none
      | none => none
    else none
def kindsF (P : Program) : Nat → TypeId → Option (List PK)
  | 0, _ => none
  | f + 1, t =>
    match P.underlying t with
    | some (.int k) => some [.int k]
    | some .bool => some [.bool]
    | some .string => some [.str]
    | some (.struct fs) => match kindsL P (kindsF P f) fs.toList 0 with | some ks => if ks.length = P.cellsOf t then some ks else none | none => none
    | _ => none

section
variable {H : Type} {enc : TypeId × Value → H} {P : Program} {w : World} {base : Nat} {spare : Nat → Bool} {held : Bool}

theorem kindsL_ok {g : TypeId → Option (List PK)} {fuel : Nat} {cs : List Value} (hg : ∀ t ks, g t = some ks → ∀ cs x, DataW.trod enc P w base spare held fuel t cs = some x → OkL ks cs) :
    ∀ (l : List Field) (off : Nat) (ks : List PK), kindsL P g l off = some ks → (∀ fl ∈ l, ∃ x, DataW.trod enc P w base spare held fuel fl.type ((cs.drop fl.offset).take (P.cellsOf fl.type)) = some x) → off + ks.length = cs.length → OkL ks (cs.drop off)
  | [], off, ks, h, _, hl => by
    simp only [kindsL, Option.some.injEq] at h
    subst h
    rw [List.drop_of_length_le (by simpa using Nat.le_of_eq hl.symm)]
    trivial
  | fl :: l, off, ks, h, hx, hl => by
    unfold kindsL at h
    split at h
    · rename_i ho
      split at h
      · rename_i k1 hk1
        split at h
        · rename_i hc
          rw [Option.map_eq_some_iff] at h
          obtain ⟨k2, h2, rfl⟩ := h
          obtain ⟨x, hx1⟩ := hx fl (by simp)
          have a1 := hg _ _ hk1 _ _ hx1
          rw [ho, ← hc] at a1
          have a2 := kindsL_ok hg l (off + k1.length) k2 h2 (fun f hf => hx f (by simp [hf])) (by simp at hl; omega)
          have : cs.drop off = (cs.drop off).take k1.length ++ cs.drop (off + k1.length) := by
            rw [← List.drop_drop, List.take_append_drop]
          rw [this]
          exact a1.append a2
        · cases h
      · cases h
    · cases h

theorem trod_kinds : ∀ (f : Nat) (t : TypeId) (ks : List PK), kindsF P f t = some ks → ∀ (fuel : Nat) (cs : List Value) (x : DataW H × List MemPlace), DataW.trod enc P w base spare held fuel t cs = some x → OkL ks cs
  | 0, _, _, h, _, _, _, _ => by cases h
  | f + 1, t, ks, h, fuel, cs, x, hx => by
    unfold kindsF at h
    cases hu : P.underlying t with
    | none => rw [hu] at h; cases h
    | some d =>
      rw [hu] at h
      cases d with
      | int k =>
        cases h
        obtain ⟨n, rfl, _, hw⟩ := DataW.trod_int hu hx
        exact ⟨⟨n, rfl, hw⟩, trivial⟩
      | bool =>
        cases h
        obtain ⟨b, rfl, _⟩ := DataW.trod_bool hu hx
        exact ⟨⟨b, rfl⟩, trivial⟩
      | string =>
        cases h
        obtain ⟨s, rfl, _, hs⟩ := DataW.trod_string hu hx
        exact ⟨⟨s, rfl, hs⟩, trivial⟩
      | struct fs =>
        simp only at h
        split at h
        · rename_i k1 hk1
          split at h
          · rename_i hc
            cases h
            obtain ⟨xs, n, rfl, _, hlen, hxl, hf⟩ := DataW.trod_struct hu hx
            have := kindsL_ok (cs := cs) (fuel := n) (fun t ks ht cs x hx => trod_kinds f t ks ht n cs x hx) fs.toList 0 ks hk1 (fun fl hfl => ?_) (by omega)
            · simpa using this
            · obtain ⟨i, hi, rfl⟩ := List.mem_iff_getElem.1 hfl
              have h1 := hf i fs.toList[i] (by simp at hi ⊢)
              have : i < xs.length := by simpa [hxl] using hi
              rw [List.getElem?_eq_getElem this] at h1
              exact ⟨_, h1⟩
          · cases h
        · cases h
      | _ => cases h

/-- A slice of plain elements. -/
theorem open_rows {t e : TypeId} {f fuel : Nat} {ks : List PK} {cs : List Value} {x : DataW H × List MemPlace} (ht : P.underlying t = some (.slice e)) (hk : kindsF P f e = some ks) (hc : P.cellsOf e = ks.length)
    (h : DataW.trod enc P w base spare held fuel t cs = some x) :
    cs = [.slice none 0 0] ∨ ∃ (a : Addr) (len cap : Nat) (rows : List (List Value)), cs = [.slice (some a) len cap] ∧ len ≤ cap ∧ cap ≤ maxLen ∧ rows.length = len ∧ (∀ r ∈ rows, OkL ks r) ∧
      ∀ i j, i < len → j < ks.length → ∃ v, (rows.flatten)[i * ks.length + j]? = some v ∧ w.cell? ((a.add (i * ks.length)).add j) = some v := by
  rcases DataW.trod_slice ht h with ⟨h0, _⟩ | ⟨a, len, cap, elems, rest, n, _, rfl, rfl, hb, hl, hm, hlen, hel, hsp, hns⟩
  · exact .inl h0
  refine .inr ⟨a, len, cap, ?_⟩
  have each : ∀ i, i < len → ∃ r, w.cells? base (a.add (i * ks.length)) ks.length = some r ∧ OkL ks r := by
    intro i hi
    have := hel i hi
    rw [List.getElem?_eq_getElem (by omega), Option.bind_eq_some_iff] at this
    obtain ⟨r, h1, h2⟩ := this
    rw [hc] at h1
    exact ⟨r, h1, trod_kinds f e ks hk n r _ h2⟩
  let row : Nat → List Value := fun i => if hi : i < len then (each i hi).choose else []
  have hrow : ∀ i (hi : i < len), w.cells? base (a.add (i * ks.length)) ks.length = some (row i) ∧ OkL ks (row i) := fun i hi => by
    simp only [row, hi, dif_pos]
    exact (each i hi).choose_spec
  have hrl : ∀ i, i < len → (row i).length = ks.length := fun i hi => (hrow i hi).2.length
  refine ⟨(List.range len).map row, rfl, hl, hm, by simp, fun r hr => ?_, fun i j hi hj => ?_⟩
  · simp only [List.mem_map, List.mem_range] at hr
    obtain ⟨i, hi, rfl⟩ := hr
    exact (hrow i hi).2
  · have hflat : ∀ (m : Nat), m ≤ len → (((List.range len).map row).flatten)[i * ks.length + j]? = ((List.range len).map row).flatten[i * ks.length + j]? := fun _ _ => rfl
    have key : (((List.range len).map row).flatten)[i * ks.length + j]? = (row i)[j]? := by
      have e1 : (List.range len).map row = (List.range len).map row := rfl
      have gen : ∀ (l : List (List Value)) (i : Nat), (∀ r ∈ l, r.length = ks.length) → (hi : i < l.length) → l.flatten[i * ks.length + j]? = (l[i])[j]? := by
        intro l
        induction l with
        | nil => intro i _ hi; simp at hi
        | cons r l ih =>
          intro i hr hi
          cases i with
          | zero =>
            simp only [List.flatten_cons, Nat.zero_mul, Nat.zero_add, List.getElem_cons_zero]
            rw [List.getElem?_append_left (by rw [hr r (by simp)]; exact hj)]
          | succ i =>
            simp only [List.flatten_cons, List.getElem_cons_succ]
            rw [List.getElem?_append_right (by rw [hr r (by simp), Nat.add_mul]; omega), hr r (by simp)]
            have : (i + 1) * ks.length + j - ks.length = i * ks.length + j := by rw [Nat.add_mul]; omega
            rw [this]
            exact ih i (fun r h => hr r (by simp [h])) (by simpa using hi)
      rw [gen _ i (fun r hr => by
        simp only [List.mem_map, List.mem_range] at hr
        obtain ⟨i, hi, rfl⟩ := hr
        exact hrl i hi) (by simpa using hi)]
      simp
    rw [key]
    have hlt : j < (row i).length := by rw [hrl i hi]; exact hj
    refine ⟨(row i)[j], List.getElem?_eq_getElem hlt, ?_⟩
    have := (World.cells?_some (hrow i hi).1).2.2 j hj
    rw [this, List.getElem?_eq_getElem hlt]
end
end Go.Sm
/- Slices as lists. -/
set_option linter.unusedVariables false
namespace Go.Sm
open Go

/-- A slice's elements, as they lie. -/
def Sl {α : Type} (σ : CSt) (e : TypeId) (sz : Nat) (enc : α → List Value) (v : Value) (l : List α) : Prop :=
  (v = .slice none 0 0 ∧ l = []) ∨ ∃ i off cap row ro, v = .slice (some ⟨i, off, none⟩) l.length cap ∧ σ.get i = some (.cells row e ro) ∧ i < σ.n ∧ (row.drop off).take (l.length * sz) = l.flatMap enc ∧ off + l.length * sz ≤ row.length ∧
    (cap = openCap ∨ (l.length ≤ cap ∧ cap < openCap))

section
variable {α : Type} {σ σ' : CSt} {e : TypeId} {sz : Nat} {enc : α → List Value} {v : Value} {l : List α}
theorem Sl.nil : Sl σ e sz enc (.slice none 0 0) ([] : List α) := .inl ⟨rfl, rfl⟩
theorem Sl.grow (h : Sl σ e sz enc v l) (hg : Grow σ σ') : Sl σ' e sz enc v l := by
  rcases h with h | ⟨i, off, cap, row, ro, h1, h2, h3, h4⟩
  · exact .inl h
  · exact .inr ⟨i, off, cap, row, ro, h1, hg.get h2 h3, Nat.lt_of_lt_of_le h3 hg.n, h4⟩
/-- A slice that is all of its object. -/
theorem Sl.all {i cap : Nat} {ro : Bool} (hsz : ∀ x, (enc x).length = sz) (hg : σ.get i = some (.cells (l.flatMap enc) e ro)) (hi : i < σ.n) (hc : cap = openCap ∨ (l.length ≤ cap ∧ cap < openCap)) : Sl σ e sz enc (.slice (some ⟨i, 0, none⟩) l.length cap) l := by
  have := enc_length enc hsz l
  exact .inr ⟨i, 0, cap, _, ro, rfl, hg, hi, by rw [List.drop_zero, List.take_of_length_le (by omega)], by omega, hc⟩
theorem Sl.form (h : Sl σ e sz enc v l) : ∃ p c, v = .slice p l.length c := by
  rcases h with ⟨rfl, rfl⟩ | ⟨i, off, cap, row, ro, rfl, _⟩
  · exact ⟨_, _, rfl⟩
  · exact ⟨_, _, rfl⟩
/-- One of its elements. -/
theorem Sl.at {p : Option Addr} {n c : Nat} (h : Sl σ e sz enc (.slice p n c) l) {k : Nat} (hk : k < l.length) : ∃ i off row ro, p = some ⟨i, off, none⟩ ∧ σ.get i = some (.cells row e ro) ∧ i < σ.n ∧ (row.drop off).take (l.length * sz) = l.flatMap enc ∧ off + l.length * sz ≤ row.length := by
  rcases h with ⟨h1, rfl⟩ | ⟨i, off, cap, row, ro, h1, h2, h3, h4, h5, _⟩
  · simp at hk
  · cases h1; exact ⟨i, off, row, ro, rfl, h2, h3, h4, h5⟩
/-- One element of a row. -/
theorem row_get (hsz : ∀ x, (enc x).length = sz) {row : List Value} {off : Nat} (h : (row.drop off).take (l.length * sz) = l.flatMap enc) (k : Nat) (hk : k < l.length) : (row.drop (off + k * sz)).take sz = enc l[k] := by
  have := enc_get enc hsz l k hk
  rw [← h] at this
  rw [← this, List.drop_take, List.drop_drop, List.take_take]
  congr 1
  have : (k + 1) * sz ≤ l.length * sz := Nat.mul_le_mul_right _ hk
  rw [Nat.succ_mul] at this
  omega
theorem row_le {row : List Value} {off : Nat} (h : off + l.length * sz ≤ row.length) (k : Nat) (hk : k < l.length) : off + k * sz + sz ≤ row.length := by
  have : (k + 1) * sz ≤ l.length * sz := Nat.mul_le_mul_right _ hk
  rw [Nat.succ_mul] at this
  omega
/-- One cell of one element. -/
theorem row_cell (hsz : ∀ x, (enc x).length = sz) {row : List Value} {off : Nat} (h : (row.drop off).take (l.length * sz) = l.flatMap enc) (k j : Nat) (hk : k < l.length) (hj : j < sz) : row[off + k * sz + j]? = (enc l[k])[j]? := by
  have := congrArg (·[j]?) (row_get hsz h k hk)
  simp only [List.getElem?_take, hj, if_true, List.getElem?_drop] at this
  exact this
/-- Of a slice from an element on. -/
theorem row_drop (hsz : ∀ x, (enc x).length = sz) {row : List Value} {off : Nat} (h : (row.drop off).take (l.length * sz) = l.flatMap enc) (k : Nat) (hk : k ≤ l.length) : (row.drop (off + k * sz)).take ((l.drop k).length * sz) = (l.drop k).flatMap enc := by
  rw [← enc_drop enc hsz, ← h, List.drop_take, List.drop_drop, List.length_drop, Nat.sub_mul]
theorem row_take (hsz : ∀ x, (enc x).length = sz) {row : List Value} {off : Nat} (h : (row.drop off).take (l.length * sz) = l.flatMap enc) (k : Nat) (hk : k ≤ l.length) : (row.drop off).take ((l.take k).length * sz) = (l.take k).flatMap enc := by
  rw [← enc_take enc hsz, ← h, List.take_take, List.length_take]
  congr 1
  rw [Nat.min_eq_left hk]
  exact (Nat.min_eq_left (Nat.mul_le_mul_right _ hk)).symm
end

/-- A slice that is one's own: all of an object that was made behind a point. -/
def Own {α : Type} (b : Nat) (σ : CSt) (e : TypeId) (enc : α → List Value) (v : Value) (l : List α) : Prop :=
  (v = .slice none 0 0 ∧ l = []) ∨ ∃ i cap, v = .slice (some ⟨i, 0, none⟩) l.length cap ∧ b ≤ i ∧ i < σ.n ∧ σ.get i = some (.cells (l.flatMap enc) e false) ∧ (cap = openCap ∨ (l = [] ∧ cap = 0))
section
variable {α : Type} {σ σ' : CSt} {e : TypeId} {sz : Nat} {enc : α → List Value} {v : Value} {l : List α} {b : Nat}
theorem Own.nil : Own b σ e enc (.slice none 0 0) ([] : List α) := .inl ⟨rfl, rfl⟩
theorem Own.sl (hsz : ∀ x, (enc x).length = sz) (h : Own b σ e enc v l) : Sl σ e sz enc v l := by
  rcases h with h | ⟨i, cap, rfl, hb, hi, hg, hc⟩
  · exact .inl h
  · refine Sl.all hsz hg hi ?_
    rcases hc with rfl | ⟨rfl, rfl⟩
    · exact .inl rfl
    · exact .inr ⟨by simp, by simp [openCap]⟩
theorem Own.grow (h : Own b σ e enc v l) (hg : Grow σ σ') : Own b σ' e enc v l := by
  rcases h with h | ⟨i, cap, h1, hb, hi, h2, h3⟩
  · exact .inl h
  · exact .inr ⟨i, cap, h1, hb, Nat.lt_of_lt_of_le hi hg.n, hg.get h2 hi, h3⟩
theorem Own.keep (h : Own b σ e enc v l) (hn : σ.n ≤ σ'.n) (hg : ∀ i, b ≤ i → i < σ.n → σ'.get i = σ.get i) : Own b σ' e enc v l := by
  rcases h with h | ⟨i, cap, h1, hb, hi, h2, h3⟩
  · exact .inl h
  · exact .inr ⟨i, cap, h1, hb, Nat.lt_of_lt_of_le hi hn, by rw [hg i hb hi]; exact h2, h3⟩
theorem Own.put (h : Own b σ e enc v l) {i : Nat} (hi : i < b) (o : CObj) : Own b (σ.put i o) e enc v l :=
  h.keep (Nat.le_refl _) fun j hj _ => by rw [CSt.get_put, if_neg (by omega)]
theorem Own.weaken {b' : Nat} (h : Own b σ e enc v l) (hb : b' ≤ b) : Own b' σ e enc v l := by
  rcases h with h | ⟨i, cap, h1, hb', h2⟩
  · exact .inl h
  · exact .inr ⟨i, cap, h1, Nat.le_trans hb hb', h2⟩
theorem insRow_enc (hsz : ∀ x, (enc x).length = sz) (a : Nat) (ha : a ≤ l.length) (x : α) : insRow sz a l.length (l.flatMap enc) (enc x) = (l.take a ++ x :: l.drop a).flatMap enc := by
  have := enc_length enc hsz l
  unfold insRow
  rw [List.take_of_length_le (Nat.le_of_eq this), enc_take enc hsz, enc_drop enc hsz]
  simp
theorem cokL_enc (hc : ∀ x, cokL (enc x) = true) (l : List α) : cokL (l.flatMap enc) = true := by
  induction l with
  | nil => rfl
  | cons x l ih => rw [List.flatMap_cons, cokL_append, hc, ih]; rfl
/-- New objects, and changes to those that were made behind a point. -/
def GrowB (b : Nat) (σ σ' : CSt) : Prop := σ.n ≤ σ'.n ∧ ∀ i, i < b → σ'.get i = σ.get i
theorem GrowB.refl (b : Nat) (σ : CSt) : GrowB b σ σ := ⟨Nat.le_refl _, fun _ _ => rfl⟩
theorem GrowB.trans {a b c : CSt} {k : Nat} (h : GrowB k a b) (h' : GrowB k b c) : GrowB k a c := ⟨Nat.le_trans h.1 h'.1, fun i hi => (h'.2 i hi).trans (h.2 i hi)⟩
theorem Grow.toB {a b : CSt} {k : Nat} (h : Grow a b) (hk : k ≤ a.n) : GrowB k a b := ⟨h.n, fun i hi => h.old i (Nat.lt_of_lt_of_le hi hk)⟩
theorem GrowB.toGrow {a b : CSt} (h : GrowB a.n a b) : Grow a b := ⟨h.1, h.2⟩
theorem Grow.thenB {a b c : CSt} {k : Nat} (h : Grow a b) (h' : GrowB k b c) (hk : a.n ≤ k) : Grow a c := ⟨Nat.le_trans h.n h'.1, fun i hi => (h'.2 i (Nat.lt_of_lt_of_le hi hk)).trans (h.old i hi)⟩
theorem GrowB.alloc {a b : CSt} {k : Nat} (h : GrowB k a b) (hk : k ≤ b.n) (o : CObj) : GrowB k a (b.alloc o) := ⟨by have := h.1; simp; omega, fun i hi => by rw [CSt.get_alloc, if_neg (by omega)]; exact h.2 i hi⟩
theorem GrowB.put {a b : CSt} {k i : Nat} (h : GrowB k a b) (hi : k ≤ i) (o : CObj) : GrowB k a (b.put i o) := ⟨h.1, fun j hj => by rw [CSt.get_put, if_neg (by omega)]; exact h.2 j hj⟩
end
/-- How a search ends: so many are below. -/
structure Cut {α : Type} (ord : α → Int) (l : List α) (k : Nat) : Prop where
  le : k ≤ l.length
  lo : ∀ j (h : j < l.length), j < k → ord l[j] < 0
  hi : ∀ j (h : j < l.length), k ≤ j → 0 ≤ ord l[j]
end Go.Sm
/- Chains of versions as lists: plain facts. -/
namespace Go.Sm

structure Ver where
  at_ : Int
  val : ByteArray
  gone : Bool
  deriving DecidableEq

/-- The times rise. -/
def Srt (c : List Ver) : Prop := c.Pairwise fun a b => a.at_ < b.at_
/-- The version of a time. -/
def lk (c : List Ver) (t : Int) : Option Ver := c.find? fun v => v.at_ == t

theorem get_mem_drop {α : Type} {l : List α} {k : Nat} (h : k < l.length) : l[k] ∈ l.drop k := by rw [List.drop_eq_getElem_cons h]; exact List.mem_cons_self
theorem lk_none_of {c : List Ver} {t : Int} (h : ∀ v ∈ c, v.at_ ≠ t) : lk c t = none := by
  simp only [lk, List.find?_eq_none]
  intro v hv
  simpa using h v hv
theorem lk_cons (v : Ver) (c : List Ver) (t : Int) : lk (v :: c) t = if v.at_ = t then some v else lk c t := by
  simp only [lk, List.find?_cons]
  by_cases h : v.at_ = t
  · simp [h]
  · have : (v.at_ == t) = false := by simpa using h
    rw [this, if_neg h]
theorem lk_append (c d : List Ver) (t : Int) : lk (c ++ d) t = (lk c t).or (lk d t) := by simp [lk, List.find?_append]
theorem lk_some {c : List Ver} {t : Int} {v : Ver} (h : lk c t = some v) : v ∈ c ∧ v.at_ = t := by
  simp only [lk] at h
  exact ⟨List.mem_of_find?_eq_some h, by simpa using List.find?_some h⟩
theorem Srt.tail {v : Ver} {c : List Ver} (h : Srt (v :: c)) : Srt c := (List.pairwise_cons.1 h).2
theorem Srt.head {v : Ver} {c : List Ver} (h : Srt (v :: c)) : ∀ u ∈ c, v.at_ < u.at_ := (List.pairwise_cons.1 h).1
theorem Srt.lk_mem {c : List Ver} (h : Srt c) {v : Ver} (hv : v ∈ c) : lk c v.at_ = some v := by
  induction c with
  | nil => cases hv
  | cons u c ih =>
    rw [lk_cons]
    rcases List.mem_cons.1 hv with rfl | hv
    · simp
    · have := h.head v hv
      rw [if_neg (by omega)]
      exact ih h.tail hv
theorem Srt.ext : ∀ {c d : List Ver}, Srt c → Srt d → (∀ t, lk c t = lk d t) → c = d
  | [], [], _, _, _ => rfl
  | [], v :: d, _, _, h => by have := h v.at_; rw [lk_cons, if_pos rfl] at this; cases this
  | v :: c, [], _, _, h => by have := h v.at_; rw [lk_cons, if_pos rfl] at this; cases this
  | u :: c, v :: d, hc, hd, h => by
    have h1 := h u.at_
    rw [lk_cons, if_pos rfl, lk_cons] at h1
    have h2 := h v.at_
    rw [lk_cons, lk_cons, if_pos rfl] at h2
    have he : u = v := by
      by_cases e : v.at_ = u.at_
      · rw [if_pos e] at h1; exact Option.some.inj h1
      · rw [if_neg e] at h1
        rw [if_neg (Ne.symm e)] at h2
        have a := hd.head u (lk_some h1.symm).1
        have b := hc.head v (lk_some h2).1
        omega
    subst he
    rw [Srt.ext hc.tail hd.tail fun t => by
      have := h t
      rw [lk_cons, lk_cons] at this
      by_cases e : u.at_ = t
      · rw [lk_none_of fun x hx => by have := hc.head x hx; omega, lk_none_of fun x hx => by have := hd.head x hx; omega]
      · rwa [if_neg e, if_neg e] at this]

/-! ### A version more -/
def putL (c : List Ver) (v : Ver) : List Ver := (c.filter fun u => decide (u.at_ < v.at_)) ++ v :: c.filter fun u => decide (v.at_ < u.at_)
theorem Srt.filter {c : List Ver} (h : Srt c) (p : Ver → Bool) : Srt (c.filter p) := List.Pairwise.filter p h
theorem Srt.put {c : List Ver} (h : Srt c) (v : Ver) : Srt (putL c v) := by
  unfold putL Srt
  rw [List.pairwise_append]
  refine ⟨h.filter _, List.pairwise_cons.2 ⟨fun u hu => by simp at hu; exact hu.2, h.filter _⟩, fun a ha b hb => ?_⟩
  simp at ha hb
  rcases hb with rfl | hb
  · exact ha.2
  · omega
theorem lk_filter {c : List Ver} (p : Ver → Bool) (t : Int) (hp : ∀ v, v.at_ = t → p v = true) : lk (c.filter p) t = lk c t := by
  induction c with
  | nil => rfl
  | cons v c ih =>
    rw [List.filter_cons, lk_cons]
    by_cases e : v.at_ = t
    · rw [if_pos (hp v e), lk_cons, if_pos e, if_pos e]
    · rw [if_neg e]
      split
      · rw [lk_cons, if_neg e, ih]
      · exact ih
theorem lk_filter_none {c : List Ver} (p : Ver → Bool) (t : Int) (hp : ∀ v, v.at_ = t → p v = false) : lk (c.filter p) t = none :=
  lk_none_of fun v hv e => by
    have := (List.mem_filter.1 hv).2
    rw [hp v e] at this
    cases this
theorem lk_put (c : List Ver) (v : Ver) (t : Int) : lk (putL c v) t = if v.at_ = t then some v else lk c t := by
  unfold putL
  rw [lk_append, lk_cons]
  by_cases e : v.at_ = t
  · rw [if_pos e, if_pos e, lk_filter_none _ t fun u hu => by simp; omega]; rfl
  · rw [if_neg e, if_neg e]
    by_cases h : t < v.at_
    · rw [lk_filter _ t fun u hu => by simp; omega, lk_filter_none _ t fun u hu => by simp; omega, Option.or_none]
    · rw [lk_filter_none _ t fun u hu => by simp; omega, lk_filter _ t fun u hu => by simp; omega, Option.none_or]

/-! ### By definition -/
def makeL (l : List Ver) : List Ver := l.foldl putL []
def lastAt (l : List Ver) (t : Int) : Option Ver := (l.filter fun v => v.at_ == t).getLast?
def plainL (l : List Ver) : List Ver := (List.range 256).filterMap fun t : Nat => lastAt l t
theorem lastAt_snoc (l : List Ver) (v : Ver) (t : Int) : lastAt (l ++ [v]) t = if v.at_ = t then some v else lastAt l t := by
  unfold lastAt
  rw [List.filter_append]
  by_cases e : v.at_ = t <;> simp [e]
theorem makeL_snoc (l : List Ver) (v : Ver) : makeL (l ++ [v]) = putL (makeL l) v := by simp [makeL]
theorem lastAt_at {l : List Ver} {t : Int} {v : Ver} (h : lastAt l t = some v) : v ∈ l ∧ v.at_ = t := by
  have := List.mem_of_getLast? h
  simpa using this
theorem rev_ind {α : Type} {P : List α → Prop} (h0 : P []) (h1 : ∀ l a, P l → P (l ++ [a])) (l : List α) : P l := by
  have : ∀ m : List α, P m.reverse := by
    intro m
    induction m with
    | nil => exact h0
    | cons a m ih => rw [List.reverse_cons]; exact h1 _ _ ih
  have := this l.reverse
  rwa [List.reverse_reverse] at this
theorem makeL_srt (l : List Ver) : Srt (makeL l) := rev_ind (P := fun l => Srt (makeL l)) List.Pairwise.nil (fun l v ih => by rw [makeL_snoc]; exact ih.put v) l
theorem lk_makeL (l : List Ver) (t : Int) : lk (makeL l) t = lastAt l t :=
  rev_ind (P := fun l => lk (makeL l) t = lastAt l t) rfl (fun l v ih => by rw [makeL_snoc, lk_put, lastAt_snoc, ih]) l
theorem range_srt (l : List Ver) : ∀ (n : Nat), Srt ((List.range n).filterMap fun t : Nat => lastAt l t) ∧ (∀ v ∈ ((List.range n).filterMap fun t : Nat => lastAt l t), v.at_ < n) ∧
    ∀ t : Int, lk ((List.range n).filterMap fun t : Nat => lastAt l t) t = if 0 ≤ t ∧ t < n then lastAt l t else none
  | 0 => ⟨List.Pairwise.nil, by simp, fun t => by simp [lk]; intro h h'; omega⟩
  | n + 1 => by
    obtain ⟨h1, h2, h3⟩ := range_srt l n
    have hone : ∀ t : Int, lk ([n].filterMap fun t : Nat => lastAt l t) t = if t = n then lastAt l t else none := by
      intro t
      cases hl : lastAt l (n : Int) with
      | none => by_cases e : t = n <;> simp [hl, lk, e]
      | some v =>
        have := (lastAt_at hl).2
        simp only [List.filterMap_cons, hl, List.filterMap_nil, lk_cons, this]
        by_cases e : t = n
        · subst e; simp [hl]
        · rw [if_neg (Ne.symm e), if_neg e]; rfl
    have hmem : ∀ v ∈ ([n].filterMap fun t : Nat => lastAt l t), v.at_ = n := by
      intro v hv
      simp at hv
      exact (lastAt_at hv).2
    simp only [List.range_succ, List.filterMap_append]
    refine ⟨?_, fun v hv => ?_, fun t => ?_⟩
    · unfold Srt
      rw [List.pairwise_append]
      refine ⟨h1, ?_, fun a ha b hb => ?_⟩
      · simp only [List.filterMap_cons, List.filterMap_nil]
        split <;> simp
      · rw [hmem b hb]; exact h2 a ha
    · rcases List.mem_append.1 hv with hv | hv
      · have := h2 v hv; omega
      · have := hmem v hv; omega
    · rw [lk_append, h3, hone]
      by_cases a : 0 ≤ t ∧ t < n
      · rw [if_pos a, if_neg (by omega), if_pos (by omega), Option.or_none]
      · rw [if_neg a, Option.none_or]
        by_cases b : t = n
        · rw [if_pos b, if_pos (by omega)]
        · rw [if_neg b, if_neg (by omega)]
theorem make_plain (l : List Ver) (h : ∀ v ∈ l, 0 ≤ v.at_ ∧ v.at_ < 256) : makeL l = plainL l := by
  obtain ⟨h1, _, h3⟩ := range_srt l 256
  refine Srt.ext (makeL_srt l) h1 fun t => ?_
  unfold plainL
  rw [lk_makeL, h3]
  by_cases a : 0 ≤ t ∧ t < (256 : Nat)
  · rw [if_pos a]
  · rw [if_neg a]
    cases hl : lastAt l t with
    | none => rfl
    | some v =>
      obtain ⟨m, e⟩ := lastAt_at hl
      have := h v m
      omega

/-! ### What a search finds -/
theorem filter_take {α : Type} {l : List α} {k : Nat} (p : α → Bool) (h1 : ∀ x ∈ l.take k, p x = true) (h2 : ∀ x ∈ l.drop k, p x = false) : l.filter p = l.take k := by
  conv => lhs; rw [← List.take_append_drop k l]
  rw [List.filter_append, List.filter_eq_self.2 h1, List.filter_eq_nil_iff.2 fun x hx => by simp [h2 x hx], List.append_nil]
theorem filter_drop {α : Type} {l : List α} {k : Nat} (p : α → Bool) (h1 : ∀ x ∈ l.take k, p x = false) (h2 : ∀ x ∈ l.drop k, p x = true) : l.filter p = l.drop k := by
  conv => lhs; rw [← List.take_append_drop k l]
  rw [List.filter_append, List.filter_eq_self.2 h2, List.filter_eq_nil_iff.2 fun x hx => by simp [h1 x hx], List.nil_append]
/-- What the search tells: how many are below a time. -/
structure Found (c : List Ver) (t : Int) (k : Nat) : Prop where
  le : k ≤ c.length
  lo : ∀ v ∈ c.take k, v.at_ < t
  hi : ∀ v ∈ c.drop k, t ≤ v.at_
theorem Found.lk {c : List Ver} {t : Int} {k : Nat} (hs : Srt c) (h : Found c t k) : Sm.lk c t = if h : k < c.length then (if c[k].at_ = t then some c[k] else none) else none := by
  have e1 : c.take k ++ c.drop k = c := List.take_append_drop k c
  rw [← e1, lk_append, lk_none_of (c := c.take k) fun v hv => by have := h.lo v hv; omega, Option.none_or, e1]
  split
  · rename_i hk
    rw [List.drop_eq_getElem_cons hk, lk_cons]
    split
    · rfl
    · rename_i hne
      have h1 := h.hi c[k] (get_mem_drop hk)
      refine lk_none_of fun v hv => ?_
      have hs2 : Srt (c.drop k) := List.Pairwise.sublist (List.drop_sublist k c) hs
      rw [List.drop_eq_getElem_cons hk] at hs2
      have := hs2.head v hv
      omega
  · rw [List.drop_of_length_le (by omega)]; rfl
theorem Found.put_ins {c : List Ver} {v : Ver} {k : Nat} (hs : Srt c) (h : Found c v.at_ k) (hn : ∀ hk : k < c.length, c[k].at_ ≠ v.at_) : putL c v = c.take k ++ v :: c.drop k := by
  unfold putL
  rw [filter_take (k := k) _ (fun x hx => by simpa using h.lo x hx) fun x hx => by simpa using h.hi x hx]
  rw [filter_drop (k := k) _ (fun x hx => by have := h.lo x hx; simp; omega) fun x hx => ?_]
  have h1 := h.hi x hx
  have hk : k < c.length := by
    by_cases hk : k < c.length
    · exact hk
    · rw [List.drop_of_length_le (by omega)] at hx; cases hx
  have h2 := hn hk
  have hs2 : Srt (c.drop k) := List.Pairwise.sublist (List.drop_sublist k c) hs
  have h3 := h.hi c[k] (get_mem_drop hk)
  rw [List.drop_eq_getElem_cons hk] at hx hs2
  rcases List.mem_cons.1 hx with rfl | hx
  · simp; omega
  · have := hs2.head x hx
    simp; omega
theorem Found.put_set {c : List Ver} {v : Ver} {k : Nat} (hs : Srt c) (h : Found c v.at_ k) (hk : k < c.length) (he : c[k].at_ = v.at_) : putL c v = c.set k v := by
  unfold putL
  rw [filter_take (k := k) _ (fun x hx => by simpa using h.lo x hx) fun x hx => by simpa using h.hi x hx]
  rw [filter_drop (k := k + 1) _ (fun x hx => ?_) fun x hx => ?_]
  · rw [List.set_eq_take_append_cons_drop, if_pos hk]
  · rw [List.take_succ_eq_append_getElem hk] at hx
    simp only [List.mem_append, List.mem_singleton] at hx
    rcases hx with hx | rfl
    · have := h.lo x hx; simp; omega
    · simp; omega
  · have hs2 : Srt (c.drop k) := List.Pairwise.sublist (List.drop_sublist k c) hs
    rw [List.drop_eq_getElem_cons hk] at hs2
    have := hs2.head x hx
    simp; omega

/-! ### The last one up to a time -/
def atL (c : List Ver) (t : Int) : Option Ver := (c.filter fun v => decide (v.at_ ≤ t)).getLast?
/-- How many are at most at a time. -/
theorem Found.upto {c : List Ver} {t : Int} {k : Nat} (hs : Srt c) (h : Found c t k) : (c.filter fun v => decide (v.at_ ≤ t)) = c.take (if (∃ hk : k < c.length, c[k].at_ = t) then k + 1 else k) := by
  have hs2 : Srt (c.drop k) := List.Pairwise.sublist (List.drop_sublist k c) hs
  split
  · rename_i hh
    obtain ⟨hk, he⟩ := hh
    rw [List.drop_eq_getElem_cons hk] at hs2
    refine filter_take _ (fun x hx => ?_) fun x hx => ?_
    · rw [List.take_succ_eq_append_getElem hk] at hx
      simp only [List.mem_append, List.mem_singleton] at hx
      rcases hx with hx | rfl
      · have := h.lo x hx; simp; omega
      · simp; omega
    · have := hs2.head x hx; simp; omega
  · rename_i hh
    refine filter_take _ (fun x hx => by have := h.lo x hx; simp; omega) fun x hx => ?_
    have h1 := h.hi x hx
    by_cases hk : k < c.length
    · have h2 : c[k].at_ ≠ t := fun e => hh ⟨hk, e⟩
      have h3 := h.hi c[k] (get_mem_drop hk)
      rw [List.drop_eq_getElem_cons hk] at hx hs2
      rcases List.mem_cons.1 hx with rfl | hx
      · simp; omega
      · have := hs2.head x hx; simp; omega
    · rw [List.drop_of_length_le (by omega)] at hx; cases hx
theorem take_last {α : Type} {l : List α} {k : Nat} (h : k < l.length) : (l.take (k + 1)).getLast? = some l[k] := by
  rw [List.take_succ_eq_append_getElem h, List.getLast?_append]
  rfl
theorem Found.at_eq {c : List Ver} {t : Int} {k : Nat} (hs : Srt c) (h : Found c t k) (hk : k < c.length) (he : c[k].at_ = t) : atL c t = some c[k] := by
  have := h.upto hs
  rw [if_pos ⟨hk, he⟩] at this
  unfold atL
  rw [this]
  exact take_last hk
theorem Found.at_lt {c : List Ver} {t : Int} {k : Nat} (hs : Srt c) (h : Found c t (k + 1)) (hn : ¬ ∃ hk : k + 1 < c.length, c[k + 1].at_ = t) : atL c t = some (c[k]'(by have := h.le; omega)) := by
  have := h.upto hs
  rw [if_neg hn] at this
  unfold atL
  rw [this]
  exact take_last (by have := h.le; omega)
theorem Found.at_zero {c : List Ver} {t : Int} (hs : Srt c) (h : Found c t 0) (hn : ¬ ∃ hk : 0 < c.length, c[0].at_ = t) : atL c t = none := by
  have := h.upto hs
  rw [if_neg hn] at this
  unfold atL
  rw [this]
  rfl
/-- What stays of a chain. -/
def cutL (c : List Ver) (t : Int) : List Ver :=
  match (c.filter fun v => decide (v.at_ ≤ t)).length with
  | 0 => c
  | n + 1 => if ((c[n]?).map (·.gone)).getD false then c.drop (n + 1) else c.drop n
theorem cut_of {c : List Ver} {t : Int} {k : Nat} (hk : k < c.length) (h : (c.filter fun v => decide (v.at_ ≤ t)) = c.take (k + 1)) : cutL c t = if c[k].gone then c.drop (k + 1) else c.drop k := by
  have : (c.filter fun v => decide (v.at_ ≤ t)).length = k + 1 := by rw [h]; simp; omega
  unfold cutL
  rw [this]
  simp [hk]
theorem Found.cut_eq {c : List Ver} {t : Int} {k : Nat} (hs : Srt c) (h : Found c t k) (hk : k < c.length) (he : c[k].at_ = t) : cutL c t = if c[k].gone then c.drop (k + 1) else c.drop k := by
  have := h.upto hs
  rw [if_pos ⟨hk, he⟩] at this
  exact cut_of hk this
theorem Found.cut_lt {c : List Ver} {t : Int} {k : Nat} (hs : Srt c) (h : Found c t (k + 1)) (hn : ¬ ∃ hk : k + 1 < c.length, c[k + 1].at_ = t) : cutL c t = if (c[k]'(by have := h.le; omega)).gone then c.drop (k + 1) else c.drop k := by
  have := h.upto hs
  rw [if_neg hn] at this
  exact cut_of (by have := h.le; omega) this
theorem Found.cut_zero {c : List Ver} {t : Int} (hs : Srt c) (h : Found c t 0) (hn : ¬ ∃ hk : 0 < c.length, c[0].at_ = t) : cutL c t = c := by
  have := h.upto hs
  rw [if_neg hn] at this
  unfold cutL
  rw [this]
  rfl
end Go.Sm
/- Chains: the comparison, the search. -/
set_option linter.unusedVariables false
set_option linter.unusedSimpArgs false
namespace Go.Sm
open Go Go.Proofs
set_option maxRecDepth 100000
set_option maxHeartbeats 1000000
def encV (v : Ver) : List Value := [.int .u64 v.at_, .string v.val, .bool v.gone]
def ordV (t : Int) (v : Ver) : Int := if v.at_ < t then -1 else if t < v.at_ then 1 else 0
theorem order_spec (t : Int) (v : Ver) (σ : CSt) (Q : Out → CSt → Prop) (h : ∀ σ', Grow σ σ' → Q (.ret (.int .i64 (ordV t v)) false) σ') : W E1 (.fn 46 #[.agg (encV v).toArray, .int .u64 t] none) σ Q := by
  rw [W_fn (fn := Tryz.f46) Tryz.func46 rfl rfl rfl]
  have hg := h _ ((Grow.refl σ).alloc (CObj.cells (encV v) 29 false))
  simp only [encV, ordV] at hg
  simp [wops_cons, encV]
  by_cases h1 : v.at_ < t
  · simpa [h1] using hg
  · by_cases h2 : t < v.at_
    · simpa [h1, h2] using hg
    · simpa [h1, h2] using hg
theorem mid_eq (lo hi : Int) (h1 : 0 ≤ lo) (h2 : lo < hi) (h3 : hi < 2 ^ 62) : IntKind.i64.wrap ((IntKind.u64.wrap (IntKind.i64.wrap (lo + hi))).fdiv (2 ^ min 1 IntKind.u64.bits)) = (lo + hi) / 2 := by
  rw [IntWalk.i64_in (lo + hi) (by omega), IntWalk.u64_in _ (by omega)]
  have : (2 ^ min 1 IntKind.u64.bits : Int) = 2 := by decide
  rw [this, Int.fdiv_eq_ediv_of_nonneg _ (by omega), IntWalk.i64_in _ (by omega)]
theorem search_29 (l : List Ver) (v key : Value) (hkey : flat0 key = true) (ord : Ver → Int) (σ : CSt) (hsl : Sl σ 29 3 encV v l) (hbig : l.length < 2 ^ 40)
    (hcmp : ∀ (x : Ver) (σ : CSt) (Q : Out → CSt → Prop), (∀ σ', Grow σ σ' → Q (.ret (.int .i64 (ord x)) false) σ') → W E1 (.fn 46 #[.agg (encV x).toArray, key] none) σ Q)
    (hmono : ∀ j k (hj : j < l.length) (hk : k < l.length), j < k → ord l[k] < 0 → ord l[j] < 0) (Q : Out → CSt → Prop)
    (h : ∀ (k : Nat) (σ' : CSt), Cut ord l k → Grow σ σ' → Q (.ret (.tuple #[.int .i64 k, .bool (decide (∃ h : k < l.length, ord l[k] = 0))]) false) σ') :
    W E1 (.fn 45 #[v, key, .func (.func 46) #[] #[]] none) σ Q := by
  rw [W_fn (fn := Tryz.f45) Tryz.func45 rfl rfl rfl]
  rcases hsl with ⟨rfl, rfl⟩ | ⟨i, off, cap, row, ro, rfl, hg, hin, hrow, hlen, hcap⟩
  · have := h 0 σ ⟨Nat.le_refl _, by simp, by simp⟩ (Grow.refl σ)
    simp [wops_cons]
    rw [W_loop]
    simp [wops_cons, wops_if', dstOf]
    have e : decide (∃ h : 0 < ([] : List Ver).length, ord ([] : List Ver)[0] = 0) = false := decide_eq_false fun ⟨h, _⟩ => absurd h (by simp)
    rw [e] at this
    exact this
  simp [wops_cons]
  refine W_loop_inv (fun n a σ' => ∃ tm lo hi, a = ⟨tm, 49, [], false⟩ ∧ tm.get 0 = some (.slice (some ⟨i, off, none⟩) l.length cap) ∧ tm.get 1 = some key ∧ tm.get 2 = some (.func (.func 46) #[] #[]) ∧ tm.get 8 = some (.int .i64 l.length) ∧ tm.get 9 = some (.int .i64 lo) ∧ tm.get 10 = some (.int .i64 hi) ∧
      (0 ≤ lo ∧ lo ≤ hi ∧ hi ≤ l.length ∧ n = (hi - lo).toNat ∧ (∀ j (h : j < l.length), (j : Int) < lo → ord l[j] < 0) ∧ (∀ j (h : j < l.length), hi ≤ j → 0 ≤ ord l[j])) ∧ Grow σ σ') ?_ l.length _ _ ?_
  · rintro n a σ' ⟨tm, lo, hi, rfl, h0, h1, h2, h8, h9, h10, ⟨hlo, hlh, hhi, hn, hl, hr⟩, hgr⟩
    have hgi := hgr.get hg hin
    by_cases hlt : lo < hi
    · have hm := mid_eq lo hi hlo hlt (by omega)
      obtain ⟨m, hmm⟩ : ∃ m : Nat, (lo + hi) / 2 = m := ⟨((lo + hi) / 2).toNat, by omega⟩
      have hm1 : m < l.length := by omega
      have hm2 : lo ≤ m ∧ (m : Int) < hi := by omega
      rw [hmm] at hm
      have hld := row_get (enc := encV) (fun _ => rfl) hrow m hm1
      have hle := row_le hlen m hm1
      have hw := i64n1 m (by omega)
      simp [wops_cons, h0, h1, h2, h8, h9, h10, hlt, hm, hm1, hgi, hld, hle, -List.length_flatMap]
      refine hcmp _ _ _ fun σ'' hgr2 => ?_
      by_cases hc : ord l[m] < 0
      · simp [wops_cons, hc, hw]
        refine ⟨_, ?_, h0, h1, h2, h8, hi, h10, ⟨by omega, by omega, hhi, rfl, fun j hjl hj => ?_, hr⟩, hgr.trans hgr2⟩
        · omega
        · by_cases hj' : j = m
          · subst hj'; exact hc
          · exact hmono j m hjl hm1 (by omega) hc
      · simp [wops_cons, hc]
        refine ⟨_, ?_, h0, h1, h2, h8, lo, h9, ⟨hlo, by omega, by omega, rfl, hl, fun j hjl hj => ?_⟩, hgr.trans hgr2⟩
        · omega
        · by_cases hj' : j = m
          · subst hj'; omega
          · have := hmono m j hm1 hjl (by omega)
            omega
    · obtain ⟨k, rfl⟩ := Int.eq_ofNat_of_zero_le hlo
      have hk : hi = k := by omega
      have hcut : Cut ord l k := ⟨by omega, fun j hj h => hl j hj (by omega), fun j hj h => hr j hj (by omega)⟩
      by_cases hkl : k < l.length
      · have hld := row_get (enc := encV) (fun _ => rfl) hrow k hkl
        have hle := row_le hlen k hkl
        simp [wops_cons, wops_if', dstOf, h0, h1, h2, h8, h9, h10, hlt, hkl, hgi, hld, hle, -List.length_flatMap]
        refine hcmp _ _ _ fun σ'' hgr2 => ?_
        have := h k σ'' hcut (hgr.trans hgr2)
        simp [wops_cons, wops_if', dstOf, hkl] at this ⊢
        exact this
      · have := h k σ' hcut hgr
        simp [wops_cons, wops_if', dstOf, h0, h1, h2, h8, h9, h10, hlt, hkl] at this ⊢
        exact this
  · refine ⟨_, 0, l.length, rfl, ?_⟩
    simp
    exact ⟨⟨fun j _ h => by omega, fun j h1 h2 => by omega⟩, Grow.refl σ⟩

end Go.Sm
/- Chains: copies, a version more. -/
set_option linter.unusedVariables false
set_option linter.unusedSimpArgs false
namespace Go.Sm
open Go Go.Proofs
set_option maxRecDepth 100000
set_option maxHeartbeats 1000000
theorem clone_29 (l : List Ver) (v : Value) (σ : CSt) (hsl : Sl σ 29 3 encV v l) (hbig : l.length < 2 ^ 40) (Q : Out → CSt → Prop)
    (h : ∀ (v' : Value) (σ' : CSt), Own σ.n σ' 29 encV v' l → Grow σ σ' → Q (.ret v' false) σ') : W E1 (.fn 18 #[v] none) σ Q := by
  rw [W_fn (fn := Tryz.f18) Tryz.func18 rfl rfl rfl]
  have h0 : (0 : Nat) ≠ openCap := by simp [openCap]
  rcases hsl with ⟨rfl, rfl⟩ | ⟨i, off, cap, row, ro, rfl, hg, hin, hrow, hlen, hcap⟩
  · have := h _ σ Own.nil (Grow.refl σ)
    simpa [wops_cons] using this
  by_cases hl : l.length = 0
  · have hnil : l = [] := List.eq_nil_of_length_eq_zero hl
    subst hnil
    have := h (.slice (some ⟨σ.n, 0, none⟩) 0 0) (σ.alloc (.cells [] 29 false)) (.inr ⟨σ.n, 0, rfl, Nat.le_refl _, by simp, by simp, .inr ⟨rfl, rfl⟩⟩) ((Grow.refl σ).alloc _)
    have hin' : ¬ i = σ.n := by omega
    have hoff : off ≤ row.length := by simp at hlen; omega
    simpa [wops_cons, appendOp_K, appK, appendF, hg, h0, hin', hoff] using this
  · have hn0 : ¬ l = [] := by rintro rfl; simp at hl
    have hb : l.length * 32 ≤ 140737488355328 := by omega
    have hrl : ((l.flatMap encV).length : Nat) = l.length * 3 := enc_length encV (fun _ => rfl) l
    have hck : cokL (l.flatMap encV) = true := cokL_enc (fun _ => rfl) l
    have := h (.slice (some ⟨σ.n + 1, 0, none⟩) l.length openCap) ((σ.alloc (.cells [] 29 false)).alloc (.cells (l.flatMap encV) 29 false))
      (.inr ⟨σ.n + 1, openCap, rfl, by omega, by simp, by simp, .inl rfl⟩) (((Grow.refl σ).alloc _).alloc _)
    have hin' : ¬ i = σ.n := by omega
    simpa [wops_cons, appendOp_K, appK, appendF, hg, h0, hin', hlen, hrow, hrl, hl, hb, hck, hn0, -List.length_flatMap] using this
theorem ins_own_29 (b : Nat) (l : List Ver) (x : Ver) (a : Nat) (ha : a ≤ l.length) (v : Value) (σ : CSt) (hb : b ≤ σ.n) (hown : Own b σ 29 encV v l) (j : Nat) (hj : σ.get j = some (.cells (encV x) 29 false))
    (hji : ∀ i off n c, v = .slice (some ⟨i, off, none⟩) n c → i ≠ j) (hbig : l.length < 2 ^ 40) (Q : Out → CSt → Prop)
    (h : ∀ (v' : Value) (σ' : CSt), Own b σ' 29 encV v' (l.take a ++ x :: l.drop a) → GrowB b σ σ' → Q (.ret v' false) σ') :
    W E1 (.fn 47 #[v, .int .i64 a, .slice (some ⟨j, 0, none⟩) 1 1] none) σ Q := by
  have hxl : (encV x).length = 3 := rfl
  rcases hown with ⟨rfl, rfl⟩ | ⟨i, cap, rfl, hbi, hin, hg, hcap⟩
  · have ha0 : a = 0 := by simpa using ha
    subst ha0
    rw [Int.natCast_zero, W_gam (E := E1) (f := 47) (g := insG 29 3 32) rfl rfl (v := .slice (some ⟨σ.n, 0, none⟩) 1 openCap) (σ' := σ.alloc (.cells (encV x) 29 false)) (insG_nil hj rfl rfl (by omega))]
    exact h _ _ (.inr ⟨σ.n, openCap, rfl, hb, by simp, by simp, .inl rfl⟩) ((GrowB.refl b σ).alloc hb _)
  · have hij := hji i 0 _ _ rfl
    have hrl : (l.flatMap encV).length = l.length * 3 := enc_length encV (fun _ => rfl) l
    have hck : cokL (l.flatMap encV) = true := cokL_enc (fun _ => rfl) l
    rcases hcap with rfl | ⟨rfl, rfl⟩
    · have he := insRow_enc (enc := encV) (l := l) (sz := 3) (fun _ => rfl) a ha x
      rw [W_gam (E := E1) (f := 47) (g := insG 29 3 32) rfl rfl (v := .slice (some ⟨σ.n, 0, none⟩) (l.length + 1) openCap) (σ' := (σ.put i .dead).alloc (.cells ((l.take a ++ x :: l.drop a).flatMap encV) 29 false)) (by
        rw [insG_some (sz := 3) hg hj rfl rfl (by omega) (by omega) hij (by omega) (cokL_take hck _) (by omega) (by omega) hbig, if_pos rfl, ← he]
        rfl)]
      refine h _ _ (.inr ⟨σ.n, openCap, ?_, hb, by simp, by simp, .inl rfl⟩) (((GrowB.refl b σ).put hbi _).alloc hb _)
      have : (l.take a ++ x :: l.drop a).length = l.length + 1 := by simp; omega
      rw [this]
    · have ha0 : a = 0 := by simpa using ha
      subst ha0
      rw [Int.natCast_zero, W_gam (E := E1) (f := 47) (g := insG 29 3 32) rfl rfl (v := .slice (some ⟨σ.n, 0, none⟩) 1 openCap) (σ' := σ.alloc (.cells (encV x) 29 false)) (by
        have hg' : σ.get i = some (.cells [] 29 false) := hg
        exact (insG_some (sz := 3) (n := 0) hg' hj rfl rfl (by omega) (by omega) hij (by simp) (by simp) (by omega) (by omega) (by omega)).trans ((if_neg (by simp [openCap])).trans (if_pos ⟨rfl, rfl⟩)))]
      exact h _ _ (.inr ⟨σ.n, openCap, rfl, hb, by simp, by simp, .inl rfl⟩) ((GrowB.refl b σ).alloc hb _)

end Go.Sm
/- Chains: Put, At, Purge. -/
set_option linter.unusedVariables false
set_option linter.unusedSimpArgs false
namespace Go.Sm
open Go Go.Proofs
set_option maxRecDepth 100000
set_option maxHeartbeats 1000000
theorem ordV_lt (t : Int) (v : Ver) : ordV t v < 0 ↔ v.at_ < t := by
  unfold ordV
  by_cases h1 : v.at_ < t
  · simp [h1]
  · by_cases h2 : t < v.at_ <;> simp [h1, h2]
theorem ordV_eq (t : Int) (v : Ver) : ordV t v = 0 ↔ v.at_ = t := by
  unfold ordV
  by_cases h1 : v.at_ < t
  · simp [h1]; omega
  · by_cases h2 : t < v.at_
    · simp [h1, h2]; omega
    · simp [h1, h2]; omega
theorem Cut.found {c : List Ver} {t : Int} {k : Nat} (h : Cut (ordV t) c k) : Found c t k := by
  refine ⟨h.le, fun v hv => ?_, fun v hv => ?_⟩
  · obtain ⟨j, hj, rfl⟩ := List.mem_iff_getElem.1 hv
    simp only [List.length_take] at hj
    have := h.lo j (by omega) (by omega)
    rw [ordV_lt] at this
    simpa using this
  · obtain ⟨j, hj, rfl⟩ := List.mem_iff_getElem.1 hv
    simp only [List.length_drop] at hj
    have := h.hi (k + j) (by omega) (by omega)
    simp only [List.getElem_drop]
    have h2 := ordV_lt t c[k + j]
    omega
theorem Srt.get_lt {c : List Ver} (h : Srt c) {j k : Nat} (hj : j < c.length) (hk : k < c.length) (hjk : j < k) : c[j].at_ < c[k].at_ := List.pairwise_iff_getElem.1 h j k hj hk hjk
theorem Srt.mono {c : List Ver} (h : Srt c) (t : Int) : ∀ j k (hj : j < c.length) (hk : k < c.length), j < k → ordV t c[k] < 0 → ordV t c[j] < 0 := by
  intro j k hj hk hjk ho
  rw [ordV_lt] at ho ⊢
  have := h.get_lt hj hk hjk
  omega
/-- Where a version of a time stands. -/
theorem find_chain (c : List Ver) (hs : Srt c) (v : Value) (t : Int) (σ : CSt) (hsl : Sl σ 29 3 encV v c) (hbig : c.length < 2 ^ 40) (Q : Out → CSt → Prop)
    (h : ∀ (k : Nat) (σ' : CSt), Found c t k → Grow σ σ' → Q (.ret (.tuple #[.int .i64 k, .bool (decide (∃ h : k < c.length, c[k].at_ = t))]) false) σ') :
    W E1 (.fn 45 #[v, .int .u64 t, .func (.func 46) #[] #[]] none) σ Q := by
  refine search_29 c v _ rfl (ordV t) σ hsl hbig (fun x σ Q h => order_spec t x σ Q h) (hs.mono t) Q fun k σ' hc hg => ?_
  have := h k σ' hc.found hg
  simpa only [ordV_eq] using this
theorem put_spec (c : List Ver) (hs : Srt c) (v : Value) (x : Ver) (σ : CSt) (hsl : Sl σ 29 3 encV v c) (hbig : c.length < 2 ^ 39) (Q : Out → CSt → Prop)
    (h : ∀ (v' : Value) (σ' : CSt), Own σ.n σ' 29 encV v' (putL c x) → Grow σ σ' → Q (.ret v' false) σ') : W E1 (.fn 19 #[v, .agg (encV x).toArray] none) σ Q := by
  rw [W_fn (fn := Tryz.f19) Tryz.func19 rfl rfl rfl]
  simp [wops_cons, encV]
  refine find_chain c hs v x.at_ _ (hsl.grow ((Grow.refl σ).alloc _)) (by omega) _ fun k σ1 hf hg1 => ?_
  have hg1' : Grow σ σ1 := ((Grow.refl σ).alloc _).trans hg1
  have hb1 : σ1.get σ.n = some (.cells (encV x) 29 false) := hg1.get (by simp [encV]) (by simp)
  simp [wops_cons]
  refine clone_29 c v σ1 (hsl.grow hg1') (by omega) _ fun v2 σ2 hown hg2 => ?_
  have hb2 : σ2.get σ.n = some (.cells (encV x) 29 false) := hg2.get hb1 (by have := hg1.n; simp at this; omega)
  have hn1 : σ.n + 1 ≤ σ1.n := by have := hg1.n; simpa using this
  have hg2' := hg1'.trans hg2
  by_cases hfo : ∃ hk : k < c.length, c[k].at_ = x.at_
  · obtain ⟨hk, he⟩ := hfo
    rw [decide_eq_true ⟨hk, he⟩]
    rcases hown with ⟨rfl, rfl⟩ | ⟨i, cap, rfl, hbi, hin, hgi, hcap⟩
    · simp at hk
    · have hki : (k : Int) < c.length := by omega
      have hlen : k * 3 + 3 ≤ (c.flatMap encV).length := by rw [enc_length encV (n := 3) (fun _ => rfl)]; omega
      have hset := enc_set encV (n := 3) (fun _ => rfl) c k x hk
      simp only [encV] at hset hb2
      simp [wops_cons, hgi, hk, hb2, hlen, -List.length_flatMap, -List.append_assoc, -List.cons_append]
      rw [hset]
      rw [hf.put_set hs hk he] at h
      have hl : (c.set k x).length = c.length := by simp
      refine h _ _ (.inr ⟨i, cap, by rw [hl], by omega, by simpa using hin, by simp, ?_⟩) (hg2'.put (by omega) _)
      rcases hcap with rfl | ⟨rfl, rfl⟩
      · exact .inl rfl
      · simp at hk
  · rw [decide_eq_false hfo]
    simp only [encV] at hb2
    simp [wops_cons, hb2]
    rw [hf.put_ins hs (fun hk he => hfo ⟨hk, he⟩)] at h
    have hji : ∀ i off n c, v2 = .slice (some ⟨i, off, none⟩) n c → i ≠ σ2.n := by
      rintro i off n c rfl
      rcases hown with ⟨h0, _⟩ | ⟨i', cap, h0, _, h1, _⟩
      · cases h0
      · cases h0; omega
    refine ins_own_29 σ1.n c x k hf.le v2 _ (by simp; have := hg2.n; omega) (hown.grow ((Grow.refl σ2).alloc _)) σ2.n (by simp [encV]) hji (by omega) _ fun v3 σ3 ho3 hg3 => ?_
    simp [wops_cons]
    refine h _ _ (ho3.weaken (by omega)) (Grow.thenB (hg2'.alloc _) hg3 (by omega))
/-- The last version up to a time; none. -/
def retV2 (o : Option Ver) : Value := match o with
  | some v => .tuple #[.agg (encV v).toArray, .bool true]
  | none => .tuple #[.agg #[.int .u64 0, .string ⟨#[]⟩, .bool false], .bool false]
theorem at_spec (c : List Ver) (hs : Srt c) (v : Value) (t : Int) (σ : CSt) (hsl : Sl σ 29 3 encV v c) (hbig : c.length < 2 ^ 39) (Q : Out → CSt → Prop)
    (h : ∀ (σ' : CSt), Grow σ σ' → Q (.ret (retV2 (atL c t)) false) σ') : W E1 (.fn 22 #[v, .int .u64 t] none) σ Q := by
  rw [W_fn (fn := Tryz.f22) Tryz.func22 rfl rfl rfl]
  simp [wops_cons]
  refine find_chain c hs v t _ (hsl.grow ((Grow.refl σ).alloc _)) (by omega) _ fun k σ1 hf hg1 => ?_
  have hg1' : Grow σ σ1 := ((Grow.refl σ).alloc _).trans hg1
  have hb1 := hg1.get (i := σ.n) (o := .cells [.int .u64 0, .string ⟨#[]⟩, .bool false] 29 false) (by simp) (by simp)
  have hsl1 := hsl.grow hg1'
  have fin := h _ (hg1'.put (Nat.le_refl σ.n) (.cells ((atL c t).elim [.int .u64 0, .string ⟨#[]⟩, .bool false] encV) 29 false))
  by_cases hfo : ∃ hk : k < c.length, c[k].at_ = t
  · rw [decide_eq_true hfo]
    obtain ⟨hk, he⟩ := hfo
    rw [hf.at_eq hs hk he] at fin
    rcases hsl1 with ⟨rfl, rfl⟩ | ⟨i, off, cap, row, ro, rfl, hg, hin, hrow, hlen, hcap⟩
    · simp at hk
    · have hld := row_get (enc := encV) (fun _ => rfl) hrow k hk
      have hle := row_le hlen k hk
      have hk0 : ¬ (k : Int) < 0 := by omega
      simp only [retV2, encV, Option.elim] at fin hld
      simpa [wops_cons, hg, hk, hk0, hld, hle, hb1] using fin
  · rw [decide_eq_false hfo]
    cases k with
    | zero =>
      rw [hf.at_zero hs hfo] at fin
      simp only [retV2, Option.elim] at fin
      have hw : IntKind.i64.wrap (-1) = -1 := by decide
      simpa [wops_cons, hb1, hw] using fin
    | succ k =>
      rw [hf.at_lt hs hfo] at fin
      have hk : k < c.length := by have := hf.le; omega
      rcases hsl1 with ⟨rfl, rfl⟩ | ⟨i, off, cap, row, ro, rfl, hg, hin, hrow, hlen, hcap⟩
      · simp at hk
      · have hld := row_get (enc := encV) (fun _ => rfl) hrow k hk
        have hle := row_le hlen k hk
        have hk0 : ¬ (k : Int) < 0 := by omega
        have hw := i64n k (by omega)
        simp only [retV2, encV, Option.elim] at fin hld
        simpa [wops_cons, hg, hk, hk0, hld, hle, hb1, hw] using fin
theorem purge_spec (c : List Ver) (hs : Srt c) (v : Value) (t : Int) (σ : CSt) (hsl : Sl σ 29 3 encV v c) (hbig : c.length < 2 ^ 39) (Q : Out → CSt → Prop)
    (h : ∀ (v' : Value) (σ' : CSt), Own σ.n σ' 29 encV v' (cutL c t) → Grow σ σ' → Q (.ret v' false) σ') : W E1 (.fn 21 #[v, .int .u64 t] none) σ Q := by
  rw [W_fn (fn := Tryz.f21) Tryz.func21 rfl rfl rfl]
  simp [wops_cons]
  refine find_chain c hs v t _ hsl (by omega) _ fun k σ1 hf hg1 => ?_
  have hsl1 := hsl.grow hg1
  -- behind the place
  have part : ∀ (m : Nat) (v' : Value), Sl σ1 29 3 encV v' (c.drop m) → cutL c t = c.drop m → W E1 (.fn 18 #[v'] none) σ1 (fun o σ' => ∃ v'', o = .ret v'' false ∧ Q (.ret v'' false) σ') := by
    intro m v' hsl' hc
    refine clone_29 (c.drop m) v' σ1 hsl' (by simp; omega) _ fun v2 σ2 hown hg2 => ⟨v2, rfl, ?_⟩
    rw [hc] at h
    exact h _ _ (hown.weaken hg1.n) (hg1.trans hg2)
  have go : ∀ (m : Nat) (v' : Value) (K : Out → CSt → Prop), Sl σ1 29 3 encV v' (c.drop m) → cutL c t = c.drop m → (∀ v'' σ', Q (.ret v'' false) σ' → K (.ret v'' false) σ') → W E1 (.fn 18 #[v'] none) σ1 K :=
    fun m v' K h1 h2 h3 => (part m v' h1 h2).weaken fun o s ⟨v'', e, hq⟩ => e ▸ h3 _ _ hq
  by_cases hfo : ∃ hk : k < c.length, c[k].at_ = t
  · rw [decide_eq_true hfo]
    obtain ⟨hk, he⟩ := hfo
    have hcut := hf.cut_eq hs hk he
    rcases hsl1 with ⟨rfl, rfl⟩ | ⟨i, off, cap, row, ro, rfl, hg, hin, hrow, hlen, hcap⟩
    · simp at hk
    · have hcell := row_cell (enc := encV) (fun _ => rfl) hrow k 2 hk (by omega)
      have hk0 : ¬ (k : Int) < 0 := by omega
      have hw := i64n1 k (by omega)
      have hw0 := i64n k (by omega)
      have hp : (0 : Int) ≤ (k : Int) + 1 ∧ ((k : Int) + 1).toNat = k + 1 := by omega
      have hsub : ∀ m, m ≤ c.length → ∀ cap', (cap' = openCap ∨ (c.length - m ≤ cap' ∧ cap' < openCap)) → ∀ off', (c.length - m = 0 ∨ off' = off + m * 3) → off' ≤ off + m * 3 → Sl σ1 29 3 encV (.slice (some ⟨i, off', none⟩) (c.length - m) cap') (c.drop m) := by
        intro m hm cap' hc' off' ho ho2
        have hml : m * 3 ≤ c.length * 3 := by omega
        refine .inr ⟨i, off', cap', row, ro, by simp, hg, hin, ?_, by simp; omega, by simpa using hc'⟩
        rcases ho with ho | rfl
        · rw [List.drop_of_length_le (by omega)]; simp
        · exact row_drop (enc := encV) (fun _ => rfl) hrow m hm
      simp only [encV] at hcell
      simp at hcell
      cases hgo : c[k].gone with
      | true =>
        rw [if_pos hgo] at hcut
        rw [hgo] at hcell
        rcases hcap with rfl | ⟨hc1, hc2⟩
        · simp [wops_cons, hg, hk, hk0, hcell, hw, hw0, hp, sliceOp_open, sliceO, Nat.succ_le_of_lt hk]
          exact go (k + 1) _ _ (hsub (k + 1) (by omega) _ (.inl rfl) _ (.inr rfl) (Nat.le_refl _)) hcut fun v'' σ' hq => by simpa [wops_cons] using hq
        · have hne : cap ≠ openCap := by omega
          have hq1 : k + 1 ≤ c.length ∧ c.length ≤ cap ∧ cap < openCap := by omega
          simp [wops_cons, hg, hk, hk0, hcell, hw, hw0, hp, sliceOp_cap, sliceC, hne, hq1]
          refine go (k + 1) _ _ (hsub (k + 1) (by omega) _ (.inr ⟨by omega, by omega⟩) _ ?_ ?_) hcut fun v'' σ' hq => by simpa [wops_cons] using hq
          · split
            · left; omega
            · right; rfl
          · split <;> omega
      | false =>
        rw [if_neg (by simp [hgo])] at hcut
        rw [hgo] at hcell
        rcases hcap with rfl | ⟨hc1, hc2⟩
        · simp [wops_cons, hg, hk, hk0, hcell, hw0, sliceOp_open, sliceO, Nat.le_of_lt hk]
          exact go k _ _ (hsub k (by omega) _ (.inl rfl) _ (.inr rfl) (Nat.le_refl _)) hcut fun v'' σ' hq => by simpa [wops_cons] using hq
        · have hne : cap ≠ openCap := by omega
          have hq1 : k ≤ c.length ∧ c.length ≤ cap ∧ cap < openCap := by omega
          simp [wops_cons, hg, hk, hk0, hcell, hw0, sliceOp_cap, sliceC, hne, hq1]
          refine go k _ _ (hsub k (by omega) _ (.inr ⟨by omega, by omega⟩) _ ?_ ?_) hcut fun v'' σ' hq => by simpa [wops_cons] using hq
          · split
            · left; omega
            · right; rfl
          · split <;> omega
  · rw [decide_eq_false hfo]
    cases k with
    | zero =>
      have hcut := hf.cut_zero hs hfo
      have hw : IntKind.i64.wrap (-1) = -1 := by decide
      simp [wops_cons, hw]
      exact go 0 v _ (by simpa using hsl1) (by simpa using hcut) fun v'' σ' hq => by simpa [wops_cons] using hq
    | succ k =>
      have hk : k < c.length := by have := hf.le; omega
      have hcut := hf.cut_lt hs hfo
      rcases hsl1 with ⟨rfl, rfl⟩ | ⟨i, off, cap, row, ro, rfl, hg, hin, hrow, hlen, hcap⟩
      · simp at hk
      · have hcell := row_cell (enc := encV) (fun _ => rfl) hrow k 2 hk (by omega)
        have hk0 : ¬ (k : Int) < 0 := by omega
        have hw := i64n1 k (by omega)
        have hw0 := i64n k (by omega)
        have hp : (0 : Int) ≤ (k : Int) + 1 ∧ ((k : Int) + 1).toNat = k + 1 := by omega
        have hsub : ∀ m, m ≤ c.length → ∀ cap', (cap' = openCap ∨ (c.length - m ≤ cap' ∧ cap' < openCap)) → ∀ off', (c.length - m = 0 ∨ off' = off + m * 3) → off' ≤ off + m * 3 → Sl σ1 29 3 encV (.slice (some ⟨i, off', none⟩) (c.length - m) cap') (c.drop m) := by
          intro m hm cap' hc' off' ho ho2
          have hml : m * 3 ≤ c.length * 3 := by omega
          refine .inr ⟨i, off', cap', row, ro, by simp, hg, hin, ?_, by simp; omega, by simpa using hc'⟩
          rcases ho with ho | rfl
          · rw [List.drop_of_length_le (by omega)]; simp
          · exact row_drop (enc := encV) (fun _ => rfl) hrow m hm
        simp only [encV] at hcell
        simp at hcell
        cases hgo : c[k].gone with
        | true =>
          rw [if_pos hgo] at hcut
          rw [hgo] at hcell
          rcases hcap with rfl | ⟨hc1, hc2⟩
          · simp [wops_cons, hg, hk, hk0, hcell, hw, hw0, hp, sliceOp_open, sliceO, Nat.succ_le_of_lt hk]
            exact go (k + 1) _ _ (hsub (k + 1) (by omega) _ (.inl rfl) _ (.inr rfl) (Nat.le_refl _)) hcut fun v'' σ' hq => by simpa [wops_cons] using hq
          · have hne : cap ≠ openCap := by omega
            have hq1 : k + 1 ≤ c.length ∧ c.length ≤ cap ∧ cap < openCap := by omega
            simp [wops_cons, hg, hk, hk0, hcell, hw, hw0, hp, sliceOp_cap, sliceC, hne, hq1]
            refine go (k + 1) _ _ (hsub (k + 1) (by omega) _ (.inr ⟨by omega, by omega⟩) _ ?_ ?_) hcut fun v'' σ' hq => by simpa [wops_cons] using hq
            · split
              · left; omega
              · right; rfl
            · split <;> omega
        | false =>
          rw [if_neg (by simp [hgo])] at hcut
          rw [hgo] at hcell
          rcases hcap with rfl | ⟨hc1, hc2⟩
          · simp [wops_cons, hg, hk, hk0, hcell, hw0, sliceOp_open, sliceO, Nat.le_of_lt hk]
            exact go k _ _ (hsub k (by omega) _ (.inl rfl) _ (.inr rfl) (Nat.le_refl _)) hcut fun v'' σ' hq => by simpa [wops_cons] using hq
          · have hne : cap ≠ openCap := by omega
            have hq1 : k ≤ c.length ∧ c.length ≤ cap ∧ cap < openCap := by omega
            simp [wops_cons, hg, hk, hk0, hcell, hw0, sliceOp_cap, sliceC, hne, hq1]
            refine go k _ _ (hsub k (by omega) _ (.inr ⟨by omega, by omega⟩) _ ?_ ?_) hcut fun v'' σ' hq => by simpa [wops_cons] using hq
            · split
              · left; omega
              · right; rfl
            · split <;> omega
end Go.Sm
/- Two structs of plain cells against each other. -/
set_option linter.unusedVariables false
set_option linter.unusedSimpArgs false
namespace Go.Sm
open Go

theorem ba_eq {a b : ByteArray} (h : (a == b) = true) : a = b := by
  have h2 : (a.data == b.data) = true := h
  have h3 : a.data = b.data := eq_of_beq h2
  cases a; cases b
  cases h3
  rfl
theorem ba_self (a : ByteArray) : (a == a) = true := by
  have : (a.data == a.data) = true := beq_self_eq_true _
  exact this
def KK : PK → Value → Prop
  | .int k, v => ∃ n, v = .int k n
  | .bool, v => ∃ b, v = .bool b
  | .str, v => ∃ s, v = .string s
def KL : List PK → List Value → Prop
  | [], [] => True
  | k :: ks, v :: vs => KK k v ∧ KL ks vs
  | _, _ => False
theorem KL.length : ∀ {ks : List PK} {vs : List Value}, KL ks vs → vs.length = ks.length
  | [], [], _ => rfl
  | _ :: ks, _ :: vs, h => by simp [KL.length h.2]
theorem KL.split : ∀ {ks ls : List PK} {vs : List Value}, KL (ks ++ ls) vs → KL ks (vs.take ks.length) ∧ KL ls (vs.drop ks.length)
  | [], _, vs, h => ⟨by simp [KL], by simpa using h⟩
  | _ :: ks, ls, v :: vs, h => by
    obtain ⟨h1, h2⟩ := KL.split (ks := ks) (ls := ls) (vs := vs) h.2
    exact ⟨⟨h.1, h1⟩, h2⟩

def eqOkF (P : Program) : Nat → TypeId → Bool
  | 0, _ => false
  | f + 1, t =>
    match P.underlying t with
    | some (.int _) | some .bool | some .string => true
    | some (.struct fs) => !P.stoodInHeld t && fs.toList.all fun fl => fl.name != "_" && eqOkF P f fl.type && ((P.info? fl.type).map (·.size) == some (P.cellsOf fl.type)) && decide (0 < P.cellsOf fl.type)
    | _ => false
def wrapV (P : Program) (t : TypeId) (xs : List Value) : Value := if isAggT P t then .agg xs.toArray else xs.getD 0 undef

section
variable {P : Program}
/-- A comparison of two structs of plain cells. -/
theorem pureRun_program : pureRun P program = some P := rfl
theorem pureRun_isAgg {t : TypeId} {d : TypeDesc} (h : P.underlying t = some d) : pureRun P (isAgg t) = some (isAggT P t) := by
  unfold isAgg isAggT
  rw [pureRun_bind, pureRun_underlying, h, Option.bind_some]
  cases d <;> rfl
theorem pureRun_sizeOf {t : TypeId} {n : Nat} (h : (P.info? t).map (·.size) = some n) : pureRun P (Go.sizeOf t) = some n := by
  unfold Go.sizeOf typeInfo
  rw [pureRun_bind, pureRun_bind, pureRun_program, Option.bind_some]
  cases hi : P.info? t with
  | none => rw [hi] at h; cases h
  | some i => rw [hi] at h; simp at h; simp [hi, h]
theorem kinds_und {f : Nat} {t : TypeId} {ks : List PK} (h : kindsF P f t = some ks) : ∃ d, P.underlying t = some d ∧ (isAggT P t = false → ks.length = 1) := by
  cases f with
  | zero => cases h
  | succ f =>
    unfold kindsF at h
    cases hu : P.underlying t with
    | none => rw [hu] at h; cases h
    | some d =>
      rw [hu] at h
      refine ⟨d, rfl, fun ha => ?_⟩
      cases d with
      | int k => cases h; rfl
      | bool => cases h; rfl
      | string => cases h; rfl
      | struct fs => simp [isAggT, hu] at ha
      | _ => cases h
/-- A part of a struct. -/
theorem part_wrap {f : Nat} {t : TypeId} {ks : List PK} (h : kindsF P f t = some ks) (hc : ks.length = P.cellsOf t) (hs : (P.info? t).map (·.size) = some (P.cellsOf t)) {xs : List Value} {off : Nat} (hl : off + ks.length ≤ xs.length) :
    pureRun P (part t xs.toArray off) = some (wrapV P t ((xs.drop off).take ks.length)) := by
  obtain ⟨d, hu, h1⟩ := kinds_und h
  unfold part wrapV
  rw [pureRun_bind, pureRun_isAgg hu, Option.bind_some]
  cases ha : isAggT P t with
  | true =>
    simp only [if_true]
    rw [pureRun_bind, pureRun_sizeOf hs, Option.bind_some, hc]
    have : xs.toArray.extract off (off + P.cellsOf t) = ((xs.drop off).take (P.cellsOf t)).toArray := by
      rw [List.extract_toArray, List.extract_eq_take_drop]
      simp
    rw [this]
    rfl
  | false =>
    have h2 := h1 ha
    rw [h2] at hl ⊢
    have h3 : off < xs.length := by omega
    have h4 : xs.toArray[off]? = some xs[off] := by simp [h3]
    simp only [Bool.false_eq_true, if_false]
    rw [h4]
    have : ((xs.drop off).take 1).getD 0 undef = xs[off] := by
      rw [List.drop_eq_getElem_cons h3]
      rfl
    rw [this]
    rfl

theorem eq_loop {f d : Nat} (ih : ∀ t ks, kindsF P f t = some ks → eqOkF P f t = true → ∀ xs ys : List Value, KL ks xs → KL ks ys → ∃ b, pureRun P (Op.equalIn d t (wrapV P t xs) (wrapV P t ys)) = some b ∧ (b = true ↔ xs = ys)) {xs ys : List Value} :
    ∀ (l : List Field) (off : Nat) (ks : List PK), kindsL P (kindsF P f) l off = some ks → (∀ fl ∈ l, (fl.name != "_") = true ∧ eqOkF P f fl.type = true ∧ (P.info? fl.type).map (·.size) = some (P.cellsOf fl.type) ∧ 0 < P.cellsOf fl.type) → KL ks (xs.drop off) → KL ks (ys.drop off) →
      ∃ b : Bool, pureRun P (forIn l ((none, ()) : Option Bool × Unit) fun f __s => if f.name ≠ "_" then do
                let __do_lift ← part f.type xs.toArray f.offset
                let __do_lift_1 ← part f.type ys.toArray f.offset
                let __do_lift ← Op.equalIn d f.type __do_lift __do_lift_1
                if (!__do_lift) = true then pure (ForInStep.done (some false, ()))
                  else pure (ForInStep.yield (none, ()))
              else pure (ForInStep.yield (none, ()))) = some (if b = true then (none, ()) else (some false, ())) ∧ (b = true ↔ xs.drop off = ys.drop off)
  | [], off, ks, h, _, hx, hy => by
    simp only [kindsL, Option.some.injEq] at h
    subst h
    have e1 : xs.drop off = [] := List.eq_nil_of_length_eq_zero (by simpa using hx.length)
    have e2 : ys.drop off = [] := List.eq_nil_of_length_eq_zero (by simpa using hy.length)
    exact ⟨true, rfl, by simp [e1, e2]⟩
  | fl :: l, off, ks, h, hf, hx, hy => by
    unfold kindsL at h
    split at h
    · rename_i ho
      split at h
      · rename_i k1 hk1
        split at h
        · rename_i hc
          rw [Option.map_eq_some_iff] at h
          obtain ⟨k2, h2, rfl⟩ := h
          obtain ⟨f1, f2, f3, f4⟩ := hf fl (by simp)
          have f1' : fl.name ≠ "_" := by simpa using f1
          obtain ⟨x1, x2⟩ := hx.split
          obtain ⟨y1, y2⟩ := hy.split
          rw [List.drop_drop] at x2 y2
          have lx := hx.length
          have ly := hy.length
          simp only [List.length_append, List.length_drop] at lx ly
          have p1 := part_wrap hk1 hc f3 (xs := xs) (off := off) (by omega)
          have p2 := part_wrap hk1 hc f3 (xs := ys) (off := off) (by omega)
          obtain ⟨b1, g1, g2⟩ := ih _ _ hk1 f2 _ _ x1 y1
          obtain ⟨b2, g3, g4⟩ := eq_loop ih l (off + k1.length) k2 h2 (fun g hg => hf g (by simp [hg])) x2 y2
          rw [List.forIn_cons, pureRun_bind, if_pos f1', pureRun_bind, ho, p1, Option.bind_some, pureRun_bind, p2, Option.bind_some, pureRun_bind, g1, Option.bind_some]
          have hsplit : (xs.drop off = ys.drop off) ↔ ((xs.drop off).take k1.length = (ys.drop off).take k1.length ∧ xs.drop (off + k1.length) = ys.drop (off + k1.length)) := by
            constructor
            · intro e
              rw [← List.drop_drop, ← List.drop_drop, e]
              exact ⟨rfl, rfl⟩
            · rintro ⟨e1, e2⟩
              rw [← List.take_append_drop k1.length (xs.drop off), ← List.take_append_drop k1.length (ys.drop off), e1, List.drop_drop, List.drop_drop, e2]
          cases b1 with
          | false =>
            refine ⟨false, rfl, ?_⟩
            rw [hsplit]
            simp only [Bool.false_eq_true, false_iff] at g2 ⊢
            exact fun e => g2 e.1
          | true =>
            refine ⟨b2, g3, ?_⟩
            rw [hsplit, g4]
            simp only [true_iff] at g2
            exact ⟨fun e => ⟨g2, e⟩, fun e => e.2⟩
        · cases h
      · cases h
    · cases h

theorem eq_kinds : ∀ (f : Nat) (t : TypeId) (ks : List PK), kindsF P f t = some ks → eqOkF P f t = true → ∀ (d : Nat), f ≤ d → ∀ xs ys : List Value, KL ks xs → KL ks ys → ∃ b, pureRun P (Op.equalIn d t (wrapV P t xs) (wrapV P t ys)) = some b ∧ (b = true ↔ xs = ys)
  | 0, _, _, h, _, _, _, _, _, _, _ => by cases h
  | f + 1, t, ks, h, he, d, hd, xs, ys, hx, hy => by
    obtain ⟨d, rfl⟩ : ∃ d', d = d' + 1 := ⟨d - 1, by omega⟩
    unfold kindsF at h
    unfold eqOkF at he
    cases hu : P.underlying t with
    | none => rw [hu] at h; cases h
    | some dd =>
      rw [hu] at h he
      rw [Op.equalIn, pureRun_bind, pureRun_underlying, hu, Option.bind_some]
      cases dd with
      | int k =>
        cases h
        match xs, ys, hx, hy with
        | [x], [y], ⟨⟨n, hx⟩, _⟩, ⟨⟨m, hy⟩, _⟩ =>
          subst hx; subst hy
          refine ⟨n == m, ?_, by simp⟩
          simp [wrapV, isAggT, hu]
      | bool =>
        cases h
        match xs, ys, hx, hy with
        | [x], [y], ⟨⟨n, hx⟩, _⟩, ⟨⟨m, hy⟩, _⟩ =>
          subst hx; subst hy
          refine ⟨n == m, ?_, by simp⟩
          simp [wrapV, isAggT, hu]
      | string =>
        cases h
        match xs, ys, hx, hy with
        | [x], [y], ⟨⟨n, hx⟩, _⟩, ⟨⟨m, hy⟩, _⟩ =>
          subst hx; subst hy
          refine ⟨n == m, ?_, ⟨fun h => by rw [ba_eq h], fun h => by cases h; exact ba_self n⟩⟩
          simp [wrapV, isAggT, hu]
      | struct fs =>
        simp only at h
        split at h
        · rename_i k1 hk1
          split at h
          · rename_i hc
            cases h
            simp only [Bool.and_eq_true, Bool.not_eq_true', List.all_eq_true, beq_iff_eq, decide_eq_true_eq] at he
            obtain ⟨hs, hf⟩ := he
            obtain ⟨b, g1, g2⟩ := eq_loop (d := d) (fun t ks h1 h2 xs ys h3 h4 => eq_kinds f t ks h1 h2 d (by omega) xs ys h3 h4) (xs := xs) (ys := ys) fs.toList 0 ks hk1 (fun fl hfl => ⟨(hf fl hfl).1.1.1, (hf fl hfl).1.1.2, (hf fl hfl).1.2, (hf fl hfl).2⟩) (by simpa using hx) (by simpa using hy)
            rw [List.drop_zero, List.drop_zero] at g2
            refine ⟨b, ?_, g2⟩
            have hw : ∀ zs : List Value, wrapV P t zs = .agg zs.toArray := fun zs => by simp [wrapV, isAggT, hu]
            rw [hw, hw]
            simp only [pureRun_bind, pureRun_program, Option.bind_some, hs, Bool.false_eq_true, if_false]
            rw [Array.forIn_toList] at g1
            rw [g1, Option.bind_some]
            cases b <;> rfl
          · cases h
        · cases h
      | _ => cases h
theorem bin_struct {f : Nat} {t : TypeId} {ks : List PK} (hk : kindsF P f t = some ks) (he : eqOkF P f t = true) (hf : f ≤ 10000) (ha : isAggT P t = true) (hg : P.eqGuardType P.depth t = false) {xs ys : List Value} (hx : KL ks xs) (hy : KL ks ys)
    (hfx : xs.all flat0 = true) (hfy : ys.all flat0 = true) {σ : CSt} {x y : Operand} : ∃ b : Bool, binF P σ .eql t x y (.agg xs.toArray) (.agg ys.toArray) = .val (.bool b) σ ∧ binF P σ .neq t x y (.agg xs.toArray) (.agg ys.toArray) = .val (.bool (!b)) σ ∧ (b = true ↔ xs = ys) := by
  obtain ⟨b, h1, h2⟩ := eq_kinds f t ks hk he 10000 hf xs ys hx hy
  have hw : ∀ zs : List Value, wrapV P t zs = .agg zs.toArray := fun zs => by simp [wrapV, ha]
  rw [hw, hw] at h1
  have hgd : ∀ op, pureRun P (eqGuard op t x y (.agg xs.toArray) (.agg ys.toArray)) = some () := by
    intro op
    unfold eqGuard
    cases op <;> simp [pureRun_bind, pureRun_program, hg]
  have hfl : (flat (.agg xs.toArray) && flat (.agg ys.toArray)) = true := by simp only [flat, Bool.and_eq_true]; exact ⟨hfx, hfy⟩
  have e1 : pureRun P (binOp .eql t (.agg xs.toArray) (.agg ys.toArray)) = some (.bool b) := by
    have : binOp .eql t (.agg xs.toArray) (.agg ys.toArray) = (do pure (.bool (← Op.equal t (.agg xs.toArray) (.agg ys.toArray))) : Sem Value) := rfl
    rw [this, pureRun_bind]
    unfold Op.equal Op.maxDepth
    rw [h1]
    rfl
  have e2 : pureRun P (binOp .neq t (.agg xs.toArray) (.agg ys.toArray)) = some (.bool (!b)) := by
    have : binOp .neq t (.agg xs.toArray) (.agg ys.toArray) = (do pure (.bool (!(← Op.equal t (.agg xs.toArray) (.agg ys.toArray)))) : Sem Value) := rfl
    rw [this, pureRun_bind]
    unfold Op.equal Op.maxDepth
    rw [h1]
    rfl
  refine ⟨b, ?_, ?_, h2⟩
  · unfold binF
    rw [if_pos hfl, pureRun_bind, hgd, Option.bind_some, e1]
    rfl
  · unfold binF
    rw [if_pos hfl, pureRun_bind, hgd, Option.bind_some, e2]
    rfl
end
end Go.Sm
/- Versions by small numbers; chains made of them; rows of versions compared. -/
set_option linter.unusedVariables false
set_option linter.unusedSimpArgs false
namespace Go.Sm
open Go Go.Proofs
set_option maxRecDepth 100000
set_option maxHeartbeats 1000000
structure VV where
  at_ : Int
  v : Int
  gone : Bool
def encU (x : VV) : List Value := [.int .u8 x.at_, .int .u8 x.v, .bool x.gone]
def nameOf : Nat → ByteArray
  | 0 => ⟨#[]⟩
  | 1 => ⟨#[120]⟩
  | 2 => ⟨#[121, 121]⟩
  | _ => ⟨#[118, 97, 108, 117, 101]⟩
def VV.ok (x : VV) : Prop := (0 ≤ x.at_ ∧ x.at_ < 256) ∧ 0 ≤ x.v ∧ x.v < 256
def verOf (x : VV) : Ver := if x.gone then ⟨x.at_, ⟨#[]⟩, true⟩ else ⟨x.at_, nameOf (x.v.tmod 4).toNat, false⟩
theorem verOf_at (x : VV) : (verOf x).at_ = x.at_ := by unfold verOf; split <;> rfl
theorem vmake_spec (x : VV) (hx : x.ok) (σ : CSt) (Q : Out → CSt → Prop) (h : ∀ σ', Grow σ σ' → Q (.ret (.agg (encV (verOf x)).toArray) false) σ') : W E1 (.fn 20 #[.agg (encU x).toArray] none) σ Q := by
  rw [W_fn (fn := Tryz.f20) Tryz.func20 rfl rfl rfl]
  obtain ⟨⟨ha0, ha1⟩, hv0, hv1⟩ := hx
  have hw : IntKind.u64.wrap x.at_ = x.at_ := IntWalk.u64_in _ (by omega)
  have g0 : Grow σ ((σ.alloc (.cells (encU x) 34 false)).alloc (.cells [.int .u64 0, .string ⟨#[]⟩, .bool false] 29 false)) := ((Grow.refl σ).alloc _).alloc _
  simp [wops_cons, encU]
  cases hgo : x.gone
  · simp
    refine W_drawn (l := [0, 1, 2, 4, 5, 6, 3, 7, 8, 9, 10]) (b := #[0, 1, 3, 0, 0, 16, 48, 120, 248, 511, 1023]) (by kernel_rfl) (by kernel_rfl) (by kernel_rfl) ?_
    have h1 : 0 ≤ x.v.tmod 4 := Int.tmod_nonneg 4 hv0
    have h2 : x.v.tmod 4 < 4 := Int.tmod_lt_of_pos x.v (by decide)
    obtain ⟨k, hk⟩ : ∃ k : Nat, x.v.tmod 4 = k := ⟨(x.v.tmod 4).toNat, by omega⟩
    have h4 : k < 4 := by omega
    have fin := fun g => h _ (((g0.alloc (.cells [.string ⟨#[]⟩, .string ⟨#[120]⟩, .string ⟨#[121, 121]⟩, .string ⟨#[118, 97, 108, 117, 101]⟩] 9 false))).put (i := σ.n + 1) (by omega) g)
    simp only [verOf, hgo, hk, Int.toNat_natCast, encV] at fin
    match k, hk, h4 with
    | 0, hk, _ =>
      have := fin (.cells [.int .u64 x.at_, .string ⟨#[]⟩, .bool false] 29 false)
      simpa [dopsR_cons, opAt, isEff, again, befBits, isRead, Nat.add_assoc, hk, hw, encU, nameOf, hgo] using this
    | 1, hk, _ =>
      have := fin (.cells [.int .u64 x.at_, .string ⟨#[120]⟩, .bool false] 29 false)
      simpa [dopsR_cons, opAt, isEff, again, befBits, isRead, Nat.add_assoc, hk, hw, encU, nameOf, hgo] using this
    | 2, hk, _ =>
      have := fin (.cells [.int .u64 x.at_, .string ⟨#[121, 121]⟩, .bool false] 29 false)
      simpa [dopsR_cons, opAt, isEff, again, befBits, isRead, Nat.add_assoc, hk, hw, encU, nameOf, hgo] using this
    | 3, hk, _ =>
      have := fin (.cells [.int .u64 x.at_, .string ⟨#[118, 97, 108, 117, 101]⟩, .bool false] 29 false)
      simpa [dopsR_cons, opAt, isEff, again, befBits, isRead, Nat.add_assoc, hk, hw, encU, nameOf, hgo] using this
  · have := h _ (g0.put (i := σ.n + 1) (by omega) (.cells [.int .u64 x.at_, .string ⟨#[]⟩, .bool true] 29 false))
    simp only [verOf, hgo, encV] at this
    simpa [wops_cons, hgo, hw, encU] using this
theorem kl_ver (v : Ver) : KL [.int .u64, .str, .bool] (encV v) := ⟨⟨_, rfl⟩, ⟨_, rfl⟩, ⟨_, rfl⟩, trivial⟩
theorem encV_inj {a b : Ver} : encV a = encV b ↔ a = b := by
  constructor
  · intro h
    cases a; cases b
    simp [encV] at h
    simp [h]
  · rintro rfl; rfl
theorem cmp_ver (a b : Ver) (σ : CSt) (x y : Operand) : binF Tryz.prog σ .eql 29 x y (.agg (encV a).toArray) (.agg (encV b).toArray) = .val (.bool (decide (a = b))) σ ∧ binF Tryz.prog σ .neq 29 x y (.agg (encV a).toArray) (.agg (encV b).toArray) = .val (.bool (!decide (a = b))) σ := by
  obtain ⟨c, h1, h2, h3⟩ := bin_struct (P := Tryz.prog) (f := 2) (t := 29) (ks := [.int .u64, .str, .bool]) (by kernel_rfl) (by kernel_rfl) (by omega) (by kernel_rfl) (by kernel_rfl) (kl_ver a) (kl_ver b) rfl rfl (σ := σ) (x := x) (y := y)
  have : c = decide (a = b) := by
    rw [encV_inj] at h3
    cases c <;> simp_all
  rw [h1, h2, this]
  exact ⟨rfl, rfl⟩
theorem neq_ver (a b : Ver) (σ : CSt) (x y : Operand) : binF Tryz.prog σ .neq 29 x y (.agg (encV a).toArray) (.agg (encV b).toArray) = .val (.bool (!decide (a = b))) σ := (cmp_ver a b σ x y).2
theorem make_len (l : List Ver) : (makeL l).length ≤ l.length := by
  refine rev_ind (P := fun l => (makeL l).length ≤ l.length) (by simp [makeL]) (fun l v ih => ?_) l
  rw [makeL_snoc]
  have h1 : (putL (makeL l) v).length ≤ (makeL l).length + 1 := by
    unfold putL
    have a := List.length_filter_le (fun u : Ver => decide (u.at_ < v.at_)) (makeL l)
    have : ∀ c : List Ver, (c.filter fun u => decide (u.at_ < v.at_)).length + (c.filter fun u => decide (v.at_ < u.at_)).length ≤ c.length := by
      intro c
      induction c with
      | nil => simp
      | cons x c ih =>
        simp only [List.filter_cons]
        by_cases h1 : x.at_ < v.at_
        · have h2 : ¬ v.at_ < x.at_ := by omega
          simp [h1, h2]; omega
        · by_cases h2 : v.at_ < x.at_
          · simp [h1, h2]; omega
          · simp [h1, h2]; omega
    have := this (makeL l)
    simp
    omega
  simp
  omega
/-- Make: a chain of versions, put one after the other. -/
theorem make_spec (l : List VV) (hok : ∀ x ∈ l, x.ok) (v : Value) (σ : CSt) (hsl : Sl σ 34 3 encU v l) (hbig : l.length < 2 ^ 38) (Q : Out → CSt → Prop)
    (h : ∀ (v' : Value) (σ' : CSt), Sl σ' 29 3 encV v' (makeL (l.map verOf)) → Grow σ σ' → Q (.ret v' false) σ') : W E1 (.fn 16 #[v] none) σ Q := by
  rw [W_fn (fn := Tryz.f16) Tryz.func16 rfl rfl rfl]
  rcases hsl with ⟨rfl, rfl⟩ | ⟨i, off, cap, row, ro, rfl, hg, hin, hrow, hle, hcap⟩
  · have := h _ σ Sl.nil (Grow.refl σ)
    simp [wops_cons]
    rw [W_loop]
    simpa [wops_cons] using this
  simp [wops_cons]
  refine W_loop_inv (fun n a σ' => ∃ tm k v', a = ⟨tm, 18, [], false⟩ ∧ tm.get 6 = some (.slice (some ⟨i, off, none⟩) l.length cap) ∧ tm.get 7 = some (.int .i64 l.length) ∧ tm.get 8 = some (.int .i64 (k : Nat)) ∧ tm.get 3 = some v' ∧ k ≤ l.length ∧ n = l.length - k ∧ Sl σ' 29 3 encV v' (makeL ((l.map verOf).take k)) ∧ Grow σ σ') ?_ l.length _ _ ?_
  · rintro n a σ' ⟨tm, k, v', rfl, h6, h7, h8, h3, hk, hn, hs, hgr⟩
    have hgi := hgr.get hg hin
    by_cases hlt : k < l.length
    · have hld := row_get (enc := encU) (fun _ => rfl) hrow k hlt
      have hl1 := row_le hle k hlt
      have hw := i64n1 k (by omega)
      simp [wops_cons, h6, h7, h8, h3, hlt, hgi, hld, hl1]
      simp [wops_cons, encU, h3]
      have hx := vmake_spec l[k] (hok _ (List.getElem_mem hlt))
      simp only [encU] at hx
      have hg2 : Grow σ' ((σ'.alloc (.cells [.int .u8 0, .int .u8 0, .bool false] 34 false)).put σ'.n (.cells [.int .u8 l[k].at_, .int .u8 l[k].v, .bool l[k].gone] 34 false)) := ((Grow.refl σ').alloc _).put (Nat.le_refl _) _
      refine hx _ _ fun σ2 hg3 => ?_
      have hg4 := hg2.trans hg3
      simp [wops_cons, h3]
      have hml := make_len ((l.map verOf).take k)
      refine put_spec _ (makeL_srt _) v' _ σ2 (hs.grow hg4) (by simp only [List.length_take, List.length_map] at hml; omega) _ fun v2 σ3 hown hg5 => ?_
      simp [wops_cons, h8, hw]
      refine ⟨_, ?_, h6, h7, k + 1, by simp, by omega, rfl, ?_, (hgr.trans hg4).trans hg5⟩
      · omega
      · have : (l.map verOf).take (k + 1) = (l.map verOf).take k ++ [verOf l[k]] := by rw [List.take_succ_eq_append_getElem (by simpa using hlt)]; simp
        rw [this, makeL_snoc]
        exact hown.sl (fun _ => rfl)
    · have hkl : k = l.length := by omega
      have := h v' σ' (by rw [hkl, List.take_of_length_le (by simp)] at hs; exact hs) hgr
      simpa [wops_cons, h7, h8, h3, hlt] using this
  · refine ⟨_, 0, .slice none 0 0, rfl, ?_⟩
    simp
    exact ⟨Sl.nil, Grow.refl σ⟩
/-- slices.Equal of two rows of versions. -/
theorem equal_ch (l m : List Ver) (v u : Value) (σ : CSt) (hsl : Sl σ 29 3 encV v l) (hsm : Sl σ 29 3 encV u m) (hbig : l.length < 2 ^ 40) (Q : Out → CSt → Prop)
    (h : ∀ (σ' : CSt), Grow σ σ' → Q (.ret (.bool (decide (l = m))) false) σ') : W E1 (.fn 15 #[v, u] none) σ Q := by
  rw [W_fn (fn := Tryz.f15) Tryz.func15 rfl rfl rfl]
  by_cases hlen : l.length = m.length
  · rcases hsl with ⟨rfl, rfl⟩ | ⟨i, off, cap, row, ro, rfl, hg, hin, hrow, hle, hcap⟩
    · have hm : m = [] := List.eq_nil_of_length_eq_zero hlen.symm
      subst hm
      have hu : ∃ p c, u = .slice p 0 c := by
        rcases hsm with ⟨rfl, _⟩ | ⟨i2, off2, cap2, row2, ro2, rfl, _⟩
        · exact ⟨_, _, rfl⟩
        · exact ⟨_, _, rfl⟩
      obtain ⟨p, c, rfl⟩ := hu
      have := h σ (Grow.refl σ)
      simp [wops_cons]
      rw [W_loop]
      simpa [wops_cons] using this
    rcases hsm with ⟨rfl, rfl⟩ | ⟨i2, off2, cap2, row2, ro2, rfl, hg2, hin2, hrow2, hle2, hcap2⟩
    · have hl : l = [] := List.eq_nil_of_length_eq_zero hlen
      subst hl
      have := h σ (Grow.refl σ)
      simp [wops_cons]
      rw [W_loop]
      simpa [wops_cons] using this
    simp [wops_cons, hlen]
    refine W_loop_inv (fun n a σ' => ∃ tm k, a = ⟨tm, 26, [], false⟩ ∧ tm.get 0 = some (.slice (some ⟨i, off, none⟩) l.length cap) ∧ tm.get 1 = some (.slice (some ⟨i2, off2, none⟩) m.length cap2) ∧ tm.get 12 = some (.int .i64 l.length) ∧ tm.get 13 = some (.int .i64 (k : Nat)) ∧ tm.get 4 = some (.bool false) ∧ k ≤ l.length ∧ n = l.length - k ∧ l.take k = m.take k ∧ Grow σ σ') ?_ l.length _ _ ?_
    · rintro n a σ' ⟨tm, k, rfl, h0, h1, h12, h13, h4, hk, hn, htk, hgr⟩
      have hgi := hgr.get hg hin
      have hgi2 := hgr.get hg2 hin2
      by_cases hlt : k < l.length
      · have hlt2 : k < m.length := by omega
        have hld := row_get (enc := encV) (fun _ => rfl) hrow k hlt
        have hl1 := row_le hle k hlt
        have hld2 := row_get (enc := encV) (fun _ => rfl) hrow2 k hlt2
        have hl2 := row_le hle2 k hlt2
        have hw := i64n1 k (by omega)
        have hneq := neq_ver l[k] m[k]
        simp [wops_cons, h0, h1, h12, h13, h4, hlt]
        refine W_calm (by kernel_rfl) ?_
        simp [dops_cons, h0, h1, h12, h13, h4, hlt, hlt2, hgi, hgi2, hld, hld2, hl1, hl2, hneq]
        by_cases he : l[k] = m[k]
        · simp [wops_cons, he, h13, hw]
          refine ⟨_, ?_, h0, h1, h12, k + 1, by simp, h4, by omega, rfl, ?_, hgr⟩
          · omega
          · rw [List.take_succ_eq_append_getElem hlt, List.take_succ_eq_append_getElem hlt2, htk, he]
        · have hne : l ≠ m := by rintro rfl; exact he rfl
          have := h σ' hgr
          rw [decide_eq_false hne] at this
          simpa [wops_cons, he] using this
      · have hkl : k = l.length := by omega
        have he : l = m := by
          have := htk
          rwa [List.take_of_length_le (by omega), List.take_of_length_le (by omega)] at this
        have := h σ' hgr
        rw [decide_eq_true he] at this
        simpa [wops_cons, h12, h13, hlt] using this
    · refine ⟨_, 0, rfl, ?_⟩
      simp [hlen]
      exact Grow.refl σ
  · have hu : ∀ {x : Value} {l : List Ver}, Sl σ 29 3 encV x l → ∃ p c, x = .slice p l.length c := by
      rintro x l (⟨rfl, rfl⟩ | ⟨i, off, cap, row, ro, rfl, _⟩)
      · exact ⟨_, _, rfl⟩
      · exact ⟨_, _, rfl⟩
    obtain ⟨p, c, rfl⟩ := hu hsl
    obtain ⟨p', c', rfl⟩ := hu hsm
    have hne : l ≠ m := by rintro rfl; exact hlen rfl
    have := h σ (Grow.refl σ)
    rw [decide_eq_false hne] at this
    have hi : ¬ ((l.length : Int) = m.length) := by omega
    simpa [wops_cons, hi] using this

end Go.Sm
/- append to a slice of one's own. -/
set_option linter.unusedVariables false
namespace Go.Sm
open Go
section
variable {α : Type} {P : Program} {σ : CSt} {e : TypeId} {sz b : Nat} {enc : α → List Value} {v x : Value} {l m : List α} {f : TF} {ts : Array TypeId}

theorem first_sl (hsz : ∀ x, (enc x).length = sz) (h : Sl σ e sz enc x m) : lenOf? x = some m.length ∧ firstOf σ sz m.length x = some (m.flatMap enc) := by
  rcases h with ⟨rfl, rfl⟩ | ⟨i, off, cap, row, ro, rfl, hg, hi, hrow, hlen, hcap⟩
  · exact ⟨rfl, rfl⟩
  · refine ⟨rfl, ?_⟩
    rw [firstOf_sl, hg]
    simp only [firstK_some, ld, if_pos hlen, hrow]
theorem appendF_own (hsz : ∀ x, (enc x).length = sz) (hc : ∀ x, cokL (enc x) = true) (hfs : f.size = sz) (h0 : 0 < sz) (h1 : 0 < f.bytes) (h2 : f.zero.map List.length = some sz) (hown : Own b σ e enc v l) (hb : b ≤ σ.n)
    (hbig : (l.length + m.length) * f.bytes ≤ 2 ^ 47) (hl : l.length < 2 ^ 62) : ∃ v' σ', appendF σ e f v m.length (m.flatMap enc) = some (v', σ') ∧ Own b σ' e enc v' (l ++ m) ∧ GrowB b σ σ' := by
  have hml := enc_length enc hsz m
  have hll := enc_length enc hsz l
  have hcond : (m.flatMap enc).length = m.length * f.size ∧ cokL (m.flatMap enc) = true ∧ 0 < f.size ∧ 0 < f.bytes ∧ f.zero.map List.length = some f.size := by
    rw [hfs]; exact ⟨hml, cokL_enc hc m, h0, h1, h2⟩
  unfold appendF
  rw [if_pos hcond]
  rcases hown with ⟨rfl, rfl⟩ | ⟨i, cap, rfl, hbi, hin, hg, hcap⟩
  · by_cases hm : m.length = 0
    · have : m = [] := List.eq_nil_of_length_eq_zero hm
      subst this
      exact ⟨.slice none 0 0, σ, by simp, Own.nil, GrowB.refl b σ⟩
    · refine ⟨.slice (some ⟨σ.n, 0, none⟩) m.length openCap, σ.alloc (.cells (m.flatMap enc) e false), ?_, .inr ⟨σ.n, openCap, rfl, hb, by simp, by simp, .inl rfl⟩, (GrowB.refl b σ).alloc hb _⟩
      simp only [hm, if_false]
      rw [if_pos (by simpa using hbig)]
  · by_cases hm : m.length = 0
    · have : m = [] := List.eq_nil_of_length_eq_zero hm
      subst this
      refine ⟨.slice (some ⟨i, 0, none⟩) l.length cap, σ, ?_, ?_, GrowB.refl b σ⟩
      · simp only [List.length_nil, if_true]
        rw [if_pos]
        rcases hcap with rfl | ⟨rfl, rfl⟩
        · simp only [openCap]; omega
        · simp
      · rw [List.append_nil]
        exact .inr ⟨i, cap, rfl, hbi, hin, hg, hcap⟩
    · simp only [hm, if_false, hg]
      rcases hcap with rfl | ⟨rfl, rfl⟩
      · refine ⟨.slice (some ⟨σ.n, 0, none⟩) (l ++ m).length openCap, (σ.put i .dead).alloc (.cells ((l ++ m).flatMap enc) e false), ?_, .inr ⟨σ.n, openCap, rfl, hb, by simp, by simp, .inl rfl⟩, ((GrowB.refl b σ).put hbi _).alloc hb _⟩
        simp only [if_true, and_self]
        rw [if_neg, if_pos hbig]
        · have : ld (l.flatMap enc) 0 (l.length * f.size) = some (l.flatMap enc) := by
            rw [hfs, ← hll]
            unfold ld
            rw [if_pos (by omega), List.drop_zero, List.take_of_length_le (Nat.le_refl _)]
          rw [this]
          simp
        · rw [hll, hfs, Nat.add_mul]
          have : 0 < m.length * sz := Nat.mul_pos (by omega) h0
          omega
      · refine ⟨.slice (some ⟨σ.n, 0, none⟩) m.length openCap, σ.alloc (.cells (m.flatMap enc) e false), ?_, .inr ⟨σ.n, openCap, by simp, hb, by simp, by simp, .inl rfl⟩, (GrowB.refl b σ).alloc hb _⟩
        rw [if_neg (by simp [openCap]), if_neg (by rw [List.length_nil]; omega)]
        simp only [List.length_nil, Nat.zero_add, Nat.zero_mul] at hbig ⊢
        rw [if_pos hbig]
        simp [ld]
/-- append(s, x...), s one's own. -/
theorem append_own (hf : ts[0]?.bind (elemF P) = some (e, f)) (hu : (ts[1]?.bind (elemT P)).isSome = true) (hsz : ∀ x, (enc x).length = sz) (hc : ∀ x, cokL (enc x) = true) (hfs : f.size = sz) (h0 : 0 < sz) (h1 : 0 < f.bytes) (h2 : f.zero.map List.length = some sz)
    (hown : Own b σ e enc v l) (hb : b ≤ σ.n) (hx : Sl σ e sz enc x m) (hbig : (l.length + m.length) * f.bytes ≤ 2 ^ 47) (hl : l.length < 2 ^ 62) :
    ∃ v' σ', appendOp P σ ts v x = some (v', σ') ∧ Own b σ' e enc v' (l ++ m) ∧ GrowB b σ σ' := by
  obtain ⟨g1, g2⟩ := first_sl hsz hx
  obtain ⟨v', σ', g3, g4, g5⟩ := appendF_own hsz hc hfs h0 h1 h2 hown hb hbig hl
  refine ⟨v', σ', ?_, g4, g5⟩
  rw [appendOp_K (by rw [hf]; rfl) hu, hf]
  simp only [appK, g1, hfs, g2, Option.bind_some]
  exact g3
end
end Go.Sm
/- Plain: the chain by definition. -/
set_option linter.unusedVariables false
set_option linter.unusedSimpArgs false
namespace Go.Sm
open Go Go.Proofs
set_option maxRecDepth 100000
set_option maxHeartbeats 2000000
def encO (o : Option Ver) : List Value := match o with | some v => encV v | none => [.int .u64 0, .string ⟨#[]⟩, .bool false]
def partL (L : List Ver) (k : Nat) : List Ver := (List.range k).filterMap fun t : Nat => lastAt L t
theorem partL_succ (L : List Ver) (k : Nat) : partL L (k + 1) = partL L k ++ (lastAt L k).toList := by
  simp only [partL, List.range_succ, List.filterMap_append]
  cases h : lastAt L (k : Int) <;> simp [h]
theorem partL_len (L : List Ver) (k : Nat) : (partL L k).length ≤ k := by
  have := List.length_filterMap_le (fun t : Nat => lastAt L t) (List.range k)
  simpa [partL] using this
theorem plain_spec (l : List VV) (hok : ∀ x ∈ l, x.ok) (v : Value) (σ : CSt) (hsl : Sl σ 34 3 encU v l) (hbig : l.length < 2 ^ 38) (Q : Out → CSt → Prop)
    (h : ∀ (v' : Value) (σ' : CSt), Own σ.n σ' 29 encV v' (plainL (l.map verOf)) → Grow σ σ' → Q (.ret v' false) σ') : W E1 (.fn 17 #[v] none) σ Q := by
  rw [W_fn (fn := Tryz.f17) Tryz.func17 rfl rfl rfl]
  obtain ⟨p, c, rfl⟩ := hsl.form
  simp [wops_cons]
  refine W_loop_inv (fun n a σ' => ∃ tm k v', a = ⟨tm, 33, [], false⟩ ∧ tm.get 0 = some (.slice p l.length c) ∧ tm.get 3 = some v' ∧ tm.get 9 = some (.int .i64 (k : Nat)) ∧ k ≤ 256 ∧ n = 256 - k ∧ Own σ.n σ' 29 encV v' (partL (l.map verOf) k) ∧ Grow σ σ') ?_ 256 _ _ ?_
  · rintro n a σ1 ⟨tm, k, v1, rfl, h0, h3, h9, hk, hn, hown, hgr⟩
    by_cases hlt : k < 256
    · have hk2 : (k : Int) < 256 := by omega
      have hw := i64n1 k (by omega)
      simp [wops_cons, h0, h3, h9, hk2]
      refine W_loop_inv (fun n2 a σ2 => ∃ tm j, a = ⟨tm, 33, [], false⟩ ∧ tm.get 0 = some (.slice p l.length c) ∧ tm.get 3 = some v1 ∧ tm.get 9 = some (.int .i64 (k : Nat)) ∧ tm.get 4 = some (.int .i64 (k : Nat)) ∧ tm.get 5 = some (.pointer (some ⟨σ1.n, 0, none⟩)) ∧
        tm.get 6 = some (.bool (lastAt ((l.map verOf).take j) k).isSome) ∧ tm.get 12 = some (.slice p l.length c) ∧ tm.get 13 = some (.int .i64 l.length) ∧ tm.get 14 = some (.int .i64 (j : Nat)) ∧ j ≤ l.length ∧ n2 = l.length - j ∧ σ2.get σ1.n = some (.cells (encO (lastAt ((l.map verOf).take j) k)) 29 false) ∧ σ1.n < σ2.n ∧ Grow σ1 σ2) ?_ l.length _ _ ?_
      · rintro n2 a σ2 ⟨tm, j, rfl, h0, h3, h9, h4, h5, h6, h12, h13, h14, hj, hn2, hlast, hln, hg2⟩
        by_cases hjl : j < l.length
        · obtain ⟨i, off, row, ro, rfl, hg, hin, hrow, hle⟩ := hsl.at hjl
          have hgi := (hgr.trans hg2).get hg hin
          have hld := row_get (enc := encU) (fun _ => rfl) hrow j hjl
          have hl1 := row_le hle j hjl
          have hw2 := i64n1 j (by omega)
          have hx := hok _ (List.getElem_mem hjl)
          have hwc : IntKind.i64.wrap l[j].at_ = l[j].at_ := IntWalk.i64_in _ (by have := hx.1; omega)
          have hne : ¬ (σ1.n = σ2.n) := by omega
          have hsn : (l.map verOf).take (j + 1) = (l.map verOf).take j ++ [verOf l[j]] := by rw [List.take_succ_eq_append_getElem (by simpa using hjl)]; simp
          simp [wops_cons, h0, h3, h9, h4, h5, h6, h12, h13, h14, hjl, hgi, hld, hl1]
          have hgw : Grow σ2 ((σ2.alloc (.cells [.int .u8 0, .int .u8 0, .bool false] 34 false)).put σ2.n (.cells [.int .u8 l[j].at_, .int .u8 l[j].v, .bool l[j].gone] 34 false)) := ((Grow.refl σ2).alloc _).put (Nat.le_refl _) _
          by_cases hat : l[j].at_ = k
          · simp [wops_cons, encU, h0, h3, h9, h4, h5, h6, h12, h13, h14, hwc, hat, i64n k (by omega)]
            have hv := vmake_spec l[j] hx
            simp only [encU, hat] at hv
            simp only [hat] at hgw
            refine hv _ _ fun σ3 hg3 => ?_
            have hg4 := hgw.trans hg3
            have hl3 := hg4.get hlast hln
            have hfin : lastAt ((l.map verOf).take (j + 1)) k = some (verOf l[j]) := by rw [hsn, lastAt_snoc, if_pos (by rw [verOf_at]; exact hat)]
            have hcl : (encO (lastAt ((l.map verOf).take j) k)).length = 3 := by cases lastAt ((l.map verOf).take j) k <;> rfl
            simp [wops_cons, h0, h3, h9, h4, h5, h6, h12, h13, h14, hl3, hw2, encV, hcl]
            refine ⟨_, ?_, j + 1, ?_, rfl, by omega, rfl, ?_, ?_, ?_⟩
            · omega
            · rw [hfin]; rfl
            · rw [hfin, List.drop_of_length_le (by omega)]; rfl
            · have := hg4.n; omega
            · exact (hg2.trans hg4).put (by omega) _
          · have hfin : lastAt ((l.map verOf).take (j + 1)) k = lastAt ((l.map verOf).take j) k := by rw [hsn, lastAt_snoc, if_neg (by rw [verOf_at]; exact hat)]
            simp [wops_cons, encU, h0, h3, h9, h4, h5, h6, h12, h13, h14, hwc, hat, hw2]
            refine ⟨_, ?_, j + 1, by rw [hfin], rfl, by omega, rfl, ?_, by omega, hg2.trans hgw⟩
            · omega
            · simp [hne, hfin, hlast]
        · have hjl' : j = l.length := by omega
          subst hjl'
          have hall : (l.map verOf).take l.length = l.map verOf := List.take_of_length_le (by simp)
          rw [hall] at h6 hlast
          have hpl := partL_succ (l.map verOf) k
          simp [wops_cons, h0, h3, h9, h4, h5, h6, h12, h13, h14]
          cases hla : lastAt (l.map verOf) (k : Int) with
          | none =>
            rw [hla] at hpl hlast h6
            simp [wops_cons, h0, h3, h9, hw]
            refine ⟨_, ?_, k + 1, rfl, by omega, rfl, ?_, hgr.trans hg2⟩
            · omega
            · rw [hpl]; simpa using hown.grow hg2
          | some w =>
            rw [hla] at hpl hlast h6
            simp only [encO, encV] at hlast
            simp [wops_cons, h3, h5, hlast]
            have hb := partL_len (l.map verOf) k
            have hsx : Sl (σ2.alloc (.cells (encV w) 29 false)) 29 3 encV (.slice (some ⟨σ2.n, 0, none⟩) 1 1) [w] := Sl.all (l := [w]) (ro := false) (fun _ => rfl) (by simp) (by simp) (.inr ⟨by simp, by simp [openCap]⟩)
            obtain ⟨v', σ', he, hown', hg'⟩ := append_own (P := Tryz.prog) (ts := #[25, 25]) (e := 29) (sz := 3) (enc := encV) (l := partL (l.map verOf) k) (m := [w]) (b := σ.n) ef25 (by simp) (fun _ => rfl) (fun _ => rfl) rfl (by decide) (by decide) rfl ((hown.grow hg2).grow ((Grow.refl σ2).alloc _)) (by have := hgr.n; have := hg2.n; simp; omega) hsx (by simp; omega) (by omega)
            simp only [encV] at he
            rw [he]
            simp [wops_cons, h0, h9, hw]
            refine ⟨_, ?_, k + 1, rfl, by omega, rfl, ?_, ?_⟩
            · omega
            · rw [hpl]; exact hown'
            · exact Grow.thenB ((hgr.trans hg2).alloc _) hg' (Nat.le_refl _)
      · refine ⟨_, 0, rfl, ?_⟩
        simp [h0, h3, h9]
        have e0 : lastAt ([] : List Ver) (k : Int) = none := rfl
        rw [e0]
        exact ⟨rfl, rfl, (Grow.refl σ1).alloc _⟩
    · have hk256 : k = 256 := by omega
      subst hk256
      have := h v1 σ1 hown hgr
      simpa [wops_cons, h3, h9] using this
  · refine ⟨_, 0, .slice none 0 0, rfl, ?_⟩
    simp
    exact ⟨Own.nil, Grow.refl σ⟩
end Go.Sm
/- append into room that is there. -/
set_option linter.unusedVariables false
namespace Go.Sm
open Go
section
variable {α : Type} {P : Program} {σ : CSt} {e : TypeId} {sz b : Nat} {enc : α → List Value} {v x : Value} {l m : List α} {f : TF} {ts : Array TypeId}
theorem append_fit (hf : ts[0]?.bind (elemF P) = some (e, f)) (hu : (ts[1]?.bind (elemT P)).isSome = true) (hsz : ∀ x, (enc x).length = sz) (hc : ∀ x, cokL (enc x) = true) (hfs : f.size = sz) (h0 : 0 < sz) (h1 : 0 < f.bytes) (h2 : f.zero.map List.length = some sz)
    {g : Nat} {zs : List Value} (hg : σ.get g = some (.cells (l.flatMap enc ++ zs) e false)) (hx : Sl σ e sz enc x m) (hz : m.length * sz ≤ zs.length) (hl : l.length < 2 ^ 62) :
    ∃ σ', appendOp P σ ts (.slice (some ⟨g, 0, none⟩) l.length openCap) x = some (.slice (some ⟨g, 0, none⟩) (l ++ m).length openCap, σ') ∧ σ'.get g = some (.cells ((l ++ m).flatMap enc ++ zs.drop (m.length * sz)) e false) ∧ σ'.n = σ.n ∧ ∀ j, j ≠ g → σ'.get j = σ.get j := by
  obtain ⟨g1, g2⟩ := first_sl hsz hx
  have hml := enc_length enc hsz m
  have hll := enc_length enc hsz l
  rw [appendOp_K (by rw [hf]; rfl) hu, hf]
  simp only [appK, g1, hfs, g2, Option.bind_some]
  have hcond : (m.flatMap enc).length = m.length * f.size ∧ cokL (m.flatMap enc) = true ∧ 0 < f.size ∧ 0 < f.bytes ∧ f.zero.map List.length = some f.size := by
    rw [hfs]; exact ⟨hml, cokL_enc hc m, h0, h1, h2⟩
  unfold appendF
  rw [if_pos hcond]
  by_cases hm : m.length = 0
  · have : m = [] := List.eq_nil_of_length_eq_zero hm
    subst this
    refine ⟨σ, ?_, by simpa using hg, rfl, fun _ _ => rfl⟩
    simp only [List.length_nil, if_true, List.append_nil]
    rw [if_pos (by simp only [openCap]; omega)]
  · refine ⟨σ.put g (.cells ((l ++ m).flatMap enc ++ zs.drop (m.length * sz)) e false), ?_, by simp, rfl, fun j hj => by rw [CSt.get_put, if_neg hj]⟩
    simp only [hm, if_false, hg, if_true, and_self]
    have hle : 0 + (l.length + m.length) * f.size ≤ (l.flatMap enc ++ zs).length := by
      rw [List.length_append, hll, hfs, Nat.add_mul]; omega
    rw [if_pos hle]
    have hst : st (l.flatMap enc ++ zs) (0 + l.length * f.size) (m.flatMap enc) = some ((l ++ m).flatMap enc ++ zs.drop (m.length * sz)) := by
      unfold st
      rw [if_pos (by rw [List.length_append, hll, hml, hfs]; omega), hfs, Nat.zero_add, ← hll, List.take_left, ← List.drop_drop, List.drop_left, hml, List.flatMap_append]
    rw [hst]
    simp
end
section
variable {P : Program} {σ : CSt} {ev : Operand → Value} {dst : Option Tmp} {ty : TypeId} {pos : String} {after : Array Edge} {g : Option (Nat × Bool)}
@[simp] theorem copE_makeFunc (f : FuncId) (first captured : Array Operand) : cop P σ ev ⟨dst, .makeFunc (.func f) first captured, ty, pos, after, g⟩ = .val (.func (.func f) (first.map ev) (captured.map ev)) σ := (rfl)
end
end Go.Sm
/- Strings in order. -/
set_option linter.unusedVariables false
set_option linter.unusedSimpArgs false
namespace Go.Sm
open Go
def bl : List UInt8 → List UInt8 → Bool := Op.bytesLess
theorem bl_irrefl : ∀ x : List UInt8, bl x x = false
  | [] => rfl
  | a :: x => by
    have h := bl_irrefl x
    unfold bl at h ⊢
    simp [Op.bytesLess, h]
theorem bl_trans : ∀ {x y z : List UInt8}, bl x y = true → bl y z = true → bl x z = true
  | _, [], _, h, _ => by unfold bl at h; simp [Op.bytesLess] at h
  | _, _ :: _, [], _, h => by unfold bl at h; simp [Op.bytesLess] at h
  | [], _ :: _, _ :: _, _, _ => rfl
  | a :: x, b :: y, c :: z, h1, h2 => by
    have ih := @bl_trans x y z
    unfold bl at h1 h2 ih ⊢
    simp only [Op.bytesLess, Bool.or_eq_true, decide_eq_true_eq, Bool.and_eq_true, beq_iff_eq] at h1 h2 ⊢
    rcases h1 with h1 | ⟨rfl, h1⟩
    · rcases h2 with h2 | ⟨rfl, h2⟩
      · exact .inl (UInt8.lt_trans h1 h2)
      · exact .inl h1
    · rcases h2 with h2 | ⟨rfl, h2⟩
      · exact .inl h2
      · exact .inr ⟨rfl, ih h1 h2⟩
theorem bl_tri : ∀ {x y : List UInt8}, bl x y = false → bl y x = false → x = y
  | [], [], _, _ => rfl
  | [], _ :: _, h, _ => by unfold bl at h; simp [Op.bytesLess] at h
  | _ :: _, [], _, h => by unfold bl at h; simp [Op.bytesLess] at h
  | a :: x, b :: y, h1, h2 => by
    have ih := @bl_tri x y
    unfold bl at h1 h2 ih
    simp only [Op.bytesLess, Bool.or_eq_false_iff, decide_eq_false_iff_not, Bool.and_eq_false_iff] at h1 h2
    have e : a = b := UInt8.le_antisymm (UInt8.not_lt.1 h2.1) (UInt8.not_lt.1 h1.1)
    subst e
    rw [ih (by simpa using h1.2) (by simpa using h2.2)]
theorem bl_asymm {x y : List UInt8} (h : bl x y = true) : bl y x = false := by
  cases h' : bl y x with
  | false => rfl
  | true => have := bl_trans h h'; rw [bl_irrefl] at this; cases this
theorem ba_list_inj {s u : ByteArray} (h : s.toList = u.toList) : s = u := by
  have h3 : s.data.toList = u.data.toList := by rw [ByteArray.toList_eq, ByteArray.toList_eq] at h; exact h
  cases s; cases u
  simp only at h3
  rw [Array.toList_inj.1 h3]
/-- One key ahead of another. -/
def klt (s u : ByteArray) : Bool := bl s.toList u.toList
section
variable {P : Program} {σ : CSt} {t : TypeId} {x y : Operand} {s u : ByteArray}
@[simp] theorem bin_strlt : binF P σ .lss t x y (.string s) (.string u) = .val (.bool (klt s u)) σ := by simp [binF, eqGuard, binOp, Op.stringOp, klt, bl]
@[simp] theorem bin_strgt : binF P σ .gtr t x y (.string s) (.string u) = .val (.bool (!(klt s u || s.toList == u.toList))) σ := by simp [binF, eqGuard, binOp, Op.stringOp, klt, bl]
@[simp] theorem bin_strle : binF P σ .leq t x y (.string s) (.string u) = .val (.bool (klt s u || s.toList == u.toList)) σ := by simp [binF, eqGuard, binOp, Op.stringOp, klt, bl]
@[simp] theorem bin_strge : binF P σ .geq t x y (.string s) (.string u) = .val (.bool (!klt s u)) σ := by simp [binF, eqGuard, binOp, Op.stringOp, klt, bl]
end
end Go.Sm
/- From the arguments to an abstract state. -/
set_option linter.unusedVariables false
namespace Go.Sm
open Go Go.WideShapes Go.ChangeShapes

/-- Nothing can be written. -/
def Calm (σ : CSt) : Prop := ∀ i, ¬ rw_ σ i

section
variable {P : Program} {ρ : Rho} {σ : CSt} {w : World}
/-- A row that is only read. -/
theorem R.addRo (h : R P ρ σ w) (hc : Calm σ) {p : Place} {c : List Value} {e : TypeId} (hlt : p.b < w.heap.size) (hz : p.z = P.cellsOf e) (hl : c.length ≤ p.e) (hcell : ∀ (k : Nat) (u : k < c.length), w.cell? ⟨p.b, p.o + k, none⟩ = some c[k] ∧ flat0 c[k] = true) :
    R P (ρ.set σ.n p) (σ.alloc (.cells c e true)) w ∧ ρ.le (ρ.set σ.n p) ∧ Calm (σ.alloc (.cells c e true)) ∧ (ρ.set σ.n p) σ.n = some p := by
  have hg := h.gn
  have hle : ρ.le (ρ.set σ.n p) := fun j r hr => by
    unfold Rho.set; rw [if_neg]; exact hr
    intro e; rw [e, h.dom _ (Nat.le_refl _)] at hr; cases hr
  have hset : ∀ j, j ≠ σ.n → (ρ.set σ.n p) j = ρ j := fun j hj => by unfold Rho.set; rw [if_neg hj]
  have hself : (ρ.set σ.n p) σ.n = some p := by unfold Rho.set; rw [if_pos rfl]
  have hget : ∀ j, j ≠ σ.n → (σ.alloc (.cells c e true)).get j = σ.get j := fun j hj => by rw [CSt.get_alloc, if_neg hj]
  have hlive : ∀ j, j ≠ σ.n → live (σ.alloc (.cells c e true)) j → live σ j := fun j hj ⟨o, ho, hd⟩ => ⟨o, by rw [← hget j hj]; exact ho, hd⟩
  have hcalm : Calm (σ.alloc (.cells c e true)) := fun j hj => by
    rw [rw_alloc] at hj
    by_cases e : j = σ.n
    · rw [if_pos e] at hj; cases hj.1
    · rw [if_neg e] at hj; exact hc j hj
  refine ⟨⟨fun j hj => ?_, fun j hj => ?_, fun j r hr hj => ?_, fun j o r ho hr => ?_, fun a b r s hne hr hs hra hlb => absurd hra (hcalm a), fun g hgl => ?_, Nat.le_succ_of_le hg⟩, hle, hcalm, hself⟩
  · rw [CSt.n_alloc] at hj; rw [hset j (by omega)]; exact h.dom j (by omega)
  · by_cases e : j = σ.n
    · rw [e]; exact ⟨p, hself⟩
    · rw [hset j e]; exact h.tot j (hlive j e hj)
  · by_cases e : j = σ.n
    · subst e; rw [hself] at hr; cases hr; exact hlt
    · rw [hset j e] at hr; exact h.lt j r hr (hlive j e hj)
  · by_cases e' : j = σ.n
    · subst e'
      rw [CSt.get_alloc, if_pos rfl] at ho
      cases ho
      rw [hself] at hr; cases hr
      refine ⟨⟨hz, hl⟩, fun k u => ?_⟩
      obtain ⟨h1, h2⟩ := hcell k u
      exact ⟨_, h1, .plain _ h2⟩
    · rw [hget j e'] at ho
      rw [hset j e'] at hr
      exact (h.obj j o r ho hr).mono hle
  · obtain ⟨q, h1, h2⟩ := h.glob g hgl
    exact ⟨q, hle _ _ h1, h2⟩

/-- A slice of plain elements among the arguments. -/
theorem open_arg {H : Type} {en : TypeId × Value → H} {base base' : Nat} {spare : Nat → Bool} {held : Bool} {t e : TypeId} {f fuel : Nat} {ks : List PK} {v' : Value} {x : DataW H × List MemPlace}
    (hR : R P ρ σ w) (hc : Calm σ) (ht : P.underlying t = some (.slice e)) (hk : kindsF P f e = some ks) (hce : P.cellsOf e = ks.length) (hval : Value.okWide P w .any base t v') (hd : DataW.trod en P w base' spare held fuel t v'.cells.toList = some x) :
    ∃ ρ' σ' v rows, R P ρ' σ' w ∧ Calm σ' ∧ ρ.le ρ' ∧ VR ρ' v v' ∧ Grow σ σ' ∧ (∀ r ∈ rows, OkL ks r) ∧
      ((v = .slice none 0 0 ∧ rows = []) ∨ ∃ i cap, v = .slice (some ⟨i, 0, none⟩) rows.length cap ∧ i < σ'.n ∧ σ'.get i = some (.cells rows.flatten e true) ∧ rows.length ≤ cap ∧ cap < openCap) := by
  obtain ⟨a0, len, cap, rfl⟩ := okWide_slice ht hval
  have hcells : (Value.slice a0 len cap).cells.toList = [.slice a0 len cap] := rfl
  rw [hcells] at hd
  rcases open_rows ht hk hce hd with h0 | ⟨a, len', cap', rows, h1, h2, h3, h4, h5, h6⟩
  · have h0' : a0 = none ∧ len = 0 ∧ cap = 0 := by simpa using h0
    obtain ⟨rfl, rfl, rfl⟩ := h0'
    exact ⟨ρ, σ, .slice none 0 0, [], hR, hc, Rho.le_refl ρ, .plain _ rfl, Grow.refl σ, by simp, .inl ⟨rfl, rfl⟩⟩
  · have h1' : a0 = some a ∧ len = len' ∧ cap = cap' := by simpa using h1
    obtain ⟨rfl, rfl, rfl⟩ := h1'
    have hok : w.has P .any base a e cap := by
      simp only [Value.okWide, ht, Cell.okWide, Cell.ok] at hval
      exact hval.2.2
    obtain ⟨_, hspot, row, cells, hsh, _⟩ := hok
    have hb : a.block < w.heap.size := by
      unfold World.shape? at hsh
      split at hsh
      · rename_i h; exact (Array.getElem?_eq_some_iff.1 h).1
      · cases hsh
    obtain ⟨ab, ao, asl⟩ := a
    simp only at hspot
    subst hspot
    have hfl : rows.flatten.length = len * ks.length := by
      have : ∀ (l : List (List Value)), (∀ r ∈ l, OkL ks r) → l.flatten.length = l.length * ks.length := by
        intro l
        induction l with
        | nil => simp
        | cons r l ih =>
          intro h
          rw [List.flatten_cons, List.length_append, ih (fun r hr => h r (by simp [hr])), (h r (by simp)).length, List.length_cons, Nat.add_mul]
          omega
      rw [this rows h5, h4]
    have hflat : ∀ v ∈ rows.flatten, flat0 v = true := fun v hv => by
      obtain ⟨r, hr, hv⟩ := List.mem_flatten.1 hv
      exact (h5 r hr).flat v hv
    have hm : cap < openCap := by unfold maxLen at h3; simp [openCap]; omega
    obtain ⟨r1, r2, r3, r4⟩ := hR.addRo hc (p := ⟨ab, ao, len * ks.length, ks.length⟩) (c := rows.flatten) (e := e) hb hce.symm (by simp [hfl]) (fun k u => by
      rw [hfl] at u
      have hk0 : 0 < ks.length := by
        rcases Nat.eq_zero_or_pos ks.length with h | h
        · rw [h] at u; omega
        · exact h
      have hi : k / ks.length < len := by rw [Nat.div_lt_iff_lt_mul hk0]; exact u
      obtain ⟨v, g1, g2⟩ := h6 (k / ks.length) (k % ks.length) hi (Nat.mod_lt _ hk0)
      have hkk : k / ks.length * ks.length + k % ks.length = k := by rw [Nat.mul_comm]; exact Nat.div_add_mod k ks.length
      rw [hkk] at g1
      rw [Addr.add_plain, Addr.add_plain, Nat.add_assoc, hkk] at g2
      obtain ⟨u', e'⟩ := List.getElem?_eq_some_iff.1 g1
      rw [e']
      exact ⟨g2, hflat v (by rw [← e']; exact List.getElem_mem u')⟩)
    refine ⟨_, _, .slice (some ⟨σ.n, 0, none⟩) len cap, rows, r1, r3, r2, ?_, (Grow.refl σ).alloc _, h5, .inr ⟨σ.n, cap, by rw [h4], by simp, by simp, by omega, hm⟩⟩
    exact .slc _ _ _ _ ⟨ab, ao, len * ks.length, ks.length⟩ r4 (by omega)

/-- The rows as one's own data. -/
theorem rows_enc {α : Type} {enc : α → List Value} {ok : α → Prop} {ks : List PK} (h : ∀ r, OkL ks r → ∃ x, ok x ∧ r = enc x) : ∀ rows : List (List Value), (∀ r ∈ rows, OkL ks r) → ∃ l : List α, (∀ x ∈ l, ok x) ∧ rows = l.map enc
  | [], _ => ⟨[], by simp, rfl⟩
  | r :: rows, hr => by
    obtain ⟨x, h1, rfl⟩ := h r (hr r (by simp))
    obtain ⟨l, h2, rfl⟩ := rows_enc h rows fun r hr' => hr r (by simp [hr'])
    exact ⟨x :: l, fun y hy => by
      rcases List.mem_cons.1 hy with rfl | hy
      · exact h1
      · exact h2 y hy, rfl⟩
theorem open_sl {H : Type} {en : TypeId × Value → H} {base base' : Nat} {spare : Nat → Bool} {held : Bool} {t e : TypeId} {f fuel sz : Nat} {ks : List PK} {v' : Value} {x : DataW H × List MemPlace} {α : Type} {enc : α → List Value} {ok : α → Prop}
    (hR : R P ρ σ w) (hc : Calm σ) (ht : P.underlying t = some (.slice e)) (hk : kindsF P f e = some ks) (hce : P.cellsOf e = ks.length) (hsz : ∀ x, (enc x).length = sz) (hen : ∀ r, OkL ks r → ∃ x, ok x ∧ r = enc x)
    (hval : Value.okWide P w .any base t v') (hd : DataW.trod en P w base' spare held fuel t v'.cells.toList = some x) :
    ∃ ρ' σ' v, ∃ l : List α, R P ρ' σ' w ∧ Calm σ' ∧ ρ.le ρ' ∧ VR ρ' v v' ∧ Grow σ σ' ∧ (∀ x ∈ l, ok x) ∧ Sl σ' e sz enc v l := by
  obtain ⟨ρ', σ', v, rows, h1, h2, h3, h4, h5, h6, h7⟩ := open_arg hR hc ht hk hce hval hd
  obtain ⟨l, h8, rfl⟩ := rows_enc hen rows h6
  refine ⟨ρ', σ', v, l, h1, h2, h3, h4, h5, h8, ?_⟩
  rcases h7 with ⟨rfl, h9⟩ | ⟨i, cap, rfl, h9, h10, h11, h12⟩
  · exact .inl ⟨rfl, by simpa using h9⟩
  · rw [List.length_map] at h11 ⊢
    exact Sl.all hsz (by rw [List.flatMap_def]; exact h10) h9 (.inr ⟨h11, h12⟩)
end
end Go.Sm
/- From the rules to a law's contract. -/
set_option linter.unusedVariables false
namespace Go.Sm
open Go Go.WideShapes Go.ChangeShapes Go.RowKit

def isTrueP : Out → CSt → Prop := fun o _ => o = .ret (.bool true) false
theorem Frm.below {ρ ρ' : Rho} {σ σ' : CSt} {w w' : World} (h : Frm ρ σ w ρ' σ' w') (hc : Calm σ) : Below w.heap.size w w' :=
  ⟨h.os, h.tape, h.output, h.size, fun k hk => h.keep k hk fun i p _ hr => absurd hr (hc i)⟩

section
variable {H : Type} {enc : TypeId × Value → H} {P : Program}
theorem trodAll_stays (hl : laidOutB P = true) {W W' : World} (hb : Below W.heap.size W W') : ∀ (ts : List TypeId) (vs : List Value) (ds : List (DataW H)) (p : List MemPlace), (∀ t ∈ ts, P.readableRec t = true ∧ t < P.types.size) →
    DataW.TrodAll enc P W 0 (fun _ => true) true ts vs ds p → (∀ x ∈ p, x.block < W.heap.size) → DataW.TrodAll enc P W' 0 (fun b => decide (b < W.heap.size)) true ts vs ds p
  | [], vs, ds, p, _, h, _ => by
    cases vs <;> cases ds <;> simp_all [DataW.TrodAll]
  | t :: ts, [], ds, p, _, h, _ => by simp [DataW.TrodAll] at h
  | t :: ts, v :: vs, [], p, _, h, _ => by simp [DataW.TrodAll] at h
  | t :: ts, v :: vs, d :: ds, p, ht, h, hp => by
    obtain ⟨p1, p2, h1, h2, rfl⟩ := h
    exact ⟨p1, p2, Below.trod hl (ht t (by simp)).1 (ht t (by simp)).2 h1 hb fun x hx => hp x (by simp [hx]), trodAll_stays hl hb ts vs ds p2 (fun t h => ht t (by simp [h])) h2 fun x hx => hp x (by simp [hx]), rfl⟩

theorem law_calls {E : Env} (G : Good E.P) (HE : ExtOk E) (HG : GamOk E) {f : FuncId} {fn : Func} {s : ChangeSpec} (hl : laidOutB E.P = true) (hts : fn.params.toList.all (fun t => E.P.readableRec t && decide (t < E.P.types.size)) = true) {bt : TypeId}
    (hrt : fn.resultTypes = #[bt]) (hbt : E.P.underlying bt = some .bool) (hvars : s.vars = []) {W : World} {args : Array Value} {ds gs : List (DataW H)} {before : List MemPlace} (hW : DataW.Whole enc E.P fn.params.toList s.vars false W args.toList ds gs before)
    (hfn : s.fn H (ds ++ gs) = { results := [.lit (.bool true)], args := ds }) {ρ : Rho} {σ : CSt} {aa : Array Value} (hR : R E.P ρ σ W) (hc : Calm σ) (hA : AsR ρ aa args) (hw : Sm.W E (.fn f aa none) σ isTrueP) :
    Calls E.P f args W fun e W' => ∃ v, e = .returned v ∧ s.post enc E.P fn false true false false W args v W' := by
  have hW' := hW
  obtain ⟨p, q, hA0, hV, rfl, _, _⟩ := hW
  rw [hvars] at hV
  obtain ⟨rfl, rfl⟩ := trodVars_none hV
  refine (Sm.W.calls G HE HG (Q := fun v _ => v = .bool true) (hw.weaken fun o s h => ⟨_, h, rfl⟩) hR hA).mono fun e W' ⟨v, v', σ', ρ', he, hv, _, hvr, hf⟩ => ?_
  subst hv
  have := hvr.bool
  subst this
  subst he
  have hb := hf.below hc
  have hlt : ∀ x ∈ p, x.block < W.heap.size := fun x hx => by simpa using hW'.lt x (by simp [hx])
  refine ⟨_, rfl, ds, [], p ++ [], [], p, [], hW', ?_, ?_, ?_, hb.frame _, fun h => by cases h⟩
  · rw [hfn, hrt]
    exact ⟨[], [], ⟨1, by simp [DataW.trod, hbt, Value.cells]⟩, rfl, rfl⟩
  · rw [hfn]
    refine trodAll_stays hl hb _ _ _ _ (fun t ht => ?_) hA0 hlt
    have := List.all_eq_true.1 hts t ht
    simpa using this
  · rw [hfn, hvars]
    rfl
end
end Go.Sm
/- Comparisons of truth values. -/
set_option linter.unusedVariables false
set_option linter.unusedSimpArgs false
namespace Go.Sm
open Go
variable {P : Program} {σ : CSt} {t : TypeId} {x y : Operand}
theorem eq_bool (h : P.underlying t = some .bool) (a b : Bool) : pureRun P (Op.equal t (.bool a) (.bool b)) = some (a == b) := by
  obtain ⟨c, h1, h2⟩ := eq_kinds (P := P) 1 t [.bool] (by simp [kindsF, h]) (by simp [eqOkF, h]) 10000 (by omega) [.bool a] [.bool b] ⟨⟨a, rfl⟩, trivial⟩ ⟨⟨b, rfl⟩, trivial⟩
  have hw : ∀ v : Value, wrapV P t [v] = v := fun v => by simp [wrapV, isAggT, h]
  rw [hw, hw] at h1
  have e : c = (a == b) := by
    cases a <;> cases b <;> cases c <;> simp at h2 <;> rfl
  unfold Op.equal Op.maxDepth
  rw [h1, e]
theorem bin_booleq (h : P.underlying t = some .bool) (a b : Bool) : binF P σ .eql t x y (.bool a) (.bool b) = .val (.bool (a == b)) σ := by
  have : binOp .eql t (.bool a) (.bool b) = (do pure (.bool (← Op.equal t (.bool a) (.bool b))) : Sem Value) := rfl
  simp only [binF, flat, Bool.and_self, if_true]
  rw [this, pureRun_bind, pureRun_bind, eq_bool h]
  rfl
theorem bin_boolne (h : P.underlying t = some .bool) (a b : Bool) : binF P σ .neq t x y (.bool a) (.bool b) = .val (.bool (a != b)) σ := by
  have : binOp .neq t (.bool a) (.bool b) = (do pure (.bool (!(← Op.equal t (.bool a) (.bool b)))) : Sem Value) := rfl
  simp only [binF, flat, Bool.and_self, if_true]
  rw [this, pureRun_bind, pureRun_bind, eq_bool h]
  rfl
end Go.Sm
/- Operations under a condition in a drawn region. -/
set_option linter.unusedVariables false
set_option linter.unusedSimpArgs false
namespace Go.Sm
open Go
section
variable {E : Env} {σ : CSt}
theorem dopsR_if {ops : Array Oper} {b : Array Nat} {a0 : CAct} {Q : Out → CSt → Prop} {rs : List Rec} {i : Nat} {a : CAct} {dst : Option Tmp} {op : Op} {ty : TypeId} {pos : String} {after : Array Edge} {j : Nat} {want : Bool} {rest : List (Nat × Oper)} (hd : ((ops[j]?).bind (·.dst)).isSome = true) (hs : dstOf ops j < a.sz) :
    dopsR E ops b Q a0 ((i, ⟨dst, op, ty, pos, after, some (j, want)⟩) :: rest) a σ rs =
      guardK (a.get (dstOf ops j)) want
        (if isEff E.P ⟨dst, op, ty, pos, after, some (j, want)⟩ = true then dres E ops a0 a dst (fun a' σ' => again E.P ops b σ' i rs ∧ dopsR E ops b Q a0 rest a' σ' rs) Q σ (cop E.P σ a.eval ⟨dst, op, ty, pos, after, some (j, want)⟩)
          else rres (fun v => dopsR E ops b Q a0 rest (a.put dst v) σ (⟨i, a, v⟩ :: rs)) (cop E.P σ a.eval ⟨dst, op, ty, pos, after, some (j, want)⟩))
        (dopsR E ops b Q a0 rest (a.put dst nope) σ rs) := by
  obtain ⟨d, hd⟩ := Option.isSome_iff_exists.1 hd
  have hdd : dstOf ops j = d := by simp [dstOf, hd]
  rw [hdd] at hs ⊢
  rw [dopsR]
  simp only [wantedC, hd, hs, if_true]
  unfold guardK
  generalize a.get d = v
  cases v with
  | bool b => cases b <;> cases want <;> rfl
  | chan c => cases c <;> rfl
  | _ => rfl
end
end Go.Sm
/- Stores: rows; the comparison, the search; keys. -/
set_option linter.unusedVariables false
set_option linter.unusedSimpArgs false
namespace Go.Sm
open Go Go.Proofs
set_option maxRecDepth 100000
set_option maxHeartbeats 1000000
/-- A row: a key, and where its chain lies. -/
structure RV where
  key : ByteArray
  p : Option Addr
  n : Nat
  c : Nat
def encR (r : RV) : List Value := [.string r.key, .slice r.p r.n r.c]
theorem lenR (r : RV) : (encR r).length = 2 := rfl
theorem cokR (r : RV) : cokL (encR r) = true := rfl
open Classical in
noncomputable def ordR (k : ByteArray) (r : RV) : Int := if klt r.key k = true then -1 else if r.key = k then 0 else 1
theorem orderR_spec (k : ByteArray) (r : RV) (σ : CSt) (Q : Out → CSt → Prop) (h : ∀ σ', Grow σ σ' → Q (.ret (.int .i64 (ordR k r)) false) σ') : W E1 (.fn 52 #[.agg (encR r).toArray, .string k] none) σ Q := by
  rw [W_fn (fn := Tryz.f52) Tryz.func52 rfl rfl rfl]
  have hg := h _ ((Grow.refl σ).alloc (CObj.cells (encR r) 95 false))
  simp only [encR, ordR] at hg
  simp [wops_cons, encR]
  cases h1 : klt r.key k
  · by_cases h2 : r.key = k
    · have h3 : r.key.toList = k.toList := by rw [h2]
      have h4 : klt k k = false := bl_irrefl _
      simpa [h1, h2, h3, h4] using hg
    · have h3 : ¬ r.key.toList = k.toList := fun e => h2 (ba_list_inj e)
      simpa [h1, h2, h3] using hg
  · simpa [h1] using hg
theorem search_95 (l : List RV) (v key : Value) (hkey : flat0 key = true) (ord : RV → Int) (σ : CSt) (hsl : Sl σ 95 2 encR v l) (hbig : l.length < 2 ^ 40)
    (hcmp : ∀ (x : RV) (σ : CSt) (Q : Out → CSt → Prop), (∀ σ', Grow σ σ' → Q (.ret (.int .i64 (ord x)) false) σ') → W E1 (.fn 52 #[.agg (encR x).toArray, key] none) σ Q)
    (hmono : ∀ j k (hj : j < l.length) (hk : k < l.length), j < k → ord l[k] < 0 → ord l[j] < 0) (Q : Out → CSt → Prop)
    (h : ∀ (k : Nat) (σ' : CSt), Cut ord l k → Grow σ σ' → Q (.ret (.tuple #[.int .i64 k, .bool (decide (∃ h : k < l.length, ord l[k] = 0))]) false) σ') :
    W E1 (.fn 51 #[v, key, .func (.func 52) #[] #[]] none) σ Q := by
  rw [W_fn (fn := Tryz.f51) Tryz.func51 rfl rfl rfl]
  rcases hsl with ⟨rfl, rfl⟩ | ⟨i, off, cap, row, ro, rfl, hg, hin, hrow, hlen, hcap⟩
  · have := h 0 σ ⟨Nat.le_refl _, by simp, by simp⟩ (Grow.refl σ)
    simp [wops_cons]
    rw [W_loop]
    simp [wops_cons, wops_if', dstOf]
    have e : decide (∃ h : 0 < ([] : List RV).length, ord ([] : List RV)[0] = 0) = false := decide_eq_false fun ⟨h, _⟩ => absurd h (by simp)
    rw [e] at this
    exact this
  simp [wops_cons]
  refine W_loop_inv (fun n a σ' => ∃ tm lo hi, a = ⟨tm, 49, [], false⟩ ∧ tm.get 0 = some (.slice (some ⟨i, off, none⟩) l.length cap) ∧ tm.get 1 = some key ∧ tm.get 2 = some (.func (.func 52) #[] #[]) ∧ tm.get 8 = some (.int .i64 l.length) ∧ tm.get 9 = some (.int .i64 lo) ∧ tm.get 10 = some (.int .i64 hi) ∧
      (0 ≤ lo ∧ lo ≤ hi ∧ hi ≤ l.length ∧ n = (hi - lo).toNat ∧ (∀ j (h : j < l.length), (j : Int) < lo → ord l[j] < 0) ∧ (∀ j (h : j < l.length), hi ≤ j → 0 ≤ ord l[j])) ∧ Grow σ σ') ?_ l.length _ _ ?_
  · rintro n a σ' ⟨tm, lo, hi, rfl, h0, h1, h2, h8, h9, h10, ⟨hlo, hlh, hhi, hn, hl, hr⟩, hgr⟩
    have hgi := hgr.get hg hin
    by_cases hlt : lo < hi
    · have hm := mid_eq lo hi hlo hlt (by omega)
      obtain ⟨m, hmm⟩ : ∃ m : Nat, (lo + hi) / 2 = m := ⟨((lo + hi) / 2).toNat, by omega⟩
      have hm1 : m < l.length := by omega
      have hm2 : lo ≤ m ∧ (m : Int) < hi := by omega
      rw [hmm] at hm
      have hld := row_get (enc := encR) (fun _ => rfl) hrow m hm1
      have hle := row_le hlen m hm1
      have hw := i64n1 m (by omega)
      simp [wops_cons, h0, h1, h2, h8, h9, h10, hlt, hm, hm1, hgi, hld, hle, -List.length_flatMap]
      refine hcmp _ _ _ fun σ'' hgr2 => ?_
      by_cases hc : ord l[m] < 0
      · simp [wops_cons, hc, hw]
        refine ⟨_, ?_, h0, h1, h2, h8, hi, h10, ⟨by omega, by omega, hhi, rfl, fun j hjl hj => ?_, hr⟩, hgr.trans hgr2⟩
        · omega
        · by_cases hj' : j = m
          · subst hj'; exact hc
          · exact hmono j m hjl hm1 (by omega) hc
      · simp [wops_cons, hc]
        refine ⟨_, ?_, h0, h1, h2, h8, lo, h9, ⟨hlo, by omega, by omega, rfl, hl, fun j hjl hj => ?_⟩, hgr.trans hgr2⟩
        · omega
        · by_cases hj' : j = m
          · subst hj'; omega
          · have := hmono m j hm1 hjl (by omega)
            omega
    · obtain ⟨k, rfl⟩ := Int.eq_ofNat_of_zero_le hlo
      have hk : hi = k := by omega
      have hcut : Cut ord l k := ⟨by omega, fun j hj h => hl j hj (by omega), fun j hj h => hr j hj (by omega)⟩
      by_cases hkl : k < l.length
      · have hld := row_get (enc := encR) (fun _ => rfl) hrow k hkl
        have hle := row_le hlen k hkl
        simp [wops_cons, wops_if', dstOf, h0, h1, h2, h8, h9, h10, hlt, hkl, hgi, hld, hle, -List.length_flatMap]
        refine hcmp _ _ _ fun σ'' hgr2 => ?_
        have := h k σ'' hcut (hgr.trans hgr2)
        simp [wops_cons, wops_if', dstOf, hkl] at this ⊢
        exact this
      · have := h k σ' hcut hgr
        simp [wops_cons, wops_if', dstOf, h0, h1, h2, h8, h9, h10, hlt, hkl] at this ⊢
        exact this
  · refine ⟨_, 0, l.length, rfl, ?_⟩
    simp
    exact ⟨⟨fun j _ h => by omega, fun j h1 h2 => by omega⟩, Grow.refl σ⟩

/-- A key, by a number. -/
def keyOf (n : Int) : ByteArray := match n.toNat with
  | 0 => ⟨#[97]⟩ | 1 => ⟨#[98]⟩ | 2 => ⟨#[98, 97]⟩ | 3 => ⟨#[98, 98]⟩ | 4 => ⟨#[99]⟩ | 5 => ⟨#[122, 122]⟩ | 6 => ⟨#[]⟩ | _ => ⟨#[255]⟩
theorem key_spec (n : Int) (h0 : 0 ≤ n) (h1 : n < 256) (σ : CSt) (Q : Out → CSt → Prop) (h : ∀ σ', Grow σ σ' → Q (.ret (.string (keyOf (n.tmod 8))) false) σ') : W E1 (.fn 30 #[.int .u8 n] none) σ Q := by
  rw [W_fn (fn := Tryz.f30) Tryz.func30 rfl rfl rfl]
  have h2 : 0 ≤ n.tmod 8 := Int.tmod_nonneg 8 h0
  have h3 : n.tmod 8 < 8 := Int.tmod_lt_of_pos n (by decide)
  obtain ⟨k, hk⟩ : ∃ k : Nat, n.tmod 8 = k := ⟨(n.tmod 8).toNat, by omega⟩
  have h4 : k < 8 := by omega
  rw [hk] at h
  have hg := fun o => h _ ((Grow.refl σ).alloc o)
  match k, hk, h4, hg with
  | 0, hk, _, hg => have := hg (.cells [.string ⟨#[97]⟩, .string ⟨#[98]⟩, .string ⟨#[98, 97]⟩, .string ⟨#[98, 98]⟩, .string ⟨#[99]⟩, .string ⟨#[122, 122]⟩, .string ⟨#[]⟩, .string ⟨#[255]⟩] 9 false); simpa [wops_cons, hk, keyOf] using this
  | 1, hk, _, hg => have := hg (.cells [.string ⟨#[97]⟩, .string ⟨#[98]⟩, .string ⟨#[98, 97]⟩, .string ⟨#[98, 98]⟩, .string ⟨#[99]⟩, .string ⟨#[122, 122]⟩, .string ⟨#[]⟩, .string ⟨#[255]⟩] 9 false); simpa [wops_cons, hk, keyOf] using this
  | 2, hk, _, hg => have := hg (.cells [.string ⟨#[97]⟩, .string ⟨#[98]⟩, .string ⟨#[98, 97]⟩, .string ⟨#[98, 98]⟩, .string ⟨#[99]⟩, .string ⟨#[122, 122]⟩, .string ⟨#[]⟩, .string ⟨#[255]⟩] 9 false); simpa [wops_cons, hk, keyOf] using this
  | 3, hk, _, hg => have := hg (.cells [.string ⟨#[97]⟩, .string ⟨#[98]⟩, .string ⟨#[98, 97]⟩, .string ⟨#[98, 98]⟩, .string ⟨#[99]⟩, .string ⟨#[122, 122]⟩, .string ⟨#[]⟩, .string ⟨#[255]⟩] 9 false); simpa [wops_cons, hk, keyOf] using this
  | 4, hk, _, hg => have := hg (.cells [.string ⟨#[97]⟩, .string ⟨#[98]⟩, .string ⟨#[98, 97]⟩, .string ⟨#[98, 98]⟩, .string ⟨#[99]⟩, .string ⟨#[122, 122]⟩, .string ⟨#[]⟩, .string ⟨#[255]⟩] 9 false); simpa [wops_cons, hk, keyOf] using this
  | 5, hk, _, hg => have := hg (.cells [.string ⟨#[97]⟩, .string ⟨#[98]⟩, .string ⟨#[98, 97]⟩, .string ⟨#[98, 98]⟩, .string ⟨#[99]⟩, .string ⟨#[122, 122]⟩, .string ⟨#[]⟩, .string ⟨#[255]⟩] 9 false); simpa [wops_cons, hk, keyOf] using this
  | 6, hk, _, hg => have := hg (.cells [.string ⟨#[97]⟩, .string ⟨#[98]⟩, .string ⟨#[98, 97]⟩, .string ⟨#[98, 98]⟩, .string ⟨#[99]⟩, .string ⟨#[122, 122]⟩, .string ⟨#[]⟩, .string ⟨#[255]⟩] 9 false); simpa [wops_cons, hk, keyOf] using this
  | 7, hk, _, hg => have := hg (.cells [.string ⟨#[97]⟩, .string ⟨#[98]⟩, .string ⟨#[98, 97]⟩, .string ⟨#[98, 98]⟩, .string ⟨#[99]⟩, .string ⟨#[122, 122]⟩, .string ⟨#[]⟩, .string ⟨#[255]⟩] 9 false); simpa [wops_cons, hk, keyOf] using this
end Go.Sm
/- Purged chains: plain facts. -/
set_option linter.unusedSimpArgs false
namespace Go.Sm

theorem Srt.upto {t : Int} : ∀ {c : List Ver}, Srt c → ∃ m, m ≤ c.length ∧ (∀ i (h : i < c.length), c[i].at_ ≤ t ↔ i < m) ∧ (c.filter fun v => decide (v.at_ ≤ t)) = c.take m
  | [], _ => ⟨0, Nat.le_refl _, fun i h => absurd h (by simp), rfl⟩
  | v :: c, h => by
    obtain ⟨m, h1, h2, h3⟩ := Srt.upto (t := t) h.tail
    by_cases hv : v.at_ ≤ t
    · refine ⟨m + 1, by simpa using h1, fun i hi => ?_, ?_⟩
      · cases i with
        | zero => simpa using hv
        | succ i => simpa using h2 i (by simpa using hi)
      · simp [hv, h3]
    · have hall : ∀ u ∈ c, ¬ u.at_ ≤ t := fun u hu => by have := h.head u hu; omega
      refine ⟨0, Nat.zero_le _, fun i hi => ?_, ?_⟩
      · cases i with
        | zero => simpa using hv
        | succ i =>
          have hi' : i < c.length := by simpa using hi
          have := hall c[i] (List.getElem_mem hi')
          simp only [List.getElem_cons_succ, Nat.not_lt_zero, iff_false]
          exact this
      · rw [List.filter_cons, if_neg (by simpa using hv), List.take_zero, List.filter_eq_nil_iff]
        intro u hu
        simpa using hall u hu
/-- Where the part that stays begins. -/
theorem cut_start {c : List Ver} (hs : Srt c) (t : Int) : ∃ s, cutL c t = c.drop s ∧ ∀ i (h : i < c.length), (t < c[i].at_ ∨ (¬ (∃ h : i + 1 < c.length, c[i + 1].at_ ≤ t) ∧ c[i].gone = false)) ↔ s ≤ i := by
  obtain ⟨m, h1, h2, h3⟩ := hs.upto (t := t)
  have hl : (c.filter fun v => decide (v.at_ ≤ t)).length = m := by rw [h3, List.length_take]; omega
  cases m with
  | zero =>
    refine ⟨0, by unfold cutL; rw [hl]; rfl, fun i hi => ?_⟩
    have := h2 i hi
    simp only [Nat.zero_le, iff_true]
    left
    omega
  | succ n =>
    have hn : n < c.length := by omega
    have hcut : cutL c t = if c[n].gone then c.drop (n + 1) else c.drop n := cut_of hn h3
    cases hg : c[n].gone with
    | true =>
      refine ⟨n + 1, by rw [hcut, hg]; rfl, fun i hi => ?_⟩
      have a1 := h2 i hi
      constructor
      · rintro (h | ⟨h, h'⟩)
        · omega
        · by_cases e : i < n
          · exact absurd ⟨by omega, (h2 (i + 1) (by omega)).2 (by omega)⟩ h
          · by_cases e2 : i = n
            · subst e2; rw [hg] at h'; cases h'
            · omega
      · intro h; left; omega
    | false =>
      refine ⟨n, by rw [hcut, hg]; rfl, fun i hi => ?_⟩
      have a1 := h2 i hi
      constructor
      · rintro (h | ⟨h, h'⟩)
        · omega
        · by_cases e : i < n
          · exact absurd ⟨by omega, (h2 (i + 1) (by omega)).2 (by omega)⟩ h
          · omega
      · intro h
        by_cases e : i = n
        · subst e
          right
          refine ⟨?_, hg⟩
          rintro ⟨h4, h5⟩
          have := (h2 (i + 1) h4).1 h5
          omega
        · left; omega
/-- What the loop gathers. -/
def keepB (c : List Ver) (t : Int) (i : Nat) : Bool := match c[i]? with | some v => decide (t < v.at_) || (!((c[i + 1]?.map fun u => decide (u.at_ ≤ t)).getD false) && !v.gone) | none => false
def wantL (c : List Ver) (t : Int) : Nat → List Ver
  | 0 => []
  | n + 1 => wantL c t n ++ (if keepB c t n then c[n]?.toList else [])
theorem keepB_eq {c : List Ver} (t : Int) (i : Nat) (h : i < c.length) : keepB c t i = true ↔ (t < c[i].at_ ∨ (¬ (∃ h : i + 1 < c.length, c[i + 1].at_ ≤ t) ∧ c[i].gone = false)) := by
  unfold keepB
  rw [List.getElem?_eq_getElem h]
  by_cases h2 : i + 1 < c.length
  · simp [h2, List.getElem?_eq_getElem h2]
  · simp [h2, List.getElem?_eq_none (Nat.le_of_not_lt h2)]
theorem want_eq {c : List Ver} (hs : Srt c) (t : Int) : wantL c t c.length = cutL c t := by
  obtain ⟨s, h1, h2⟩ := cut_start hs t
  have : ∀ n, n ≤ c.length → wantL c t n = (c.take n).drop s := by
    intro n
    induction n with
    | zero => intro _; simp [wantL]
    | succ n ih =>
      intro hn
      have hk := (keepB_eq t n (by omega)).trans (h2 n (by omega))
      rw [wantL, ih (by omega), List.take_succ_eq_append_getElem (by omega)]
      by_cases e : s ≤ n
      · rw [if_pos (hk.2 e), List.drop_append_of_le_length (by rw [List.length_take]; omega), List.getElem?_eq_getElem (by omega)]; rfl
      · rw [if_neg (fun h => e (hk.1 h)), List.append_nil, List.drop_of_length_le (by rw [List.length_take]; omega), List.drop_of_length_le (by simp; omega)]
  rw [this _ (Nat.le_refl _), List.take_length, h1]
theorem want_len (c : List Ver) (t : Int) : ∀ n, (wantL c t n).length ≤ n
  | 0 => by simp [wantL]
  | n + 1 => by
    have := want_len c t n
    rw [wantL, List.length_append]
    split
    · cases c[n]? <;> simp <;> omega
    · simp; omega
theorem want_succ (c : List Ver) (t : Int) (n : Nat) (h : n < c.length) : wantL c t (n + 1) = if keepB c t n then wantL c t n ++ [c[n]] else wantL c t n := by
  rw [wantL, List.getElem?_eq_getElem h]
  split <;> simp
theorem atL_take {c : List Ver} (hs : Srt c) (t : Int) : ∃ m, m ≤ c.length ∧ (∀ i (h : i < c.length), c[i].at_ ≤ t ↔ i < m) ∧ (∀ s, atL (c.drop s) t = ((c.take m).drop s).getLast?) := by
  obtain ⟨m, h1, h2, h3⟩ := hs.upto (t := t)
  refine ⟨m, h1, h2, fun s => ?_⟩
  unfold atL
  congr 1
  have hd : ∀ i (h : i < (c.drop s).length), (c.drop s)[i].at_ ≤ t ↔ i < m - s := by
    intro i h
    simp only [List.length_drop] at h
    rw [List.getElem_drop]
    have := h2 (s + i) (by omega)
    omega
  have hs2 : Srt (c.drop s) := List.Pairwise.sublist (List.drop_sublist s c) hs
  obtain ⟨m', h1', h2', h3'⟩ := hs2.upto (t := t)
  have : m' = min (m - s) (c.drop s).length := by
    simp only [List.length_drop] at h1' ⊢
    rcases Nat.lt_trichotomy m' (min (m - s) (c.length - s)) with h | h | h
    · have a := h2' m' (by simp; omega)
      have b := hd m' (by simp; omega)
      omega
    · exact h
    · have a := h2' (min (m - s) (c.length - s)) (by simp; omega)
      have b := hd (min (m - s) (c.length - s)) (by simp; omega)
      omega
  rw [h3', this, List.drop_take, Nat.min_comm, ← List.take_take, List.take_of_length_le (by simp; omega)]
theorem purge_law {c : List Ver} (hs : Srt c) {t u : Int} (htu : t ≤ u) : (atL (cutL c t) u = atL c u) ∨ (atL (cutL c t) u = none ∧ ∀ v, atL c u = some v → v.gone = true) := by
  obtain ⟨s, h1, h2⟩ := cut_start hs t
  obtain ⟨m, h3, h4, h5⟩ := atL_take hs u
  have h6 := h5 0
  simp only [List.drop_zero] at h6
  rw [h1, h5, h6]
  by_cases e : s < m
  · left
    rw [List.getLast?_drop, if_neg (by rw [List.length_take]; omega)]
  · right
    refine ⟨by rw [List.drop_of_length_le (by rw [List.length_take]; omega)]; rfl, fun v hv => ?_⟩
    cases m with
    | zero => simp at hv
    | succ n =>
      rw [take_last (by omega)] at hv
      cases hv
      have a := h2 n (by omega)
      have b := (h4 n (by omega)).2 (by omega)
      cases hg : c[n].gone with
      | true => rfl
      | false =>
        exfalso
        rw [hg] at a
        have : s ≤ n := a.1 (.inr ⟨fun ⟨h7, h8⟩ => by have := (h4 (n + 1) h7).1 (by omega); omega, rfl⟩)
        omega
end Go.Sm
/- A chain with one more: plain facts. -/
set_option linter.unusedSimpArgs false
namespace Go.Sm
theorem mem_put {c : List Ver} {x u : Ver} : u ∈ putL c x ↔ u = x ∨ (u ∈ c ∧ u.at_ ≠ x.at_) := by
  unfold putL
  simp only [List.mem_append, List.mem_filter, List.mem_cons, decide_eq_true_eq]
  constructor
  · rintro (⟨h, h2⟩ | rfl | ⟨h, h2⟩)
    · exact .inr ⟨h, by omega⟩
    · exact .inl rfl
    · exact .inr ⟨h, by omega⟩
  · rintro (rfl | ⟨h, h2⟩)
    · exact .inr (.inl rfl)
    · by_cases e : u.at_ < x.at_
      · exact .inl ⟨h, e⟩
      · exact .inr (.inr ⟨h, by omega⟩)
theorem Srt.inj {c : List Ver} (h : Srt c) {u v : Ver} (hu : u ∈ c) (hv : v ∈ c) (e : u.at_ = v.at_) : u = v := by
  have a := h.lk_mem hu
  have b := h.lk_mem hv
  rw [e, b] at a
  exact (Option.some.inj a).symm
theorem atL_none {c : List Ver} {t : Int} : atL c t = none ↔ ∀ u ∈ c, ¬ u.at_ ≤ t := by
  unfold atL
  rw [List.getLast?_eq_none_iff, List.filter_eq_nil_iff]
  simp
theorem atL_max {c : List Ver} (hs : Srt c) {t : Int} {a : Ver} (h : atL c t = some a) : a ∈ c ∧ a.at_ ≤ t ∧ ∀ u ∈ c, u.at_ ≤ t → u.at_ ≤ a.at_ := by
  unfold atL at h
  have hm := List.mem_of_getLast? h
  rw [List.mem_filter, decide_eq_true_eq] at hm
  refine ⟨hm.1, hm.2, fun u hu hut => ?_⟩
  have hF : Srt (c.filter fun v => decide (v.at_ ≤ t)) := hs.filter _
  have hu' : u ∈ (c.filter fun v => decide (v.at_ ≤ t)) := List.mem_filter.2 ⟨hu, by simpa using hut⟩
  obtain ⟨ys, hys⟩ := List.getLast?_eq_some_iff.1 h
  rw [hys] at hF hu'
  rcases List.mem_append.1 hu' with h1 | h1
  · have := (List.pairwise_append.1 hF).2.2 u h1 a (by simp)
    omega
  · rw [List.mem_singleton] at h1; rw [h1]; exact Int.le_refl _
theorem atL_some {c : List Ver} (hs : Srt c) {t : Int} {a : Ver} (h1 : a ∈ c) (h2 : a.at_ ≤ t) (h3 : ∀ u ∈ c, u.at_ ≤ t → u.at_ ≤ a.at_) : atL c t = some a := by
  cases h : atL c t with
  | none => exact absurd h2 (atL_none.1 h a h1)
  | some b =>
    obtain ⟨g1, g2, g3⟩ := atL_max hs h
    have a1 := g3 a h1 h2
    have a2 := h3 b g1 g2
    rw [hs.inj g1 h1 (by omega)]
theorem put_before {c : List Ver} (hs : Srt c) {x : Ver} {t : Int} (h : t < x.at_) : atL (putL c x) t = atL c t := by
  cases ha : atL c t with
  | none =>
    rw [atL_none] at ha ⊢
    intro u hu
    rcases mem_put.1 hu with rfl | ⟨h1, h2⟩
    · omega
    · exact ha u h1
  | some a =>
    obtain ⟨g1, g2, g3⟩ := atL_max hs ha
    refine atL_some (hs.put x) (mem_put.2 (.inr ⟨g1, by omega⟩)) g2 fun u hu hut => ?_
    rcases mem_put.1 hu with rfl | ⟨h1, h2⟩
    · omega
    · exact g3 u h1 hut
theorem put_after {c : List Ver} (hs : Srt c) {x a : Ver} {t : Int} (h : atL c t = some a) (hx : x.at_ < a.at_) : atL (putL c x) t = some a := by
  obtain ⟨g1, g2, g3⟩ := atL_max hs h
  refine atL_some (hs.put x) (mem_put.2 (.inr ⟨g1, by omega⟩)) g2 fun u hu hut => ?_
  rcases mem_put.1 hu with rfl | ⟨h1, h2⟩
  · omega
  · exact g3 u h1 hut
theorem put_here {c : List Ver} (hs : Srt c) {x : Ver} {t : Int} (h : x.at_ ≤ t) (ha : ∀ a, atL c t = some a → a.at_ ≤ x.at_) : atL (putL c x) t = some x := by
  refine atL_some (hs.put x) (mem_put.2 (.inl rfl)) h fun u hu hut => ?_
  rcases mem_put.1 hu with rfl | ⟨h1, h2⟩
  · exact Int.le_refl _
  · cases hc : atL c t with
    | none => exact absurd hut (atL_none.1 hc u h1)
    | some a =>
      have := (atL_max hs hc).2.2 u h1 hut
      have := ha a hc
      omega
end Go.Sm
/- Stores as lists: plain facts. -/
set_option linter.unusedSimpArgs false
namespace Go.Sm
theorem klt_irrefl (k : ByteArray) : klt k k = false := bl_irrefl _
theorem klt_trans {a b c : ByteArray} (h : klt a b = true) (h' : klt b c = true) : klt a c = true := bl_trans h h'
theorem klt_tri {a b : ByteArray} (h : klt a b = false) (h' : klt b a = false) : a = b := ba_list_inj (bl_tri h h')
/-- A store as a list: the keys, and their chains. -/
abbrev Stl := List (ByteArray × List Ver)
def KS (S : Stl) : Prop := S.Pairwise fun a c => klt a.1 c.1 = true
/-- Where a key stands, or would. -/
structure Pos (S : Stl) (k : ByteArray) (n : Nat) : Prop where
  le : n ≤ S.length
  lo : ∀ j (h : j < S.length), j < n → klt S[j].1 k = true
  hi : ∀ j (h : j < S.length), n ≤ j → klt S[j].1 k = false
def putAt (S : Stl) (k : ByteArray) (x : Ver) (n : Nat) : Stl :=
  match S[n]? with
  | some s => if s.1 = k then S.set n (k, putL s.2 x) else S.take n ++ (k, putL [] x) :: S.drop n
  | none => S.take n ++ (k, putL [] x) :: S.drop n
def getS (S : Stl) (k : ByteArray) : Option (List Ver) := (S.find? fun s => decide (s.1 = k)).map (·.2)
end Go.Sm
/- What may change: objects of some types that were made behind a point. -/
set_option linter.unusedVariables false
namespace Go.Sm
open Go
def Fr (T : TypeId → Prop) (b : Nat) (σ σ' : CSt) : Prop := σ.n ≤ σ'.n ∧ ∀ j, j < σ.n → (j < b ∨ ∀ row e ro, σ.get j = some (.cells row e ro) → ¬ T e) → σ'.get j = σ.get j
section
variable {T T' : TypeId → Prop} {b b' : Nat} {s0 s1 s2 : CSt}
theorem Fr.refl (T : TypeId → Prop) (b : Nat) (σ : CSt) : Fr T b σ σ := ⟨Nat.le_refl _, fun _ _ _ => rfl⟩
theorem Grow.fr (h : Grow s0 s1) : Fr T b s0 s1 := ⟨h.n, fun j hj _ => h.old j hj⟩
theorem Fr.trans (h : Fr T b s0 s1) (h' : Fr T b s1 s2) : Fr T b s0 s2 :=
  ⟨Nat.le_trans h.1 h'.1, fun j hj hc => by rw [h'.2 j (Nat.lt_of_lt_of_le hj h.1) (by rw [h.2 j hj hc]; exact hc), h.2 j hj hc]⟩
theorem Fr.mono (h : Fr T b s0 s1) (hT : ∀ e, T e → T' e) (hb : b' ≤ b) : Fr T' b' s0 s1 :=
  ⟨h.1, fun j hj hc => h.2 j hj (hc.elim (fun h => .inl (Nat.lt_of_lt_of_le h hb)) fun hc => .inr fun row e ro hg ht => hc row e ro hg (hT e ht))⟩
theorem Fr.alloc (h : Fr T b s0 s1) (o : CObj) : Fr T b s0 (s1.alloc o) := h.trans ((Grow.refl s1).alloc o).fr
theorem Fr.put (h : Fr T b s0 s1) {i : Nat} (hi : b ≤ i) {row : List Value} {e : TypeId} {ro : Bool} (hg : s1.get i = some (.cells row e ro)) (ht : T e) (o : CObj) : Fr T b s0 (s1.put i o) :=
  h.trans ⟨Nat.le_refl _, fun j hj hc => by
    rw [CSt.get_put]
    by_cases e' : j = i
    · subst e'
      rcases hc with hc | hc
      · omega
      · exact absurd ht (hc _ _ _ hg)
    · rw [if_neg e']⟩
theorem Fr.new (h : Fr T b s0 s1) {i : Nat} (hi : s0.n ≤ i) (o : CObj) : Fr T b s0 (s1.put i o) := ⟨h.1, fun j hj hc => by rw [CSt.get_put, if_neg (by omega)]; exact h.2 j hj hc⟩
theorem Fr.growB (h : Fr T b s0 s1) (hb : b ≤ s0.n) : GrowB b s0 s1 := ⟨h.1, fun j hj => h.2 j (Nat.lt_of_lt_of_le hj hb) (.inl hj)⟩
theorem Fr.grow (h : Fr T b s0 s1) (hb : s0.n ≤ b) : Grow s0 s1 := ⟨h.1, fun j hj => h.2 j hj (.inl (Nat.lt_of_lt_of_le hj hb))⟩
theorem Fr.get (h : Fr T b s0 s1) {i : Nat} {o : CObj} (hg : s0.get i = some o) (hi : i < s0.n) (hc : i < b ∨ ∀ row e ro, o = .cells row e ro → ¬ T e) : s1.get i = some o := by
  rw [h.2 i hi (hc.elim .inl fun hc => .inr fun row e ro h1 => hc row e ro (by rw [hg] at h1; exact Option.some.inj h1)), hg]
variable {α : Type} {e : TypeId} {sz : Nat} {enc : α → List Value} {v : Value} {l : List α}
theorem Sl.fr (h : Sl s0 e sz enc v l) (ht : ¬ T e) (hg : Fr T b s0 s1) : Sl s1 e sz enc v l := by
  rcases h with h | ⟨i, off, cap, row, ro, h1, h2, h3, h4⟩
  · exact .inl h
  · exact .inr ⟨i, off, cap, row, ro, h1, hg.get h2 h3 (.inr fun row' e' ro' he => by cases he; exact ht), Nat.lt_of_lt_of_le h3 hg.1, h4⟩
theorem Own.fr (h : Own b' s0 e enc v l) (ht : ¬ T e) (hg : Fr T b s0 s1) : Own b' s1 e enc v l := by
  rcases h with h | ⟨i, cap, h1, hb, hi, h2, h3⟩
  · exact .inl h
  · exact .inr ⟨i, cap, h1, hb, Nat.lt_of_lt_of_le hi hg.1, hg.get h2 hi (.inr fun row' e' ro' he => by cases he; exact ht), h3⟩
end
section
variable {P : Program} {σ : CSt} {ev : Operand → Value} {dst : Option Tmp} {ty : TypeId} {pos : String} {after : Array Edge} {g : Option (Nat × Bool)}
def nilK (σ : CSt) : Value → OpR
  | .pointer (some a) => .val (.pointer (some a)) σ
  | .func (.func f) fs cs => .val (.func (.func f) fs cs) σ
  | .func (.yield f) fs cs => .val (.func (.yield f) fs cs) σ
  | .iface t v => .val (.iface t v) σ
  | _ => .fail
@[simp] theorem copE_nilCheck (x : Operand) : cop P σ ev ⟨dst, .nilCheck x, ty, pos, after, g⟩ = nilK σ (ev x) := (rfl)
@[simp] theorem nilK_ptr (a : Addr) : nilK σ (.pointer (some a)) = .val (.pointer (some a)) σ := (rfl)
@[simp] theorem nilK_fn (f : FuncId) (fs cs : Array Value) : nilK σ (.func (.func f) fs cs) = .val (.func (.func f) fs cs) σ := (rfl)
@[simp] theorem nilK_yield (f : Nat) (fs cs : Array Value) : nilK σ (.func (.yield f) fs cs) = .val (.func (.yield f) fs cs) σ := (rfl)
end
end Go.Sm
/- Ranges over functions, as equations. -/
set_option linter.unusedVariables false
set_option linter.unusedSimpArgs false
namespace Go.Sm
open Go
variable {E : Env} {σ : CSt}
/-- Behind the function that is ranged over. -/
def krange (E : Env) (x : Ctx) (a : CAct) (L : Nat) (Q : Out → CSt → Prop) : Out → CSt → Prop := fun o σ =>
  match o with
  | .ret _ _ =>
    match σ.get L with
    | some (.loop st pend fn tm sz ps asg body) =>
      if st = .busy then False else
      match pend with
      | none => Q (.code .normal a) (σ.put L (.loop .exhausted pend fn tm sz ps asg body))
      | some c => W E (.code x c a) (σ.put L (.loop .exhausted pend fn tm sz ps asg body)) Q
    | _ => False
  | .pan v => Q (.code (.panic v) a) σ
  | _ => False
/-- Behind the assignments of a round. -/
def kround1 (E : Env) (L : Nat) (fn : FuncId) (body : Code) (Q : Out → CSt → Prop) : Out → CSt → Prop := fun o σ =>
  match o with
  | .code .normal a =>
    match σ.get L with
    | some (.loop .ready pend fn' tm' sz' ps' asg' body') =>
      W E (.code ⟨fn, some L, none⟩ body a) (σ.put L (.loop .busy pend fn' tm' sz' ps' asg' body')) fun o σ2 =>
        match o with
        | .code e a2 =>
          match jumpOf e with
          | some j =>
            match σ2.get L with
            | some (.loop st _ fn' tm' sz' ps' asg' body') => Q (.ret (.bool j.isNone) false) (σ2.put L (.loop (if j.isNone then .ready else .done) j fn' tm' sz' ps' asg' body'))
            | _ => False
          | none => match e with | .panic v => if a2.df.isEmpty then (match E.P.funcs[fn]? with | some _ => Q (.pan v) σ2 | none => False) else False | _ => False
        | _ => False
    | _ => False
  | _ => False
theorem W_rangeFunc {x : Ctx} {f : Operand} {ps : Array Tmp} {asg body : Code} {a : CAct} {σ : CSt} {Q : Out → CSt → Prop} {g : FuncId} {fs cs : Array Value} (hf : a.eval f = .func (.func g) fs cs) (ha : aroundOk σ x.rnd = true) :
    W E (.code x (.rangeFunc f ps asg body) a) σ Q = W E (.fn g (fs ++ #[.func (.yield σ.n) #[] #[]] ++ cs) none) (σ.alloc (.loop .ready none x.f a.tm a.sz ps asg body)) (krange E x a σ.n Q) := by
  rw [W_eq]
  simp only [F, ha, hf, callv, Bool.not_true, Bool.false_eq_true, if_false]
  rfl
theorem W_round {L : Nat} {args : Array Value} {σ : CSt} {Q : Out → CSt → Prop} {st : LoopState} {pend : Option Code} {fn : FuncId} {tm : Tr Value} {sz : Nat} {ps : Array Tmp} {asg body : Code} (hg : σ.get L = some (.loop st pend fn tm sz ps asg body)) (hs : args.size = ps.size) :
    W E (.round L args) σ Q = W E (.code ⟨fn, some L, none⟩ asg { tm := (ps.toList.zip args.toList).foldl (fun t p => if p.1 < sz then t.set p.1 p.2 else t) tm, sz := sz, df := [], tk := false }) σ (kround1 E L fn body Q) := by
  rw [W_eq]
  simp only [F, hg, hs, if_true]
  rfl
@[simp] theorem wres_yield (x : Ctx) (a : CAct) (d : Option Tmp) (K : CAct → CSt → Prop) (Q : Out → CSt → Prop) (L : Nat) (fs cs args : Array Value) (h : extOf E (.func (.yield L) fs cs) args σ = none) :
    wres E x a d K Q σ (.call (.func (.yield L) fs cs) args) = W E (.round L (fs ++ args)) σ (kret a d K Q) := by
  simp only [wres, h, callv]
  rfl
@[simp] theorem dres_yield (ops : Array Oper) (a0 a : CAct) (d : Option Tmp) (K : CAct → CSt → Prop) (Q : Out → CSt → Prop) (L : Nat) (fs cs args : Array Value) (h : extOf E (.func (.yield L) fs cs) args σ = none) :
    dres E ops a0 a d K Q σ (.call (.func (.yield L) fs cs) args) = W E (.round L (fs ++ args)) σ (kretd ops a0 a d K Q) := by
  simp only [dres, h, callv]
  rfl
@[simp] theorem ext_yield (L : Nat) (fs cs args : Array Value) (σ : CSt) : extOf E (.func (.yield L) fs cs) args σ = none := (rfl)
end Go.Sm
/- Maps: their entries as a list; ranges over them. -/
set_option linter.unusedVariables false
set_option linter.unusedSimpArgs false
namespace Go.Sm
open Go
/-- A map's entries. -/
abbrev MlG (κ : Type) := List (κ × Value)
abbrev Ml := MlG ByteArray
section
variable {κ : Type} [DecidableEq κ]
def EntsG (key : κ → Value) (es : List MapEntry) (M : MlG κ) : Prop := es.map (fun e => (e.key, e.val)) = M.map fun p => (key p.1, p.2)
def posM (k : κ) : MlG κ → Nat → Option (Nat × Value)
  | [], _ => none
  | p :: M, i => if p.1 = k then some (i, p.2) else posM k M (i + 1)
/-- Keys of a kind: the model finds them. -/
structure Keyed (key : κ → Value) (kd : TypeDesc) : Prop where
  flat : ∀ k, flat0 (key k) = true
  same : ∀ k k', Instr.sameNow kd (key k) (key k') = some (decide (k' = k))
  inj : ∀ k k', key k = key k' → k = k'
theorem keyed_str : Keyed Value.string .string := by
  refine ⟨fun k => rfl, fun k k' => ?_, fun k k' h => by cases h; rfl⟩
  by_cases e1 : k' = k
  · subst e1; simp [Instr.sameNow, ba_self]
  · have hne : (k == k') = false := by
      cases h : (k == k') with
      | false => rfl
      | true => exact absurd (ba_eq h).symm e1
    simp [Instr.sameNow, hne, e1]
theorem keyed_int (ik : IntKind) : Keyed (Value.int ik) (.int ik) := by
  refine ⟨fun k => rfl, fun k k' => ?_, fun k k' h => by cases h; rfl⟩
  by_cases e1 : k' = k
  · subst e1; simp [Instr.sameNow]
  · have : ¬ k = k' := fun h => e1 h.symm
    simp [Instr.sameNow, e1, this]
theorem find_entsG {key : κ → Value} {kd : TypeDesc} (hk : Keyed key kd) (k : κ) : ∀ (es : List MapEntry) (M : MlG κ) (i : Nat), EntsG key es M → Instr.findNow kd (key k) es i = some (posM k M i)
  | [], [], _, _ => rfl
  | [], p :: M, _, h => by simp [EntsG] at h
  | e :: es, [], _, h => by simp [EntsG] at h
  | e :: es, p :: M, i, h => by
    simp only [EntsG, List.map_cons, List.cons.injEq, Prod.mk.injEq] at h
    obtain ⟨⟨h1, h2⟩, h3⟩ := h
    have ih := find_entsG hk k es M (i + 1) h3
    unfold Instr.findNow posM
    rw [h1, hk.same]
    by_cases e1 : p.1 = k
    · simp [e1, h2]
    · simp [e1]
      exact ih
def getM (M : MlG κ) (k : κ) : Option Value := (M.find? fun p => decide (p.1 = k)).map (·.2)
def setM : MlG κ → κ → Value → MlG κ
  | [], k, v => [(k, v)]
  | p :: M, k, v => if p.1 = k then (k, v) :: M else p :: setM M k v
theorem posM_none {k : κ} {v : Value} : ∀ {M : MlG κ} {i : Nat}, posM k M i = none → getM M k = none ∧ setM M k v = M ++ [(k, v)] ∧ ∀ p ∈ M, p.1 ≠ k
  | [], _, _ => ⟨rfl, rfl, by simp⟩
  | p :: M, i, h => by
    unfold posM at h
    by_cases e : p.1 = k
    · rw [if_pos e] at h; cases h
    · rw [if_neg e] at h
      obtain ⟨h1, h2, h3⟩ := posM_none (v := v) h
      unfold getM setM
      rw [if_neg e, h2]
      refine ⟨?_, rfl, fun q hq => ?_⟩
      · rw [List.find?_cons]
        simp only [e, decide_false]
        exact h1
      · rcases List.mem_cons.1 hq with rfl | hq
        · exact e
        · exact h3 q hq
theorem posM_some {k : κ} {v w : Value} {j : Nat} : ∀ {M : MlG κ} {i : Nat}, posM k M i = some (j, w) → i ≤ j ∧ j - i < M.length ∧ getM M k = some w ∧ setM M k v = M.set (j - i) (k, v) ∧ (M[j - i]?).map (·.1) = some k
  | [], _, h => by cases h
  | p :: M, i, h => by
    unfold posM at h
    by_cases e : p.1 = k
    · rw [if_pos e] at h
      cases h
      refine ⟨Nat.le_refl _, by simp, ?_, ?_, by simp [e]⟩
      · unfold getM; rw [List.find?_cons]; simp [e]
      · unfold setM; rw [if_pos e]; simp
    · rw [if_neg e] at h
      obtain ⟨h0, h1, h2, h3, h4⟩ := posM_some (v := v) h
      have hj : j - i = (j - (i + 1)) + 1 := by omega
      refine ⟨by omega, by simp; omega, ?_, ?_, by rw [hj]; simpa using h4⟩
      · unfold getM; rw [List.find?_cons]; simp only [e, decide_false]; exact h2
      · unfold setM; rw [if_neg e, h3, hj, List.set_cons_succ]
/-- The entries; their births are of their own, before the clock; no key twice. -/
structure EntsOk (key : κ → Value) (es : List MapEntry) (clock : Nat) (M : MlG κ) : Prop where
  ents : EntsG key es M
  nodup : (es.map (·.born)).Nodup
  born : ∀ e ∈ es, e.born < clock
  keys : (M.map (·.1)).Nodup
def MpG (key : κ → Value) (σ : CSt) (m : Nat) (M : MlG κ) : Prop := ∃ es clock, σ.get m = some (.map es clock) ∧ EntsOk key es.toList clock M
theorem EntsG.length {κ : Type} {key : κ → Value} {es : List MapEntry} {M : MlG κ} (h : EntsG key es M) : es.length = M.length := by have := congrArg List.length h; simpa using this
theorem entsOk_nil {κ : Type} (key : κ → Value) (c : Nat) : EntsOk key [] c ([] : MlG κ) := ⟨rfl, by simp, by simp, by simp⟩
theorem setM_keys {k : κ} {v : Value} : ∀ {M : MlG κ}, (M.map (·.1)).Nodup → ((setM M k v).map (·.1)).Nodup ∧ ∀ q, q ∈ (setM M k v).map (·.1) ↔ q = k ∨ q ∈ M.map (·.1)
  | [], _ => by simp [setM]
  | p :: M, h => by
    rw [List.map_cons, List.nodup_cons] at h
    obtain ⟨h1, h2⟩ := setM_keys (k := k) (v := v) h.2
    unfold setM
    by_cases e : p.1 = k
    · rw [if_pos e, List.map_cons, List.nodup_cons]
      refine ⟨⟨by rw [← e]; exact h.1, h.2⟩, fun q => ?_⟩
      simp [e]
    · rw [if_neg e, List.map_cons, List.nodup_cons]
      refine ⟨⟨fun hm => ?_, h1⟩, fun q => ?_⟩
      · rcases (h2 p.1).1 hm with h3 | h3
        · exact e h3
        · exact h.1 h3
      · rw [List.mem_cons, h2, List.map_cons, List.mem_cons]
        exact or_left_comm
theorem getM_none {k : κ} {M : MlG κ} (h : ∀ p ∈ M, p.1 ≠ k) : getM M k = none := by
  unfold getM
  rw [List.find?_eq_none.2 fun p hp => by simpa using h p hp]
  rfl
theorem getM_mem {k : κ} {v : Value} : ∀ {M : MlG κ}, (M.map (·.1)).Nodup → (k, v) ∈ M → getM M k = some v
  | [], _, h => by cases h
  | p :: M, hn, h => by
    rw [List.map_cons, List.nodup_cons] at hn
    unfold getM
    rw [List.find?_cons]
    rcases List.mem_cons.1 h with rfl | h
    · simp
    · have : p.1 ≠ k := fun e => hn.1 (by rw [e]; exact List.mem_map_of_mem (f := (·.1)) h)
      simp only [this, decide_false]
      exact getM_mem hn.2 h
theorem getM_setM (k : κ) (v : Value) (q : κ) : ∀ M : MlG κ, getM (setM M k v) q = if k = q then some v else getM M q
  | [] => by
    unfold setM getM
    by_cases e : k = q <;> simp [e]
  | p :: M => by
    have ih := getM_setM k v q M
    unfold getM at ih ⊢
    unfold setM
    by_cases e1 : p.1 = k
    · rw [if_pos e1]
      by_cases e : k = q
      · simp [e]
      · have : ¬ p.1 = q := fun h => e (by rw [← e1, h])
        simp [e, this]
    · rw [if_neg e1]
      simp only [List.find?_cons]
      by_cases e2 : p.1 = q
      · have e : ¬ k = q := fun h => e1 (by rw [e2, h])
        simp [e2, e]
      · simp only [e2, decide_false]
        exact ih
section
variable {P : Program} {σ : CSt} {t kt et : TypeId} {m : Nat} {M : MlG κ} {k : κ} {key : κ → Value} {kd : TypeDesc}
theorem lookup_mpG (ht : P.underlying t = some (.map kt et)) (hk : keyKind P kt = some kd) (hK : Keyed key kd) {z : Value} (hz : zeroOf? P et = some z) (h : MpG key σ m M) (ok : Bool) : lookupOp P σ t (.map (some m)) (key k) ok = some (if ok then .tuple #[(getM M k).getD z, .bool (getM M k).isSome] else (getM M k).getD z) := by
  obtain ⟨es, clock, hg, he⟩ := h
  have hf : findK P kt (key k) es = some (posM k M 0) := by unfold findK; rw [hk]; exact find_entsG hK k _ M 0 he.ents
  unfold lookupOp
  rw [ht]
  simp only [CSt.maps, hg, Option.map_some, hf, hK.flat, if_true]
  cases hp : posM k M 0 with
  | none => rw [(posM_none (v := z) hp).1]; simp [hz]
  | some jw => obtain ⟨j, w⟩ := jw; rw [(posM_some (v := z) hp).2.2.1]; simp
theorem lookup_nilG (ht : P.underlying t = some (.map kt et)) (hk : keyKind P kt = some kd) (hK : Keyed key kd) {z : Value} (hz : zeroOf? P et = some z) (ok : Bool) : lookupOp P σ t (.map none) (key k) ok = some (if ok then .tuple #[z, .bool false] else z) := by
  have hf : findK P kt (key k) #[] = some none := by unfold findK; rw [hk]; rfl
  unfold lookupOp
  rw [ht]
  simp only [hf, hK.flat, if_true, hz, Option.map_some]
theorem update_mpG (ht : P.underlying t = some (.map kt et)) (hk : keyKind P kt = some kd) (hK : Keyed key kd) (h : MpG key σ m M) (v : Value) : ∃ o, updateOp P σ t (.map (some m)) (key k) v = some (σ.put m o) ∧ MpG key (σ.put m o) m (setM M k v) := by
  obtain ⟨es, clock, hg, he⟩ := h
  have hf : findK P kt (key k) es = some (posM k M 0) := by unfold findK; rw [hk]; exact find_entsG hK k _ M 0 he.ents
  unfold updateOp
  rw [ht]
  simp only [CSt.maps, hg, hf, hK.flat, if_true]
  have hkeys := (setM_keys (k := k) (v := v) he.keys).1
  cases hp : posM k M 0 with
  | none =>
    refine ⟨_, rfl, _, _, by rw [CSt.get_put, if_pos rfl], ?_⟩
    have hset := (posM_none (v := v) hp).2.1
    rw [hset] at hkeys
    rw [hset]
    have he1 := he.ents
    refine ⟨?_, ?_, fun e h => ?_, hkeys⟩
    · unfold EntsG at he1 ⊢
      simp [he1]
    · rw [Array.toList_push, List.map_append, List.nodup_append]
      refine ⟨he.nodup, by simp, fun a ha b hb => ?_⟩
      obtain ⟨e, h1, rfl⟩ := List.mem_map.1 ha
      simp at hb
      have := he.born e h1
      omega
    · rw [Array.toList_push] at h
      rcases List.mem_append.1 h with h | h
      · have := he.born e h; omega
      · rw [List.mem_singleton] at h; rw [h]; exact Nat.lt_succ_self _
  | some jw =>
    obtain ⟨j, w⟩ := jw
    obtain ⟨h1, h2, h3, h4, h5⟩ := posM_some (v := v) hp
    refine ⟨_, rfl, _, _, by rw [CSt.get_put, if_pos rfl], ?_⟩
    rw [h4] at hkeys
    rw [h4]
    have he1 := he.ents
    have hb : (es.modify j fun e => { e with key := key k, val := v }).toList.map (·.born) = es.toList.map (·.born) := by
      rw [Array.toList_modify]
      apply List.ext_getElem?
      intro n
      simp only [List.getElem?_map, List.getElem?_modify]
      by_cases e : j = n
      · subst e; simp [Option.map_map, Function.comp_def]
      · simp [e]
    refine ⟨?_, by rw [hb]; exact he.nodup, fun e h => ?_, hkeys⟩
    · unfold EntsG at he1 ⊢
      rw [Array.toList_modify, Nat.sub_zero]
      apply List.ext_getElem?
      intro n
      have hn := congrArg (·[n]?) he1
      simp only [List.getElem?_map, List.getElem?_modify, List.getElem?_set] at hn ⊢
      by_cases e : j = n
      · subst e
        rw [Nat.sub_zero] at h2
        have hl := EntsG.length he1
        simp [h2, List.getElem?_eq_getElem (show j < es.toList.length by omega)]
      · simp [e]
        simpa using hn
    · have h6 : e.born ∈ (es.modify j fun e => { e with key := key k, val := v }).toList.map (·.born) := List.mem_map_of_mem h
      rw [hb] at h6
      obtain ⟨e', h7, h8⟩ := List.mem_map.1 h6
      rw [← h8]
      exact he.born e' h7
end
end
abbrev Mp (σ : CSt) (m : Nat) (M : Ml) : Prop := MpG Value.string σ m M
section
variable {P : Program} {σ : CSt} {t kt et : TypeId} {m : Nat} {M : Ml} {k : ByteArray}
theorem lookup_mp (ht : P.underlying t = some (.map kt et)) (hk : keyKind P kt = some .string) {z : Value} (hz : zeroOf? P et = some z) (h : Mp σ m M) : lookupOp P σ t (.map (some m)) (.string k) false = some ((getM M k).getD z) := by
  have := lookup_mpG (k := k) ht hk keyed_str hz h false
  simpa using this
theorem update_mp (ht : P.underlying t = some (.map kt et)) (hk : keyKind P kt = some .string) (h : Mp σ m M) (v : Value) : ∃ o, updateOp P σ t (.map (some m)) (.string k) v = some (σ.put m o) ∧ Mp (σ.put m o) m (setM M k v) := update_mpG ht hk keyed_str h v
end
/-! ### Ranges -/
section
variable {κ : Type} [DecidableEq κ]
/-- A range over a map: what is yet to come. -/
def MIt (key : κ → Value) (σ : CSt) (r m : Nat) (M S : MlG κ) : Prop := ∃ es clock seen, σ.get m = some (.map es clock) ∧ EntsOk key es.toList clock M ∧ σ.get r = some (.miter (some m) clock seen clock) ∧ r ≠ m ∧ EntsG key (es.toList.filter fun e => !seen.contains e.born) S
theorem MIt.congr {κ : Type} {key : κ → Value} {σ σ' : CSt} {r m : Nat} {M S : MlG κ} (h : MIt key σ r m M S) (h1 : σ'.get r = σ.get r) (h2 : σ'.get m = σ.get m) : MIt key σ' r m M S := by
  obtain ⟨es, clock, seen, a, b, c, d⟩ := h
  exact ⟨es, clock, seen, by rw [h2]; exact a, b, by rw [h1]; exact c, d⟩
theorem MIt.mp {κ : Type} {key : κ → Value} {σ : CSt} {r m : Nat} {M S : MlG κ} (h : MIt key σ r m M S) : MpG key σ m M := by
  obtain ⟨es, clock, seen, a, b, c, d⟩ := h
  exact ⟨es, clock, a, b⟩
variable {P : Program} {σ : CSt} {ev : Operand → Value} {dst : Option Tmp} {ty : TypeId} {pos : String} {after : Array Edge} {g : Option (Nat × Bool)}
@[simp] theorem copE_range (t : TypeId) (x : Operand) : cop P σ ev ⟨dst, .range t x, ty, pos, after, g⟩ = OpR.ofP (rangeOp P σ t (ev x)) := (rfl)
@[simp] theorem copE_next (it : Operand) (s : Bool) : cop P σ ev ⟨dst, .next it s, ty, pos, after, g⟩ = nextOp σ (ev it) s := (rfl)
@[simp] theorem copE_entry (it : Operand) : cop P σ ev ⟨dst, .entry it, ty, pos, after, g⟩ = OpR.ofV σ (entryOp σ (ev it)) := (rfl)
theorem range_mpG {κ : Type} {key : κ → Value} {t kt et : TypeId} {m : Nat} {M : MlG κ} (ht : P.underlying t = some (.map kt et)) (h : MpG key σ m M) (hm : m < σ.n) : ∃ o, rangeOp P σ t (.map (some m)) = some (.pointer (some ⟨σ.n, 0, none⟩), σ.alloc o) ∧ MIt key (σ.alloc o) σ.n m M M := by
  obtain ⟨es, clock, hg, he⟩ := h
  refine ⟨.miter (some m) clock #[] clock, ?_, es, clock, #[], ?_, he, by rw [CSt.get_alloc, if_pos rfl], by omega, ?_⟩
  · unfold rangeOp
    rw [ht]
    simp only [CSt.maps, hg]
  · rw [CSt.get_alloc, if_neg (by omega)]; exact hg
  · have : (es.toList.filter fun e => !(#[] : Array Nat).contains e.born) = es.toList := List.filter_eq_self.2 fun e _ => by simp
    rw [this]; exact he.ents
theorem filter_erase_born : ∀ (l : List MapEntry) (j : Nat) (h : j < l.length), (l.map (·.born)).Nodup → l.filter (fun e => !(e.born == l[j].born)) = l.eraseIdx j
  | [], j, h, _ => by simp at h
  | e :: l, 0, h, hn => by
    rw [List.map_cons, List.nodup_cons] at hn
    simp only [List.getElem_cons_zero, List.eraseIdx_zero, List.tail_cons]
    rw [List.filter_cons]
    simp
    intro a ha e2
    exact hn.1 (by rw [← e2]; exact List.mem_map_of_mem ha)
  | e :: l, j + 1, h, hn => by
    rw [List.map_cons, List.nodup_cons] at hn
    have hj : j < l.length := by simpa using h
    have ih := filter_erase_born l j hj hn.2
    simp only [List.getElem_cons_succ, List.eraseIdx_cons_succ]
    rw [List.filter_cons, ih]
    have : (!(e.born == l[j].born)) = true := by
      simp
      intro e2
      exact hn.1 (by rw [e2]; exact List.mem_map_of_mem (List.getElem_mem hj))
    rw [this]; rfl
theorem wres_next {κ : Type} {E : Env} {x : Ctx} {a : CAct} {d : Option Tmp} {K : CAct → CSt → Prop} {Q : Out → CSt → Prop} {key : κ → Value} {r m : Nat} {M S : MlG κ} (h : MIt key σ r m M S)
    (h0 : S = [] → K (a.put d (.tuple #[.bool false])) σ)
    (h1 : ∀ (j : Nat) (hj : j < S.length) (o : CObj), MIt key (σ.put r o) r m M (S.eraseIdx j) → entryOp (σ.put r o) (.pointer (some ⟨r, 0, none⟩)) = some (.tuple #[key S[j].1, S[j].2]) → K (a.put d (.tuple #[.bool true, key S[j].1, S[j].2])) (σ.put r o)) :
    wres E x a d K Q σ (nextOp σ (.pointer (some ⟨r, 0, none⟩)) false) := by
  obtain ⟨es, clock, seen, hm, he, hr, hrm, hS⟩ := h
  have hlast : (!seen.isEmpty && !es.isEmpty && es.all (·.born ≥ clock)) = false := by
    cases hz : es.isEmpty with
    | true => simp
    | false =>
      have : es.all (·.born ≥ clock) = false := by
        rw [Bool.eq_false_iff]
        intro hall
        have hne : es.toList ≠ [] := by
          intro h
          rw [Array.toList_eq_nil_iff] at h
          rw [h] at hz; simp at hz
        obtain ⟨e, l, hl⟩ := List.exists_cons_of_ne_nil hne
        have hmem : e ∈ es.toList := by rw [hl]; simp
        have h1 := he.born e hmem
        have h2 := Array.all_eq_true_iff_forall_mem.1 hall e (Array.mem_toList_iff.1 hmem)
        simp at h2
        omega
      rw [this]; simp
  have hmn : mapNext es clock seen = (if (es.toList.filter fun e => !seen.contains e.born).isEmpty then #[none] else #[]) ++ ((es.toList.filter fun e => !seen.contains e.born).map some).toArray := by
    unfold mapNext
    have e1 : ((es.filter fun e => !seen.contains e.born).filter fun e => decide (e.born < clock)) = es.filter fun e => !seen.contains e.born := by
      apply Array.filter_eq_self.2
      intro e h
      have := he.born e (Array.mem_toList_iff.2 (Array.mem_filter.1 h).1)
      simpa using this
    have e2 : ((es.filter fun e => !seen.contains e.born).filter fun e => decide (e.born ≥ clock)) = #[] := by
      apply Array.filter_eq_empty_iff.2
      intro e h
      have := he.born e (Array.mem_toList_iff.2 (Array.mem_filter.1 h).1)
      simp; omega
    simp only
    rw [e1, e2]
    have e3 : (es.filter fun e => !seen.contains e.born) = (es.toList.filter fun e => !seen.contains e.born).toArray := by
      rw [← Array.toList_filter]
    rw [e3]
    simp
  have hlen := EntsG.length hS
  unfold nextOp
  simp only [hr, CSt.maps, hm]
  rw [hlast, hmn]
  simp only [Bool.false_eq_true, if_false]
  generalize hL : (es.toList.filter fun e => !seen.contains e.born) = L at hS hlen ⊢
  unfold wres picks
  cases L with
  | nil =>
    have hS0 : S = [] := List.eq_nil_of_length_eq_zero (by simpa using hlen.symm)
    simp
    exact h0 hS0
  | cons e0 L =>
    have hpick : ∀ j, j < (e0 :: L).length → K (a.put d (.tuple #[.bool true, (e0 :: L)[j]!.key, (e0 :: L)[j]!.val])) (σ.put r (.miter (some m) clock (seen.push (e0 :: L)[j]!.born) clock)) := by
      intro j hj
      have hjS : j < S.length := by omega
      have hnd : ((e0 :: L).map (·.born)).Nodup := by rw [← hL]; exact List.Nodup.sublist (List.Sublist.map _ List.filter_sublist) he.nodup
      have hfe := filter_erase_born (e0 :: L) j hj hnd
      have hgj : (e0 :: L)[j]! = (e0 :: L)[j] := by rw [getElem!_pos]
      have hmem : (e0 :: L)[j] ∈ es.toList := (List.mem_filter.1 (by rw [hL]; exact List.getElem_mem hj : (e0 :: L)[j] ∈ es.toList.filter fun e => !seen.contains e.born)).1
      rw [hgj]
      generalize hej : (e0 :: L)[j] = ej at hfe hmem ⊢
      have hS' := hS
      unfold EntsG at hS'
      have hp := congrArg (·[j]?) hS'
      simp only [List.getElem?_map, List.getElem?_eq_getElem hj, List.getElem?_eq_getElem hjS, hej, Option.map_some, Option.some.injEq, Prod.mk.injEq] at hp
      rw [hp.1, hp.2]
      refine h1 j hjS _ ⟨es, clock, seen.push ej.born, by rw [CSt.get_put, if_neg (Ne.symm hrm)]; exact hm, he, by rw [CSt.get_put, if_pos rfl], hrm, ?_⟩ ?_
      · have e1 : (es.toList.filter fun e => !(seen.push ej.born).contains e.born) = (e0 :: L).eraseIdx j := by
          rw [← hfe, ← hL, List.filter_filter]
          apply List.filter_congr
          intro e _
          by_cases e2 : e.born = ej.born <;> simp [Array.contains_push, e2]
        rw [e1]
        unfold EntsG at hS ⊢
        rw [List.eraseIdx_eq_take_drop_succ, List.eraseIdx_eq_take_drop_succ, List.map_append, List.map_append, List.map_take, List.map_drop, List.map_take, List.map_drop, hS]
      · unfold entryOp
        have hb : (seen.push ej.born).back? = some ej.born := by simp
        simp only [CSt.get_put, if_true, CSt.maps, if_neg (Ne.symm hrm), hm, hb]
        have hf : es.find? (fun e => e.born == ej.born) = some ej := by
          rw [← Array.find?_toList]
          have : ∀ (l : List MapEntry), (l.map (·.born)).Nodup → ej ∈ l → l.find? (fun e => e.born == ej.born) = some ej := by
            intro l
            induction l with
            | nil => intro _ h; cases h
            | cons a l ih =>
              intro hn h
              rw [List.map_cons, List.nodup_cons] at hn
              rw [List.find?_cons]
              rcases List.mem_cons.1 h with rfl | h
              · simp
              · have : (a.born == ej.born) = false := by
                  simp
                  intro e2
                  exact hn.1 (by rw [e2]; exact List.mem_map_of_mem h)
                rw [this]
                exact ih hn.2 h
          exact this es.toList he.nodup hmem
        rw [hf]
        simp [hp.1, hp.2]
    simp
    split
    · rename_i h
      have hL0 : L = [] := h
      have := hpick 0 (by simp)
      simpa [hL0] using this
    · intro i hi
      have hi' : i < (e0 :: L).length := by simpa using hi
      have := hpick i hi'
      have hq : ((e0 :: L).map some)[i]? = some (some (e0 :: L)[i]!) := by
        rw [List.getElem?_map, List.getElem?_eq_getElem hi', getElem!_pos (e0 :: L) i hi']; rfl
      simp only [List.map_cons] at hq
      rw [hq]
      exact this
end
end Go.Sm
/- Slices of one's own that have more room behind them. -/
set_option linter.unusedVariables false
set_option linter.unusedSimpArgs false
namespace Go.Sm
open Go
/-- A slice that is one's own: the first part of an object that was made behind a point. -/
def OwnZ {α : Type} (b : Nat) (σ : CSt) (e : TypeId) (enc : α → List Value) (v : Value) (l : List α) : Prop :=
  (v = .slice none 0 0 ∧ l = []) ∨ ∃ i cap zs, v = .slice (some ⟨i, 0, none⟩) l.length cap ∧ b ≤ i ∧ i < σ.n ∧ σ.get i = some (.cells (l.flatMap enc ++ zs) e false) ∧ cokL zs = true ∧ (cap = openCap ∨ (l = [] ∧ cap = 0 ∧ zs = []))
section
variable {α : Type} {σ σ' : CSt} {e : TypeId} {sz : Nat} {enc : α → List Value} {v : Value} {l : List α} {b : Nat}
theorem OwnZ.nil : OwnZ b σ e enc (.slice none 0 0) ([] : List α) := .inl ⟨rfl, rfl⟩
theorem Own.z (h : Own b σ e enc v l) : OwnZ b σ e enc v l := by
  rcases h with h | ⟨i, cap, h1, hb, hi, h2, h3⟩
  · exact .inl h
  · refine .inr ⟨i, cap, [], h1, hb, hi, by rw [List.append_nil]; exact h2, rfl, ?_⟩
    rcases h3 with h3 | ⟨h3, h4⟩
    · exact .inl h3
    · exact .inr ⟨h3, h4, rfl⟩
theorem OwnZ.sl (hsz : ∀ x, (enc x).length = sz) (h : OwnZ b σ e enc v l) : Sl σ e sz enc v l := by
  rcases h with h | ⟨i, cap, zs, rfl, hb, hi, hg, hz, hc⟩
  · exact .inl h
  · have hl := enc_length enc hsz l
    refine .inr ⟨i, 0, cap, _, false, rfl, hg, hi, ?_, ?_, ?_⟩
    · rw [List.drop_zero, ← hl, List.take_left]
    · rw [List.length_append]; omega
    · rcases hc with rfl | ⟨rfl, rfl, _⟩
      · exact .inl rfl
      · exact .inr ⟨by simp, by simp [openCap]⟩
theorem OwnZ.grow (h : OwnZ b σ e enc v l) (hg : Grow σ σ') : OwnZ b σ' e enc v l := by
  rcases h with h | ⟨i, cap, zs, h1, hb, hi, h2, h3⟩
  · exact .inl h
  · exact .inr ⟨i, cap, zs, h1, hb, Nat.lt_of_lt_of_le hi hg.n, hg.get h2 hi, h3⟩
theorem OwnZ.keep (h : OwnZ b σ e enc v l) (hn : σ.n ≤ σ'.n) (hg : ∀ i, b ≤ i → i < σ.n → σ'.get i = σ.get i) : OwnZ b σ' e enc v l := by
  rcases h with h | ⟨i, cap, zs, h1, hb, hi, h2, h3⟩
  · exact .inl h
  · exact .inr ⟨i, cap, zs, h1, hb, Nat.lt_of_lt_of_le hi hn, by rw [hg i hb hi]; exact h2, h3⟩
theorem OwnZ.put (h : OwnZ b σ e enc v l) {i : Nat} (hi : i < b) (o : CObj) : OwnZ b (σ.put i o) e enc v l :=
  h.keep (Nat.le_refl _) fun j hj _ => by rw [CSt.get_put, if_neg (by omega)]
theorem OwnZ.weaken {b' : Nat} (h : OwnZ b σ e enc v l) (hb : b' ≤ b) : OwnZ b' σ e enc v l := by
  rcases h with h | ⟨i, cap, zs, h1, hb', h2⟩
  · exact .inl h
  · exact .inr ⟨i, cap, zs, h1, Nat.le_trans hb hb', h2⟩
theorem OwnZ.fr {T : TypeId → Prop} {b' : Nat} {s0 s1 : CSt} (h : OwnZ b' s0 e enc v l) (ht : ¬ T e) (hg : Fr T b s0 s1) : OwnZ b' s1 e enc v l := by
  rcases h with h | ⟨i, cap, zs, h1, hb, hi, h2, h3⟩
  · exact .inl h
  · exact .inr ⟨i, cap, zs, h1, hb, Nat.lt_of_lt_of_le hi hg.1, hg.get h2 hi (.inr fun row' e' ro' he => by cases he; exact ht), h3⟩
theorem insRow_encZ (hsz : ∀ x, (enc x).length = sz) (a : Nat) (ha : a ≤ l.length) (x : α) (zs : List Value) : insRow sz a l.length (l.flatMap enc ++ zs) (enc x) = (l.take a ++ x :: l.drop a).flatMap enc := by
  have hl := enc_length enc hsz l
  rw [← insRow_enc hsz a ha x]
  unfold insRow
  have h1 : a * sz ≤ (l.flatMap enc).length := by rw [hl]; exact Nat.mul_le_mul_right _ ha
  rw [List.take_append_of_le_length h1, List.take_append_of_le_length (Nat.le_of_eq hl.symm)]
end
end Go.Sm
namespace Go.Sm
open Go
def objOf : Value → Option Nat
  | .slice (some ⟨i, _, _⟩) _ _ => some i
  | _ => none
/-- All but a slice's object is as it was. -/
def ButV (v : Value) (s0 s1 : CSt) : Prop := s0.n ≤ s1.n ∧ ∀ j, j < s0.n → objOf v ≠ some j → s1.get j = s0.get j
theorem ButV.refl (v : Value) (s : CSt) : ButV v s s := ⟨Nat.le_refl _, fun _ _ _ => rfl⟩
theorem Grow.butV {v : Value} {s0 s1 : CSt} (h : Grow s0 s1) : ButV v s0 s1 := ⟨h.n, fun j hj _ => h.old j hj⟩
theorem ButV.trans {v : Value} {s0 s1 s2 : CSt} (h : ButV v s0 s1) (h' : ButV v s1 s2) : ButV v s0 s2 := ⟨Nat.le_trans h.1 h'.1, fun j hj hne => by rw [h'.2 j (Nat.lt_of_lt_of_le hj h.1) hne, h.2 j hj hne]⟩
theorem ButV.putV {v : Value} {i : Nat} {s0 s1 : CSt} (h : ButV v s0 s1) (hi : objOf v = some i) (o : CObj) : ButV v s0 (s1.put i o) := ⟨h.1, fun j hj hne => by rw [CSt.get_put, if_neg (by rintro rfl; exact hne hi)]; exact h.2 j hj hne⟩
theorem ButV.put {v : Value} {i : Nat} {s0 s1 : CSt} (h : ButV v s0 s1) (hi : s0.n ≤ i) (o : CObj) : ButV v s0 (s1.put i o) := ⟨h.1, fun j hj hne => by rw [CSt.get_put, if_neg (by omega)]; exact h.2 j hj hne⟩
theorem ButV.alloc {v : Value} {s0 s1 : CSt} (h : ButV v s0 s1) (o : CObj) : ButV v s0 (s1.alloc o) := ⟨by have := h.1; simp; omega, fun j hj hne => by have := h.1; rw [CSt.get_alloc, if_neg (by omega)]; exact h.2 j hj hne⟩
/-! ### What is filtered in place -/
section
variable {α : Type} {enc : α → List Value} {sz : Nat}
theorem take_filter_step {p : α → Bool} {l d : List α} {i j : Nat} (hj : j < l.length) (hd : d.length = l.length) (h1 : d.take i = (l.take j).filter fun x => !p x) (h2 : i = ((l.take j).filter fun x => !p x).length) (h3 : d.drop j = l.drop j) (h4 : i ≤ j) (hp : p l[j] = false) :
    (d.set i l[j]).length = l.length ∧ (d.set i l[j]).take (i + 1) = (l.take (j + 1)).filter (fun x => !p x) ∧ i + 1 = ((l.take (j + 1)).filter fun x => !p x).length ∧ (d.set i l[j]).drop (j + 1) = l.drop (j + 1) := by
  have e : (l.take (j + 1)).filter (fun x => !p x) = (l.take j).filter (fun x => !p x) ++ [l[j]] := by
    rw [List.take_succ_eq_append_getElem hj, List.filter_append]
    simp [hp]
  refine ⟨by simpa using hd, ?_, by rw [e, List.length_append, ← h2]; rfl, ?_⟩
  · have h5 : i < d.length := by omega
    have hs : (d.set i l[j])[i]'(by simpa using h5) = l[j] := by simp
    rw [List.take_succ_eq_append_getElem (by simpa using h5), hs, e, ← h1]
    congr 1
    rw [List.take_set_of_le (Nat.le_refl _)]
  · rw [List.drop_set_of_lt (by omega)]
    have := congrArg (List.drop 1) h3
    simpa [List.drop_drop] using this
theorem take_filter_skip {p : α → Bool} {l d : List α} {i j : Nat} (hj : j < l.length) (h1 : d.take i = (l.take j).filter fun x => !p x) (h2 : i = ((l.take j).filter fun x => !p x).length) (h3 : d.drop j = l.drop j) (hp : p l[j] = true) :
    d.take i = (l.take (j + 1)).filter (fun x => !p x) ∧ i = ((l.take (j + 1)).filter fun x => !p x).length ∧ d.drop (j + 1) = l.drop (j + 1) := by
  have e : (l.take (j + 1)).filter (fun x => !p x) = (l.take j).filter (fun x => !p x) := by
    rw [List.take_succ_eq_append_getElem hj, List.filter_append]
    simp [hp]
  refine ⟨by rw [e]; exact h1, by rw [e]; exact h2, ?_⟩
  have := congrArg (List.drop 1) h3
  simpa [List.drop_drop] using this
theorem drop_get {l d : List α} {j : Nat} (hj : j < l.length) (hd : d.length = l.length) (h3 : d.drop j = l.drop j) : d[j]'(by omega) = l[j] := by
  have := congrArg (·[0]?) h3
  simpa [List.getElem?_drop, List.getElem?_eq_getElem hj, List.getElem?_eq_getElem (show j < d.length by omega)] using this
theorem first_take {p : α → Bool} {l : List α} {k : Nat} (hk : k < l.length) (h : ∀ i (hi : i < l.length), i < k → p l[i] = false) (hp : p l[k] = true) : (l.take (k + 1)).filter (fun x => !p x) = l.take k := by
  rw [List.take_succ_eq_append_getElem hk, List.filter_append]
  have : (l.take k).filter (fun x => !p x) = l.take k := by
    rw [List.filter_eq_self]
    intro x hx
    obtain ⟨i, hi, rfl⟩ := List.mem_iff_getElem.1 hx
    rw [List.length_take] at hi
    rw [List.getElem_take, h i (by omega) (by omega)]
    rfl
  rw [this]
  simp [hp]
/-- An element is written; more stands behind. -/
theorem enc_setZ (hsz : ∀ x, (enc x).length = sz) (l : List α) (i : Nat) (x : α) (h : i < l.length) (zs : List Value) : (l.flatMap enc ++ zs).take (i * sz) ++ enc x ++ (l.flatMap enc ++ zs).drop (i * sz + sz) = (l.set i x).flatMap enc ++ zs := by
  have hl := enc_length enc hsz l
  have h1 : i * sz + sz ≤ l.length * sz := by rw [← Nat.succ_mul]; exact Nat.mul_le_mul_right _ h
  rw [List.take_append_of_le_length (by omega), List.drop_append_of_le_length (by omega), ← List.append_assoc, enc_set enc hsz l i x h]
theorem rowZ (hsz : ∀ x, (enc x).length = sz) (l : List α) (zs : List Value) : ((l.flatMap enc ++ zs).drop 0).take (l.length * sz) = l.flatMap enc := by
  rw [List.drop_zero, ← enc_length enc hsz l, List.take_left]
/-- What is left, when the rest is made zero. -/
theorem clearZ (hsz : ∀ x, (enc x).length = sz) (d : List α) (i : Nat) (hi : i ≤ d.length) (zs os : List Value) (ho : os.length = (d.length - i) * sz) : (d.flatMap enc ++ zs).take (i * sz) ++ os ++ (d.flatMap enc ++ zs).drop (i * sz + os.length) = (d.take i).flatMap enc ++ (os ++ zs) := by
  have hl := enc_length enc hsz d
  have h1 : i * sz ≤ d.length * sz := Nat.mul_le_mul_right _ hi
  have h2 : i * sz + os.length = d.length * sz := by rw [ho, ← Nat.add_mul]; congr 1; omega
  rw [h2, List.take_append_of_le_length (by omega), enc_take enc hsz, ← hl, List.drop_left, List.append_assoc]
end
end Go.Sm
namespace Go.Sm
open Go
theorem OwnZ.frV {α : Type} {b : Nat} {s s2 : CSt} {e : TypeId} {enc : α → List Value} {v : Value} {l : List α} (h : OwnZ b s e enc v l) (hb : ButV v s s2) : Fr (fun t => t = e) b s s2 := by
  refine ⟨hb.1, fun j hj hc => hb.2 j hj fun ho => ?_⟩
  rcases h with ⟨rfl, _⟩ | ⟨i, cap, zs, rfl, hbi, hi, hg, _⟩
  · cases ho
  · cases ho
    rcases hc with hc | hc
    · omega
    · exact hc _ _ _ hg rfl
end Go.Sm
namespace Go.Sm
open Go
theorem len_mp {κ : Type} {key : κ → Value} {P : Program} {σ : CSt} {t kt et : TypeId} {m : Nat} {M : MlG κ} (ht : P.underlying t = some (.map kt et)) (h : MpG key σ m M) : lenF P σ (some t) (.map (some m)) = .val (.int .i64 (List.length M)) σ := by
  obtain ⟨es, clock, hg, he⟩ := h
  have hl := EntsG.length he.ents
  unfold lenF lenOp
  simp [ht, CSt.maps, hg, ← hl]
end Go.Sm
/- Stores: a row more; the store itself. -/
set_option linter.unusedVariables false
set_option linter.unusedSimpArgs false
namespace Go.Sm
open Go Go.Proofs
set_option maxRecDepth 100000
set_option maxHeartbeats 1000000
theorem ins_own_95 (b : Nat) (l : List RV) (x : RV) (a : Nat) (ha : a ≤ l.length) (v : Value) (σ : CSt) (hb : b ≤ σ.n) (hown : OwnZ b σ 95 encR v l) (j : Nat) (hj : σ.get j = some (.cells (encR x) 95 false))
    (hji : ∀ i off n c, v = .slice (some ⟨i, off, none⟩) n c → i ≠ j) (hbig : l.length < 2 ^ 40) (Q : Out → CSt → Prop)
    (h : ∀ (v' : Value) (σ' : CSt), Own b σ' 95 encR v' (l.take a ++ x :: l.drop a) → Fr (fun t => t = 95) b σ σ' → Q (.ret v' false) σ') :
    W E1 (.fn 58 #[v, .int .i64 a, .slice (some ⟨j, 0, none⟩) 1 1] none) σ Q := by
  have hxl : (encR x).length = 2 := rfl
  rcases hown with ⟨rfl, rfl⟩ | ⟨i, cap, zs, rfl, hbi, hin, hg, hzs, hcap⟩
  · have ha0 : a = 0 := by simpa using ha
    subst ha0
    rw [Int.natCast_zero, W_gam (E := E1) (f := 58) (g := insG 95 2 40) rfl rfl (v := .slice (some ⟨σ.n, 0, none⟩) 1 openCap) (σ' := σ.alloc (.cells (encR x) 95 false)) (insG_nil hj rfl rfl (by omega))]
    exact h _ _ (.inr ⟨σ.n, openCap, rfl, hb, by simp, by simp, .inl rfl⟩) ((Fr.refl (fun t => t = 95) b σ).alloc _)
  · have hij := hji i 0 _ _ rfl
    have hrl : (l.flatMap encR).length = l.length * 2 := enc_length encR (fun _ => rfl) l
    have hck : cokL (l.flatMap encR) = true := cokL_enc (fun _ => rfl) l
    have hck2 : cokL (l.flatMap encR ++ zs) = true := by rw [cokL_append, hck, hzs]; rfl
    have hrl2 : (l.flatMap encR ++ zs).length = l.length * 2 + zs.length := by rw [List.length_append, hrl]
    rcases hcap with rfl | ⟨rfl, rfl, rfl⟩
    · have he := insRow_encZ (enc := encR) (l := l) (sz := 2) (fun _ => rfl) a ha x zs
      rw [W_gam (E := E1) (f := 58) (g := insG 95 2 40) rfl rfl (v := .slice (some ⟨σ.n, 0, none⟩) (l.length + 1) openCap) (σ' := (σ.put i .dead).alloc (.cells ((l.take a ++ x :: l.drop a).flatMap encR) 95 false)) (by
        rw [insG_some (sz := 2) hg hj rfl rfl (by omega) (by omega) hij (by omega) (cokL_take hck2 _) (by omega) (by omega) hbig, if_pos rfl, ← he]
        rfl)]
      refine h _ _ (.inr ⟨σ.n, openCap, ?_, hb, by simp, by simp, .inl rfl⟩) (((Fr.refl (fun t => t = 95) b σ).put hbi hg rfl _).alloc _)
      have : (l.take a ++ x :: l.drop a).length = l.length + 1 := by simp; omega
      rw [this]
    · have ha0 : a = 0 := by simpa using ha
      subst ha0
      rw [Int.natCast_zero, W_gam (E := E1) (f := 58) (g := insG 95 2 40) rfl rfl (v := .slice (some ⟨σ.n, 0, none⟩) 1 openCap) (σ' := σ.alloc (.cells (encR x) 95 false)) (by
        have hg' : σ.get i = some (.cells [] 95 false) := hg
        exact (insG_some (sz := 2) (n := 0) hg' hj rfl rfl (by omega) (by omega) hij (by simp) (by simp) (by omega) (by omega) (by omega)).trans ((if_neg (by simp [openCap])).trans (if_pos ⟨rfl, rfl⟩)))]
      exact h _ _ (.inr ⟨σ.n, openCap, rfl, hb, by simp, by simp, .inl rfl⟩) ((Fr.refl (fun t => t = 95) b σ).alloc _)

def Rws (σ : CSt) (R : List RV) (S : Stl) : Prop := R.length = S.length ∧ ∀ j (h : j < R.length) (h' : j < S.length), R[j].key = S[j].1 ∧ Sl σ 29 3 encV (.slice R[j].p R[j].n R[j].c) S[j].2
theorem Rws.fr {T : TypeId → Prop} {b : Nat} {σ σ' : CSt} {R : List RV} {S : Stl} (h : Rws σ R S) (ht : ¬ T 29) (hg : Fr T b σ σ') : Rws σ' R S := ⟨h.1, fun j h1 h2 => ⟨(h.2 j h1 h2).1, (h.2 j h1 h2).2.fr ht hg⟩⟩
theorem Rws.grow {σ σ' : CSt} {R : List RV} {S : Stl} (h : Rws σ R S) (hg : Grow σ σ') : Rws σ' R S := ⟨h.1, fun j h1 h2 => ⟨(h.2 j h1 h2).1, (h.2 j h1 h2).2.grow hg⟩⟩
theorem Rws.ins {σ : CSt} {R : List RV} {S : Stl} (h : Rws σ R S) (a : Nat) (ha : a ≤ R.length) (r : RV) (s : ByteArray × List Ver) (hr : r.key = s.1) (hs : Sl σ 29 3 encV (.slice r.p r.n r.c) s.2) : Rws σ (R.take a ++ r :: R.drop a) (S.take a ++ s :: S.drop a) := by
  have hl := h.1
  refine ⟨by simp; omega, fun j h1 h2 => ?_⟩
  rcases Nat.lt_trichotomy j a with hj | hj | hj
  · have e1 : (R.take a ++ r :: R.drop a)[j] = R[j] := by rw [List.getElem_append_left (by simp; omega), List.getElem_take]
    have e2 : (S.take a ++ s :: S.drop a)[j] = S[j] := by rw [List.getElem_append_left (by simp; omega), List.getElem_take]
    rw [e1, e2]; exact h.2 j _ _
  · subst hj
    have e1 : (R.take j ++ r :: R.drop j)[j] = r := by rw [List.getElem_append_right (by simp; omega)]; simp [Nat.min_eq_left ha]
    have e2 : (S.take j ++ s :: S.drop j)[j] = s := by rw [List.getElem_append_right (by simp; omega)]; simp [Nat.min_eq_left (hl ▸ ha)]
    rw [e1, e2]; exact ⟨hr, hs⟩
  · obtain ⟨k, rfl⟩ : ∃ k, j = a + 1 + k := ⟨j - (a + 1), by omega⟩
    have hk : a + k < R.length := by simp at h1; omega
    have e1 : (R.take a ++ r :: R.drop a)[a + 1 + k] = R[a + k] := by
      rw [List.getElem_append_right (by simp; omega)]
      have : a + 1 + k - (R.take a).length = k + 1 := by simp; omega
      simp only [this, List.getElem_cons_succ, List.getElem_drop]
    have e2 : (S.take a ++ s :: S.drop a)[a + 1 + k] = S[a + k] := by
      rw [List.getElem_append_right (by simp; omega)]
      have : a + 1 + k - (S.take a).length = k + 1 := by simp; omega
      simp only [this, List.getElem_cons_succ, List.getElem_drop]
    rw [e1, e2]; exact h.2 (a + k) _ _
theorem Rws.set {σ : CSt} {R : List RV} {S : Stl} (h : Rws σ R S) (a : Nat) (r : RV) (s : ByteArray × List Ver) (hr : r.key = s.1) (hs : Sl σ 29 3 encV (.slice r.p r.n r.c) s.2) : Rws σ (R.set a r) (S.set a s) := by
  have hl := h.1
  refine ⟨by simp; omega, fun j h1 h2 => ?_⟩
  by_cases e : a = j
  · subst e; simp; exact ⟨hr, hs⟩
  · rw [List.getElem_set_ne e, List.getElem_set_ne e]; exact h.2 j _ _
/-- A store that was made behind a point. -/
def St (b : Nat) (σ : CSt) (i : Nat) (S : Stl) : Prop := ∃ vr R, b ≤ i ∧ i < σ.n ∧ σ.get i = some (.cells [vr] 97 false) ∧ OwnZ b σ 95 encR vr R ∧ Rws σ R S
def stT (t : TypeId) : Prop := t = 95 ∨ t = 97
theorem St.grow {b : Nat} {σ σ' : CSt} {i : Nat} {S : Stl} (h : St b σ i S) (hg : Grow σ σ') : St b σ' i S := by
  obtain ⟨vr, R, h1, h2, h3, h4, h5⟩ := h
  exact ⟨vr, R, h1, Nat.lt_of_lt_of_le h2 hg.n, hg.get h3 h2, h4.grow hg, h5.grow hg⟩
theorem new_spec (σ : CSt) (Q : Out → CSt → Prop) (h : ∀ σ', St σ.n σ' σ.n [] → Grow σ σ' → Q (.ret (.pointer (some ⟨σ.n, 0, none⟩)) false) σ') : W E1 (.fn 50 #[] none) σ Q := by
  rw [W_fn (fn := Tryz.f50) Tryz.func50 rfl rfl rfl]
  have := h (σ.alloc (.cells [.slice none 0 0] 97 false)) ⟨.slice none 0 0, [], Nat.le_refl _, by simp, by simp, OwnZ.nil, rfl, fun j h => by simp at h⟩ ((Grow.refl σ).alloc _)
  simpa [wops_cons] using this
theorem find_store (S : Stl) (hk : KS S) (R : List RV) (v : Value) (k : ByteArray) (σ : CSt) (hr : Rws σ R S) (hsl : Sl σ 95 2 encR v R) (hbig : S.length < 2 ^ 40) (Q : Out → CSt → Prop)
    (h : ∀ (n : Nat) (σ' : CSt), Pos S k n → Grow σ σ' → Q (.ret (.tuple #[.int .i64 n, .bool (decide (∃ h : n < S.length, S[n].1 = k))]) false) σ') :
    W E1 (.fn 51 #[v, .string k, .func (.func 52) #[] #[]] none) σ Q := by
  have hl := hr.1
  have hlt : ∀ r : RV, ordR k r < 0 ↔ klt r.key k = true := by
    intro r
    unfold ordR
    cases h1 : klt r.key k
    · by_cases h2 : r.key = k <;> simp [h2]
    · simp
  have hz : ∀ r : RV, ordR k r = 0 ↔ r.key = k := by
    intro r
    unfold ordR
    cases h1 : klt r.key k
    · by_cases h2 : r.key = k <;> simp [h2]
    · simp
      intro e
      rw [e, klt_irrefl] at h1
      cases h1
  refine search_95 R v _ rfl (ordR k) σ hsl (by omega) (fun x σ Q h => orderR_spec k x σ Q h) (fun j m hj hm hjm ho => ?_) Q fun n σ' hc hg => ?_
  · rw [hlt] at ho ⊢
    have h1 := (hr.2 j hj (by omega)).1
    have h2 := (hr.2 m hm (by omega)).1
    have h3 := List.pairwise_iff_getElem.1 hk j m (by omega) (by omega) hjm
    rw [h2] at ho
    rw [h1]
    exact klt_trans h3 ho
  · have hp : Pos S k n := by
      refine ⟨by have := hc.le; omega, fun j hj hjn => ?_, fun j hj hjn => ?_⟩
      · have := hc.lo j (by omega) hjn
        rw [hlt, (hr.2 j (by omega) hj).1] at this
        exact this
      · have := hc.hi j (by omega) hjn
        cases h1 : klt S[j].1 k
        · rfl
        · have h2 := (hlt R[j]).2 (by rw [(hr.2 j (by omega) hj).1]; exact h1)
          omega
    have := h n σ' hp hg
    have e : (∃ h : n < R.length, ordR k R[n] = 0) ↔ ∃ h : n < S.length, S[n].1 = k :=
      ⟨fun ⟨h1, h2⟩ => ⟨by omega, by rw [← (hr.2 n h1 (by omega)).1]; exact (hz _).1 h2⟩, fun ⟨h1, h2⟩ => ⟨by omega, (hz _).2 (by rw [(hr.2 n (by omega) h1).1]; exact h2)⟩⟩
    rw [decide_eq_decide.2 e]
    exact this
end Go.Sm
/- Rows that are sorted in place; operations under a condition in a calm region. -/
set_option linter.unusedVariables false
set_option linter.unusedSimpArgs false
namespace Go.Sm
open Go
section
variable {E : Env} {σ : CSt}
theorem dops_if {ops : Array Oper} {a0 : CAct} {Q : Out → CSt → Prop} {a : CAct} {dst : Option Tmp} {op : Op} {ty : TypeId} {pos : String} {after : Array Edge} {j : Nat} {want : Bool} {rest : List Oper} (hd : ((ops[j]?).bind (·.dst)).isSome = true) (hs : dstOf ops j < a.sz) :
    dops E ops Q a0 (⟨dst, op, ty, pos, after, some (j, want)⟩ :: rest) a σ =
      guardK (a.get (dstOf ops j)) want
        (dres E ops a0 a dst (dops E ops Q a0 rest) Q σ (cop E.P σ a.eval ⟨dst, op, ty, pos, after, some (j, want)⟩))
        (dops E ops Q a0 rest (a.put dst nope) σ) := by
  obtain ⟨d, hd⟩ := Option.isSome_iff_exists.1 hd
  have hdd : dstOf ops j = d := by simp [dstOf, hd]
  rw [hdd] at hs ⊢
  rw [dops]
  simp only [wantedC, hd, hs, if_true]
  unfold guardK
  generalize a.get d = v
  cases v with
  | bool b => cases b <;> cases want <;> rfl
  | chan c => cases c <;> rfl
  | _ => rfl
end
/-- All but one object is as it was. -/
def But (L : Nat) (s0 s1 : CSt) : Prop := s0.n ≤ s1.n ∧ ∀ j, j < s0.n → j ≠ L → s1.get j = s0.get j
theorem But.refl (L : Nat) (s : CSt) : But L s s := ⟨Nat.le_refl _, fun _ _ _ => rfl⟩
theorem Grow.but {L : Nat} {s0 s1 : CSt} (h : Grow s0 s1) : But L s0 s1 := ⟨h.n, fun j hj _ => h.old j hj⟩
theorem But.trans {L : Nat} {s0 s1 s2 : CSt} (h : But L s0 s1) (h' : But L s1 s2) : But L s0 s2 := ⟨Nat.le_trans h.1 h'.1, fun j hj hne => by rw [h'.2 j (Nat.lt_of_lt_of_le hj h.1) hne, h.2 j hj hne]⟩
theorem But.putL {L : Nat} {s0 s1 : CSt} (h : But L s0 s1) (o : CObj) : But L s0 (s1.put L o) := ⟨h.1, fun j hj hne => by rw [CSt.get_put, if_neg hne]; exact h.2 j hj hne⟩
theorem But.put {L i : Nat} {s0 s1 : CSt} (h : But L s0 s1) (hi : s0.n ≤ i) (o : CObj) : But L s0 (s1.put i o) := ⟨h.1, fun j hj hne => by rw [CSt.get_put, if_neg (by omega)]; exact h.2 j hj hne⟩
theorem But.alloc {L : Nat} {s0 s1 : CSt} (h : But L s0 s1) (o : CObj) : But L s0 (s1.alloc o) := ⟨by have := h.1; simp; omega, fun j hj hne => by have := h.1; rw [CSt.get_alloc, if_neg (by omega)]; exact h.2 j hj hne⟩
theorem But.back {L : Nat} {s0 s1 : CSt} {o : CObj} (h : But L s0 s1) (hL : s0.get L = some o) : Grow s0 (s1.put L o) := ⟨h.1, fun j hj => by
  by_cases e : j = L
  · subst e; simp [hL]
  · rw [CSt.get_put, if_neg e]; exact h.2 j hj e⟩
theorem But.get {L i : Nat} {s0 s1 : CSt} {o : CObj} (h : But L s0 s1) (hg : s0.get i = some o) (hi : i < s0.n) (hne : i ≠ L) : s1.get i = some o := by rw [h.2 i hi hne]; exact hg
theorem But.from_ {L : Nat} {s0 s1 s2 : CSt} (g : Grow s0 s1) (h : But L s1 s2) (hL : s0.n ≤ L) : Grow s0 s2 := ⟨Nat.le_trans g.n h.1, fun i hi => by rw [h.2 i (Nat.lt_of_lt_of_le hi g.n) (by omega)]; exact g.old i hi⟩
theorem Own.but {α : Type} {b L : Nat} {σ σ' : CSt} {e : TypeId} {enc : α → List Value} {v : Value} {l : List α} (h : Own b σ e enc v l) (hL : L < b) (hg : But L σ σ') : Own b σ' e enc v l := h.keep hg.1 fun i hbi hin => hg.2 i hin (by omega)
/-- A loop, with what holds behind it. -/
theorem W_loop_J {E : Env} {x : Ctx} {c : Code} {Q : Out → CSt → Prop} (I : Nat → CAct → CSt → Prop) (J : Out → CSt → Prop) (hstep : ∀ n a σ, I n a σ → W E (.code x c a) σ (kinv I n J)) (n : Nat) (a : CAct) (σ : CSt) (h : I n a σ) (hJ : ∀ o s, J o s → Q o s) : W E (.code x (.loop c) a) σ Q :=
  W.weaken (W_loop_inv (Q := J) I hstep n a σ h) hJ
/-! ### Conditions one by one -/
theorem W_cond_t {E : Env} {x : Ctx} {c : Operand} {t e : Code} {a : CAct} {σ : CSt} {Q : Out → CSt → Prop} (h : a.eval c = .bool true) : W E (.code x (.cond c t e) a) σ Q = W E (.code x t a) σ Q := by simp [h]
theorem W_cond_f {E : Env} {x : Ctx} {c : Operand} {t e : Code} {a : CAct} {σ : CSt} {Q : Out → CSt → Prop} (h : a.eval c = .bool false) : W E (.code x (.cond c t e) a) σ Q = W E (.code x e a) σ Q := by simp [h]
theorem W_cut {E : Env} {t : Task} {σ : CSt} {Q : Out → CSt → Prop} (J : Out → CSt → Prop) (h1 : W E t σ J) (h2 : ∀ o s, J o s → Q o s) : W E t σ Q := W.weaken h1 h2
/-! ### Rows -/
section
def aset {α : Type} (d : Array α) (j : Nat) (x : α) : Array α := d.setIfInBounds j x
@[simp] theorem aset_size {α : Type} (d : Array α) (j : Nat) (x : α) : (aset d j x).size = d.size := by simp [aset]
def rowD {α : Type} (enc : α → List Value) (pre post : List Value) (d : Array α) : List Value := pre ++ d.toList.flatMap enc ++ post
theorem rowD_len {α : Type} {enc : α → List Value} {sz : Nat} {pre post : List Value} {d : Array α} (hsz : ∀ x, (enc x).length = sz) : (rowD enc pre post d).length = pre.length + d.size * sz + post.length := by
  unfold rowD
  rw [List.length_append, List.length_append, enc_length enc hsz, show d.toList.length = d.size from by simp]
variable {α : Type} [Inhabited α]
def aget (d : Array α) (j : Nat) : α := d[j]!
theorem swp_aset (d : Array α) (i j : Nat) : Sort.swp d i j = aset (aset d i (aget d j)) j (aget d i) := rfl
@[simp] theorem swp_sz (d : Array α) (i j : Nat) : (Sort.swp d i j).size = d.size := Sort.swp_size d i j
theorem aget_aset (d : Array α) (j k : Nat) (x : α) (hj : j < d.size) : aget (aset d j x) k = if k = j then x else aget d k := by
  unfold aget aset
  rw [getElem!_def, getElem!_def, Array.getElem?_setIfInBounds]
  by_cases e : j = k
  · subst e; simp [hj]
  · rw [if_neg e, if_neg (Ne.symm e)]
variable {enc : α → List Value} {sz : Nat} {pre post : List Value} {d : Array α}
theorem aget_eq {j : Nat} (hj : j < d.size) : aget d j = d.toList[j]'(by simpa using hj) := by
  unfold aget; rw [getElem!_pos d j hj]; simp
theorem rowD_ld (hsz : ∀ x, (enc x).length = sz) {j : Nat} (hj : j < d.size) : ld (rowD enc pre post d) (pre.length + j * sz) sz = some (enc (aget d j)) := by
  have hl := rowD_len (enc := enc) (pre := pre) (post := post) (d := d) hsz
  have h1 : j * sz + sz ≤ d.size * sz := by rw [← Nat.succ_mul]; exact Nat.mul_le_mul_right _ hj
  have h2 := row_get (enc := enc) hsz (l := d.toList) (row := rowD enc pre post d) (off := pre.length) (by
    unfold rowD
    rw [List.append_assoc, List.drop_left, List.take_append_of_le_length (by rw [enc_length enc hsz]; exact Nat.le_refl _), List.take_of_length_le (by rw [enc_length enc hsz]; exact Nat.le_refl _)]) j (by simpa using hj)
  unfold ld
  rw [if_pos (by omega), h2, aget_eq hj]
theorem rowD_st {α : Type} {enc : α → List Value} {sz : Nat} {pre post : List Value} {d : Array α} (hsz : ∀ x, (enc x).length = sz) {j : Nat} (hj : j < d.size) (x : α) : st (rowD enc pre post d) (pre.length + j * sz) (enc x) = some (rowD enc pre post (aset d j x)) := by
  have hl := rowD_len (enc := enc) (pre := pre) (post := post) (d := d) hsz
  have h1 : j * sz + sz ≤ d.size * sz := by rw [← Nat.succ_mul]; exact Nat.mul_le_mul_right _ hj
  have h3 := enc_length enc hsz d.toList
  rw [show d.toList.length = d.size from by simp] at h3
  unfold st
  rw [hsz, if_pos (by omega)]
  congr 1
  have h2 := enc_set enc hsz d.toList j x (by simpa using hj)
  have e : (aset d j x).toList = d.toList.set j x := by unfold aset; rw [Array.toList_setIfInBounds]
  unfold rowD
  rw [e, ← h2, List.append_assoc pre, List.append_assoc pre, List.take_append, List.take_of_length_le (by omega), List.append_assoc, List.append_assoc, List.append_assoc, List.append_assoc]
  congr 1
  have e1 : pre.length + j * sz - pre.length = j * sz := by omega
  rw [e1, List.take_append_of_le_length (by rw [h3]; omega)]
  congr 1
  congr 1
  rw [List.drop_append, List.drop_of_length_le (by omega), List.nil_append]
  have e2 : pre.length + j * sz + sz - pre.length = j * sz + sz := by omega
  rw [e2, List.drop_append_of_le_length (by rw [h3]; omega)]
/-- Elements of one cell. -/
theorem rowD_get {v : α → Value} (he : ∀ x, enc x = [v x]) {j : Nat} (hj : j < d.size) : (rowD enc pre post d)[pre.length + j]? = some (v (aget d j)) := by
  have h := rowD_ld (enc := enc) (pre := pre) (post := post) (sz := 1) (fun x => by rw [he]; rfl) hj
  unfold ld at h
  split at h
  · rename_i hl
    have h1 := Option.some.inj h
    have h2 := congrArg (·[0]?) h1
    rw [he] at h2
    simpa [List.getElem?_take, List.getElem?_drop] using h2
  · cases h
theorem rowD_st1 {α : Type} {enc : α → List Value} {pre post : List Value} {d : Array α} {v : α → Value} (he : ∀ x, enc x = [v x]) {j : Nat} (hj : j < d.size) (x : α) : st (rowD enc pre post d) (pre.length + j) [v x] = some (rowD enc pre post (aset d j x)) := by
  have h := rowD_st (enc := enc) (pre := pre) (post := post) (sz := 1) (fun x => by rw [he]; rfl) hj x
  rwa [he, Nat.mul_one] at h
theorem i64p (a : Nat) (h0 : 0 < a) (h : a < 2 ^ 61) : IntKind.i64.wrap ((a : Int) - 1) = ((a - 1 : Nat) : Int) := by
  rw [IntWalk.i64_in _ (by omega)]; omega
end
end Go.Sm
/- slices.IndexFunc, slices.DeleteFunc of 95. -/
set_option linter.unusedVariables false
set_option linter.unusedSimpArgs false
namespace Go.Sm
open Go Go.Proofs
set_option maxRecDepth 100000
set_option maxHeartbeats 4000000
theorem indexFn_95 (g : FuncId) (caps : Array Value) (hext : ∀ args s, extOf E1 (.func (.func g) #[] caps) args s = none) (p : RV → Bool) (Ok : CSt → Prop) (hog : ∀ s s', Ok s → Grow s s' → Ok s') (l : List RV) (v : Value) (σ : CSt) (hsl : Sl σ 95 2 encR v l) (hok : Ok σ)
    (hpred : ∀ x ∈ l, ∀ s Q, Ok s → (∀ s', Grow s s' → Q (.ret (.bool (p x)) false) s') → W E1 (.fn g (#[.agg (encR x).toArray] ++ caps) none) s Q) (hbig : l.length < 2 ^ 40) (Q : Out → CSt → Prop)
    (h : ∀ (r : Int) (σ' : CSt), ((r = -1 ∧ ∀ x ∈ l, p x = false) ∨ ∃ k : Nat, r = k ∧ ∃ hk : k < l.length, p l[k] = true ∧ ∀ i (hi : i < l.length), i < k → p l[i] = false) → Grow σ σ' → Q (.ret (.int .i64 r) false) σ') : W E1 (.fn 75 #[v, .func (.func g) #[] caps] none) σ Q := by
  rw [W_fn (fn := Tryz.f75) Tryz.func75 rfl rfl rfl]
  obtain ⟨pp, c, rfl⟩ := hsl.form
  simp [wops_cons]
  refine W_loop_inv (fun n a σ' => ∃ tm j, a = ⟨tm, 19, [], false⟩ ∧ tm.get 0 = some (.slice pp l.length c) ∧ tm.get 1 = some (.func (.func g) #[] caps) ∧ tm.get 7 = some (.int .i64 l.length) ∧ tm.get 8 = some (.int .i64 (j : Nat)) ∧ j ≤ l.length ∧ n = l.length - j ∧ (∀ i (h : i < l.length), i < j → p l[i] = false) ∧ Grow σ σ') ?_ l.length _ _ ?_
  · rintro n a σ1 ⟨tm, j, rfl, e0, e1, e7, e8, hj, hn, hno, hgr⟩
    by_cases hjl : j < l.length
    · obtain ⟨i, off, row, ro, rfl, hg, hin, hrow, hle⟩ := (hsl.grow hgr).at hjl
      have hld := row_get (enc := encR) lenR hrow j hjl
      have hl1 := row_le hle j hjl
      have hw2 := i64n1 j (by omega)
      simp [wops_cons, e0, e1, e7, e8, hjl, hg, hld, hl1, hext]
      have hpr := fun Q => hpred l[j] (List.getElem_mem hjl) σ1 Q (hog _ _ hok hgr)
      try simp at hpr
      refine hpr _ fun σ2 g2 => ?_
      cases hat : p l[j] with
      | true =>
        have := h j σ2 (.inr ⟨j, rfl, hjl, hat, hno⟩) (hgr.trans g2)
        simpa [wops_cons, hat] using this
      | false =>
        simp [wops_cons, hat, e0, e1, e7, e8, hw2]
        refine ⟨_, ?_, j + 1, rfl, by omega, rfl, fun i h hi => ?_, hgr.trans g2⟩
        · omega
        · by_cases e : i = j
          · subst e; exact hat
          · exact hno i h (by omega)
    · have hjl' : j = l.length := by omega
      have := h (-1) σ1 (.inl ⟨rfl, fun x hx => by
        obtain ⟨i, hi, rfl⟩ := List.mem_iff_getElem.1 hx
        exact hno i hi (by omega)⟩) hgr
      simpa [wops_cons, e0, e1, e7, e8, hjl] using this
  · refine ⟨_, 0, rfl, ?_⟩
    simp
    exact Grow.refl σ
theorem deleteFn_95 (g : FuncId) (caps : Array Value) (hext : ∀ args s, extOf E1 (.func (.func g) #[] caps) args s = none) (p : RV → Bool) (Ok : CSt → Prop) (b : Nat) (l : List RV) (v : Value) (σ : CSt) (hog : ∀ s s', Ok s → ButV v s s' → Ok s') (hown : OwnZ b σ 95 encR v l) (hok : Ok σ)
    (hpred : ∀ x ∈ l, ∀ s Q, Ok s → (∀ s', Grow s s' → Q (.ret (.bool (p x)) false) s') → W E1 (.fn g (#[.agg (encR x).toArray] ++ caps) none) s Q) (hbig : l.length < 2 ^ 38) (Q : Out → CSt → Prop)
    (h : ∀ (v' : Value) (σ' : CSt), OwnZ b σ' 95 encR v' (l.filter fun x => !p x) → (objOf v' = objOf v) → ButV v σ σ' → Q (.ret v' false) σ') : W E1 (.fn 59 #[v, .func (.func g) #[] caps] none) σ Q := by
  rw [W_fn (fn := Tryz.f59) Tryz.func59 rfl rfl rfl]
  obtain ⟨pp, c, rfl⟩ := (hown.sl (sz := 2) lenR).form
  simp [wops_cons]
  refine indexFn_95 g caps hext p Ok (fun s s' h1 h2 => hog s s' h1 h2.butV) l _ σ (hown.sl lenR) hok hpred (by omega) _ fun r σ1 hr g1 => ?_
  rcases hr with ⟨rfl, hall⟩ | ⟨k, rfl, hk, hpk, hno⟩
  · have hf : (l.filter fun x => !p x) = l := List.filter_eq_self.2 fun x hx => by simp [hall x hx]
    have := h _ σ1 (by rw [hf]; exact hown.grow g1) rfl g1.butV
    simpa [wops_cons] using this
  · have hk1 : ¬ ((k : Nat) : Int) = -1 := by omega
    have hwk := i64n1 k (by omega)
    rcases hown with ⟨h0, h1⟩ | ⟨i0, cap, zs, h0, hbi, hin, hg0, hzs, hcap⟩
    · rw [h1] at hk; simp at hk
    injection h0 with h0 _ h00
    subst h0
    subst h00
    have hcap : c = openCap := by
      rcases hcap with hc | ⟨hc, _⟩
      · exact hc
      · rw [hc] at hk; simp at hk
    subst hcap
    have hobj : objOf (.slice (some ⟨i0, 0, none⟩) l.length openCap) = some i0 := rfl
    simp [wops_cons, hk1, hwk]
    refine W_loop_J (fun n a s => ∃ (tm : Tr Value) (i j : Nat) (d : List RV), a = ⟨tm, 42, [], false⟩ ∧ tm.get 0 = some (.slice (some ⟨i0, 0, none⟩) l.length openCap) ∧ tm.get 1 = some (.func (.func g) #[] caps) ∧ tm.get 5 = some (.int .i64 (i : Nat)) ∧ tm.get 6 = some (.int .i64 (j : Nat)) ∧ j ≤ l.length ∧ n = l.length - j ∧ d.length = l.length ∧ d.take i = ((l.take j).filter fun x => !p x) ∧ i = ((l.take j).filter fun x => !p x).length ∧ d.drop j = l.drop j ∧ i < j ∧ s.get i0 = some (.cells (d.flatMap encR ++ zs) 95 false) ∧ ButV (.slice (some ⟨i0, 0, none⟩) l.length openCap) σ s)
      (fun o s => ∃ (tm : Tr Value) (i : Nat) (d : List RV), o = .code (.exit 0) ⟨tm, 42, [], false⟩ ∧ tm.get 0 = some (.slice (some ⟨i0, 0, none⟩) l.length openCap) ∧ tm.get 5 = some (.int .i64 (i : Nat)) ∧ d.length = l.length ∧ d.take i = (l.filter fun x => !p x) ∧ i = (l.filter fun x => !p x).length ∧ i < l.length ∧ s.get i0 = some (.cells (d.flatMap encR ++ zs) 95 false) ∧ ButV (.slice (some ⟨i0, 0, none⟩) l.length openCap) σ s) ?_ (l.length - (k + 1)) _ _ ?_ ?_
    · rintro n a s ⟨tm, i, j, d, rfl, e0, e1, e5, e6, hj, hn, hd, ht, hi, hdr, hij, hgs, hbs⟩
      by_cases hjl : j < l.length
      · have hjl' : (j : Int) < l.length := by omega
        have hjd : j < d.length := by omega
        have hdj := drop_get hjl hd hdr
        have hrow := rowZ lenR d zs
        have hrl : (d.flatMap encR ++ zs).length = d.length * 2 + zs.length := by rw [List.length_append, enc_length encR lenR]
        have hld := row_get (enc := encR) lenR hrow j hjd
        rw [Nat.zero_add, hdj] at hld
        have hset := fun x => enc_setZ lenR d i x (by omega) zs
        have hw6 := i64n1 j (by omega)
        have hw5 := i64n1 i (by omega)
        have hil : i < l.length := by omega
        have hsn := hbs.1
        generalize hrw : d.flatMap encR ++ zs = row at hgs hrow hrl hld hset
        have hle1 : j * 2 + 2 ≤ row.length := by omega
        have hle2 : i * 2 + 2 ≤ row.length := by omega
        have hne : ¬ i0 = s.n := by omega
        have hgw : Grow s ((s.alloc (.cells [.string ⟨#[]⟩, .slice none 0 0] 95 false)).put s.n (.cells (encR l[j]) 95 false)) := ((Grow.refl s).alloc _).put (Nat.le_refl _) _
        have hcw : ((s.alloc (.cells [.string ⟨#[]⟩, .slice none 0 0] 95 false)).put s.n (.cells (encR l[j]) 95 false)).get s.n = some (.cells (encR l[j]) 95 false) := by simp
        have htk : List.take 2 (encR l[j]) = encR l[j] := List.take_of_length_le (by rw [lenR]; exact Nat.le_refl _)
        have hlen2 : (encR l[j]).length = 2 := lenR _
        have hcok2 : cokL (encR l[j]) = true := cokR _
        have hnw : ((s.alloc (.cells [.string ⟨#[]⟩, .slice none 0 0] 95 false)).put s.n (.cells (encR l[j]) 95 false)).n = s.n + 1 := by simp
        simp [wops_cons, e0, e1, e5, e6, hjl, hjl', hgs, hld, hle1, hext, htk, hlen2, hcok2]
        generalize (s.alloc (.cells [.string ⟨#[]⟩, .slice none 0 0] 95 false)).put s.n (.cells (encR l[j]) 95 false) = s1 at hgw hcw hnw ⊢
        have hpr := fun Q => hpred l[j] (List.getElem_mem hjl) s1 Q (hog _ _ hok (hbs.trans hgw.butV))
        try simp at hpr
        refine hpr _ fun s2 g2 => ?_
        have g02 := hgw.trans g2
        have hgs2 := g02.get hgs (by omega)
        have hcw2 := g2.get hcw (by omega)
        have hb2 := hbs.trans g02.butV
        cases hp : p l[j] with
        | true =>
          obtain ⟨k1, k2, k3⟩ := take_filter_skip hjl ht hi hdr hp
          simp [wops_cons, e0, e1, e5, e6, hw6]
          exact ⟨n - 1, by omega, i, rfl, j + 1, rfl, by omega, by omega, d, hd, k1, k2, k3, by omega, by rw [hrw]; exact hgs2, hb2⟩
        | false =>
          obtain ⟨k0, k1, k2, k3⟩ := take_filter_step hjl hd ht hi hdr (by omega) hp
          have hset2 := hset l[j]
          have hil' : (i : Int) < l.length := by omega
          simp [wops_cons, e0, e1, e5, e6, hw5, hw6, hil, hil', hgs2, hcw2, htk, hlen2, hcok2, hle2]
          exact ⟨n - 1, by omega, i + 1, rfl, j + 1, rfl, by omega, by omega, d.set i l[j], k0, k1, k2, k3, by omega, by rw [← hset2, List.append_assoc], hb2.putV hobj _⟩
      · have hjl' : ¬ (j : Int) < l.length := by omega
        have hje : j = l.length := by omega
        rw [hje, List.take_length] at ht hi
        simp [wops_cons, e0, e1, e5, e6, hjl, hjl']
        exact ⟨i, rfl, d, hd, ht, hi, by omega, hgs, hbs⟩
    · have hft := first_take hk hno hpk
      refine ⟨_, k, k + 1, l, rfl, ?_⟩
      simp
      refine ⟨by omega, by rw [hft], by rw [hft]; simp; omega, ?_, ?_⟩
      · exact g1.get hg0 hin
      · exact g1.butV
    · rintro o s ⟨tm, i, d, rfl, e0, e5, hd, ht, hi, hil, hgs, hbs⟩
      have hzl : ((List.replicate (l.length - i) ([.string ⟨#[]⟩, .slice none 0 0] : List Value)).flatten).length = (l.length - i) * 2 := by
        rw [List.length_flatten]; simp
      have hzc : cokL ((List.replicate (l.length - i) ([.string ⟨#[]⟩, .slice none 0 0] : List Value)).flatten) = true := rep_cok _ _ rfl
      have hrl : (d.flatMap encR ++ zs).length = d.length * 2 + zs.length := by rw [List.length_append, enc_length encR lenR]
      have hcl := clearZ lenR d i (by omega) zs ((List.replicate (l.length - i) ([.string ⟨#[]⟩, .slice none 0 0] : List Value)).flatten) (by rw [hzl, hd])
      have hst : st (d.flatMap encR ++ zs) (i * 2) ((List.replicate (l.length - i) ([.string ⟨#[]⟩, .slice none 0 0] : List Value)).flatten) = some ((d.take i).flatMap encR ++ ((List.replicate (l.length - i) ([.string ⟨#[]⟩, .slice none 0 0] : List Value)).flatten ++ zs)) := by
        rw [← hcl]
        unfold st
        rw [if_pos (by rw [hzl, hrl, hd]; omega)]
      generalize hrw : d.flatMap encR ++ zs = row at hgs hrl hcl hst
      have hil' : ¬ l.length - i = 0 := by omega
      have hi2 : i ≤ l.length := by omega
      have hle3 : l.length * 2 ≤ row.length := by omega
      have hle4 : i * 2 ≤ row.length := by omega
      simp [wops_cons, e0, e5, sliceOp_open, sliceO, clearOp_K, clearK, hgs, hi2, hil', hst, hle3, hle4, -st_eq]
      rw [ht, hi]
      refine h _ _ (.inr ⟨i0, openCap, _, rfl, hbi, Nat.lt_of_lt_of_le hin hbs.1, by rw [CSt.get_put, if_pos rfl], ?_, .inl rfl⟩) rfl (hbs.putV hobj _)
      rw [cokL_append, hzs, ← hi, hzc]; rfl
end Go.Sm
/- Stores: Put. -/
set_option linter.unusedVariables false
set_option linter.unusedSimpArgs false
namespace Go.Sm
open Go Go.Proofs
set_option maxRecDepth 100000
set_option maxHeartbeats 4000000
theorem encR_set1 (R : List RV) (n : Nat) (h : n < R.length) (p : Option Addr) (m c : Nat) : (R.flatMap encR).take (n * 2 + 1) ++ .slice p m c :: (R.flatMap encR).drop (n * 2 + 1 + 1) = (R.set n ⟨R[n].key, p, m, c⟩).flatMap encR := by
  have h1 := enc_set encR (n := 2) lenR R n ⟨R[n].key, p, m, c⟩ h
  rw [← h1]
  have hl : (R.flatMap encR).length = R.length * 2 := enc_length encR lenR R
  have h2 : n * 2 < (R.flatMap encR).length := by omega
  have hrow : ((R.flatMap encR).drop 0).take (R.length * 2) = R.flatMap encR := by rw [List.drop_zero, List.take_of_length_le (by omega)]
  have h3 := row_cell (enc := encR) lenR hrow n 0 h (by omega)
  rw [Nat.zero_add, Nat.add_zero, List.getElem?_eq_getElem h2] at h3
  have h4 : (R.flatMap encR)[n * 2] = .string R[n].key := by simpa [encR] using h3
  rw [List.take_succ_eq_append_getElem h2, h4]
  simp [encR]
theorem hbits : ∀ j, j < 17 → Nat.testBit 131071 j = true := by decide
theorem put_store (b : Nat) (i : Nat) (S : Stl) (hk : KS S) (hc : ∀ s ∈ S, Srt s.2) (hcl : ∀ s ∈ S, s.2.length < 2 ^ 38) (k : ByteArray) (x : Ver) (σ : CSt) (hb : b ≤ σ.n) (hst : St b σ i S) (hbig : S.length < 2 ^ 38) (Q : Out → CSt → Prop)
    (h : ∀ (n : Nat) (σ' : CSt), Pos S k n → St b σ' i (putAt S k x n) → Fr stT b σ σ' → Q (.ret (.tuple #[]) false) σ') :
    W E1 (.fn 35 #[.pointer (some ⟨i, 0, none⟩), .string k, .agg (encV x).toArray] none) σ Q := by
  obtain ⟨vr, R, hbi, hin, hg, hown, hrw⟩ := hst
  rw [W_fn (fn := Tryz.f35) Tryz.func35 rfl rfl rfl]
  have hni : ¬ i = σ.n := by omega
  have hga : Grow σ (σ.alloc (.cells (encV x) 29 false)) := (Grow.refl σ).alloc _
  obtain ⟨pr, cr, rfl⟩ := (hown.sl (sz := 2) lenR).form
  have hl := hrw.1
  simp [wops_cons, encV, hg, hni]
  simp only [encV] at hga
  refine find_store S hk R _ k _ (hrw.grow hga) ((hown.grow hga).sl lenR) (by omega) _ fun n σ1 hp g1 => ?_
  have hg1 := hga.trans g1
  have hgi := hg1.get hg hin
  have hcell : σ1.get σ.n = some (.cells [.int .u64 x.at_, .string x.val, .bool x.gone] 29 false) := g1.get (by simp) (by simp)
  have hn1 : σ.n < σ1.n := by have := g1.n; simp at this; omega
  have hown1 := hown.grow hg1
  have hrw1 := hrw.grow hg1
  by_cases hfo : ∃ h : n < S.length, S[n].1 = k
  · obtain ⟨hnS, hkey⟩ := hfo
    rw [decide_eq_true ⟨hnS, hkey⟩]
    have hput : putAt S k x n = S.set n (k, putL S[n].2 x) := by
      unfold putAt
      rw [List.getElem?_eq_getElem hnS]
      simp only [hkey, if_true]
    have hnR : n < R.length := by omega
    obtain ⟨hkeyR, hslR⟩ := hrw1.2 n hnR hnS
    rcases hown1 with ⟨h1, h2⟩ | ⟨o, cap, zs, h1, hbo, hon, hgo, hzs, hcap⟩
    · rw [h2] at hnR; simp at hnR
    · cases h1
      have hrl : (R.flatMap encR).length = R.length * 2 := enc_length encR lenR R
      have hrow : ((R.flatMap encR ++ zs).drop 0).take (R.length * 2) = R.flatMap encR := by rw [List.drop_zero, ← hrl, List.take_left]
      have hrlz : (R.flatMap encR ++ zs).length = R.length * 2 + zs.length := by rw [List.length_append, hrl]
      have hsetz : ∀ (p : Option Addr) (m c : Nat), (R.flatMap encR ++ zs).take (n * 2 + 1) ++ .slice p m c :: (R.flatMap encR ++ zs).drop (n * 2 + 1 + 1) = (R.set n ⟨R[n].key, p, m, c⟩).flatMap encR ++ zs := fun p m c => by
        rw [List.take_append_of_le_length (by omega), List.drop_append_of_le_length (by omega), ← List.cons_append, ← List.append_assoc, encR_set1 R n hnR p m c]
      generalize R.flatMap encR ++ zs = row at hgo hrow hrlz hsetz
      have hcel := row_cell (enc := encR) lenR hrow n 1 hnR (by omega)
      rw [Nat.zero_add] at hcel
      have hcel2 : row[n * 2 + 1]? = some (.slice R[n].p R[n].n R[n].c) := hcel
      have hle2 : n * 2 + 1 + 1 ≤ row.length := by omega
      simp [wops_cons, hgi, hcell]
      refine W_drawn (l := [0, 1, 2, 3, 4, 5, 6, 7, 8, 9, 10, 11, 12, 13, 14, 15, 16, 17]) (b := #[0, 1, 3, 7, 0, 0, 32, 96, 224, 0, 992, 2016, 4064, 0, 16352, 32767, 65535, 131071]) (by kernel_rfl) (by kernel_rfl) (by kernel_rfl) ?_
      simp [dopsR_cons, opAt, isEff, again, befBits, isRead, Nat.add_assoc, hgi, hcell, hgo, hnR, hcel2, hrl, -List.length_flatMap]
      have hsrt := hc _ (List.getElem_mem hnS)
      have hlen := hcl _ (List.getElem_mem hnS)
      have hps := fun Q => put_spec S[n].2 hsrt (.slice R[n].p R[n].n R[n].c) x σ1 hslR (by omega) Q
      simp only [encV] at hps
      refine hps _ fun v2 σ2 h2 g2 => ?_
      obtain ⟨p2, c2, rfl⟩ := (h2.sl (sz := 3) (fun _ => rfl)).form
      have hgi2 := g2.get hgi (Nat.lt_of_lt_of_le hin hg1.n)
      have hgo2 := g2.get hgo hon
      have hcell2 := g2.get hcell hn1
      simp [dopsR_cons, opAt, isEff, again, befBits, isRead, Nat.add_assoc, hgi2, hgo2, hcell2, hnR, hcel2, hrl, hle2, hbits, -List.length_flatMap]
      rw [hsetz]
      have hR2 := (hrw1.grow g2).set n ⟨R[n].key, p2, (putL S[n].2 x).length, c2⟩ (k, putL S[n].2 x) (by rw [hkeyR, hkey]) (h2.sl (fun _ => rfl))
      have hoi : ¬ i = o := by
        intro e
        subst e
        rw [hgi] at hgo
        have h1 := Option.some.inj hgo
        injection h1 with _ h2
        exact absurd h2 (by decide)
      have hF : Fr stT b σ (σ2.put o (.cells ((R.set n ⟨R[n].key, p2, (putL S[n].2 x).length, c2⟩).flatMap encR ++ zs) 95 false)) := ((hg1.trans g2).fr (T := stT)).put hbo hgo2 (.inl rfl) _
      refine h n _ hp ?_ hF
      rw [hput]
      have hon2 := Nat.lt_of_lt_of_le hon g2.n
      have hin2 := Nat.lt_of_lt_of_le (Nat.lt_of_lt_of_le hin hg1.n) g2.n
      have hfr : Fr (fun t => t = 95) 0 σ2 (σ2.put o (.cells ((R.set n ⟨R[n].key, p2, (putL S[n].2 x).length, c2⟩).flatMap encR ++ zs) 95 false)) := (Fr.refl (fun t => t = 95) 0 σ2).put (Nat.zero_le _) hgo2 rfl _
      refine ⟨_, R.set n ⟨R[n].key, p2, (putL S[n].2 x).length, c2⟩, hbi, by simpa using hin2, by rw [CSt.get_put, if_neg hoi]; exact hgi2, .inr ⟨o, cr, zs, by simp, hbo, by simpa using hon2, by simp, hzs, ?_⟩, hR2.fr (by decide) hfr⟩
      rcases hcap with h | ⟨h, _⟩
      · exact .inl h
      · rw [h] at hnR; simp at hnR
  · have hput : putAt S k x n = S.take n ++ (k, putL [] x) :: S.drop n := by
      unfold putAt
      cases hn : S[n]? with
      | none => rfl
      | some s =>
        have hs : ¬ s.1 = k := fun e => hfo (by
          obtain ⟨h1, h2⟩ := List.getElem?_eq_some_iff.1 hn
          exact ⟨h1, by rw [h2]; exact e⟩)
        simp only [hs, if_false]
    rw [decide_eq_false hfo]
    have hnR : n ≤ R.length := by have := hp.le; omega
    have hg2a : Grow σ1 (σ1.alloc (.cells (encR ⟨k, none, 0, 0⟩) 95 false)) := (Grow.refl σ1).alloc _
    have hji : ∀ o off m c, Value.slice pr R.length cr = .slice (some ⟨o, off, none⟩) m c → o ≠ σ1.n := by
      rintro o off m c e
      rcases hown1 with ⟨h0, _⟩ | ⟨i', cap, _, h0, _, h1, _⟩
      · rw [h0] at e; cases e
      · rw [h0] at e; cases e; omega
    have hins := fun Q => ins_own_95 b R ⟨k, none, 0, 0⟩ n hnR (.slice pr R.length cr) _ (by have := hg1.n; simp; omega) (hown1.grow hg2a) σ1.n (by simp) hji (by omega) Q
    simp only [encR] at hins hg2a
    simp [wops_cons, hgi, hcell]
    refine hins _ fun v2 σ2 h2 g2 => ?_
    have hin1 := Nat.lt_of_lt_of_le hin hg1.n
    have hgi2 : σ2.get i = some (.cells [.slice pr R.length cr] 97 false) := g2.get (hg2a.get hgi hin1) (by simp; omega) (.inr fun row e ro he => by injection he with _ h2 _; rw [← h2]; decide)
    have hcell2 : σ2.get σ.n = some (.cells [.int .u64 x.at_, .string x.val, .bool x.gone] 29 false) := g2.get (hg2a.get hcell hn1) (by simp; omega) (.inr fun row e ro he => by injection he with _ h2 _; rw [← h2]; decide)
    have hRl : (R.take n ++ (⟨k, none, 0, 0⟩ : RV) :: R.drop n).length = R.length + 1 := by simp; omega
    have hRn : (R.take n ++ (⟨k, none, 0, 0⟩ : RV) :: R.drop n)[n]? = some ⟨k, none, 0, 0⟩ := by
      rw [List.getElem?_append_right (by simp; omega)]
      simp [Nat.min_eq_left hnR]
    have hrw2 := (((hrw1.grow hg2a).fr (T := fun t => t = 95) (by decide) g2)).ins n hnR ⟨k, none, 0, 0⟩ (k, []) rfl Sl.nil
    have hSset : (S.take n ++ ((k, []) : ByteArray × List Ver) :: S.drop n).set n (k, putL [] x) = S.take n ++ (k, putL [] x) :: S.drop n := by
      have h0 : n = (S.take n).length + 0 := by rw [List.length_take, Nat.min_eq_left hp.le, Nat.add_zero]
      conv => lhs; arg 2; rw [h0]
      rw [List.set_append_right _ _ (by omega)]
      simp
    generalize hR' : (R.take n ++ (⟨k, none, 0, 0⟩ : RV) :: R.drop n) = R' at h2 hRl hRn hrw2
    obtain ⟨hnR', hRn'⟩ := List.getElem?_eq_some_iff.1 hRn
    have hslR : Sl σ2 29 3 encV (.slice none 0 0) ([] : List Ver) := Sl.nil
    rcases h2 with ⟨h1, h2⟩ | ⟨o, cap, h1, hbo, hon, hgo, hcap⟩
    · rw [h2] at hnR'; simp at hnR'
    · subst h1
      have hrl : (R'.flatMap encR).length = R'.length * 2 := enc_length encR lenR R'
      have hrow : ((R'.flatMap encR).drop 0).take (R'.length * 2) = R'.flatMap encR := by rw [List.drop_zero, List.take_of_length_le (by omega)]
      have hcel := row_cell (enc := encR) lenR hrow n 1 hnR' (by omega)
      rw [Nat.zero_add, hRn'] at hcel
      have hcel2 : (R'.flatMap encR)[n * 2 + 1]? = some (.slice none 0 0) := hcel
      have hle2 : n * 2 + 1 + 1 ≤ R'.length * 2 := by omega
      have hoi : ¬ i = o := by
        intro e
        subst e
        rw [hgi2] at hgo
        have h1 := Option.some.inj hgo
        injection h1 with _ h2
        exact absurd h2 (by decide)
      have hni2 : ¬ σ.n = i := by omega
      have hoi2 : ¬ o = i := fun e => hoi e.symm
      have hin2 : i < σ2.n := by have := g2.1; simp at this; omega
      simp [wops_cons, hgi2, hcell2]
      refine W_drawn (l := [0, 1, 2, 3, 4, 5, 6, 7, 8, 9, 10, 11, 12, 13, 14, 15, 16, 17]) (b := #[0, 1, 3, 7, 0, 0, 32, 96, 224, 0, 992, 2016, 4064, 0, 16352, 32767, 65535, 131071]) (by kernel_rfl) (by kernel_rfl) (by kernel_rfl) ?_
      simp [dopsR_cons, opAt, isEff, again, befBits, isRead, Nat.add_assoc, hgi2, hcell2, hgo, hnR', hcel2, hrl, hoi, hoi2, hni2, -List.length_flatMap]
      have hgp : (σ2.put i (.cells [.slice (some ⟨o, 0, none⟩) R'.length cap] 97 false)).get o = some (.cells (R'.flatMap encR) 95 false) := by rw [CSt.get_put, if_neg hoi2]; exact hgo
      have hgip : (σ2.put i (.cells [.slice (some ⟨o, 0, none⟩) R'.length cap] 97 false)).get i = some (.cells [.slice (some ⟨o, 0, none⟩) R'.length cap] 97 false) := by rw [CSt.get_put, if_pos rfl]
      have hcep : (σ2.put i (.cells [.slice (some ⟨o, 0, none⟩) R'.length cap] 97 false)).get σ.n = some (.cells [.int .u64 x.at_, .string x.val, .bool x.gone] 29 false) := by rw [CSt.get_put, if_neg hni2]; exact hcell2
      have hFi : Fr (fun t => t = 97) 0 σ2 (σ2.put i (.cells [.slice (some ⟨o, 0, none⟩) R'.length cap] 97 false)) := (Fr.refl (fun t => t = 97) 0 σ2).put (Nat.zero_le _) hgi2 rfl _
      have hF3 : Fr stT b σ (σ2.put i (.cells [.slice (some ⟨o, 0, none⟩) R'.length cap] 97 false)) := ((((hg1.trans hg2a).fr (T := stT) (b := b)).trans (g2.mono (fun e he => .inl he) (Nat.le_refl _)))).put hbi hgi2 (.inr rfl) _
      have hrw3 := hrw2.fr (T := fun t => t = 97) (by decide) hFi
      have hn3 : (σ2.put i (.cells [.slice (some ⟨o, 0, none⟩) R'.length cap] 97 false)).n = σ2.n := rfl
      have hns2 : σ.n < σ2.n := by have := g2.1; simp at this; omega
      generalize hσ3 : σ2.put i (.cells [.slice (some ⟨o, 0, none⟩) R'.length cap] 97 false) = σ3 at hgp hgip hcep hF3 hrw3 hn3 ⊢
      have hps := fun Q => put_spec [] List.Pairwise.nil (.slice none 0 0) x σ3 Sl.nil (by simp) Q
      simp only [encV] at hps
      refine hps _ fun v4 σ4 h4 g4 => ?_
      obtain ⟨p4, c4, rfl⟩ := (h4.sl (sz := 3) (fun _ => rfl)).form
      have hgi4 := g4.get hgip (by omega)
      have hgo4 := g4.get hgp (by omega)
      have hcell4 := g4.get hcep (by omega)
      simp [dopsR_cons, opAt, isEff, again, befBits, isRead, Nat.add_assoc, hgi4, hgo4, hcell4, hnR', hcel2, hrl, hle2, hbits, -List.length_flatMap]
      have hset := encR_set1 R' n hnR' p4 (putL [] x).length c4
      rw [hRn'] at hset
      rw [hset]
      have hR4 := (hrw3.grow g4).set n ⟨k, p4, (putL [] x).length, c4⟩ (k, putL [] x) rfl (h4.sl (fun _ => rfl))
      rw [hSset, ← hput] at hR4
      have hF : Fr stT b σ (σ4.put o (.cells ((R'.set n ⟨k, p4, (putL [] x).length, c4⟩).flatMap encR) 95 false)) := (hF3.trans g4.fr).put hbo hgo4 (.inl rfl) _
      refine h n _ hp ?_ hF
      have hn4 := g4.n
      have hfr : Fr (fun t => t = 95) 0 σ4 (σ4.put o (.cells ((R'.set n ⟨k, p4, (putL [] x).length, c4⟩).flatMap encR) 95 false)) := (Fr.refl (fun t => t = 95) 0 σ4).put (Nat.zero_le _) hgo4 rfl _
      refine ⟨_, R'.set n ⟨k, p4, (putL [] x).length, c4⟩, hbi, by simp; omega, by rw [CSt.get_put, if_neg hoi]; exact hgi4, .inr ⟨o, cap, [], by simp, hbo, by simp; omega, by simp, rfl, ?_⟩, hR4.fr (by decide) hfr⟩
      rcases hcap with h | ⟨h, _⟩
      · exact .inl h
      · rw [h] at hnR'; simp at hnR'
end Go.Sm
/- ChainPuts: the walk. -/
set_option linter.unusedVariables false
set_option linter.unusedSimpArgs false
namespace Go.Sm
open Go Go.Proofs
set_option maxRecDepth 100000
set_option maxHeartbeats 2000000
theorem awake_spec {f : FuncId} (hf : E1.gam f = some awakeG) {σ : CSt} (hn : gnone σ) {Q : Out → CSt → Prop} : W E1 (.fn f #[] none) σ Q = Q (.ret (.bool true) false) σ :=
  W_gam hf rfl (by unfold awakeG; rw [if_pos ⟨rfl, hn⟩])
theorem at_ok (l : List VV) (h : ∀ x ∈ l, x.ok) : ∀ v ∈ l.map verOf, 0 ≤ v.at_ ∧ v.at_ < 256 := by
  intro v hv
  obtain ⟨x, hx, rfl⟩ := List.mem_map.1 hv
  rw [verOf_at]
  exact (h x hx).1
theorem law_ChainPuts (l : List VV) (hok : ∀ x ∈ l, x.ok) (v : Value) (σ : CSt) (hn : gnone σ) (hsl : Sl σ 34 3 encU v l) : W E1 (.fn 3 #[v] none) σ isTrueP := by
  rw [W_fn (fn := Tryz.f3) Tryz.func3 rfl rfl rfl]
  obtain ⟨p, c, rfl⟩ := hsl.form
  simp [wops_cons]
  rw [awake_spec rfl hn]
  simp [wops_cons]
  by_cases hl : 40 < l.length
  · have hl' : (40 : Int) < l.length := by omega
    simp [wops_cons, wops_if', dstOf, hl', isTrueP]
  · have hl' : ¬ (40 : Int) < l.length := by omega
    simp [wops_cons, wops_if', dstOf, hl']
    refine make_spec l hok _ σ hsl (by omega) _ fun v1 σ1 h1 g1 => ?_
    simp [wops_cons, wops_if', dstOf, hl']
    refine plain_spec l hok _ σ1 (hsl.grow g1) (by omega) _ fun v2 σ2 h2 g2 => ?_
    simp [wops_cons, wops_if', dstOf, hl']
    refine equal_ch _ _ v1 v2 σ2 (h1.grow g2) (h2.sl fun _ => rfl) (by have := make_len (l.map verOf); simp at this; omega) _ fun σ3 g3 => ?_
    rw [decide_eq_true (make_plain _ (at_ok l hok))]
    simp [wops_cons, wops_if', dstOf, hl', isTrueP]
end Go.Sm
/- ChainAt: the walk. -/
set_option linter.unusedVariables false
set_option linter.unusedSimpArgs false
namespace Go.Sm
open Go Go.Proofs
set_option maxRecDepth 100000
set_option maxHeartbeats 2000000
def zeroV : Ver := ⟨0, ⟨#[]⟩, false⟩
theorem encO_eq (o : Option Ver) : encO o = encV (o.getD zeroV) := by cases o <;> rfl
theorem retV2_eq (o : Option Ver) : retV2 o = .tuple #[.agg (encV (o.getD zeroV)).toArray, .bool o.isSome] := by cases o <;> rfl
theorem atL_snoc (c : List Ver) (v : Ver) (t : Int) : atL (c ++ [v]) t = if v.at_ ≤ t then some v else atL c t := by
  unfold atL
  rw [List.filter_append]
  by_cases h : v.at_ ≤ t <;> simp [h]
theorem take_snoc {α : Type} {l : List α} {k : Nat} (h : k < l.length) : l.take (k + 1) = l.take k ++ [l[k]] := List.take_succ_eq_append_getElem h
theorem plain_len (l : List Ver) (h : ∀ v ∈ l, 0 ≤ v.at_ ∧ v.at_ < 256) : (plainL l).length ≤ l.length := by rw [← make_plain l h]; exact make_len l
theorem plain_srt (l : List Ver) (h : ∀ v ∈ l, 0 ≤ v.at_ ∧ v.at_ < 256) : Srt (plainL l) := by rw [← make_plain l h]; exact makeL_srt l
theorem law_ChainAt (l : List VV) (hok : ∀ x ∈ l, x.ok) (t : Int) (ht0 : 0 ≤ t) (ht1 : t < 65536) (v : Value) (σ : CSt) (hn : gnone σ) (hsl : Sl σ 34 3 encU v l) : W E1 (.fn 5 #[v, .int .u16 t] none) σ isTrueP := by
  rw [W_fn (fn := Tryz.f5) Tryz.func5 rfl rfl rfl]
  obtain ⟨p, c, rfl⟩ := hsl.form
  simp [wops_cons]
  rw [awake_spec rfl hn]
  simp [wops_cons]
  by_cases hl : 40 < l.length
  · have hl' : (40 : Int) < l.length := by omega
    simp [wops_cons, hl', isTrueP]
  · have hl' : ¬ (40 : Int) < l.length := by omega
    have hT0 : 0 ≤ t.tmod 300 := Int.tmod_nonneg 300 ht0
    have hT1 : t.tmod 300 < 300 := Int.tmod_lt_of_pos t (by decide)
    have hwT : IntKind.u64.wrap (t.tmod 300) = t.tmod 300 := IntWalk.u64_in _ (by omega)
    have hsl0 := hsl.grow ((Grow.refl σ).alloc (.cells [.int .u64 0, .string ⟨#[]⟩, .bool false] 29 false))
    simp [wops_cons, hl']
    refine plain_spec l hok _ _ hsl0 (by omega) _ fun v1 σ1 h1 g1 => ?_
    have hpl := plain_len _ (at_ok l hok)
    rw [List.length_map] at hpl
    generalize hC : plainL (l.map verOf) = C at h1 hpl
    have hs1 := h1.sl (sz := 3) (fun _ => rfl)
    obtain ⟨p1, c1, rfl⟩ := hs1.form
    have hw0 := g1.get (i := σ.n) (o := .cells [.int .u64 0, .string ⟨#[]⟩, .bool false] 29 false) (by simp) (by simp)
    have hn1 : σ.n < σ1.n := by have := g1.n; simp at this; omega
    have hgr0 : Grow σ σ1 := ((Grow.refl σ).alloc _).trans g1
    simp [wops_cons]
    refine W_loop_inv (fun n a σ' => ∃ tm j, a = ⟨tm, 48, [], false⟩ ∧ tm.get 0 = some (.slice p l.length c) ∧ tm.get 1 = some (.int .u16 t) ∧ tm.get 5 = some (.pointer (some ⟨σ.n, 0, none⟩)) ∧ tm.get 6 = some (.bool (atL (C.take j) (t.tmod 300)).isSome) ∧ tm.get 17 = some (.slice p1 C.length c1) ∧
      tm.get 18 = some (.int .i64 C.length) ∧ tm.get 19 = some (.int .i64 (j : Nat)) ∧ j ≤ C.length ∧ n = C.length - j ∧ σ'.get σ.n = some (.cells (encO (atL (C.take j) (t.tmod 300))) 29 false) ∧ Own (σ.n + 1) σ' 29 encV (.slice p1 C.length c1) C ∧ Grow σ σ' ∧ σ.n < σ'.n) ?_ C.length _ _ ?_
    · rintro n a σ2 ⟨tm, j, rfl, h0, h1', h5, h6, h17, h18, h19, hj, hn, hlast, hs, hgr, hnn⟩
      by_cases hjl : j < C.length
      · obtain ⟨i, off, row, ro, rfl, hg, hin, hrow, hle⟩ := (hs.sl (sz := 3) (fun _ => rfl)).at hjl
        have hld := row_get (enc := encV) (fun _ => rfl) hrow j hjl
        have hl1 := row_le hle j hjl
        have hw2 := i64n1 j (by omega)
        have hgw : Grow σ2 ((σ2.alloc (.cells [.int .u64 0, .string ⟨#[]⟩, .bool false] 29 false)).put σ2.n (.cells [.int .u64 C[j].at_, .string C[j].val, .bool C[j].gone] 29 false)) := ((Grow.refl σ2).alloc _).put (Nat.le_refl _) _
        have hne : ¬ (σ.n = σ2.n) := by omega
        have hsn := take_snoc hjl
        have hcl : (encO (atL (C.take j) (t.tmod 300))).length = 3 := by rw [encO_eq]; rfl
        simp [wops_cons, h0, h1', h5, h6, h17, h18, h19, hjl, hg, hld, hl1]
        by_cases hat : C[j].at_ ≤ t.tmod 300
        · have hfin : atL (C.take (j + 1)) (t.tmod 300) = some C[j] := by rw [hsn, atL_snoc, if_pos hat]
          simp [wops_cons, encV, h0, h1', h5, h6, h17, h18, h19, hwT, hat, hlast, hne, hw2, hcl]
          refine ⟨_, ?_, j + 1, ?_, rfl, by omega, rfl, ?_, (hs.grow hgw).put (by omega) _, (hgr.trans hgw).put (Nat.le_refl _) _, by omega⟩
          · omega
          · rw [hfin]; rfl
          · rw [hfin, List.drop_of_length_le (by rw [hcl]; exact Nat.le_refl 3)]; rfl
        · have hfin : atL (C.take (j + 1)) (t.tmod 300) = atL (C.take j) (t.tmod 300) := by rw [hsn, atL_snoc, if_neg hat]
          simp [wops_cons, encV, h0, h1', h5, h6, h17, h18, h19, hwT, hat, hw2]
          refine ⟨_, ?_, j + 1, by rw [hfin], rfl, by omega, rfl, ?_, hs.grow hgw, hgr.trans hgw, by omega⟩
          · omega
          · simp [hne, hfin, hlast]
      · have hjl' : j = C.length := by omega
        subst hjl'
        rw [List.take_of_length_le (Nat.le_refl _)] at h6 hlast
        simp [wops_cons, h0, h1', h5, h6, h17, h18, h19]
        refine make_spec l hok _ σ2 (hsl.grow hgr) (by omega) _ fun v3 σ3 h3 g3 => ?_
        rw [make_plain _ (at_ok l hok), hC] at h3
        simp [wops_cons, h1', hwT]
        have hCs : Srt C := by rw [← hC]; exact plain_srt _ (at_ok l hok)
        refine at_spec C hCs v3 (t.tmod 300) σ3 h3 (by omega) _ fun σ4 g4 => ?_
        have hl4 := (g3.trans g4).get hlast hnn
        have hne : ¬ (σ.n = σ4.n) := by have := (g3.trans g4).n; omega
        rw [retV2_eq]
        rw [encO_eq] at hl4
        have hcmp := fun σ x y => (cmp_ver ((atL C (t.tmod 300)).getD zeroV) ((atL C (t.tmod 300)).getD zeroV) σ x y).1
        generalize (atL C (t.tmod 300)).getD zeroV = w at hl4 hcmp
        simp only [encV, decide_true] at hl4 hcmp
        simp [wops_cons, wops_if', dstOf, encV, h5, h6, hl4, hne, hcmp, bin_booleq Tryz.underlying4, isTrueP]
    · refine ⟨_, 0, rfl, ?_⟩
      simp
      exact ⟨rfl, hw0, h1, hgr0, hn1⟩
end Go.Sm
/- Stores: At, All. -/
set_option linter.unusedVariables false
set_option linter.unusedSimpArgs false
namespace Go.Sm
open Go Go.Proofs
set_option maxRecDepth 100000
set_option maxHeartbeats 4000000
def atS (S : Stl) (k : ByteArray) (n : Nat) (t : Int) : Option Ver := match S[n]? with
  | some s => if s.1 = k then atL s.2 t else none
  | none => none
theorem at_store (b : Nat) (i : Nat) (S : Stl) (hk : KS S) (hc : ∀ s ∈ S, Srt s.2) (hcl : ∀ s ∈ S, s.2.length < 2 ^ 38) (k : ByteArray) (t : Int) (σ : CSt) (hst : St b σ i S) (hbig : S.length < 2 ^ 38) (Q : Out → CSt → Prop)
    (h : ∀ (n : Nat) (σ' : CSt), Pos S k n → Grow σ σ' → Q (.ret (retV2 (atS S k n t)) false) σ') :
    W E1 (.fn 29 #[.pointer (some ⟨i, 0, none⟩), .string k, .int .u64 t] none) σ Q := by
  obtain ⟨vr, R, hbi, hin, hg, hown, hrw⟩ := hst
  rw [W_fn (fn := Tryz.f29) Tryz.func29 rfl rfl rfl]
  have hni : ¬ i = σ.n := by omega
  have hga : Grow σ (σ.alloc (.cells [.int .u64 0, .string ⟨#[]⟩, .bool false] 29 false)) := (Grow.refl σ).alloc _
  obtain ⟨pr, cr, rfl⟩ := (hown.sl (sz := 2) lenR).form
  have hl := hrw.1
  simp [wops_cons, hg, hni]
  refine find_store S hk R _ k _ (hrw.grow hga) ((hown.grow hga).sl lenR) (by omega) _ fun n σ1 hp g1 => ?_
  have hg1 := hga.trans g1
  have hgi := hg1.get hg hin
  have hcell : σ1.get σ.n = some (.cells [.int .u64 0, .string ⟨#[]⟩, .bool false] 29 false) := g1.get (by simp) (by simp)
  have hn1 : σ.n < σ1.n := by have := g1.n; simp at this; omega
  have hown1 := hown.grow hg1
  have hrw1 := hrw.grow hg1
  by_cases hfo : ∃ h : n < S.length, S[n].1 = k
  · obtain ⟨hnS, hkey⟩ := hfo
    rw [decide_eq_true ⟨hnS, hkey⟩]
    have hat : atS S k n t = atL S[n].2 t := by
      unfold atS
      rw [List.getElem?_eq_getElem hnS]
      simp only [hkey, if_true]
    have hnR : n < R.length := by omega
    obtain ⟨hkeyR, hslR⟩ := hrw1.2 n hnR hnS
    rcases hown1 with ⟨h1, h2⟩ | ⟨o, cap, zs, h1, hbo, hon, hgo, hzs, hcap⟩
    · rw [h2] at hnR; simp at hnR
    · cases h1
      have hrl : (R.flatMap encR).length = R.length * 2 := enc_length encR lenR R
      have hrow : ((R.flatMap encR ++ zs).drop 0).take (R.length * 2) = R.flatMap encR := by rw [List.drop_zero, ← hrl, List.take_left]
      have hrlz : (R.flatMap encR ++ zs).length = R.length * 2 + zs.length := by rw [List.length_append, hrl]
      generalize R.flatMap encR ++ zs = row at hgo hrow hrlz
      have hcel := row_cell (enc := encR) lenR hrow n 1 hnR (by omega)
      rw [Nat.zero_add] at hcel
      have hcel2 : row[n * 2 + 1]? = some (.slice R[n].p R[n].n R[n].c) := hcel
      simp [wops_cons, hgi, hcell, hgo, hnR, hcel2, hrl, -List.length_flatMap]
      refine at_spec S[n].2 (hc _ (List.getElem_mem hnS)) _ t σ1 hslR (by have := hcl _ (List.getElem_mem hnS); omega) _ fun σ2 g2 => ?_
      have hcell2 := g2.get hcell hn1
      have fin := fun o => h n _ hp ((hg1.trans g2).put (i := σ.n) (Nat.le_refl _) o)
      rw [hat, retV2_eq] at fin
      rw [retV2_eq]
      generalize (atL S[n].2 t).getD zeroV = w at fin ⊢
      have fin1 := fin (.cells (encV w) 29 false)
      simp only [encV] at fin1
      simpa [wops_cons, encV, hcell2] using fin1
  · rw [decide_eq_false hfo]
    have hat : atS S k n t = none := by
      unfold atS
      cases hn : S[n]? with
      | none => rfl
      | some s =>
        have hs : ¬ s.1 = k := fun e => hfo (by
          obtain ⟨h1, h2⟩ := List.getElem?_eq_some_iff.1 hn
          exact ⟨h1, by rw [h2]; exact e⟩)
        simp only [hs, if_false]
    have fin := h n _ hp (hg1.put (i := σ.n) (Nat.le_refl _) (.cells [.int .u64 0, .string ⟨#[]⟩, .bool false] 29 false))
    rw [hat] at fin
    simp only [retV2] at fin
    simpa [wops_cons, hgi, hcell] using fin
end Go.Sm
