/- Part E of the proof. -/
import Derived.Sort.LotD5
import Derived.Test.YtlkoipbodffcnaaGreatDoorPartD
/- Maps: their entries as a list; ranges over them. -/
set_option linter.unusedVariables false
set_option linter.unusedSimpArgs false
namespace Go.Sm
open Go
/-- A map's entries. -/
abbrev MlG (κ : Type) := List (κ × Value)
abbrev Ml := MlG ByteArray
section
variable {κ : Type} [DecidableEq κ]
def EntsG (key : κ → Value) (es : List MapEntry) (M : MlG κ) : Prop := es.map (fun e => (e.key, e.val)) = M.map fun p => (key p.1, p.2)
def posM (k : κ) : MlG κ → Nat → Option (Nat × Value)
  | [], _ => none
  | p :: M, i => if p.1 = k then some (i, p.2) else posM k M (i + 1)
/-- Keys of a kind: the model finds them. -/
structure Keyed (key : κ → Value) (kd : TypeDesc) : Prop where
  flat : ∀ k, flat0 (key k) = true
  same : ∀ k k', Instr.sameNow kd (key k) (key k') = some (decide (k' = k))
  inj : ∀ k k', key k = key k' → k = k'
theorem keyed_str : Keyed Value.string .string := by
  refine ⟨fun k => rfl, fun k k' => ?_, fun k k' h => by cases h; rfl⟩
  by_cases e1 : k' = k
  · subst e1; simp [Instr.sameNow, ba_self]
  · have hne : (k == k') = false := by
      cases h : (k == k') with
      | false => rfl
      | true => exact absurd (ba_eq h).symm e1
    simp [Instr.sameNow, hne, e1]
theorem keyed_int (ik : IntKind) : Keyed (Value.int ik) (.int ik) := by
  refine ⟨fun k => rfl, fun k k' => ?_, fun k k' h => by cases h; rfl⟩
  by_cases e1 : k' = k
  · subst e1; simp [Instr.sameNow]
  · have : ¬ k = k' := fun h => e1 h.symm
    simp [Instr.sameNow, e1, this]
theorem find_entsG {key : κ → Value} {kd : TypeDesc} (hk : Keyed key kd) (k : κ) : ∀ (es : List MapEntry) (M : MlG κ) (i : Nat), EntsG key es M → Instr.findNow kd (key k) es i = some (posM k M i)
  | [], [], _, _ => rfl
  | [], p :: M, _, h => by simp [EntsG] at h
  | e :: es, [], _, h => by simp [EntsG] at h
  | e :: es, p :: M, i, h => by
    simp only [EntsG, List.map_cons, List.cons.injEq, Prod.mk.injEq] at h
    obtain ⟨⟨h1, h2⟩, h3⟩ := h
    have ih := find_entsG hk k es M (i + 1) h3
    unfold Instr.findNow posM
    rw [h1, hk.same]
    by_cases e1 : p.1 = k
    · simp [e1, h2]
    · simp [e1]
      exact ih
def getM (M : MlG κ) (k : κ) : Option Value := (M.find? fun p => decide (p.1 = k)).map (·.2)
def setM : MlG κ → κ → Value → MlG κ
  | [], k, v => [(k, v)]
  | p :: M, k, v => if p.1 = k then (k, v) :: M else p :: setM M k v
theorem posM_none {k : κ} {v : Value} : ∀ {M : MlG κ} {i : Nat}, posM k M i = none → getM M k = none ∧ setM M k v = M ++ [(k, v)] ∧ ∀ p ∈ M, p.1 ≠ k
  | [], _, _ => ⟨rfl, rfl, by simp⟩
  | p :: M, i, h => by
    unfold posM at h
    by_cases e : p.1 = k
    · rw [if_pos e] at h; cases h
    · rw [if_neg e] at h
      obtain ⟨h1, h2, h3⟩ := posM_none (v := v) h
      unfold getM setM
      rw [if_neg e, h2]
      refine ⟨?_, rfl, fun q hq => ?_⟩
      · rw [List.find?_cons]
        simp only [e, decide_false]
        exact h1
      · rcases List.mem_cons.1 hq with rfl | hq
        · exact e
        · exact h3 q hq
theorem posM_some {k : κ} {v w : Value} {j : Nat} : ∀ {M : MlG κ} {i : Nat}, posM k M i = some (j, w) → i ≤ j ∧ j - i < M.length ∧ getM M k = some w ∧ setM M k v = M.set (j - i) (k, v) ∧ (M[j - i]?).map (·.1) = some k
  | [], _, h => by cases h
  | p :: M, i, h => by
    unfold posM at h
    by_cases e : p.1 = k
    · rw [if_pos e] at h
      cases h
      refine ⟨Nat.le_refl _, by simp, ?_, ?_, by simp [e]⟩
      · unfold getM; rw [List.find?_cons]; simp [e]
      · unfold setM; rw [if_pos e]; simp
    · rw [if_neg e] at h
      obtain ⟨h0, h1, h2, h3, h4⟩ := posM_some (v := v) h
      have hj : j - i = (j - (i + 1)) + 1 := by omega
      refine ⟨by omega, by simp; omega, ?_, ?_, by rw [hj]; simpa using h4⟩
      · unfold getM; rw [List.find?_cons]; simp only [e, decide_false]; exact h2
      · unfold setM; rw [if_neg e, h3, hj, List.set_cons_succ]
/-- The entries; their births are of their own, before the clock; no key twice. -/
structure EntsOk (key : κ → Value) (es : List MapEntry) (clock : Nat) (M : MlG κ) : Prop where
  ents : EntsG key es M
  nodup : (es.map (·.born)).Nodup
  born : ∀ e ∈ es, e.born < clock
  keys : (M.map (·.1)).Nodup
def MpG (key : κ → Value) (σ : CSt) (m : Nat) (M : MlG κ) : Prop := ∃ es clock, σ.get m = some (.map es clock) ∧ EntsOk key es.toList clock M
theorem EntsG.length {κ : Type} {key : κ → Value} {es : List MapEntry} {M : MlG κ} (h : EntsG key es M) : es.length = M.length := by have := congrArg List.length h; simpa using this
theorem entsOk_nil {κ : Type} (key : κ → Value) (c : Nat) : EntsOk key [] c ([] : MlG κ) := ⟨rfl, by simp, by simp, by simp⟩
theorem setM_keys {k : κ} {v : Value} : ∀ {M : MlG κ}, (M.map (·.1)).Nodup → ((setM M k v).map (·.1)).Nodup ∧ ∀ q, q ∈ (setM M k v).map (·.1) ↔ q = k ∨ q ∈ M.map (·.1)
  | [], _ => by simp [setM]
  | p :: M, h => by
    rw [List.map_cons, List.nodup_cons] at h
    obtain ⟨h1, h2⟩ := setM_keys (k := k) (v := v) h.2
    unfold setM
    by_cases e : p.1 = k
    · rw [if_pos e, List.map_cons, List.nodup_cons]
      refine ⟨⟨by rw [← e]; exact h.1, h.2⟩, fun q => ?_⟩
      simp [e]
    · rw [if_neg e, List.map_cons, List.nodup_cons]
      refine ⟨⟨fun hm => ?_, h1⟩, fun q => ?_⟩
      · rcases (h2 p.1).1 hm with h3 | h3
        · exact e h3
        · exact h.1 h3
      · rw [List.mem_cons, h2, List.map_cons, List.mem_cons]
        exact or_left_comm
theorem getM_none {k : κ} {M : MlG κ} (h : ∀ p ∈ M, p.1 ≠ k) : getM M k = none := by
  unfold getM
  rw [List.find?_eq_none.2 fun p hp => by simpa using h p hp]
  rfl
theorem getM_mem {k : κ} {v : Value} : ∀ {M : MlG κ}, (M.map (·.1)).Nodup → (k, v) ∈ M → getM M k = some v
  | [], _, h => by cases h
  | p :: M, hn, h => by
    rw [List.map_cons, List.nodup_cons] at hn
    unfold getM
    rw [List.find?_cons]
    rcases List.mem_cons.1 h with rfl | h
    · simp
    · have : p.1 ≠ k := fun e => hn.1 (by rw [e]; exact List.mem_map_of_mem (f := (·.1)) h)
      simp only [this, decide_false]
      exact getM_mem hn.2 h
theorem getM_setM (k : κ) (v : Value) (q : κ) : ∀ M : MlG κ, getM (setM M k v) q = if k = q then some v else getM M q
  | [] => by
    unfold setM getM
    by_cases e : k = q <;> simp [e]
  | p :: M => by
    have ih := getM_setM k v q M
    unfold getM at ih ⊢
    unfold setM
    by_cases e1 : p.1 = k
    · rw [if_pos e1]
      by_cases e : k = q
      · simp [e]
      · have : ¬ p.1 = q := fun h => e (by rw [← e1, h])
        simp [e, this]
    · rw [if_neg e1]
      simp only [List.find?_cons]
      by_cases e2 : p.1 = q
      · have e : ¬ k = q := fun h => e1 (by rw [e2, h])
        simp [e2, e]
      · simp only [e2, decide_false]
        exact ih
section
variable {P : Program} {σ : CSt} {t kt et : TypeId} {m : Nat} {M : MlG κ} {k : κ} {key : κ → Value} {kd : TypeDesc}
theorem lookup_mpG (ht : P.underlying t = some (.map kt et)) (hk : keyKind P kt = some kd) (hK : Keyed key kd) {z : Value} (hz : zeroOf? P et = some z) (h : MpG key σ m M) (ok : Bool) : lookupOp P σ t (.map (some m)) (key k) ok = some (if ok then .tuple #[(getM M k).getD z, .bool (getM M k).isSome] else (getM M k).getD z) := by
  obtain ⟨es, clock, hg, he⟩ := h
  have hf : findK P kt (key k) es = some (posM k M 0) := by unfold findK; rw [hk]; exact find_entsG hK k _ M 0 he.ents
  unfold lookupOp
  rw [ht]
  simp only [CSt.maps, hg, Option.map_some, hf, hK.flat, if_true]
  cases hp : posM k M 0 with
  | none => rw [(posM_none (v := z) hp).1]; simp [hz]
  | some jw => obtain ⟨j, w⟩ := jw; rw [(posM_some (v := z) hp).2.2.1]; simp
theorem lookup_nilG (ht : P.underlying t = some (.map kt et)) (hk : keyKind P kt = some kd) (hK : Keyed key kd) {z : Value} (hz : zeroOf? P et = some z) (ok : Bool) : lookupOp P σ t (.map none) (key k) ok = some (if ok then .tuple #[z, .bool false] else z) := by
  have hf : findK P kt (key k) #[] = some none := by unfold findK; rw [hk]; rfl
  unfold lookupOp
  rw [ht]
  simp only [hf, hK.flat, if_true, hz, Option.map_some]
theorem update_mpG (ht : P.underlying t = some (.map kt et)) (hk : keyKind P kt = some kd) (hK : Keyed key kd) (h : MpG key σ m M) (v : Value) : ∃ o, updateOp P σ t (.map (some m)) (key k) v = some (σ.put m o) ∧ MpG key (σ.put m o) m (setM M k v) := by
  obtain ⟨es, clock, hg, he⟩ := h
  have hf : findK P kt (key k) es = some (posM k M 0) := by unfold findK; rw [hk]; exact find_entsG hK k _ M 0 he.ents
  unfold updateOp
  rw [ht]
  simp only [CSt.maps, hg, hf, hK.flat, if_true]
  have hkeys := (setM_keys (k := k) (v := v) he.keys).1
  cases hp : posM k M 0 with
  | none =>
    refine ⟨_, rfl, _, _, by rw [CSt.get_put, if_pos rfl], ?_⟩
    have hset := (posM_none (v := v) hp).2.1
    rw [hset] at hkeys
    rw [hset]
    have he1 := he.ents
    refine ⟨?_, ?_, fun e h => ?_, hkeys⟩
    · unfold EntsG at he1 ⊢
      simp [he1]
    · rw [Array.toList_push, List.map_append, List.nodup_append]
      refine ⟨he.nodup, by simp, fun a ha b hb => ?_⟩
      obtain ⟨e, h1, rfl⟩ := List.mem_map.1 ha
      simp at hb
      have := he.born e h1
      omega
    · rw [Array.toList_push] at h
      rcases List.mem_append.1 h with h | h
      · have := he.born e h; omega
      · rw [List.mem_singleton] at h; rw [h]; exact Nat.lt_succ_self _
  | some jw =>
    obtain ⟨j, w⟩ := jw
    obtain ⟨h1, h2, h3, h4, h5⟩ := posM_some (v := v) hp
    refine ⟨_, rfl, _, _, by rw [CSt.get_put, if_pos rfl], ?_⟩
    rw [h4] at hkeys
    rw [h4]
    have he1 := he.ents
    have hb : (es.modify j fun e => { e with key := key k, val := v }).toList.map (·.born) = es.toList.map (·.born) := by
      rw [Array.toList_modify]
      apply List.ext_getElem?
      intro n
      simp only [List.getElem?_map, List.getElem?_modify]
      by_cases e : j = n
      · subst e; simp [Option.map_map, Function.comp_def]
      · simp [e]
    refine ⟨?_, by rw [hb]; exact he.nodup, fun e h => ?_, hkeys⟩
    · unfold EntsG at he1 ⊢
      rw [Array.toList_modify, Nat.sub_zero]
      apply List.ext_getElem?
      intro n
      have hn := congrArg (·[n]?) he1
      simp only [List.getElem?_map, List.getElem?_modify, List.getElem?_set] at hn ⊢
      by_cases e : j = n
      · subst e
        rw [Nat.sub_zero] at h2
        have hl := EntsG.length he1
        simp [h2, List.getElem?_eq_getElem (show j < es.toList.length by omega)]
      · simp [e]
        simpa using hn
    · have h6 : e.born ∈ (es.modify j fun e => { e with key := key k, val := v }).toList.map (·.born) := List.mem_map_of_mem h
      rw [hb] at h6
      obtain ⟨e', h7, h8⟩ := List.mem_map.1 h6
      rw [← h8]
      exact he.born e' h7
end
end
abbrev Mp (σ : CSt) (m : Nat) (M : Ml) : Prop := MpG Value.string σ m M
section
variable {P : Program} {σ : CSt} {t kt et : TypeId} {m : Nat} {M : Ml} {k : ByteArray}
theorem lookup_mp (ht : P.underlying t = some (.map kt et)) (hk : keyKind P kt = some .string) {z : Value} (hz : zeroOf? P et = some z) (h : Mp σ m M) : lookupOp P σ t (.map (some m)) (.string k) false = some ((getM M k).getD z) := by
  have := lookup_mpG (k := k) ht hk keyed_str hz h false
  simpa using this
theorem update_mp (ht : P.underlying t = some (.map kt et)) (hk : keyKind P kt = some .string) (h : Mp σ m M) (v : Value) : ∃ o, updateOp P σ t (.map (some m)) (.string k) v = some (σ.put m o) ∧ Mp (σ.put m o) m (setM M k v) := update_mpG ht hk keyed_str h v
end
/-! ### Ranges -/
section
variable {κ : Type} [DecidableEq κ]
/-- A range over a map: what is yet to come. -/
def MIt (key : κ → Value) (σ : CSt) (r m : Nat) (M S : MlG κ) : Prop := ∃ es clock seen, σ.get m = some (.map es clock) ∧ EntsOk key es.toList clock M ∧ σ.get r = some (.miter (some m) clock seen clock) ∧ r ≠ m ∧ EntsG key (es.toList.filter fun e => !seen.contains e.born) S
theorem MIt.congr {κ : Type} {key : κ → Value} {σ σ' : CSt} {r m : Nat} {M S : MlG κ} (h : MIt key σ r m M S) (h1 : σ'.get r = σ.get r) (h2 : σ'.get m = σ.get m) : MIt key σ' r m M S := by
  obtain ⟨es, clock, seen, a, b, c, d⟩ := h
  exact ⟨es, clock, seen, by rw [h2]; exact a, b, by rw [h1]; exact c, d⟩
theorem MIt.mp {κ : Type} {key : κ → Value} {σ : CSt} {r m : Nat} {M S : MlG κ} (h : MIt key σ r m M S) : MpG key σ m M := by
  obtain ⟨es, clock, seen, a, b, c, d⟩ := h
  exact ⟨es, clock, a, b⟩
variable {P : Program} {σ : CSt} {ev : Operand → Value} {dst : Option Tmp} {ty : TypeId} {pos : String} {after : Array Edge} {g : Option (Nat × Bool)}
@[simp] theorem copE_range (t : TypeId) (x : Operand) : cop P σ ev ⟨dst, .range t x, ty, pos, after, g⟩ = OpR.ofP (rangeOp P σ t (ev x)) := (rfl)
@[simp] theorem copE_next (it : Operand) (s : Bool) : cop P σ ev ⟨dst, .next it s, ty, pos, after, g⟩ = nextOp σ (ev it) s := (rfl)
@[simp] theorem copE_entry (it : Operand) : cop P σ ev ⟨dst, .entry it, ty, pos, after, g⟩ = OpR.ofV σ (entryOp σ (ev it)) := (rfl)
theorem range_mpG {κ : Type} {key : κ → Value} {t kt et : TypeId} {m : Nat} {M : MlG κ} (ht : P.underlying t = some (.map kt et)) (h : MpG key σ m M) (hm : m < σ.n) : ∃ o, rangeOp P σ t (.map (some m)) = some (.pointer (some ⟨σ.n, 0, none⟩), σ.alloc o) ∧ MIt key (σ.alloc o) σ.n m M M := by
  obtain ⟨es, clock, hg, he⟩ := h
  refine ⟨.miter (some m) clock #[] clock, ?_, es, clock, #[], ?_, he, by rw [CSt.get_alloc, if_pos rfl], by omega, ?_⟩
  · unfold rangeOp
    rw [ht]
    simp only [CSt.maps, hg]
  · rw [CSt.get_alloc, if_neg (by omega)]; exact hg
  · have : (es.toList.filter fun e => !(#[] : Array Nat).contains e.born) = es.toList := List.filter_eq_self.2 fun e _ => by simp
    rw [this]; exact he.ents
theorem filter_erase_born : ∀ (l : List MapEntry) (j : Nat) (h : j < l.length), (l.map (·.born)).Nodup → l.filter (fun e => !(e.born == l[j].born)) = l.eraseIdx j
  | [], j, h, _ => by simp at h
  | e :: l, 0, h, hn => by
    rw [List.map_cons, List.nodup_cons] at hn
    simp only [List.getElem_cons_zero, List.eraseIdx_zero, List.tail_cons]
    rw [List.filter_cons]
    simp
    intro a ha e2
    exact hn.1 (by rw [← e2]; exact List.mem_map_of_mem ha)
  | e :: l, j + 1, h, hn => by
    rw [List.map_cons, List.nodup_cons] at hn
    have hj : j < l.length := by simpa using h
    have ih := filter_erase_born l j hj hn.2
    simp only [List.getElem_cons_succ, List.eraseIdx_cons_succ]
    rw [List.filter_cons, ih]
    have : (!(e.born == l[j].born)) = true := by
      simp
      intro e2
      exact hn.1 (by rw [e2]; exact List.mem_map_of_mem (List.getElem_mem hj))
    rw [this]; rfl
theorem wres_next {κ : Type} {E : Env} {x : Ctx} {a : CAct} {d : Option Tmp} {K : CAct → CSt → Prop} {Q : Out → CSt → Prop} {key : κ → Value} {r m : Nat} {M S : MlG κ} (h : MIt key σ r m M S)
    (h0 : S = [] → K (a.put d (.tuple #[.bool false])) σ)
    (h1 : ∀ (j : Nat) (hj : j < S.length) (o : CObj), MIt key (σ.put r o) r m M (S.eraseIdx j) → entryOp (σ.put r o) (.pointer (some ⟨r, 0, none⟩)) = some (.tuple #[key S[j].1, S[j].2]) → K (a.put d (.tuple #[.bool true, key S[j].1, S[j].2])) (σ.put r o)) :
    wres E x a d K Q σ (nextOp σ (.pointer (some ⟨r, 0, none⟩)) false) := by
  obtain ⟨es, clock, seen, hm, he, hr, hrm, hS⟩ := h
  have hlast : (!seen.isEmpty && !es.isEmpty && es.all (·.born ≥ clock)) = false := by
    cases hz : es.isEmpty with
    | true => simp
    | false =>
      have : es.all (·.born ≥ clock) = false := by
        rw [Bool.eq_false_iff]
        intro hall
        have hne : es.toList ≠ [] := by
          intro h
          rw [Array.toList_eq_nil_iff] at h
          rw [h] at hz; simp at hz
        obtain ⟨e, l, hl⟩ := List.exists_cons_of_ne_nil hne
        have hmem : e ∈ es.toList := by rw [hl]; simp
        have h1 := he.born e hmem
        have h2 := Array.all_eq_true_iff_forall_mem.1 hall e (Array.mem_toList_iff.1 hmem)
        simp at h2
        omega
      rw [this]; simp
  have hmn : mapNext es clock seen = (if (es.toList.filter fun e => !seen.contains e.born).isEmpty then #[none] else #[]) ++ ((es.toList.filter fun e => !seen.contains e.born).map some).toArray := by
    unfold mapNext
    have e1 : ((es.filter fun e => !seen.contains e.born).filter fun e => decide (e.born < clock)) = es.filter fun e => !seen.contains e.born := by
      apply Array.filter_eq_self.2
      intro e h
      have := he.born e (Array.mem_toList_iff.2 (Array.mem_filter.1 h).1)
      simpa using this
    have e2 : ((es.filter fun e => !seen.contains e.born).filter fun e => decide (e.born ≥ clock)) = #[] := by
      apply Array.filter_eq_empty_iff.2
      intro e h
      have := he.born e (Array.mem_toList_iff.2 (Array.mem_filter.1 h).1)
      simp; omega
    simp only
    rw [e1, e2]
    have e3 : (es.filter fun e => !seen.contains e.born) = (es.toList.filter fun e => !seen.contains e.born).toArray := by
      rw [← Array.toList_filter]
    rw [e3]
    simp
  have hlen := EntsG.length hS
  unfold nextOp
  simp only [hr, CSt.maps, hm]
  rw [hlast, hmn]
  simp only [Bool.false_eq_true, if_false]
  generalize hL : (es.toList.filter fun e => !seen.contains e.born) = L at hS hlen ⊢
  unfold wres picks
  cases L with
  | nil =>
    have hS0 : S = [] := List.eq_nil_of_length_eq_zero (by simpa using hlen.symm)
    simp
    exact h0 hS0
  | cons e0 L =>
    have hpick : ∀ j, j < (e0 :: L).length → K (a.put d (.tuple #[.bool true, (e0 :: L)[j]!.key, (e0 :: L)[j]!.val])) (σ.put r (.miter (some m) clock (seen.push (e0 :: L)[j]!.born) clock)) := by
      intro j hj
      have hjS : j < S.length := by omega
      have hnd : ((e0 :: L).map (·.born)).Nodup := by rw [← hL]; exact List.Nodup.sublist (List.Sublist.map _ List.filter_sublist) he.nodup
      have hfe := filter_erase_born (e0 :: L) j hj hnd
      have hgj : (e0 :: L)[j]! = (e0 :: L)[j] := by rw [getElem!_pos]
      have hmem : (e0 :: L)[j] ∈ es.toList := (List.mem_filter.1 (by rw [hL]; exact List.getElem_mem hj : (e0 :: L)[j] ∈ es.toList.filter fun e => !seen.contains e.born)).1
      rw [hgj]
      generalize hej : (e0 :: L)[j] = ej at hfe hmem ⊢
      have hS' := hS
      unfold EntsG at hS'
      have hp := congrArg (·[j]?) hS'
      simp only [List.getElem?_map, List.getElem?_eq_getElem hj, List.getElem?_eq_getElem hjS, hej, Option.map_some, Option.some.injEq, Prod.mk.injEq] at hp
      rw [hp.1, hp.2]
      refine h1 j hjS _ ⟨es, clock, seen.push ej.born, by rw [CSt.get_put, if_neg (Ne.symm hrm)]; exact hm, he, by rw [CSt.get_put, if_pos rfl], hrm, ?_⟩ ?_
      · have e1 : (es.toList.filter fun e => !(seen.push ej.born).contains e.born) = (e0 :: L).eraseIdx j := by
          rw [← hfe, ← hL, List.filter_filter]
          apply List.filter_congr
          intro e _
          by_cases e2 : e.born = ej.born <;> simp [Array.contains_push, e2]
        rw [e1]
        unfold EntsG at hS ⊢
        rw [List.eraseIdx_eq_take_drop_succ, List.eraseIdx_eq_take_drop_succ, List.map_append, List.map_append, List.map_take, List.map_drop, List.map_take, List.map_drop, hS]
      · unfold entryOp
        have hb : (seen.push ej.born).back? = some ej.born := by simp
        simp only [CSt.get_put, if_true, CSt.maps, if_neg (Ne.symm hrm), hm, hb]
        have hf : es.find? (fun e => e.born == ej.born) = some ej := by
          rw [← Array.find?_toList]
          have : ∀ (l : List MapEntry), (l.map (·.born)).Nodup → ej ∈ l → l.find? (fun e => e.born == ej.born) = some ej := by
            intro l
            induction l with
            | nil => intro _ h; cases h
            | cons a l ih =>
              intro hn h
              rw [List.map_cons, List.nodup_cons] at hn
              rw [List.find?_cons]
              rcases List.mem_cons.1 h with rfl | h
              · simp
              · have : (a.born == ej.born) = false := by
                  simp
                  intro e2
                  exact hn.1 (by rw [e2]; exact List.mem_map_of_mem h)
                rw [this]
                exact ih hn.2 h
          exact this es.toList he.nodup hmem
        rw [hf]
        simp [hp.1, hp.2]
    simp
    split
    · rename_i h
      have hL0 : L = [] := h
      have := hpick 0 (by simp)
      simpa [hL0] using this
    · intro i hi
      have hi' : i < (e0 :: L).length := by simpa using hi
      have := hpick i hi'
      have hq : ((e0 :: L).map some)[i]? = some (some (e0 :: L)[i]!) := by
        rw [List.getElem?_map, List.getElem?_eq_getElem hi', getElem!_pos (e0 :: L) i hi']; rfl
      simp only [List.map_cons] at hq
      rw [hq]
      exact this
end
end Go.Sm
/- Slices of one's own that have more room behind them. -/
set_option linter.unusedVariables false
set_option linter.unusedSimpArgs false
namespace Go.Sm
open Go
/-- A slice that is one's own: the first part of an object that was made behind a point. -/
def OwnZ {α : Type} (b : Nat) (σ : CSt) (e : TypeId) (enc : α → List Value) (v : Value) (l : List α) : Prop :=
  (v = .slice none 0 0 ∧ l = []) ∨ ∃ i cap zs, v = .slice (some ⟨i, 0, none⟩) l.length cap ∧ b ≤ i ∧ i < σ.n ∧ σ.get i = some (.cells (l.flatMap enc ++ zs) e false) ∧ cokL zs = true ∧ (cap = openCap ∨ (l = [] ∧ cap = 0 ∧ zs = []))
section
variable {α : Type} {σ σ' : CSt} {e : TypeId} {sz : Nat} {enc : α → List Value} {v : Value} {l : List α} {b : Nat}
theorem OwnZ.nil : OwnZ b σ e enc (.slice none 0 0) ([] : List α) := .inl ⟨rfl, rfl⟩
theorem Own.z (h : Own b σ e enc v l) : OwnZ b σ e enc v l := by
  rcases h with h | ⟨i, cap, h1, hb, hi, h2, h3⟩
  · exact .inl h
  · refine .inr ⟨i, cap, [], h1, hb, hi, by rw [List.append_nil]; exact h2, rfl, ?_⟩
    rcases h3 with h3 | ⟨h3, h4⟩
    · exact .inl h3
    · exact .inr ⟨h3, h4, rfl⟩
theorem OwnZ.sl (hsz : ∀ x, (enc x).length = sz) (h : OwnZ b σ e enc v l) : Sl σ e sz enc v l := by
  rcases h with h | ⟨i, cap, zs, rfl, hb, hi, hg, hz, hc⟩
  · exact .inl h
  · have hl := enc_length enc hsz l
    refine .inr ⟨i, 0, cap, _, false, rfl, hg, hi, ?_, ?_, ?_⟩
    · rw [List.drop_zero, ← hl, List.take_left]
    · rw [List.length_append]; omega
    · rcases hc with rfl | ⟨rfl, rfl, _⟩
      · exact .inl rfl
      · exact .inr ⟨by simp, by simp [openCap]⟩
theorem OwnZ.grow (h : OwnZ b σ e enc v l) (hg : Grow σ σ') : OwnZ b σ' e enc v l := by
  rcases h with h | ⟨i, cap, zs, h1, hb, hi, h2, h3⟩
  · exact .inl h
  · exact .inr ⟨i, cap, zs, h1, hb, Nat.lt_of_lt_of_le hi hg.n, hg.get h2 hi, h3⟩
theorem OwnZ.keep (h : OwnZ b σ e enc v l) (hn : σ.n ≤ σ'.n) (hg : ∀ i, b ≤ i → i < σ.n → σ'.get i = σ.get i) : OwnZ b σ' e enc v l := by
  rcases h with h | ⟨i, cap, zs, h1, hb, hi, h2, h3⟩
  · exact .inl h
  · exact .inr ⟨i, cap, zs, h1, hb, Nat.lt_of_lt_of_le hi hn, by rw [hg i hb hi]; exact h2, h3⟩
theorem OwnZ.put (h : OwnZ b σ e enc v l) {i : Nat} (hi : i < b) (o : CObj) : OwnZ b (σ.put i o) e enc v l :=
  h.keep (Nat.le_refl _) fun j hj _ => by rw [CSt.get_put, if_neg (by omega)]
theorem OwnZ.weaken {b' : Nat} (h : OwnZ b σ e enc v l) (hb : b' ≤ b) : OwnZ b' σ e enc v l := by
  rcases h with h | ⟨i, cap, zs, h1, hb', h2⟩
  · exact .inl h
  · exact .inr ⟨i, cap, zs, h1, Nat.le_trans hb hb', h2⟩
theorem OwnZ.fr {T : TypeId → Prop} {b' : Nat} {s0 s1 : CSt} (h : OwnZ b' s0 e enc v l) (ht : ¬ T e) (hg : Fr T b s0 s1) : OwnZ b' s1 e enc v l := by
  rcases h with h | ⟨i, cap, zs, h1, hb, hi, h2, h3⟩
  · exact .inl h
  · exact .inr ⟨i, cap, zs, h1, hb, Nat.lt_of_lt_of_le hi hg.1, hg.get h2 hi (.inr fun row' e' ro' he => by cases he; exact ht), h3⟩
theorem insRow_encZ (hsz : ∀ x, (enc x).length = sz) (a : Nat) (ha : a ≤ l.length) (x : α) (zs : List Value) : insRow sz a l.length (l.flatMap enc ++ zs) (enc x) = (l.take a ++ x :: l.drop a).flatMap enc := by
  have hl := enc_length enc hsz l
  rw [← insRow_enc hsz a ha x]
  unfold insRow
  have h1 : a * sz ≤ (l.flatMap enc).length := by rw [hl]; exact Nat.mul_le_mul_right _ ha
  rw [List.take_append_of_le_length h1, List.take_append_of_le_length (Nat.le_of_eq hl.symm)]
end
end Go.Sm
namespace Go.Sm
open Go
def objOf : Value → Option Nat
  | .slice (some ⟨i, _, _⟩) _ _ => some i
  | _ => none
/-- All but a slice's object is as it was. -/
def ButV (v : Value) (s0 s1 : CSt) : Prop := s0.n ≤ s1.n ∧ ∀ j, j < s0.n → objOf v ≠ some j → s1.get j = s0.get j
theorem ButV.refl (v : Value) (s : CSt) : ButV v s s := ⟨Nat.le_refl _, fun _ _ _ => rfl⟩
theorem Grow.butV {v : Value} {s0 s1 : CSt} (h : Grow s0 s1) : ButV v s0 s1 := ⟨h.n, fun j hj _ => h.old j hj⟩
theorem ButV.trans {v : Value} {s0 s1 s2 : CSt} (h : ButV v s0 s1) (h' : ButV v s1 s2) : ButV v s0 s2 := ⟨Nat.le_trans h.1 h'.1, fun j hj hne => by rw [h'.2 j (Nat.lt_of_lt_of_le hj h.1) hne, h.2 j hj hne]⟩
theorem ButV.putV {v : Value} {i : Nat} {s0 s1 : CSt} (h : ButV v s0 s1) (hi : objOf v = some i) (o : CObj) : ButV v s0 (s1.put i o) := ⟨h.1, fun j hj hne => by rw [CSt.get_put, if_neg (by rintro rfl; exact hne hi)]; exact h.2 j hj hne⟩
theorem ButV.put {v : Value} {i : Nat} {s0 s1 : CSt} (h : ButV v s0 s1) (hi : s0.n ≤ i) (o : CObj) : ButV v s0 (s1.put i o) := ⟨h.1, fun j hj hne => by rw [CSt.get_put, if_neg (by omega)]; exact h.2 j hj hne⟩
theorem ButV.alloc {v : Value} {s0 s1 : CSt} (h : ButV v s0 s1) (o : CObj) : ButV v s0 (s1.alloc o) := ⟨by have := h.1; simp; omega, fun j hj hne => by have := h.1; rw [CSt.get_alloc, if_neg (by omega)]; exact h.2 j hj hne⟩
/-! ### What is filtered in place -/
section
variable {α : Type} {enc : α → List Value} {sz : Nat}
theorem take_filter_step {p : α → Bool} {l d : List α} {i j : Nat} (hj : j < l.length) (hd : d.length = l.length) (h1 : d.take i = (l.take j).filter fun x => !p x) (h2 : i = ((l.take j).filter fun x => !p x).length) (h3 : d.drop j = l.drop j) (h4 : i ≤ j) (hp : p l[j] = false) :
    (d.set i l[j]).length = l.length ∧ (d.set i l[j]).take (i + 1) = (l.take (j + 1)).filter (fun x => !p x) ∧ i + 1 = ((l.take (j + 1)).filter fun x => !p x).length ∧ (d.set i l[j]).drop (j + 1) = l.drop (j + 1) := by
  have e : (l.take (j + 1)).filter (fun x => !p x) = (l.take j).filter (fun x => !p x) ++ [l[j]] := by
    rw [List.take_succ_eq_append_getElem hj, List.filter_append]
    simp [hp]
  refine ⟨by simpa using hd, ?_, by rw [e, List.length_append, ← h2]; rfl, ?_⟩
  · have h5 : i < d.length := by omega
    have hs : (d.set i l[j])[i]'(by simpa using h5) = l[j] := by simp
    rw [List.take_succ_eq_append_getElem (by simpa using h5), hs, e, ← h1]
    congr 1
    rw [List.take_set_of_le (Nat.le_refl _)]
  · rw [List.drop_set_of_lt (by omega)]
    have := congrArg (List.drop 1) h3
    simpa [List.drop_drop] using this
theorem take_filter_skip {p : α → Bool} {l d : List α} {i j : Nat} (hj : j < l.length) (h1 : d.take i = (l.take j).filter fun x => !p x) (h2 : i = ((l.take j).filter fun x => !p x).length) (h3 : d.drop j = l.drop j) (hp : p l[j] = true) :
    d.take i = (l.take (j + 1)).filter (fun x => !p x) ∧ i = ((l.take (j + 1)).filter fun x => !p x).length ∧ d.drop (j + 1) = l.drop (j + 1) := by
  have e : (l.take (j + 1)).filter (fun x => !p x) = (l.take j).filter (fun x => !p x) := by
    rw [List.take_succ_eq_append_getElem hj, List.filter_append]
    simp [hp]
  refine ⟨by rw [e]; exact h1, by rw [e]; exact h2, ?_⟩
  have := congrArg (List.drop 1) h3
  simpa [List.drop_drop] using this
theorem drop_get {l d : List α} {j : Nat} (hj : j < l.length) (hd : d.length = l.length) (h3 : d.drop j = l.drop j) : d[j]'(by omega) = l[j] := by
  have := congrArg (·[0]?) h3
  simpa [List.getElem?_drop, List.getElem?_eq_getElem hj, List.getElem?_eq_getElem (show j < d.length by omega)] using this
theorem first_take {p : α → Bool} {l : List α} {k : Nat} (hk : k < l.length) (h : ∀ i (hi : i < l.length), i < k → p l[i] = false) (hp : p l[k] = true) : (l.take (k + 1)).filter (fun x => !p x) = l.take k := by
  rw [List.take_succ_eq_append_getElem hk, List.filter_append]
  have : (l.take k).filter (fun x => !p x) = l.take k := by
    rw [List.filter_eq_self]
    intro x hx
    obtain ⟨i, hi, rfl⟩ := List.mem_iff_getElem.1 hx
    rw [List.length_take] at hi
    rw [List.getElem_take, h i (by omega) (by omega)]
    rfl
  rw [this]
  simp [hp]
/-- An element is written; more stands behind. -/
theorem enc_setZ (hsz : ∀ x, (enc x).length = sz) (l : List α) (i : Nat) (x : α) (h : i < l.length) (zs : List Value) : (l.flatMap enc ++ zs).take (i * sz) ++ enc x ++ (l.flatMap enc ++ zs).drop (i * sz + sz) = (l.set i x).flatMap enc ++ zs := by
  have hl := enc_length enc hsz l
  have h1 : i * sz + sz ≤ l.length * sz := by rw [← Nat.succ_mul]; exact Nat.mul_le_mul_right _ h
  rw [List.take_append_of_le_length (by omega), List.drop_append_of_le_length (by omega), ← List.append_assoc, enc_set enc hsz l i x h]
theorem rowZ (hsz : ∀ x, (enc x).length = sz) (l : List α) (zs : List Value) : ((l.flatMap enc ++ zs).drop 0).take (l.length * sz) = l.flatMap enc := by
  rw [List.drop_zero, ← enc_length enc hsz l, List.take_left]
/-- What is left, when the rest is made zero. -/
theorem clearZ (hsz : ∀ x, (enc x).length = sz) (d : List α) (i : Nat) (hi : i ≤ d.length) (zs os : List Value) (ho : os.length = (d.length - i) * sz) : (d.flatMap enc ++ zs).take (i * sz) ++ os ++ (d.flatMap enc ++ zs).drop (i * sz + os.length) = (d.take i).flatMap enc ++ (os ++ zs) := by
  have hl := enc_length enc hsz d
  have h1 : i * sz ≤ d.length * sz := Nat.mul_le_mul_right _ hi
  have h2 : i * sz + os.length = d.length * sz := by rw [ho, ← Nat.add_mul]; congr 1; omega
  rw [h2, List.take_append_of_le_length (by omega), enc_take enc hsz, ← hl, List.drop_left, List.append_assoc]
end
end Go.Sm
namespace Go.Sm
open Go
theorem OwnZ.frV {α : Type} {b : Nat} {s s2 : CSt} {e : TypeId} {enc : α → List Value} {v : Value} {l : List α} (h : OwnZ b s e enc v l) (hb : ButV v s s2) : Fr (fun t => t = e) b s s2 := by
  refine ⟨hb.1, fun j hj hc => hb.2 j hj fun ho => ?_⟩
  rcases h with ⟨rfl, _⟩ | ⟨i, cap, zs, rfl, hbi, hi, hg, _⟩
  · cases ho
  · cases ho
    rcases hc with hc | hc
    · omega
    · exact hc _ _ _ hg rfl
end Go.Sm
namespace Go.Sm
open Go
theorem len_mp {κ : Type} {key : κ → Value} {P : Program} {σ : CSt} {t kt et : TypeId} {m : Nat} {M : MlG κ} (ht : P.underlying t = some (.map kt et)) (h : MpG key σ m M) : lenF P σ (some t) (.map (some m)) = .val (.int .i64 (List.length M)) σ := by
  obtain ⟨es, clock, hg, he⟩ := h
  have hl := EntsG.length he.ents
  unfold lenF lenOp
  simp [ht, CSt.maps, hg, ← hl]
end Go.Sm
/- slices.IndexFunc, slices.DeleteFunc of 33. -/
set_option linter.unusedVariables false
set_option linter.unusedSimpArgs false
namespace Go.Sm
open Go Go.Proofs
set_option maxRecDepth 100000
set_option maxHeartbeats 4000000
theorem indexFn_33 (g : FuncId) (caps : Array Value) (hext : ∀ args s, extOf E1 (.func (.func g) #[] caps) args s = none) (p : Lk → Bool) (Ok : CSt → Prop) (hog : ∀ s s', Ok s → Grow s s' → Ok s') (l : List Lk) (v : Value) (σ : CSt) (hsl : Sl σ 33 5 encK v l) (hok : Ok σ)
    (hpred : ∀ x ∈ l, ∀ s Q, Ok s → (∀ s', Grow s s' → Q (.ret (.bool (p x)) false) s') → W E1 (.fn g (#[.agg (encK x).toArray] ++ caps) none) s Q) (hbig : l.length < 2 ^ 40) (Q : Out → CSt → Prop)
    (h : ∀ (r : Int) (σ' : CSt), ((r = -1 ∧ ∀ x ∈ l, p x = false) ∨ ∃ k : Nat, r = k ∧ ∃ hk : k < l.length, p l[k] = true ∧ ∀ i (hi : i < l.length), i < k → p l[i] = false) → Grow σ σ' → Q (.ret (.int .i64 r) false) σ') : W E1 (.fn 76 #[v, .func (.func g) #[] caps] none) σ Q := by
  rw [W_fn (fn := Tryz.f76) Tryz.func76 rfl rfl rfl]
  obtain ⟨pp, c, rfl⟩ := hsl.form
  simp [wops_cons]
  refine W_loop_inv (fun n a σ' => ∃ tm j, a = ⟨tm, 19, [], false⟩ ∧ tm.get 0 = some (.slice pp l.length c) ∧ tm.get 1 = some (.func (.func g) #[] caps) ∧ tm.get 7 = some (.int .i64 l.length) ∧ tm.get 8 = some (.int .i64 (j : Nat)) ∧ j ≤ l.length ∧ n = l.length - j ∧ (∀ i (h : i < l.length), i < j → p l[i] = false) ∧ Grow σ σ') ?_ l.length _ _ ?_
  · rintro n a σ1 ⟨tm, j, rfl, e0, e1, e7, e8, hj, hn, hno, hgr⟩
    by_cases hjl : j < l.length
    · obtain ⟨i, off, row, ro, rfl, hg, hin, hrow, hle⟩ := (hsl.grow hgr).at hjl
      have hld := row_get (enc := encK) lenK hrow j hjl
      have hl1 := row_le hle j hjl
      have hw2 := i64n1 j (by omega)
      simp [wops_cons, e0, e1, e7, e8, hjl, hg, hld, hl1, hext]
      have hpr := fun Q => hpred l[j] (List.getElem_mem hjl) σ1 Q (hog _ _ hok hgr)
      try simp at hpr
      refine hpr _ fun σ2 g2 => ?_
      cases hat : p l[j] with
      | true =>
        have := h j σ2 (.inr ⟨j, rfl, hjl, hat, hno⟩) (hgr.trans g2)
        simpa [wops_cons, hat] using this
      | false =>
        simp [wops_cons, hat, e0, e1, e7, e8, hw2]
        refine ⟨_, ?_, j + 1, rfl, by omega, rfl, fun i h hi => ?_, hgr.trans g2⟩
        · omega
        · by_cases e : i = j
          · subst e; exact hat
          · exact hno i h (by omega)
    · have hjl' : j = l.length := by omega
      have := h (-1) σ1 (.inl ⟨rfl, fun x hx => by
        obtain ⟨i, hi, rfl⟩ := List.mem_iff_getElem.1 hx
        exact hno i hi (by omega)⟩) hgr
      simpa [wops_cons, e0, e1, e7, e8, hjl] using this
  · refine ⟨_, 0, rfl, ?_⟩
    simp
    exact Grow.refl σ
theorem deleteFn_33 (g : FuncId) (caps : Array Value) (hext : ∀ args s, extOf E1 (.func (.func g) #[] caps) args s = none) (p : Lk → Bool) (Ok : CSt → Prop) (b : Nat) (l : List Lk) (v : Value) (σ : CSt) (hog : ∀ s s', Ok s → ButV v s s' → Ok s') (hown : OwnZ b σ 33 encK v l) (hok : Ok σ)
    (hpred : ∀ x ∈ l, ∀ s Q, Ok s → (∀ s', Grow s s' → Q (.ret (.bool (p x)) false) s') → W E1 (.fn g (#[.agg (encK x).toArray] ++ caps) none) s Q) (hbig : l.length < 2 ^ 38) (Q : Out → CSt → Prop)
    (h : ∀ (v' : Value) (σ' : CSt), OwnZ b σ' 33 encK v' (l.filter fun x => !p x) → (objOf v' = objOf v) → ButV v σ σ' → Q (.ret v' false) σ') : W E1 (.fn 55 #[v, .func (.func g) #[] caps] none) σ Q := by
  rw [W_fn (fn := Tryz.f55) Tryz.func55 rfl rfl rfl]
  obtain ⟨pp, c, rfl⟩ := (hown.sl (sz := 5) lenK).form
  simp [wops_cons]
  refine indexFn_33 g caps hext p Ok (fun s s' h1 h2 => hog s s' h1 h2.butV) l _ σ (hown.sl lenK) hok hpred (by omega) _ fun r σ1 hr g1 => ?_
  rcases hr with ⟨rfl, hall⟩ | ⟨k, rfl, hk, hpk, hno⟩
  · have hf : (l.filter fun x => !p x) = l := List.filter_eq_self.2 fun x hx => by simp [hall x hx]
    have := h _ σ1 (by rw [hf]; exact hown.grow g1) rfl g1.butV
    simpa [wops_cons] using this
  · have hk1 : ¬ ((k : Nat) : Int) = -1 := by omega
    have hwk := i64n1 k (by omega)
    rcases hown with ⟨h0, h1⟩ | ⟨i0, cap, zs, h0, hbi, hin, hg0, hzs, hcap⟩
    · rw [h1] at hk; simp at hk
    injection h0 with h0 _ h00
    subst h0
    subst h00
    have hcap : c = openCap := by
      rcases hcap with hc | ⟨hc, _⟩
      · exact hc
      · rw [hc] at hk; simp at hk
    subst hcap
    have hobj : objOf (.slice (some ⟨i0, 0, none⟩) l.length openCap) = some i0 := rfl
    simp [wops_cons, hk1, hwk]
    refine W_loop_J (fun n a s => ∃ (tm : Tr Value) (i j : Nat) (d : List Lk), a = ⟨tm, 42, [], false⟩ ∧ tm.get 0 = some (.slice (some ⟨i0, 0, none⟩) l.length openCap) ∧ tm.get 1 = some (.func (.func g) #[] caps) ∧ tm.get 5 = some (.int .i64 (i : Nat)) ∧ tm.get 6 = some (.int .i64 (j : Nat)) ∧ j ≤ l.length ∧ n = l.length - j ∧ d.length = l.length ∧ d.take i = ((l.take j).filter fun x => !p x) ∧ i = ((l.take j).filter fun x => !p x).length ∧ d.drop j = l.drop j ∧ i < j ∧ s.get i0 = some (.cells (d.flatMap encK ++ zs) 33 false) ∧ ButV (.slice (some ⟨i0, 0, none⟩) l.length openCap) σ s)
      (fun o s => ∃ (tm : Tr Value) (i : Nat) (d : List Lk), o = .code (.exit 0) ⟨tm, 42, [], false⟩ ∧ tm.get 0 = some (.slice (some ⟨i0, 0, none⟩) l.length openCap) ∧ tm.get 5 = some (.int .i64 (i : Nat)) ∧ d.length = l.length ∧ d.take i = (l.filter fun x => !p x) ∧ i = (l.filter fun x => !p x).length ∧ i < l.length ∧ s.get i0 = some (.cells (d.flatMap encK ++ zs) 33 false) ∧ ButV (.slice (some ⟨i0, 0, none⟩) l.length openCap) σ s) ?_ (l.length - (k + 1)) _ _ ?_ ?_
    · rintro n a s ⟨tm, i, j, d, rfl, e0, e1, e5, e6, hj, hn, hd, ht, hi, hdr, hij, hgs, hbs⟩
      by_cases hjl : j < l.length
      · have hjl' : (j : Int) < l.length := by omega
        have hjd : j < d.length := by omega
        have hdj := drop_get hjl hd hdr
        have hrow := rowZ lenK d zs
        have hrl : (d.flatMap encK ++ zs).length = d.length * 5 + zs.length := by rw [List.length_append, enc_length encK lenK]
        have hld := row_get (enc := encK) lenK hrow j hjd
        rw [Nat.zero_add, hdj] at hld
        have hset := fun x => enc_setZ lenK d i x (by omega) zs
        have hw6 := i64n1 j (by omega)
        have hw5 := i64n1 i (by omega)
        have hil : i < l.length := by omega
        have hsn := hbs.1
        generalize hrw : d.flatMap encK ++ zs = row at hgs hrow hrl hld hset
        have hle1 : j * 5 + 5 ≤ row.length := by omega
        have hle2 : i * 5 + 5 ≤ row.length := by omega
        have hne : ¬ i0 = s.n := by omega
        have hgw : Grow s ((s.alloc (.cells [.int .i64 0, .string ⟨#[]⟩, .string ⟨#[]⟩, .int .u64 0, .int .u64 0] 33 false)).put s.n (.cells (encK l[j]) 33 false)) := ((Grow.refl s).alloc _).put (Nat.le_refl _) _
        have hcw : ((s.alloc (.cells [.int .i64 0, .string ⟨#[]⟩, .string ⟨#[]⟩, .int .u64 0, .int .u64 0] 33 false)).put s.n (.cells (encK l[j]) 33 false)).get s.n = some (.cells (encK l[j]) 33 false) := by simp
        have htk : List.take 5 (encK l[j]) = encK l[j] := List.take_of_length_le (by rw [lenK]; exact Nat.le_refl _)
        have hlen2 : (encK l[j]).length = 5 := lenK _
        have hcok2 : cokL (encK l[j]) = true := cokK _
        have hnw : ((s.alloc (.cells [.int .i64 0, .string ⟨#[]⟩, .string ⟨#[]⟩, .int .u64 0, .int .u64 0] 33 false)).put s.n (.cells (encK l[j]) 33 false)).n = s.n + 1 := by simp
        simp [wops_cons, e0, e1, e5, e6, hjl, hjl', hgs, hld, hle1, hext, htk, hlen2, hcok2]
        generalize (s.alloc (.cells [.int .i64 0, .string ⟨#[]⟩, .string ⟨#[]⟩, .int .u64 0, .int .u64 0] 33 false)).put s.n (.cells (encK l[j]) 33 false) = s1 at hgw hcw hnw ⊢
        have hpr := fun Q => hpred l[j] (List.getElem_mem hjl) s1 Q (hog _ _ hok (hbs.trans hgw.butV))
        try simp at hpr
        refine hpr _ fun s2 g2 => ?_
        have g02 := hgw.trans g2
        have hgs2 := g02.get hgs (by omega)
        have hcw2 := g2.get hcw (by omega)
        have hb2 := hbs.trans g02.butV
        cases hp : p l[j] with
        | true =>
          obtain ⟨k1, k2, k3⟩ := take_filter_skip hjl ht hi hdr hp
          simp [wops_cons, e0, e1, e5, e6, hw6]
          exact ⟨n - 1, by omega, i, rfl, j + 1, rfl, by omega, by omega, d, hd, k1, k2, k3, by omega, by rw [hrw]; exact hgs2, hb2⟩
        | false =>
          obtain ⟨k0, k1, k2, k3⟩ := take_filter_step hjl hd ht hi hdr (by omega) hp
          have hset2 := hset l[j]
          have hil' : (i : Int) < l.length := by omega
          simp [wops_cons, e0, e1, e5, e6, hw5, hw6, hil, hil', hgs2, hcw2, htk, hlen2, hcok2, hle2]
          exact ⟨n - 1, by omega, i + 1, rfl, j + 1, rfl, by omega, by omega, d.set i l[j], k0, k1, k2, k3, by omega, by rw [← hset2, List.append_assoc], hb2.putV hobj _⟩
      · have hjl' : ¬ (j : Int) < l.length := by omega
        have hje : j = l.length := by omega
        rw [hje, List.take_length] at ht hi
        simp [wops_cons, e0, e1, e5, e6, hjl, hjl']
        exact ⟨i, rfl, d, hd, ht, hi, by omega, hgs, hbs⟩
    · have hft := first_take hk hno hpk
      refine ⟨_, k, k + 1, l, rfl, ?_⟩
      simp
      refine ⟨by omega, by rw [hft], by rw [hft]; simp; omega, ?_, ?_⟩
      · exact g1.get hg0 hin
      · exact g1.butV
    · rintro o s ⟨tm, i, d, rfl, e0, e5, hd, ht, hi, hil, hgs, hbs⟩
      have hzl : ((List.replicate (l.length - i) ([.int .i64 0, .string ⟨#[]⟩, .string ⟨#[]⟩, .int .u64 0, .int .u64 0] : List Value)).flatten).length = (l.length - i) * 5 := by
        rw [List.length_flatten]; simp
      have hzc : cokL ((List.replicate (l.length - i) ([.int .i64 0, .string ⟨#[]⟩, .string ⟨#[]⟩, .int .u64 0, .int .u64 0] : List Value)).flatten) = true := rep_cok _ _ rfl
      have hrl : (d.flatMap encK ++ zs).length = d.length * 5 + zs.length := by rw [List.length_append, enc_length encK lenK]
      have hcl := clearZ lenK d i (by omega) zs ((List.replicate (l.length - i) ([.int .i64 0, .string ⟨#[]⟩, .string ⟨#[]⟩, .int .u64 0, .int .u64 0] : List Value)).flatten) (by rw [hzl, hd])
      have hst : st (d.flatMap encK ++ zs) (i * 5) ((List.replicate (l.length - i) ([.int .i64 0, .string ⟨#[]⟩, .string ⟨#[]⟩, .int .u64 0, .int .u64 0] : List Value)).flatten) = some ((d.take i).flatMap encK ++ ((List.replicate (l.length - i) ([.int .i64 0, .string ⟨#[]⟩, .string ⟨#[]⟩, .int .u64 0, .int .u64 0] : List Value)).flatten ++ zs)) := by
        rw [← hcl]
        unfold st
        rw [if_pos (by rw [hzl, hrl, hd]; omega)]
      generalize hrw : d.flatMap encK ++ zs = row at hgs hrl hcl hst
      have hil' : ¬ l.length - i = 0 := by omega
      have hi2 : i ≤ l.length := by omega
      have hle3 : l.length * 5 ≤ row.length := by omega
      have hle4 : i * 5 ≤ row.length := by omega
      simp [wops_cons, e0, e5, sliceOp_open, sliceO, clearOp_K, clearK, hgs, hi2, hil', hst, hle3, hle4, -st_eq]
      rw [ht, hi]
      refine h _ _ (.inr ⟨i0, openCap, _, rfl, hbi, Nat.lt_of_lt_of_le hin hbs.1, by rw [CSt.get_put, if_pos rfl], ?_, .inl rfl⟩) rfl (hbs.putV hobj _)
      rw [cokL_append, hzs, ← hi, hzc]; rfl
end Go.Sm
/- slices.Clone of spans, locks, small locks. -/
set_option linter.unusedVariables false
set_option linter.unusedSimpArgs false
namespace Go.Sm
open Go Go.Proofs
set_option maxRecDepth 100000
set_option maxHeartbeats 4000000
attribute [local simp] appendOp_K
theorem clone_31 (l : List Sn) (v : Value) (σ : CSt) (hsl : Sl σ 31 2 encS v l) (hbig : l.length < 2 ^ 40) (Q : Out → CSt → Prop)
    (h : ∀ (v' : Value) (σ' : CSt), Own σ.n σ' 31 encS v' l → Grow σ σ' → Q (.ret v' false) σ') : W E1 (.fn 50 #[v] none) σ Q := by
  rw [W_fn (fn := Tryz.f50) Tryz.func50 rfl rfl rfl]
  have h0 : (0 : Nat) ≠ openCap := by simp [openCap]
  rcases hsl with ⟨rfl, rfl⟩ | ⟨i, off, cap, row, ro, rfl, hg, hin, hrow, hlen, hcap⟩
  · have := h _ σ Own.nil (Grow.refl σ)
    simpa [wops_cons] using this
  by_cases hl : l.length = 0
  · have hnil : l = [] := List.eq_nil_of_length_eq_zero hl
    subst hnil
    have := h (.slice (some ⟨σ.n, 0, none⟩) 0 0) (σ.alloc (.cells [] 31 false)) (.inr ⟨σ.n, 0, rfl, Nat.le_refl _, by simp, by simp, .inr ⟨rfl, rfl⟩⟩) ((Grow.refl σ).alloc _)
    have hin' : ¬ i = σ.n := by omega
    have hoff : off ≤ row.length := by simp at hlen; omega
    simpa [wops_cons, appendOp_K, appK, appendF, hg, h0, hin', hoff] using this
  · have hn0 : ¬ l = [] := by rintro rfl; simp at hl
    have hb : l.length * 16 ≤ 140737488355328 := by omega
    have hrl : ((l.flatMap encS).length : Nat) = l.length * 2 := enc_length encS (fun _ => rfl) l
    have hck : cokL (l.flatMap encS) = true := cokL_enc (fun _ => rfl) l
    have := h (.slice (some ⟨σ.n + 1, 0, none⟩) l.length openCap) ((σ.alloc (.cells [] 31 false)).alloc (.cells (l.flatMap encS) 31 false))
      (.inr ⟨σ.n + 1, openCap, rfl, by omega, by simp, by simp, .inl rfl⟩) (((Grow.refl σ).alloc _).alloc _)
    have hin' : ¬ i = σ.n := by omega
    simpa [wops_cons, appendOp_K, appK, appendF, hg, h0, hin', hlen, hrow, hrl, hl, hb, hck, hn0, -List.length_flatMap] using this

theorem clone_33 (l : List Lk) (v : Value) (σ : CSt) (hsl : Sl σ 33 5 encK v l) (hbig : l.length < 2 ^ 40) (Q : Out → CSt → Prop)
    (h : ∀ (v' : Value) (σ' : CSt), Own σ.n σ' 33 encK v' l → Grow σ σ' → Q (.ret v' false) σ') : W E1 (.fn 47 #[v] none) σ Q := by
  rw [W_fn (fn := Tryz.f47) Tryz.func47 rfl rfl rfl]
  have h0 : (0 : Nat) ≠ openCap := by simp [openCap]
  rcases hsl with ⟨rfl, rfl⟩ | ⟨i, off, cap, row, ro, rfl, hg, hin, hrow, hlen, hcap⟩
  · have := h _ σ Own.nil (Grow.refl σ)
    simpa [wops_cons] using this
  by_cases hl : l.length = 0
  · have hnil : l = [] := List.eq_nil_of_length_eq_zero hl
    subst hnil
    have := h (.slice (some ⟨σ.n, 0, none⟩) 0 0) (σ.alloc (.cells [] 33 false)) (.inr ⟨σ.n, 0, rfl, Nat.le_refl _, by simp, by simp, .inr ⟨rfl, rfl⟩⟩) ((Grow.refl σ).alloc _)
    have hin' : ¬ i = σ.n := by omega
    have hoff : off ≤ row.length := by simp at hlen; omega
    simpa [wops_cons, appendOp_K, appK, appendF, hg, h0, hin', hoff] using this
  · have hn0 : ¬ l = [] := by rintro rfl; simp at hl
    have hb : l.length * 56 ≤ 140737488355328 := by omega
    have hrl : ((l.flatMap encK).length : Nat) = l.length * 5 := enc_length encK (fun _ => rfl) l
    have hck : cokL (l.flatMap encK) = true := cokL_enc (fun _ => rfl) l
    have := h (.slice (some ⟨σ.n + 1, 0, none⟩) l.length openCap) ((σ.alloc (.cells [] 33 false)).alloc (.cells (l.flatMap encK) 33 false))
      (.inr ⟨σ.n + 1, openCap, rfl, by omega, by simp, by simp, .inl rfl⟩) (((Grow.refl σ).alloc _).alloc _)
    have hin' : ¬ i = σ.n := by omega
    simpa [wops_cons, appendOp_K, appK, appendF, hg, h0, hin', hlen, hrow, hrl, hl, hb, hck, hn0, -List.length_flatMap] using this

theorem clone_46 (l : List LL) (v : Value) (σ : CSt) (hsl : Sl σ 46 6 encL v l) (hbig : l.length < 2 ^ 40) (Q : Out → CSt → Prop)
    (h : ∀ (v' : Value) (σ' : CSt), Own σ.n σ' 46 encL v' l → Grow σ σ' → Q (.ret v' false) σ') : W E1 (.fn 22 #[v] none) σ Q := by
  rw [W_fn (fn := Tryz.f22) Tryz.func22 rfl rfl rfl]
  have h0 : (0 : Nat) ≠ openCap := by simp [openCap]
  rcases hsl with ⟨rfl, rfl⟩ | ⟨i, off, cap, row, ro, rfl, hg, hin, hrow, hlen, hcap⟩
  · have := h _ σ Own.nil (Grow.refl σ)
    simpa [wops_cons] using this
  by_cases hl : l.length = 0
  · have hnil : l = [] := List.eq_nil_of_length_eq_zero hl
    subst hnil
    have := h (.slice (some ⟨σ.n, 0, none⟩) 0 0) (σ.alloc (.cells [] 46 false)) (.inr ⟨σ.n, 0, rfl, Nat.le_refl _, by simp, by simp, .inr ⟨rfl, rfl⟩⟩) ((Grow.refl σ).alloc _)
    have hin' : ¬ i = σ.n := by omega
    have hoff : off ≤ row.length := by simp at hlen; omega
    simpa [wops_cons, appendOp_K, appK, appendF, hg, h0, hin', hoff] using this
  · have hn0 : ¬ l = [] := by rintro rfl; simp at hl
    have hb : l.length * 32 ≤ 140737488355328 := by omega
    have hrl : ((l.flatMap encL).length : Nat) = l.length * 6 := enc_length encL (fun _ => rfl) l
    have hck : cokL (l.flatMap encL) = true := cokL_enc (fun _ => rfl) l
    have := h (.slice (some ⟨σ.n + 1, 0, none⟩) l.length openCap) ((σ.alloc (.cells [] 46 false)).alloc (.cells (l.flatMap encL) 46 false))
      (.inr ⟨σ.n + 1, openCap, rfl, by omega, by simp, by simp, .inl rfl⟩) (((Grow.refl σ).alloc _).alloc _)
    have hin' : ¬ i = σ.n := by omega
    simpa [wops_cons, appendOp_K, appK, appendF, hg, h0, hin', hlen, hrow, hrl, hl, hb, hck, hn0, -List.length_flatMap] using this

theorem clone_38 (l : List Sn) (v : Value) (σ : CSt) (hsl : Sl σ 31 2 encS v l) (hbig : l.length < 2 ^ 40) (Q : Out → CSt → Prop)
    (h : ∀ (v' : Value) (σ' : CSt), Own σ.n σ' 31 encS v' l → Grow σ σ' → Q (.ret v' false) σ') : W E1 (.fn 57 #[v] none) σ Q := by
  rw [W_fn (fn := Tryz.f57) Tryz.func57 rfl rfl rfl]
  have h0 : (0 : Nat) ≠ openCap := by simp [openCap]
  rcases hsl with ⟨rfl, rfl⟩ | ⟨i, off, cap, row, ro, rfl, hg, hin, hrow, hlen, hcap⟩
  · have := h _ σ Own.nil (Grow.refl σ)
    simpa [wops_cons] using this
  by_cases hl : l.length = 0
  · have hnil : l = [] := List.eq_nil_of_length_eq_zero hl
    subst hnil
    have := h (.slice (some ⟨σ.n, 0, none⟩) 0 0) (σ.alloc (.cells [] 31 false)) (.inr ⟨σ.n, 0, rfl, Nat.le_refl _, by simp, by simp, .inr ⟨rfl, rfl⟩⟩) ((Grow.refl σ).alloc _)
    have hin' : ¬ i = σ.n := by omega
    have hoff : off ≤ row.length := by simp at hlen; omega
    simpa [wops_cons, appendOp_K, appK, appendF, hg, h0, hin', hoff] using this
  · have hn0 : ¬ l = [] := by rintro rfl; simp at hl
    have hb : l.length * 16 ≤ 140737488355328 := by omega
    have hrl : ((l.flatMap encS).length : Nat) = l.length * 2 := enc_length encS (fun _ => rfl) l
    have hck : cokL (l.flatMap encS) = true := cokL_enc (fun _ => rfl) l
    have := h (.slice (some ⟨σ.n + 1, 0, none⟩) l.length openCap) ((σ.alloc (.cells [] 31 false)).alloc (.cells (l.flatMap encS) 31 false))
      (.inr ⟨σ.n + 1, openCap, rfl, by omega, by simp, by simp, .inl rfl⟩) (((Grow.refl σ).alloc _).alloc _)
    have hin' : ¬ i = σ.n := by omega
    simpa [wops_cons, appendOp_K, appK, appendF, hg, h0, hin', hlen, hrow, hrl, hl, hb, hck, hn0, -List.length_flatMap] using this

end Go.Sm
/- append to a slice of one's own: what else stays. -/
set_option linter.unusedVariables false
namespace Go.Sm
open Go
section
variable {α : Type} {P : Program} {σ : CSt} {e : TypeId} {sz b : Nat} {enc : α → List Value} {v x : Value} {l m : List α} {f : TF} {ts : Array TypeId}

theorem appendF_only (hsz : ∀ x, (enc x).length = sz) (hc : ∀ x, cokL (enc x) = true) (hfs : f.size = sz) (h0 : 0 < sz) (h1 : 0 < f.bytes) (h2 : f.zero.map List.length = some sz) (hown : Own b σ e enc v l) (hb : b ≤ σ.n)
    (hbig : (l.length + m.length) * f.bytes ≤ 2 ^ 47) (hl : l.length < 2 ^ 62) : ∃ v' σ', appendF σ e f v m.length (m.flatMap enc) = some (v', σ') ∧ Own b σ' e enc v' (l ++ m) ∧ GrowB b σ σ' ∧ (∀ j, j < σ.n → (∀ i off n c, v = .slice (some ⟨i, off, none⟩) n c → j ≠ i) → σ'.get j = σ.get j) ∧ (m ≠ [] → ∃ n c, v' = .slice (some ⟨σ.n, 0, none⟩) n c) := by
  have hml := enc_length enc hsz m
  have hll := enc_length enc hsz l
  have hcond : (m.flatMap enc).length = m.length * f.size ∧ cokL (m.flatMap enc) = true ∧ 0 < f.size ∧ 0 < f.bytes ∧ f.zero.map List.length = some f.size := by
    rw [hfs]; exact ⟨hml, cokL_enc hc m, h0, h1, h2⟩
  unfold appendF
  rw [if_pos hcond]
  rcases hown with ⟨rfl, rfl⟩ | ⟨i, cap, rfl, hbi, hin, hg, hcap⟩
  · by_cases hm : m.length = 0
    · have : m = [] := List.eq_nil_of_length_eq_zero hm
      subst this
      exact ⟨.slice none 0 0, σ, by simp, Own.nil, GrowB.refl b σ, fun _ _ _ => rfl, fun h => absurd rfl h⟩
    · refine ⟨.slice (some ⟨σ.n, 0, none⟩) m.length openCap, σ.alloc (.cells (m.flatMap enc) e false), ?_, .inr ⟨σ.n, openCap, rfl, hb, by simp, by simp, .inl rfl⟩, (GrowB.refl b σ).alloc hb _, fun j hj _ => by rw [CSt.get_alloc, if_neg (by omega)], fun _ => ⟨_, _, rfl⟩⟩
      simp only [hm, if_false]
      rw [if_pos (by simpa using hbig)]
  · by_cases hm : m.length = 0
    · have : m = [] := List.eq_nil_of_length_eq_zero hm
      subst this
      refine ⟨.slice (some ⟨i, 0, none⟩) l.length cap, σ, ?_, ?_, GrowB.refl b σ, fun _ _ _ => rfl, fun h => absurd rfl h⟩
      · simp only [List.length_nil, if_true]
        rw [if_pos]
        rcases hcap with rfl | ⟨rfl, rfl⟩
        · simp only [openCap]; omega
        · simp
      · rw [List.append_nil]
        exact .inr ⟨i, cap, rfl, hbi, hin, hg, hcap⟩
    · simp only [hm, if_false, hg]
      rcases hcap with rfl | ⟨rfl, rfl⟩
      · refine ⟨.slice (some ⟨σ.n, 0, none⟩) (l ++ m).length openCap, (σ.put i .dead).alloc (.cells ((l ++ m).flatMap enc) e false), ?_, .inr ⟨σ.n, openCap, rfl, hb, by simp, by simp, .inl rfl⟩, ((GrowB.refl b σ).put hbi _).alloc hb _, fun j hj hne => by rw [CSt.get_alloc, if_neg (by simp; omega), CSt.get_put, if_neg (hne _ _ _ _ rfl)], fun _ => ⟨_, _, rfl⟩⟩
        simp only [if_true, and_self]
        rw [if_neg, if_pos hbig]
        · have : ld (l.flatMap enc) 0 (l.length * f.size) = some (l.flatMap enc) := by
            rw [hfs, ← hll]
            unfold ld
            rw [if_pos (by omega), List.drop_zero, List.take_of_length_le (Nat.le_refl _)]
          rw [this]
          simp
        · rw [hll, hfs, Nat.add_mul]
          have : 0 < m.length * sz := Nat.mul_pos (by omega) h0
          omega
      · refine ⟨.slice (some ⟨σ.n, 0, none⟩) m.length openCap, σ.alloc (.cells (m.flatMap enc) e false), ?_, .inr ⟨σ.n, openCap, by simp, hb, by simp, by simp, .inl rfl⟩, (GrowB.refl b σ).alloc hb _, fun j hj _ => by rw [CSt.get_alloc, if_neg (by omega)], fun _ => ⟨_, _, rfl⟩⟩
        rw [if_neg (by simp [openCap]), if_neg (by rw [List.length_nil]; omega)]
        simp only [List.length_nil, Nat.zero_add, Nat.zero_mul] at hbig ⊢
        rw [if_pos hbig]
        simp [ld]
/-- append(s, x...), s one's own. -/
theorem append_only (hf : ts[0]?.bind (elemF P) = some (e, f)) (hu : (ts[1]?.bind (elemT P)).isSome = true) (hsz : ∀ x, (enc x).length = sz) (hc : ∀ x, cokL (enc x) = true) (hfs : f.size = sz) (h0 : 0 < sz) (h1 : 0 < f.bytes) (h2 : f.zero.map List.length = some sz)
    (hown : Own b σ e enc v l) (hb : b ≤ σ.n) (hx : Sl σ e sz enc x m) (hbig : (l.length + m.length) * f.bytes ≤ 2 ^ 47) (hl : l.length < 2 ^ 62) :
    ∃ v' σ', appendOp P σ ts v x = some (v', σ') ∧ Own b σ' e enc v' (l ++ m) ∧ GrowB b σ σ' ∧ (∀ j, j < σ.n → (∀ i off n c, v = .slice (some ⟨i, off, none⟩) n c → j ≠ i) → σ'.get j = σ.get j) ∧ (m ≠ [] → ∃ n c, v' = .slice (some ⟨σ.n, 0, none⟩) n c) := by
  obtain ⟨g1, g2⟩ := first_sl hsz hx
  obtain ⟨v', σ', g3, g4, g5⟩ := appendF_only hsz hc hfs h0 h1 h2 hown hb hbig hl
  refine ⟨v', σ', ?_, g4, g5⟩
  rw [appendOp_K (by rw [hf]; rfl) hu, hf]
  simp only [appK, g1, hfs, g2, Option.bind_some]
  exact g3
end
section
variable {P : Program} {σ : CSt} {ev : Operand → Value} {dst : Option Tmp} {ty : TypeId} {pos : String} {after : Array Edge} {g : Option (Nat × Bool)}
@[simp] theorem copE_lookup (t : TypeId) (m k : Operand) (ok : Bool) : cop P σ ev ⟨dst, .lookup t m k ok, ty, pos, after, g⟩ = OpR.ofV σ (lookupOp P σ t (ev m) (ev k) ok) := (rfl)
@[simp] theorem copE_mapUpdate (t : TypeId) (m k x : Operand) : cop P σ ev ⟨dst, .mapUpdate t m k x, ty, pos, after, g⟩ = OpR.ofS (updateOp P σ t (ev m) (ev k) (ev x)) := (rfl)
theorem copE_makeMap {t kt et : TypeId} (h : P.underlying t = some (.map kt et)) : cop P σ ev ⟨dst, .makeMap t none, ty, pos, after, g⟩ = .val (.map (some σ.n)) (σ.alloc (.map #[] 0)) := by
  simp only [cop, h]
end
end Go.Sm
/- append to a slice of one's own that may have room behind it. -/
set_option linter.unusedVariables false
namespace Go.Sm
open Go
section
variable {α : Type} {P : Program} {σ : CSt} {e : TypeId} {sz b : Nat} {enc : α → List Value} {v x : Value} {l m : List α} {f : TF} {ts : Array TypeId}
theorem append_Z (hf : ts[0]?.bind (elemF P) = some (e, f)) (hu : (ts[1]?.bind (elemT P)).isSome = true) (hsz : ∀ x, (enc x).length = sz) (hc : ∀ x, cokL (enc x) = true) (hfs : f.size = sz) (h0 : 0 < sz) (h1 : 0 < f.bytes) (h2 : f.zero.map List.length = some sz)
    (hown : OwnZ b σ e enc v l) (hb : b ≤ σ.n) (hx : Sl σ e sz enc x m) (hbig : (l.length + m.length) * f.bytes ≤ 2 ^ 47) (hl : l.length < 2 ^ 62) :
    ∃ v' σ', appendOp P σ ts v x = some (v', σ') ∧ OwnZ b σ' e enc v' (l ++ m) ∧ ButV v σ σ' ∧ (objOf v' = objOf v ∨ objOf v' = some σ.n) := by
  rcases hown with ⟨rfl, rfl⟩ | ⟨i, cap, zs, rfl, hbi, hin, hg, hz, hcap⟩
  · by_cases hm : m = []
    · subst hm
      obtain ⟨v', σ', a1, a2, a3, a4, a5⟩ := append_only hf hu hsz hc hfs h0 h1 h2 (Own.nil (b := b) (σ := σ) (e := e) (enc := enc)) hb hx hbig hl
      obtain ⟨g1, g2⟩ := first_sl hsz hx
      rw [appendOp_K (by rw [hf]; rfl) hu, hf] at a1
      have hcond : ([] : List Value).length = 0 * f.size ∧ cokL ([] : List Value) = true ∧ 0 < f.size ∧ 0 < f.bytes ∧ f.zero.map List.length = some f.size := by
        rw [hfs]; exact ⟨by simp, rfl, h0, h1, h2⟩
      refine ⟨.slice none 0 0, σ, ?_, .inl ⟨rfl, rfl⟩, ButV.refl _ _, .inl rfl⟩
      rw [appendOp_K (by rw [hf]; rfl) hu, hf]
      have g2' : firstOf σ sz 0 x = some [] := by simpa using g2
      simp only [appK, g1, hfs, g2', Option.bind_some, List.flatMap_nil, List.length_nil]
      unfold appendF
      rw [if_pos hcond]
      simp
    · obtain ⟨v', σ', a1, a2, a3, a4, a5⟩ := append_only hf hu hsz hc hfs h0 h1 h2 (Own.nil (b := b) (σ := σ) (e := e) (enc := enc)) hb hx hbig hl
      obtain ⟨n, c, rfl⟩ := a5 hm
      exact ⟨_, σ', a1, a2.z, ⟨a3.1, fun j hj hne => a4 j hj (fun i off n c h => by cases h)⟩, .inr rfl⟩
  · rcases hcap with rfl | ⟨rfl, rfl, rfl⟩
    · by_cases hfit : m.length * sz ≤ zs.length
      · obtain ⟨σ', a1, a2, a3, a4⟩ := append_fit (P := P) (ts := ts) hf hu hsz hc hfs h0 h1 h2 hg hx hfit hl
        refine ⟨_, σ', a1, .inr ⟨i, openCap, _, rfl, hbi, by rw [a3]; exact hin, a2, cokL_drop hz _, .inl rfl⟩, ⟨by rw [a3]; exact Nat.le_refl _, fun j hj hne => a4 j (by rintro rfl; exact hne rfl)⟩, .inl rfl⟩
      · have hml := enc_length enc hsz m
        have hll := enc_length enc hsz l
        have hm0 : m.length ≠ 0 := by
          intro e
          rw [e] at hfit
          simp at hfit
        obtain ⟨g1, g2⟩ := first_sl hsz hx
        have hcond : (m.flatMap enc).length = m.length * f.size ∧ cokL (m.flatMap enc) = true ∧ 0 < f.size ∧ 0 < f.bytes ∧ f.zero.map List.length = some f.size := by
          rw [hfs]; exact ⟨hml, cokL_enc hc m, h0, h1, h2⟩
        refine ⟨.slice (some ⟨σ.n, 0, none⟩) (l ++ m).length openCap, (σ.put i .dead).alloc (.cells ((l ++ m).flatMap enc) e false), ?_, .inr ⟨σ.n, openCap, [], rfl, hb, by simp, by simp, rfl, .inl rfl⟩, ((ButV.refl _ _).putV rfl _).alloc _, .inr rfl⟩
        rw [appendOp_K (by rw [hf]; rfl) hu, hf]
        simp only [appK, g1, hfs, g2, Option.bind_some]
        unfold appendF
        rw [if_pos hcond]
        simp only [hm0, if_false, hg, if_true, and_self]
        rw [if_neg, if_pos hbig]
        · have : ld (l.flatMap enc ++ zs) 0 (l.length * f.size) = some (l.flatMap enc) := by
            rw [hfs, ← hll]
            unfold ld
            rw [if_pos (by rw [List.length_append]; omega), List.drop_zero, List.take_left]
          rw [this]
          simp
        · rw [List.length_append, hll, hfs, Nat.add_mul]
          omega
    · by_cases hm : m = []
      · subst hm
        obtain ⟨g1, g2⟩ := first_sl hsz hx
        have hcond : ([] : List Value).length = 0 * f.size ∧ cokL ([] : List Value) = true ∧ 0 < f.size ∧ 0 < f.bytes ∧ f.zero.map List.length = some f.size := by
          rw [hfs]; exact ⟨by simp, rfl, h0, h1, h2⟩
        refine ⟨.slice (some ⟨i, 0, none⟩) 0 0, σ, ?_, .inr ⟨i, 0, [], rfl, hbi, hin, hg, rfl, .inr ⟨rfl, rfl, rfl⟩⟩, ButV.refl _ _, .inl rfl⟩
        rw [appendOp_K (by rw [hf]; rfl) hu, hf]
        have g2' : firstOf σ sz 0 x = some [] := by simpa using g2
        simp only [appK, g1, hfs, g2', Option.bind_some, List.flatMap_nil, List.length_nil]
        unfold appendF
        rw [if_pos hcond]
        simp
      · have ho : Own b σ e enc (.slice (some ⟨i, 0, none⟩) 0 0) ([] : List α) := .inr ⟨i, 0, rfl, hbi, hin, by simpa using hg, .inr ⟨rfl, rfl⟩⟩
        obtain ⟨v', σ', a1, a2, a3, a4, a5⟩ := append_only hf hu hsz hc hfs h0 h1 h2 ho hb hx hbig hl
        obtain ⟨n, c, rfl⟩ := a5 hm
        exact ⟨_, σ', a1, a2.z, ⟨a3.1, fun j hj hne => a4 j hj (fun i' off n c h => by cases h; exact fun e => hne (by rw [e]; rfl))⟩, .inr rfl⟩
end
end Go.Sm
/- Tables of locks: added, all. -/
set_option linter.unusedVariables false
set_option linter.unusedSimpArgs false
namespace Go.Sm
open Go Go.Proofs
set_option maxRecDepth 100000
set_option maxHeartbeats 4000000
/-- All but a table, and its row, is as it was. -/
def Bt (i : Nat) (v : Value) (s s' : CSt) : Prop := s.n ≤ s'.n ∧ ∀ j, j < s.n → j ≠ i → objOf v ≠ some j → s'.get j = s.get j
theorem Grow.bt {i : Nat} {v : Value} {s s' : CSt} (h : Grow s s') : Bt i v s s' := ⟨h.n, fun j hj _ _ => h.old j hj⟩
theorem Bt.trans {i : Nat} {v : Value} {s0 s1 s2 : CSt} (h : Bt i v s0 s1) (h' : Bt i v s1 s2) : Bt i v s0 s2 := ⟨Nat.le_trans h.1 h'.1, fun j hj h1 h2 => by rw [h'.2 j (Nat.lt_of_lt_of_le hj h.1) h1 h2, h.2 j hj h1 h2]⟩
theorem ButV.bt {i : Nat} {v : Value} {s s' : CSt} (h : ButV v s s') : Bt i v s s' := ⟨h.1, fun j hj _ h2 => h.2 j hj h2⟩
theorem Bt.putI {i : Nat} {v : Value} {s0 s1 : CSt} (h : Bt i v s0 s1) (o : CObj) : Bt i v s0 (s1.put i o) := ⟨h.1, fun j hj h1 h2 => by rw [CSt.get_put, if_neg h1]; exact h.2 j hj h1 h2⟩
theorem Bt.grow {i : Nat} {v : Value} {s0 s1 s2 : CSt} (g : Grow s0 s1) (h : Bt i v s1 s2) (hi : s0.n ≤ i) (hv : ∀ j, objOf v = some j → s0.n ≤ j) : Grow s0 s2 := ⟨Nat.le_trans g.n h.1, fun j hj => by
  rw [h.2 j (Nat.lt_of_lt_of_le hj g.n) (by omega) (fun e => by have := hv j e; omega)]
  exact g.old j hj⟩
/-- A table of locks: its object, its row. -/
def Tb (b i : Nat) (v : Value) (σ : CSt) (L : List Lk) : Prop := σ.get i = some (.cells [v] 89 false) ∧ b ≤ i ∧ i < σ.n ∧ OwnZ b σ 33 encK v L
theorem OwnZ.ob {α : Type} {b : Nat} {σ : CSt} {e : TypeId} {enc : α → List Value} {v : Value} {l : List α} (h : OwnZ b σ e enc v l) {j : Nat} (hj : objOf v = some j) : b ≤ j ∧ j < σ.n ∧ ∃ row, σ.get j = some (.cells row e false) := by
  rcases h with ⟨rfl, _⟩ | ⟨i, cap, zs, rfl, hb, hi, hg, _⟩
  · cases hj
  · cases hj; exact ⟨hb, hi, _, hg⟩
theorem Tb.grow {b i : Nat} {v : Value} {σ σ' : CSt} {L : List Lk} (h : Tb b i v σ L) (g : Grow σ σ') : Tb b i v σ' L := ⟨g.get h.1 h.2.2.1, h.2.1, Nat.lt_of_lt_of_le h.2.2.1 g.n, h.2.2.2.grow g⟩
theorem Tb.ne {b i : Nat} {v : Value} {σ : CSt} {L : List Lk} (h : Tb b i v σ L) : objOf v ≠ some i := fun e => by
  obtain ⟨_, _, row, hr⟩ := h.2.2.2.ob e
  rw [h.1] at hr
  cases hr
theorem Tb.weaken {b b' i : Nat} {v : Value} {σ : CSt} {L : List Lk} (h : Tb b i v σ L) (hb : b' ≤ b) : Tb b' i v σ L := ⟨h.1, Nat.le_trans hb h.2.1, h.2.2.1, h.2.2.2.weaken hb⟩
theorem Tb.growG {b i : Nat} {v : Value} {σ0 s s' : CSt} {L : List Lk} (h : Tb b i v s L) (g : Grow σ0 s) (hb : σ0.n ≤ b) (k : Bt i v s s') : Grow σ0 s' :=
  Bt.grow g k (Nat.le_trans hb h.2.1) fun j hj => Nat.le_trans hb (h.2.2.2.ob hj).1
/-- What lies behind a table stays. -/
theorem Tb.far {b2 i i2 : Nat} {v v2 : Value} {s s' : CSt} {L : List Lk} (h : Tb b2 i2 v2 s L) (k : Bt i v s s') (hi : i < b2) (hv : ∀ j, objOf v = some j → j < b2) : Tb b2 i2 v2 s' L := by
  obtain ⟨h1, h2, h3, h4⟩ := h
  refine ⟨by rw [k.2 i2 h3 (by omega) (fun e => by have := hv _ e; omega)]; exact h1, h2, Nat.lt_of_lt_of_le h3 k.1, h4.keep k.1 fun j hj1 hj2 => k.2 j hj2 (by omega) (fun e => by have := hv _ e; omega)⟩
theorem Own.far {α : Type} {b2 i : Nat} {v v2 : Value} {s s' : CSt} {e : TypeId} {enc : α → List Value} {l : List α} (h : Own b2 s e enc v2 l) (k : Bt i v s s') (hi : i < b2) (hv : ∀ j, objOf v = some j → j < b2) : Own b2 s' e enc v2 l :=
  h.keep k.1 fun j hj1 hj2 => k.2 j hj2 (by omega) (fun e => by have := hv _ e; omega)
theorem Own.apart {b b2 i : Nat} {v v2 : Value} {s s' : CSt} {L l : List Lk} (h : Own b2 s 33 encK v2 l) (t : Tb b i v s L) (k : Bt i v s s') (ha : ∀ j, objOf v2 = some j → objOf v ≠ some j) : Own b2 s' 33 encK v2 l := by
  rcases h with ⟨rfl, rfl⟩ | ⟨j, cap, rfl, hb, hj, hg, hc⟩
  · exact .inl ⟨rfl, rfl⟩
  · refine .inr ⟨j, cap, rfl, hb, Nat.lt_of_lt_of_le hj k.1, ?_, hc⟩
    rw [k.2 j hj (fun e => ?_) (ha j rfl)]
    · exact hg
    · subst e
      have := t.1
      rw [hg] at this
      injection this with e1
      injection e1 with e2 e3 e4
      cases e3
theorem OwnZ.putX {α : Type} {b i : Nat} {σ : CSt} {e e' : TypeId} {enc : α → List Value} {v : Value} {l : List α} {row : List Value} {ro : Bool} (h : OwnZ b σ e enc v l) (hi : σ.get i = some (.cells row e' ro)) (he : e' ≠ e) (o : CObj) : OwnZ b (σ.put i o) e enc v l := by
  rcases h with h | ⟨j, cap, zs, h1, hb, hj, hg, h3⟩
  · exact .inl h
  · refine .inr ⟨j, cap, zs, h1, hb, hj, ?_, h3⟩
    rw [CSt.get_put, if_neg]
    · exact hg
    · rintro rfl
      rw [hg] at hi
      injection hi with e1
      injection e1 with e2 e3 e4
      exact he e3.symm
def addK (L : List Lk) (k : Lk) : List Lk := if goodK k then L ++ [k] else L
theorem addK_le (L : List Lk) (k : Lk) : (addK L k).length ≤ L.length + 1 := by
  unfold addK
  split <;> simp
theorem add_spec (b i : Nat) (v : Value) (L : List Lk) (k : Lk) (σ : CSt) (hb : b ≤ σ.n) (ht : Tb b i v σ L) (hL : L.length < 2 ^ 36) (Q : Out → CSt → Prop)
    (h : ∀ (v' : Value) (σ' : CSt), Tb b i v' σ' (addK L k) → (objOf v' = objOf v ∨ ∃ j, objOf v' = some j ∧ σ.n ≤ j) → Bt i v σ σ' → Q (.ret (.tuple #[]) false) σ') : W E1 (.fn 29 #[.pointer (some ⟨i, 0, none⟩), .agg (encK k).toArray] none) σ Q := by
  have ht0 := ht
  obtain ⟨hg, hbi, hin, hown⟩ := ht
  rw [W_fn (fn := Tryz.f29) Tryz.func29 rfl rfl rfl]
  have hk : (klt k.frm k.to || k.frm.toList == k.to.toList) = !klt k.to k.frm := kle_eq _ _
  have g0 : Grow σ (σ.alloc (.cells (encK k) 33 false)) := (Grow.refl σ).alloc _
  cases hk2 : klt k.to k.frm with
  | true =>
    rw [hk2] at hk
    have e : addK L k = L := by simp [addK, goodK, hk2]
    have := h v _ (by rw [e]; exact ht0.grow g0) (.inl rfl) g0.bt
    simpa [wops_cons, wops_if', dstOf, encK, hk] using this
  | false =>
    rw [hk2] at hk
    have hc0 : (σ.alloc (.cells (encK k) 33 false)).get σ.n = some (.cells (encK k) 33 false) := ga_top rfl
    have hn0 : (σ.alloc (.cells (encK k) 33 false)).n = σ.n + 1 := by simp
    have he := empty_spec k.sp (σ.alloc (.cells (encK k) 33 false))
    simp only [encS, encK] at he
    simp only [encK] at g0 hc0 hn0
    simp [wops_cons, wops_if', dstOf, encK, hk]
    refine he _ fun σ1 g1 => ?_
    have hc1 := g1.get hc0 (by omega)
    have g01 := g0.trans g1
    have hg1 := g01.get hg hin
    have hown1 := hown.grow g01
    have gn1 := g1.n
    by_cases e : k.sp.lo ≤ k.sp.hi
    · have e2 : addK L k = L ++ [k] := by simp [addK, goodK, hk2, full, e]
      have ef : full k.sp = true := by simp [full, e]
      simp [wops_cons, wops_if', dstOf, hk, ef]
      have happ : ∃ v9 s9, appendOp Tryz.prog (σ1.alloc (.cells (encK k) 33 false)) #[25, 25] v (.slice (some ⟨σ1.n, 0, none⟩) 1 1) = some (v9, s9) ∧ OwnZ b s9 33 encK v9 (L ++ [k]) ∧ ButV v (σ1.alloc (.cells (encK k) 33 false)) s9 ∧ (objOf v9 = objOf v ∨ objOf v9 = some (σ1.n + 1)) := by
        have hga : Grow σ1 (σ1.alloc (.cells (encK k) 33 false)) := (Grow.refl σ1).alloc _
        have := append_Z (P := Tryz.prog) (ts := #[25, 25]) (e := 33) (sz := 5) (enc := encK) (l := L) (m := [k]) (b := b) ef25 (by simp) lenK cokK rfl (by decide) (by decide) rfl (σ := σ1.alloc (.cells (encK k) 33 false))
          (hown1.grow hga) (by simp; omega) (Sl.all (l := [k]) (i := σ1.n) (cap := 1) (ro := false) lenK (by simp) (by simp) (.inr ⟨by simp, by simp [openCap]⟩)) (by show (_ + 1) * _ ≤ _; simp; omega) (by omega)
        simpa using this
      obtain ⟨v9, s9, a1, a2, a3, a4⟩ := happ
      have hvo : ∀ j, objOf v = some j → j < σ.n ∧ j ≠ i := fun j hj => ⟨(hown.ob hj).2.1, fun e => ht0.ne (by rw [hj, e])⟩
      have hni : ¬ i = σ1.n := by omega
      have h9i : s9.get i = some (.cells [v] 89 false) := by
        rw [a3.2 i (by simp; omega) ht0.ne, CSt.get_alloc, if_neg hni]; exact hg1
      have h9n : s9.get σ.n = some (.cells (encK k) 33 false) := by
        rw [a3.2 σ.n (by simp; omega) (fun e => by have := hvo _ e; omega), CSt.get_alloc, if_neg (by omega)]; exact hc1
      have h9 : Bt i v σ s9 := (g01.bt.trans ((Grow.refl σ1).alloc (.cells (encK k) 33 false)).bt).trans a3.bt
      have hn9 : σ.n ≤ s9.n := h9.1
      have hfin := h v9 (s9.put i (.cells [v9] 89 false)) (by
        rw [e2]
        refine ⟨by simp, hbi, by simp; omega, ?_⟩
        exact a2.putX h9i (by decide) _) (by
        rcases a4 with a4 | a4
        · exact .inl a4
        · exact .inr ⟨_, a4, by omega⟩) (h9.putI _)
      obtain ⟨p9, c9, rfl⟩ := (a2.sl (sz := 5) lenK).form
      simp only [encK] at a1 a3 h9n
      refine W_drawn (l := [0, 1, 2, 3, 4, 5, 6, 7, 8, 9, 10]) (b := #[0, 0, 2, 6, 14, 0, 32, 126, 255, 511, 1023]) (by kernel_rfl) (by kernel_rfl) (by kernel_rfl) ?_
      have hni2 : ¬ σ.n = i := by omega
      have hb4 : Nat.testBit 1023 4 = true := by decide
      simpa [dopsR_cons, opAt, isEff, again, befBits, isRead, Nat.add_assoc, hc1, hg1, a1, hni, hni2, hb4, h9i, h9n] using hfin
    · have e2 : addK L k = L := by simp [addK, goodK, hk2, full, e]
      have ef : full k.sp = false := by simp [full, e]
      have := h v _ (by rw [e2]; exact ht0.grow g01) (.inl rfl) g01.bt
      simpa [wops_cons, wops_if', dstOf, hk, ef] using this
theorem all_spec (b i : Nat) (v : Value) (L : List Lk) (σ : CSt) (ht : Tb b i v σ L) (hL : L.length < 2 ^ 36) (Q : Out → CSt → Prop)
    (h : ∀ (v' : Value) (σ' : CSt), Own σ.n σ' 33 encK v' L → Grow σ σ' → Q (.ret v' false) σ') : W E1 (.fn 16 #[.pointer (some ⟨i, 0, none⟩)] none) σ Q := by
  obtain ⟨hg, hbi, hin, hown⟩ := ht
  rw [W_fn (fn := Tryz.f16) Tryz.func16 rfl rfl rfl]
  obtain ⟨pv, cv, rfl⟩ := (hown.sl (sz := 5) lenK).form
  simp [wops_cons, hg]
  refine clone_33 L _ σ (hown.sl lenK) (by omega) _ fun v1 σ1 ho1 g1 => ?_
  simpa [wops_cons] using h v1 σ1 ho1 g1
def agst (L : List Lk) (o : Int) (k : ByteArray) : List Sn := (L.filter fun x => !decide (x.owner = o) && (!klt k x.frm && !klt x.to k)).map Lk.sp
theorem agst_snoc (L : List Lk) (x : Lk) (o : Int) (k : ByteArray) : agst (L ++ [x]) o k = if (!decide (x.owner = o) && (!klt k x.frm && !klt x.to k)) = true then agst L o k ++ [x.sp] else agst L o k := by
  unfold agst
  rw [List.filter_append, List.map_append, List.filter_cons, List.filter_nil]
  split <;> simp
theorem agst_le (L : List Lk) (o : Int) (k : ByteArray) : (agst L o k).length ≤ L.length := by
  unfold agst
  rw [List.length_map]
  exact List.length_filter_le _ _
end Go.Sm
/- Sorting spans by an order that is given: insertion sort. -/
set_option linter.unusedVariables false
set_option linter.unusedSimpArgs false
namespace Go.Sm
open Go Go.Proofs
set_option maxRecDepth 100000
set_option maxHeartbeats 4000000
def ltS (a b : Sn) : Bool := decide (a.lo < b.lo)
instance : Inhabited Sn := ⟨⟨0, 0⟩⟩
/-- A row of spans that is sorted in place. -/
def PV (σ : CSt) (i : Nat) (pre post : List Value) (d : Array Sn) : Prop := σ.get i = some (.cells (rowD encS pre post d) 31 false) ∧ i < σ.n
theorem PV.put {σ : CSt} {i : Nat} {pre post : List Value} {d : Array Sn} (h : PV σ i pre post d) (d' : Array Sn) : PV (σ.put i (.cells (rowD encS pre post d') 31 false)) i pre post d' := ⟨by simp, h.2⟩
theorem PV.grow {σ σ' : CSt} {i : Nat} {pre post : List Value} {d : Array Sn} (h : PV σ i pre post d) (g : Grow σ σ') : PV σ' i pre post d := ⟨g.get h.1 h.2, Nat.lt_of_lt_of_le h.2 g.n⟩
theorem rowP_get {pre post : List Value} {d : Array Sn} {j : Nat} (hj : j < d.size) : ld (rowD encS pre post d) (pre.length + j * 2) 2 = some (encS (aget d j)) := rowD_ld lenS hj
theorem rowP_st {pre post : List Value} {d : Array Sn} {j : Nat} (hj : j < d.size) (x : Sn) : st (rowD encS pre post d) (pre.length + j * 2) (encS x) = some (rowD encS pre post (aset d j x)) := rowD_st lenS hj x
theorem less_p (x y : Sn) (σ : CSt) (Q : Out → CSt → Prop) (h : ∀ n σ', Grow σ σ' → decide (n < 0) = ltS x y → Q (.ret (.int .i64 n) false) σ') : W E1 (.fn 53 #[.agg (encS x).toArray, .agg (encS y).toArray] none) σ Q :=
  ord_spec x y σ Q fun σ' g => h _ σ' g (by
    unfold ordS ltS
    by_cases e : x.lo < y.lo
    · simp [e]
    · by_cases e2 : y.lo < x.lo
      · simp [e, e2]
      · simp [e, e2])
theorem insP_s (d : Array Sn) (i cap : Nat) (pre post : List Value) (a b : Nat) (σ : CSt) (hv : PV σ i pre post d) (hb : b ≤ d.size) (hbig : d.size < 2 ^ 40) (ha : a ≤ b) (Q : Out → CSt → Prop)
    (h : ∀ σ', PV σ' i pre post (Sort.insertionSort ltS d a b) → But i σ σ' → Q (.ret (.tuple #[]) false) σ') :
    W E1 (.fn 104 #[.slice (some ⟨i, pre.length, none⟩) d.size cap, .int .i64 a, .int .i64 b, (.func (.func 53) #[] #[])] none) σ Q := by
  rw [W_fn (fn := Tryz.f104) Tryz.func104 rfl rfl rfl]
  have hwa := i64n1 a (by omega)
  simp [wops_cons, hwa]
  refine W_loop_inv (fun n A σ' => ∃ tm k d', A = ⟨tm, 53, [], false⟩ ∧ tm.get 0 = some (.slice (some ⟨i, pre.length, none⟩) d.size cap) ∧ tm.get 1 = some (.int .i64 a) ∧ tm.get 2 = some (.int .i64 b) ∧ tm.get 3 = some (.func (.func 53) #[] #[]) ∧ tm.get 8 = some (.int .i64 (k : Nat)) ∧ a ≤ k ∧ n = b - k ∧ d'.size = d.size ∧ Sort.insOuter ltS a b k d' = Sort.insertionSort ltS d a b ∧ PV σ' i pre post d' ∧ But i σ σ') ?_ (b - (a + 1)) _ _ ?_
  · rintro n A σ1 ⟨tm, k, d1, rfl, e0, e1, e2, e3, e8, hak, hn, hsz, hfin, hv1, hg1⟩
    by_cases hkb : k < b
    · have hout : Sort.insOuter ltS a b (k + 1) (Sort.insInner ltS a k d1) = Sort.insertionSort ltS d a b := by
        rw [← hfin]
        conv => rhs; rw [Sort.insOuter]
        rw [if_pos hkb]
      simp [wops_cons, e0, e1, e2, e3, e8, hkb]
      refine W_loop_inv (fun n' A σ' => ∃ tm j d', A = ⟨tm, 53, [], false⟩ ∧ tm.get 0 = some (.slice (some ⟨i, pre.length, none⟩) d.size cap) ∧ tm.get 1 = some (.int .i64 a) ∧ tm.get 2 = some (.int .i64 b) ∧ tm.get 3 = some (.func (.func 53) #[] #[]) ∧ tm.get 8 = some (.int .i64 (k : Nat)) ∧ tm.get 9 = some (.int .i64 (j : Nat)) ∧ a ≤ j ∧ j ≤ k ∧ n' = j ∧ d'.size = d.size ∧ Sort.insInner ltS a j d' = Sort.insInner ltS a k d1 ∧ PV σ' i pre post d' ∧ But i σ σ') ?_ k _ _ ?_
      · rintro n' A σ2 ⟨tm, j, d2, rfl, e0, e1, e2, e3, e8, e9, haj, hjk, hn', hsz2, hin, hv2, hg2⟩
        have hwk := i64n1 k (by omega)
        have hstop : (¬ a < j ∨ ∃ j', j = j' + 1 ∧ ltS (aget d2 j) (aget d2 j') = false) → d2 = Sort.insInner ltS a k d1 := by
          intro hh
          rw [← hin]
          cases j with
          | zero => rfl
          | succ j =>
            rw [Sort.insInner, if_neg]
            rcases hh with h1 | ⟨j', h1, h2⟩
            · simp; omega
            · cases h1
              unfold aget at h2
              simp [h2]
        by_cases hja : a < j
        · obtain ⟨j, rfl⟩ : ∃ j', j = j' + 1 := ⟨j - 1, by omega⟩
          have hj1 : j + 1 < d2.size := by omega
          have hj0 : j < d2.size := by omega
          have hj1' : j + 1 < d.size := by omega
          have hj0' : j < d.size := by omega
          have hwj := i64n j (by omega)
          have hr1 := rowP_get (pre := pre) (post := post) hj1
          have hr0 := rowP_get (pre := pre) (post := post) hj0
          have hja' : (a : Int) < (j : Int) + 1 := by omega
          have hi1 : (j : Int) + 1 < d.size := by omega
          have hi0 : (0 : Int) ≤ (j : Int) + 1 := by omega
          have hgi := hv2.1
          simp [wops_cons, e0, e1, e2, e3, e8, e9, hja, hja', -Nat.not_lt]
          refine W_calm (by kernel_rfl) ?_
          simp [dops_cons, dops_if, dstOf, e0, e1, e2, e3, e8, e9, hja, hja', hj1', hj0', hi1, hi0, hwj, hgi, hr1, hr0, -st_eq, -ld_eq]
          refine less_p _ _ _ _ fun cn σ2 gc hcn => ?_
          have hv2 := hv2.grow gc
          have hg2 := hg2.trans gc.but
          have hgi := hv2.1
          cases hlt : ltS (aget d2 (j + 1)) (aget d2 j)
          · have hcn' : ¬ cn < 0 := by simpa [hlt] using hcn
            have := hstop (.inr ⟨j, rfl, hlt⟩)
            subst this
            simp [wops_cons, dops_cons, dops_if, dstOf, e0, e1, e2, e3, e8, e9, hlt, hcn', hwk]
            exact ⟨_, by omega, k + 1, rfl, by omega, rfl, _, hsz2, hout, hv2, hg2⟩
          · have hcn' : cn < 0 := by simpa [hlt] using hcn
            have hst1 := rowP_st (pre := pre) (post := post) hj1 (aget d2 j)
            have hst0 := rowP_st (pre := pre) (post := post) (d := aset d2 (j + 1) (aget d2 j)) (j := j) (by simpa using hj0) (aget d2 (j + 1))
            simp [wops_cons, dops_cons, dops_if, dstOf, e0, e1, e2, e3, e8, e9, hlt, hcn', -st_eq, -ld_eq]
            refine W_calm (by kernel_rfl) ?_
            simp [wops_cons, dops_cons, dops_if, dstOf, e0, e1, e2, e3, e8, e9, hj1', hj0', hi1, hi0, hwj, hgi, hr1, hr0, hst1, hst0, lenS, cokS, -st_eq, -ld_eq]
            rw [← swp_aset]
            refine ⟨_, ?_, j, rfl, by omega, by omega, rfl, _, ?_, ?_, (hv2.put _).put _, (hg2.putL _).putL _⟩
            · omega
            · simpa using hsz2
            · rw [← hin, Sort.insInner, if_pos]
              unfold aget at hlt
              simp [hlt]; omega
        · have := hstop (.inl hja)
          subst this
          have hja' : ¬ (a : Int) < j := by omega
          simp [wops_cons, e0, e1, e2, e3, e8, e9, hja, hja', -Nat.not_lt]
          refine W_calm (by kernel_rfl) ?_
          simp [wops_cons, dops_cons, dops_if, dstOf, e0, e1, e2, e3, e8, e9, hja, hja', hwk, -Nat.not_lt]
          exact ⟨_, by omega, k + 1, rfl, by omega, rfl, _, hsz2, hout, hv2, hg2⟩
      · refine ⟨_, k, d1, rfl, ?_⟩
        simp [e0, e1, e2, e3, e8]
        exact ⟨hak, hsz, hv1, hg1⟩
    · have : Sort.insOuter ltS a b k d1 = d1 := by rw [Sort.insOuter, if_neg hkb]
      rw [this] at hfin
      subst hfin
      have hkb' : ¬ (k : Int) < b := by omega
      simp [wops_cons, e0, e1, e2, e3, e8, hkb, -Nat.not_lt]
      exact h σ1 hv1 hg1
  · refine ⟨_, a + 1, d, rfl, ?_⟩
    simp
    exact ⟨rfl, hv, But.refl i σ⟩
theorem insP_n (n0 : Nat) (d : Array Sn) (hn0 : d.size = n0) (i cap : Nat) (pre post : List Value) (a b : Nat) (σ : CSt) (hv : PV σ i pre post d) (hb : b ≤ n0) (hbig : n0 < 2 ^ 40) (ha : a ≤ b) (Q : Out → CSt → Prop)
    (h : ∀ σ', PV σ' i pre post (Sort.insertionSort ltS d a b) → But i σ σ' → Q (.ret (.tuple #[]) false) σ') :
    W E1 (.fn 104 #[.slice (some ⟨i, pre.length, none⟩) n0 cap, .int .i64 a, .int .i64 b, (.func (.func 53) #[] #[])] none) σ Q := by
  subst hn0
  exact insP_s d i cap pre post a b σ hv hb hbig ha Q h
end Go.Sm
/- Sorting strings: the heap. -/
set_option linter.unusedVariables false
set_option linter.unusedSimpArgs false
namespace Go.Sm
open Go Go.Proofs
set_option maxRecDepth 100000
set_option maxHeartbeats 4000000
theorem sift_unfP {lt : Sn → Sn → Bool} {hi first r c ch cc : Nat} {d : Array Sn} (hc : c = 2 * r + 1) (hlt : c < hi) (hch : (ch = c ∧ ¬ (c + 1 < hi ∧ lt (aget d (first + c)) (aget d (first + c + 1)) = true)) ∨ (ch = c + 1 ∧ c + 1 < hi ∧ lt (aget d (first + c)) (aget d (first + c + 1)) = true)) (hcc : cc = first + ch) :
    Sort.siftDown lt hi first r d = if lt (aget d (first + r)) (aget d cc) = true then Sort.siftDown lt hi first ch (Sort.swp d (first + r) cc) else d := by
  subst hc; subst hcc
  conv => lhs; rw [Sort.siftDown]
  rw [dif_neg (by omega)]
  unfold aget at hch ⊢
  rcases hch with ⟨rfl, h⟩ | ⟨rfl, h1, h2⟩
  · rw [if_neg (by simpa using h)]
    cases lt d[first + r]! d[first + (2 * r + 1)]! <;> simp
  · have h2' : lt d[first + (2 * r + 1)]! d[first + (2 * r + 1) + 1]! = true := h2
    have e : 2 * r + 1 + 1 = 2 * r + 2 := rfl
    rw [if_pos (by simp [h2']; omega)]
    rw [dif_pos (by omega), e]
    cases lt d[first + r]! d[first + (2 * r + 2)]! <;> simp
theorem sift_sP (n0 : Nat) (d : Array Sn) (hn0 : d.size = n0) (i cap : Nat) (pre post : List Value) (lo hi first : Nat) (σ : CSt) (hv : PV σ i pre post d) (hb : first + hi ≤ n0) (hbig : n0 < 2 ^ 40) (hlo : lo ≤ n0) (Q : Out → CSt → Prop)
    (h : ∀ σ', PV σ' i pre post (Sort.siftDown ltS hi first lo d) → But i σ σ' → Q (.ret (.tuple #[]) false) σ') :
    W E1 (.fn 127 #[.slice (some ⟨i, pre.length, none⟩) n0 cap, .int .i64 lo, .int .i64 hi, .int .i64 first, (.func (.func 53) #[] #[])] none) σ Q := by
  have hcn' : (0 : Int) < 1 := by decide
  rw [W_fn (fn := Tryz.f127) Tryz.func127 rfl rfl rfl]
  simp [wops_cons]
  refine W_loop_inv (fun n A σ' => ∃ tm r d', A = ⟨tm, 82, [], false⟩ ∧ tm.get 0 = some (.slice (some ⟨i, pre.length, none⟩) n0 cap) ∧ tm.get 4 = some (.func (.func 53) #[] #[]) ∧ tm.get 1 = some (.int .i64 lo) ∧ tm.get 2 = some (.int .i64 hi) ∧ tm.get 3 = some (.int .i64 first) ∧ tm.get 10 = some (.int .i64 (r : Nat)) ∧ r ≤ n0 ∧ n = 2 ^ 40 - r ∧ Sort.siftDown ltS hi first r d' = Sort.siftDown ltS hi first lo d ∧ d'.size = n0 ∧ PV σ' i pre post d' ∧ But i σ σ') ?_ (2 ^ 40 - lo) _ _ ?_
  · rintro n A σ1 ⟨tm, r, d1, rfl, e0, e4, e1, e2, e3, e10, hr, rfl, hfin, hsz, hv1, hg1⟩
    obtain ⟨c, hc⟩ : ∃ c, c = 2 * r + 1 := ⟨_, rfl⟩
    have hw2 : IntKind.i64.wrap (2 * (r : Int)) = 2 * (r : Int) := IntWalk.i64_in _ (by omega)
    have hwc : IntKind.i64.wrap (2 * (r : Int) + 1) = (c : Int) := by rw [IntWalk.i64_in _ (by omega)]; omega
    by_cases hch : c < hi
    · have hch' : ¬ (hi : Int) ≤ c := by omega
      have hwc1 : IntKind.i64.wrap ((c : Int) + 1) = ((c + 1 : Nat) : Int) := i64n1 c (by omega)
      obtain ⟨c1, hc1⟩ : ∃ c1, c1 = c + 1 := ⟨_, rfl⟩
      rw [← hc1] at hwc1
      obtain ⟨p, hp⟩ : ∃ p, p = first + r := ⟨_, rfl⟩
      obtain ⟨q, hq⟩ : ∃ q, q = first + c := ⟨_, rfl⟩
      obtain ⟨q1, hq1⟩ : ∃ q1, q1 = q + 1 := ⟨_, rfl⟩
      have hwp : IntKind.i64.wrap ((first : Int) + r) = (p : Int) := by rw [IntWalk.i64_in _ (by omega)]; omega
      have hwq : IntKind.i64.wrap ((first : Int) + c) = (q : Int) := by rw [IntWalk.i64_in _ (by omega)]; omega
      have hwqc : IntKind.i64.wrap ((first : Int) + c1) = (q1 : Int) := by rw [IntWalk.i64_in _ (by omega)]; omega
      have hwq1 : IntKind.i64.wrap ((q : Int) + 1) = (q1 : Int) := by rw [IntWalk.i64_in _ (by omega)]; omega
      have hgi := hv1.1
      have hpd : p < n0 := by omega
      have hqd : q < n0 := by omega
      have hunf : ∀ ch cc, cc = first + ch → ((ch = c ∧ ¬ (c + 1 < hi ∧ ltS (aget d1 (first + c)) (aget d1 (first + c + 1)) = true)) ∨ (ch = c + 1 ∧ c + 1 < hi ∧ ltS (aget d1 (first + c)) (aget d1 (first + c + 1)) = true)) → Sort.siftDown ltS hi first r d1 = if ltS (aget d1 p) (aget d1 cc) = true then Sort.siftDown ltS hi first ch (Sort.swp d1 p cc) else d1 := fun ch cc h1 h2 => by rw [hp]; exact sift_unfP hc hch h2 h1
      rw [← hq, ← hq1] at hunf
      by_cases hc1h : c1 < hi
      · have hq1d : q1 < n0 := by omega
        have hc1h' : (c1 : Int) < hi := by omega
        have hrq := rowP_get (pre := pre) (post := post) (d := d1) (j := q) (by omega)
        have hrq1 := rowP_get (pre := pre) (post := post) (d := d1) (j := q1) (by omega)
        simp [wops_cons, dops_cons, dops_if, dstOf, -st_eq, -ld_eq, -Nat.not_lt, lenS, cokS, hcn', e0, e4, e1, e2, e3, e10, hw2, hwc, hch, hch']
        refine W_calm (by kernel_rfl) ?_
        simp [wops_cons, dops_cons, dops_if, dstOf, -st_eq, -ld_eq, -Nat.not_lt, lenS, cokS, hcn', e0, e4, e1, e2, e3, e10, hwc1, hc1h, hc1h', hwq, hwq1, hqd, hq1d, hgi, hrq, hrq1]
        refine less_p _ _ _ _ fun cn σ1 gc hcn => ?_
        have hv1 := hv1.grow gc
        have hg1 := hg1.trans gc.but
        have hgi := hv1.1
        cases hl1 : ltS (aget d1 q) (aget d1 q1)
        · have hcn' : ¬ cn < 0 := by simpa [hl1] using hcn
          have hrp := rowP_get (pre := pre) (post := post) (d := d1) (j := p) (by omega)
          have hrch := rowP_get (pre := pre) (post := post) (d := d1) (j := q) (by omega)
          try simp [wops_cons, dops_cons, dops_if, dstOf, -st_eq, -ld_eq, -Nat.not_lt, lenS, cokS, hcn', e0, e4, e1, e2, e3, e10, hwc1]
          refine W_calm (by kernel_rfl) ?_
          simp [wops_cons, dops_cons, dops_if, dstOf, -st_eq, -ld_eq, -Nat.not_lt, lenS, cokS, hcn', e0, e4, e1, e2, e3, e10, hwp, hwq, hwq1, hpd, hqd, hqd, hgi, hrp, hrch, hwc1]
          refine less_p _ _ _ _ fun cn σ1 gc hcn => ?_
          have hv1 := hv1.grow gc
          have hg1 := hg1.trans gc.but
          have hgi := hv1.1
          cases hl2 : ltS (aget d1 p) (aget d1 q)
          · have hcn' : ¬ cn < 0 := by simpa [hl2] using hcn
            simp [wops_cons, dops_cons, dops_if, dstOf, -st_eq, -ld_eq, -Nat.not_lt, lenS, cokS, hcn', e0, e4, e1, e2, e3, e10, hl2]
            refine h σ1 ?_ hg1
            rw [← hfin, hunf c q hq (.inl ⟨rfl, by simp [hl1]⟩), hl2]
            simpa using hv1
          · have hcn' : cn < 0 := by simpa [hl2] using hcn
            have hst1 := rowP_st (pre := pre) (post := post) (d := d1) (j := p) (by first | omega | (simp; omega)) (aget d1 q)
            have hst2 := rowP_st (pre := pre) (post := post) (d := aset d1 p (aget d1 q)) (j := q) (by first | omega | (simp; omega)) (aget d1 p)
            simp [wops_cons, dops_cons, dops_if, dstOf, -st_eq, -ld_eq, -Nat.not_lt, lenS, cokS, hcn', e0, e4, e1, e2, e3, e10, hl2]
            refine W_calm (by kernel_rfl) ?_
            simp [wops_cons, dops_cons, dops_if, dstOf, -st_eq, -ld_eq, -Nat.not_lt, lenS, cokS, hcn', e0, e4, e1, e2, e3, e10, hwp, hwq, hwq1, hpd, hqd, hqd, hgi, hrp, hrch, hst1, hst2, hwc1]
            rw [← swp_aset]
            refine ⟨_, ?_, c, rfl, by omega, rfl, _, ?_, by simpa using hsz, (hv1.put _).put _, (hg1.putL _).putL _⟩
            · omega
            · rw [← hfin, hunf c q hq (.inl ⟨rfl, by simp [hl1]⟩), hl2]
              simp
        · have hcn' : cn < 0 := by simpa [hl1] using hcn
          have hrp := rowP_get (pre := pre) (post := post) (d := d1) (j := p) (by omega)
          have hrch := rowP_get (pre := pre) (post := post) (d := d1) (j := q1) (by omega)
          try simp [wops_cons, dops_cons, dops_if, dstOf, -st_eq, -ld_eq, -Nat.not_lt, lenS, cokS, hcn', e0, e4, e1, e2, e3, e10, hwc1]
          refine W_calm (by kernel_rfl) ?_
          simp [wops_cons, dops_cons, dops_if, dstOf, -st_eq, -ld_eq, -Nat.not_lt, lenS, cokS, hcn', e0, e4, e1, e2, e3, e10, hwp, hwq, hwq1, hpd, hqd, hq1d, hwqc, hgi, hrp, hrch, hwc1]
          refine less_p _ _ _ _ fun cn σ1 gc hcn => ?_
          have hv1 := hv1.grow gc
          have hg1 := hg1.trans gc.but
          have hgi := hv1.1
          cases hl2 : ltS (aget d1 p) (aget d1 q1)
          · have hcn' : ¬ cn < 0 := by simpa [hl2] using hcn
            simp [wops_cons, dops_cons, dops_if, dstOf, -st_eq, -ld_eq, -Nat.not_lt, lenS, cokS, hcn', e0, e4, e1, e2, e3, e10, hl2]
            refine h σ1 ?_ hg1
            rw [← hfin, hunf c1 q1 (by omega) (.inr ⟨hc1, by omega, hl1⟩), hl2]
            simpa using hv1
          · have hcn' : cn < 0 := by simpa [hl2] using hcn
            have hst1 := rowP_st (pre := pre) (post := post) (d := d1) (j := p) (by first | omega | (simp; omega)) (aget d1 q1)
            have hst2 := rowP_st (pre := pre) (post := post) (d := aset d1 p (aget d1 q1)) (j := q1) (by first | omega | (simp; omega)) (aget d1 p)
            simp [wops_cons, dops_cons, dops_if, dstOf, -st_eq, -ld_eq, -Nat.not_lt, lenS, cokS, hcn', e0, e4, e1, e2, e3, e10, hl2]
            refine W_calm (by kernel_rfl) ?_
            simp [wops_cons, dops_cons, dops_if, dstOf, -st_eq, -ld_eq, -Nat.not_lt, lenS, cokS, hcn', e0, e4, e1, e2, e3, e10, hwp, hwq, hwq1, hpd, hqd, hq1d, hwqc, hgi, hrp, hrch, hst1, hst2, hwc1]
            rw [← swp_aset]
            refine ⟨_, ?_, c1, rfl, by omega, rfl, _, ?_, by simpa using hsz, (hv1.put _).put _, (hg1.putL _).putL _⟩
            · omega
            · rw [← hfin, hunf c1 q1 (by omega) (.inr ⟨hc1, by omega, hl1⟩), hl2]
              simp
      · have hc1h' : ¬ (c1 : Int) < hi := by omega
        simp [wops_cons, dops_cons, dops_if, dstOf, -st_eq, -ld_eq, -Nat.not_lt, lenS, cokS, hcn', e0, e4, e1, e2, e3, e10, hw2, hwc, hch, hch']
        refine W_calm (by kernel_rfl) ?_
        simp [wops_cons, dops_cons, dops_if, dstOf, -st_eq, -ld_eq, -Nat.not_lt, lenS, cokS, hcn', e0, e4, e1, e2, e3, e10, hwc1, hc1h, hc1h', hwq, hwq1, hqd, hgi]
        have hrp := rowP_get (pre := pre) (post := post) (d := d1) (j := p) (by omega)
        have hrch := rowP_get (pre := pre) (post := post) (d := d1) (j := q) (by omega)
        try simp [wops_cons, dops_cons, dops_if, dstOf, -st_eq, -ld_eq, -Nat.not_lt, lenS, cokS, hcn', e0, e4, e1, e2, e3, e10, hwc1]
        refine W_calm (by kernel_rfl) ?_
        simp [wops_cons, dops_cons, dops_if, dstOf, -st_eq, -ld_eq, -Nat.not_lt, lenS, cokS, hcn', e0, e4, e1, e2, e3, e10, hwp, hwq, hwq1, hpd, hqd, hqd, hgi, hrp, hrch, hwc1]
        refine less_p _ _ _ _ fun cn σ1 gc hcn => ?_
        have hv1 := hv1.grow gc
        have hg1 := hg1.trans gc.but
        have hgi := hv1.1
        cases hl2 : ltS (aget d1 p) (aget d1 q)
        · have hcn' : ¬ cn < 0 := by simpa [hl2] using hcn
          simp [wops_cons, dops_cons, dops_if, dstOf, -st_eq, -ld_eq, -Nat.not_lt, lenS, cokS, hcn', e0, e4, e1, e2, e3, e10, hl2]
          refine h σ1 ?_ hg1
          rw [← hfin, hunf c q hq (.inl ⟨rfl, by omega⟩), hl2]
          simpa using hv1
        · have hcn' : cn < 0 := by simpa [hl2] using hcn
          have hst1 := rowP_st (pre := pre) (post := post) (d := d1) (j := p) (by first | omega | (simp; omega)) (aget d1 q)
          have hst2 := rowP_st (pre := pre) (post := post) (d := aset d1 p (aget d1 q)) (j := q) (by first | omega | (simp; omega)) (aget d1 p)
          simp [wops_cons, dops_cons, dops_if, dstOf, -st_eq, -ld_eq, -Nat.not_lt, lenS, cokS, hcn', e0, e4, e1, e2, e3, e10, hl2]
          refine W_calm (by kernel_rfl) ?_
          simp [wops_cons, dops_cons, dops_if, dstOf, -st_eq, -ld_eq, -Nat.not_lt, lenS, cokS, hcn', e0, e4, e1, e2, e3, e10, hwp, hwq, hwq1, hpd, hqd, hqd, hgi, hrp, hrch, hst1, hst2, hwc1]
          rw [← swp_aset]
          refine ⟨_, ?_, c, rfl, by omega, rfl, _, ?_, by simpa using hsz, (hv1.put _).put _, (hg1.putL _).putL _⟩
          · omega
          · rw [← hfin, hunf c q hq (.inl ⟨rfl, by omega⟩), hl2]
            simp
    · have hch' : (hi : Int) ≤ c := by omega
      have : Sort.siftDown ltS hi first r d1 = d1 := by rw [Sort.siftDown, dif_pos (by omega)]
      rw [this] at hfin
      subst hfin
      simp [wops_cons, dops_cons, dops_if, dstOf, -st_eq, -ld_eq, -Nat.not_lt, lenS, cokS, hcn', e0, e4, e1, e2, e3, e10, hw2, hwc, hch, hch']
      exact h σ1 hv1 hg1
  · refine ⟨_, lo, d, rfl, ?_⟩
    simp
    exact ⟨hlo, hn0, hv, But.refl i σ⟩
end Go.Sm
/- Sorting strings: the heap; the row turned round. -/
set_option linter.unusedVariables false
set_option linter.unusedSimpArgs false
namespace Go.Sm
open Go Go.Proofs
set_option maxRecDepth 100000
set_option maxHeartbeats 4000000
theorem sift_sizeP (lt : Sn → Sn → Bool) (hi first r : Nat) (d : Array Sn) : (Sort.siftDown lt hi first r d).size = d.size := by
  fun_induction Sort.siftDown lt hi first r d <;> simp_all
theorem build_sizeP (lt : Sn → Sn → Bool) (hi first : Nat) : ∀ (k : Nat) (d : Array Sn), (Sort.heapBuild lt hi first k d).size = d.size
  | 0, d => rfl
  | k + 1, d => by rw [Sort.heapBuild, build_sizeP lt hi first k, sift_sizeP]
theorem heap_sP (n0 : Nat) (d : Array Sn) (hn0 : d.size = n0) (i cap : Nat) (pre post : List Value) (a b : Nat) (σ : CSt) (hv : PV σ i pre post d) (hb : b ≤ n0) (hbig : n0 < 2 ^ 40) (ha : a ≤ b) (Q : Out → CSt → Prop)
    (h : ∀ σ', PV σ' i pre post (Sort.heapSort ltS d a b) → But i σ σ' → Q (.ret (.tuple #[]) false) σ') :
    W E1 (.fn 105 #[.slice (some ⟨i, pre.length, none⟩) n0 cap, .int .i64 a, .int .i64 b, (.func (.func 53) #[] #[])] none) σ Q := by
  have hcn' : (0 : Int) < 1 := by decide
  rw [W_fn (fn := Tryz.f105) Tryz.func105 rfl rfl rfl]
  obtain ⟨hi, hhi⟩ : ∃ hi, hi = b - a := ⟨_, rfl⟩
  obtain ⟨K, hK⟩ : ∃ K, K = (hi - 1) / 2 + 1 := ⟨_, rfl⟩
  have hw1 : IntKind.i64.wrap ((b : Int) - a) = (hi : Int) := by rw [IntWalk.i64_in _ (by omega)]; omega
  have hw2 : IntKind.i64.wrap ((hi : Int) - 1) = (hi : Int) - 1 := IntWalk.i64_in _ (by omega)
  have hw3 : IntKind.i64.wrap (((hi : Int) - 1).tdiv 2) = (K : Int) - 1 := by
    rw [IntWalk.i64_quo' _ _ (by omega)]
    by_cases h0 : hi = 0
    · rw [hK, h0]; decide
    · have e : (hi : Int) - 1 = ((hi - 1 : Nat) : Int) := by omega
      rw [e, Int.tdiv_eq_ediv_of_nonneg (by omega)]
      omega
  have hpost : Sort.heapSort ltS d a b = Sort.heapPop ltS a hi (Sort.heapBuild ltS hi a K d) := by rw [Sort.heapSort, hK, hhi]
  simp [wops_cons, dops_cons, dops_if, dstOf, -st_eq, -ld_eq, -Nat.not_lt, lenS, cokS, hcn', hw1, hw2, hw3]
  refine W_loop_inv (fun n A σ' => ∃ tm k d', A = ⟨tm, 60, [], false⟩ ∧ tm.get 0 = some (.slice (some ⟨i, pre.length, none⟩) n0 cap) ∧ tm.get 3 = some (.func (.func 53) #[] #[]) ∧ tm.get 8 = some (.int .i64 (a : Nat)) ∧ tm.get 9 = some (.int .i64 0) ∧ tm.get 10 = some (.int .i64 (hi : Nat)) ∧ tm.get 11 = some (.int .i64 ((k : Nat) - 1)) ∧ k ≤ K ∧ n = k ∧ Sort.heapBuild ltS hi a k d' = Sort.heapBuild ltS hi a K d ∧ d'.size = n0 ∧ PV σ' i pre post d' ∧ But i σ σ') ?_ K _ _ ?_
  · rintro n A σ1 ⟨tm, k, d1, rfl, e0, e3, e8, e9, e10, e11, hk, hn, hfin, hsz, hv1, hg1⟩
    cases k with
    | zero =>
      rw [Sort.heapBuild] at hfin
      subst hfin
      have hm : ¬ (0 : Int) ≤ -1 := by omega
      simp [wops_cons, dops_cons, dops_if, dstOf, -st_eq, -ld_eq, -Nat.not_lt, lenS, cokS, hcn', e0, e3, e8, e9, e10, e11, hw2, hm]
      refine W_loop_inv (fun n A σ' => ∃ tm k d', A = ⟨tm, 60, [], false⟩ ∧ tm.get 0 = some (.slice (some ⟨i, pre.length, none⟩) n0 cap) ∧ tm.get 3 = some (.func (.func 53) #[] #[]) ∧ tm.get 8 = some (.int .i64 (a : Nat)) ∧ tm.get 9 = some (.int .i64 0) ∧ tm.get 12 = some (.int .i64 ((k : Nat) - 1)) ∧ k ≤ hi ∧ n = k ∧ Sort.heapPop ltS a k d' = Sort.heapSort ltS d a b ∧ d'.size = n0 ∧ PV σ' i pre post d' ∧ But i σ σ') ?_ hi _ _ ?_
      · rintro n A σ2 ⟨tm, k, d2, rfl, e0, e3, e8, e9, e12, hk, hn, hfin2, hsz2, hv2, hg2⟩
        cases k with
        | zero =>
          rw [Sort.heapPop] at hfin2
          subst hfin2
          simp [wops_cons, dops_cons, dops_if, dstOf, -st_eq, -ld_eq, -Nat.not_lt, lenS, cokS, hcn', e0, e3, e8, e9, e12]
          exact h σ2 hv2 hg2
        | succ k =>
          have ek : ((k + 1 : Nat) : Int) - 1 = (k : Int) := by omega
          rw [ek] at e12
          obtain ⟨p, hp⟩ : ∃ p, p = a + k := ⟨_, rfl⟩
          have hwp : IntKind.i64.wrap ((a : Int) + k) = (p : Int) := by rw [IntWalk.i64_in _ (by omega)]; omega
          have hwk : IntKind.i64.wrap ((k : Int) - 1) = (k : Int) - 1 := IntWalk.i64_in _ (by omega)
          have hpd : p < n0 := by omega
          have had : a < n0 := by omega
          have hgi := hv2.1
          have hrp := rowP_get (pre := pre) (post := post) (d := d2) (j := p) (by omega)
          have hra := rowP_get (pre := pre) (post := post) (d := d2) (j := a) (by omega)
          have hst1 := rowP_st (pre := pre) (post := post) (d := d2) (j := a) (by first | omega | (simp; omega)) (aget d2 p)
          have hst2 := rowP_st (pre := pre) (post := post) (d := aset d2 a (aget d2 p)) (j := p) (by first | omega | (simp; omega)) (aget d2 a)
          simp [wops_cons, dops_cons, dops_if, dstOf, -st_eq, -ld_eq, -Nat.not_lt, lenS, cokS, hcn', e0, e3, e8, e9, e12]
          refine W_calm (by kernel_rfl) ?_
          simp [wops_cons, dops_cons, dops_if, dstOf, -st_eq, -ld_eq, -Nat.not_lt, lenS, cokS, hcn', e0, e3, e8, e9, e12, hwp, hpd, had, hgi, hrp, hra, hst1, hst2]
          rw [← swp_aset]
          have hsz3 : (Sort.swp d2 a p).size = n0 := by simp [hsz2]
          refine sift_sP n0 (Sort.swp d2 a p) hsz3 i cap pre post 0 k a _ ((hv2.put (aset d2 a (aget d2 p))).put _) (by omega) (by omega) (by omega) _ fun σ3 hv3 hg3 => ?_
          simp [wops_cons, dops_cons, dops_if, dstOf, -st_eq, -ld_eq, -Nat.not_lt, lenS, cokS, hcn', e0, e3, e8, e9, e12, hwk]
          refine ⟨k, by omega, k, rfl, by omega, rfl, _, ?_, ?_, hv3, ((hg2.putL _).putL _).trans hg3⟩
          · rw [← hfin2, Sort.heapPop, hp]
          · rw [sift_sizeP]; exact hsz3
      · refine ⟨_, hi, Sort.heapBuild ltS hi a K d, rfl, ?_⟩
        simp [e0, e3, e8, e9]
        exact ⟨hpost.symm, hsz, hv1, hg1⟩
    | succ k =>
      have ek : ((k + 1 : Nat) : Int) - 1 = (k : Int) := by omega
      rw [ek] at e11
      have hwk : IntKind.i64.wrap ((k : Int) - 1) = (k : Int) - 1 := IntWalk.i64_in _ (by omega)
      simp [wops_cons, dops_cons, dops_if, dstOf, -st_eq, -ld_eq, -Nat.not_lt, lenS, cokS, hcn', e0, e3, e8, e9, e10, e11]
      refine sift_sP n0 d1 hsz i cap pre post k hi a _ hv1 (by omega) (by omega) (by omega) _ fun σ3 hv3 hg3 => ?_
      simp [wops_cons, dops_cons, dops_if, dstOf, -st_eq, -ld_eq, -Nat.not_lt, lenS, cokS, hcn', e0, e3, e8, e9, e10, e11, hwk]
      refine ⟨k, by omega, k, rfl, by omega, rfl, _, ?_, ?_, hv3, hg1.trans hg3⟩
      · rw [← hfin, Sort.heapBuild]
      · rw [sift_sizeP]; exact hsz
  · refine ⟨_, K, d, rfl, ?_⟩
    simp
    exact ⟨hn0, hv, But.refl i σ⟩
theorem rev_sP (n0 : Nat) (d : Array Sn) (hn0 : d.size = n0) (i cap : Nat) (pre post : List Value) (a b : Nat) (σ : CSt) (hv : PV σ i pre post d) (hb : b ≤ n0) (hbig : n0 < 2 ^ 40) (ha : a < b) (Q : Out → CSt → Prop)
    (h : ∀ σ', PV σ' i pre post (Sort.reverseRange d a b) → But i σ σ' → Q (.ret (.tuple #[]) false) σ') :
    W E1 (.fn 108 #[.slice (some ⟨i, pre.length, none⟩) n0 cap, .int .i64 a, .int .i64 b, (.func (.func 53) #[] #[])] none) σ Q := by
  have hcn' : (0 : Int) < 1 := by decide
  rw [W_fn (fn := Tryz.f108) Tryz.func108 rfl rfl rfl]
  have hw1 : IntKind.i64.wrap ((b : Int) - 1) = ((b - 1 : Nat) : Int) := i64p b (by omega) (by omega)
  simp [wops_cons, dops_cons, dops_if, dstOf, -st_eq, -ld_eq, -Nat.not_lt, lenS, cokS, hcn', hw1]
  refine W_loop_inv (fun n A σ' => ∃ tm x y d', A = ⟨tm, 34, [], false⟩ ∧ tm.get 0 = some (.slice (some ⟨i, pre.length, none⟩) n0 cap) ∧ tm.get 3 = some (.func (.func 53) #[] #[]) ∧ tm.get 8 = some (.int .i64 (x : Nat)) ∧ tm.get 9 = some (.int .i64 (y : Nat)) ∧ y < b ∧ x ≤ b ∧ n = y ∧ Sort.reverseLoop x y d' = Sort.reverseRange d a b ∧ d'.size = n0 ∧ PV σ' i pre post d' ∧ But i σ σ') ?_ (b - 1) _ _ ?_
  · rintro n A σ1 ⟨tm, x, y, d1, rfl, e0, e3, e8, e9, hy, hx, hn, hfin, hsz, hv1, hg1⟩
    by_cases hxy : x < y
    · have hxy' : (x : Int) < y := by omega
      have hxd : x < n0 := by omega
      have hyd : y < n0 := by omega
      have hw2 := i64n1 x (by omega)
      have hw3 := i64p y (by omega) (by omega)
      have hgi := hv1.1
      have hrx := rowP_get (pre := pre) (post := post) (d := d1) (j := x) (by omega)
      have hry := rowP_get (pre := pre) (post := post) (d := d1) (j := y) (by omega)
      have hst1 := rowP_st (pre := pre) (post := post) (d := d1) (j := x) (by first | omega | (simp; omega)) (aget d1 y)
      have hst2 := rowP_st (pre := pre) (post := post) (d := aset d1 x (aget d1 y)) (j := y) (by first | omega | (simp; omega)) (aget d1 x)
      simp [wops_cons, dops_cons, dops_if, dstOf, -st_eq, -ld_eq, -Nat.not_lt, lenS, cokS, hcn', e0, e3, e8, e9, hxy, hxy']
      refine W_calm (by kernel_rfl) ?_
      simp [wops_cons, dops_cons, dops_if, dstOf, -st_eq, -ld_eq, -Nat.not_lt, lenS, cokS, hcn', e0, e3, e8, e9, hxd, hyd, hgi, hrx, hry, hst1, hst2, hw2, hw3]
      rw [← swp_aset]
      refine ⟨y - 1, by omega, x + 1, rfl, y - 1, rfl, by omega, by omega, rfl, _, ?_, by simp [hsz], (hv1.put _).put _, (hg1.putL _).putL _⟩
      rw [← hfin]
      conv => rhs; rw [Sort.reverseLoop]
      rw [if_pos hxy]
    · have hxy' : ¬ (x : Int) < y := by omega
      rw [Sort.reverseLoop, if_neg hxy] at hfin
      subst hfin
      simp [wops_cons, dops_cons, dops_if, dstOf, -st_eq, -ld_eq, -Nat.not_lt, lenS, cokS, hcn', e0, e3, e8, e9, hxy, hxy']
      exact h σ1 hv1 hg1
  · refine ⟨_, a, b - 1, d, rfl, ?_⟩
    simp
    exact ⟨by omega, by omega, rfl, hn0, hv, But.refl i σ⟩
end Go.Sm
/- Sorting: bits.Len, the draws, the patterns broken. -/
set_option linter.unusedVariables false
set_option linter.unusedSimpArgs false
namespace Go.Sm
open Go Go.Proofs
set_option maxRecDepth 100000
set_option maxHeartbeats 4000000
def len8 : ByteArray := ⟨#[0, 1, 2, 2, 3, 3, 3, 3, 4, 4, 4, 4, 4, 4, 4, 4, 5, 5, 5, 5, 5, 5, 5, 5, 5, 5, 5, 5, 5, 5, 5, 5, 6, 6, 6, 6, 6, 6, 6, 6, 6, 6, 6, 6, 6, 6, 6, 6, 6, 6, 6, 6, 6, 6, 6, 6, 6, 6, 6, 6, 6, 6, 6, 6, 7, 7, 7, 7, 7, 7, 7, 7, 7, 7, 7, 7, 7, 7, 7, 7, 7, 7, 7, 7, 7, 7, 7, 7, 7, 7, 7, 7, 7, 7, 7, 7, 7, 7, 7, 7, 7, 7, 7, 7, 7, 7, 7, 7, 7, 7, 7, 7, 7, 7, 7, 7, 7, 7, 7, 7, 7, 7, 7, 7, 7, 7, 7, 7, 8, 8, 8, 8, 8, 8, 8, 8, 8, 8, 8, 8, 8, 8, 8, 8, 8, 8, 8, 8, 8, 8, 8, 8, 8, 8, 8, 8, 8, 8, 8, 8, 8, 8, 8, 8, 8, 8, 8, 8, 8, 8, 8, 8, 8, 8, 8, 8, 8, 8, 8, 8, 8, 8, 8, 8, 8, 8, 8, 8, 8, 8, 8, 8, 8, 8, 8, 8, 8, 8, 8, 8, 8, 8, 8, 8, 8, 8, 8, 8, 8, 8, 8, 8, 8, 8, 8, 8, 8, 8, 8, 8, 8, 8, 8, 8, 8, 8, 8, 8, 8, 8, 8, 8, 8, 8, 8, 8, 8, 8, 8, 8, 8, 8, 8, 8, 8, 8, 8, 8, 8, 8, 8, 8, 8, 8, 8, 8]⟩
theorem len8_ok : ∀ b : Fin 256, len8[b.val]? = some (UInt8.ofNat (Sort.bitsLen b.val)) ∧ Sort.bitsLen b.val ≤ 8 := by decide +kernel
theorem bitsLen_shift (k x : Nat) (h : 2 ^ k ≤ x) : Sort.bitsLen x = Sort.bitsLen (x / 2 ^ k) + k := by
  have hp : 0 < 2 ^ k := Nat.two_pow_pos k
  have key : ∀ m, Sort.bitsLen x ≤ m + k ↔ Sort.bitsLen (x / 2 ^ k) ≤ m := fun m => by
    rw [Sort.bitsLen_le_iff, Sort.bitsLen_le_iff, Nat.div_lt_iff_lt_mul hp, Nat.pow_add]
  have hk : k < Sort.bitsLen x := by
    apply Nat.lt_of_not_le
    rw [Sort.bitsLen_le_iff]
    omega
  have h1 := (key (Sort.bitsLen (x / 2 ^ k))).2 (Nat.le_refl _)
  have h2 := (key (Sort.bitsLen x - k)).1 (by omega)
  omega
theorem fdiv_nat (x m : Nat) : ((x : Nat) : Int).fdiv (m : Int) = ((x / m : Nat) : Int) := by rw [Int.fdiv_eq_ediv_of_nonneg _ (by omega)]; rfl
theorem len64_spec (x : Nat) (hx : x < 2 ^ 62) (σ : CSt) (Q : Out → CSt → Prop) (h : Q (.ret (.int .i64 (Sort.bitsLen x)) false) σ) : W E1 (.fn 90 #[.int .u64 x] none) σ Q := by
  rw [W_fn (fn := Tryz.f90) Tryz.func90 rfl rfl rfl]
  have s32 : ((x : Nat) : Int).fdiv (2 ^ min 32 IntKind.u64.bits) = ((x / 4294967296 : Nat) : Int) := fdiv_nat x 4294967296
  have fin : ∀ (y c : Nat), y < 256 → Sort.bitsLen x = Sort.bitsLen y + c → c < 100 → len8[y]? = some (UInt8.ofNat (Sort.bitsLen y)) ∧ IntKind.u8.wrap (y : Int) = y ∧ IntKind.i64.wrap ((Sort.bitsLen y : Nat) : Int) = (Sort.bitsLen y : Nat) ∧ IntKind.i64.wrap ((c : Int) + (Sort.bitsLen y : Nat)) = (Sort.bitsLen x : Nat) ∧ ((UInt8.ofNat (Sort.bitsLen y)).toNat = Sort.bitsLen y) := by
    intro y c hy hb hc
    obtain ⟨h1, h2⟩ := len8_ok ⟨y, hy⟩
    simp only at h1 h2
    refine ⟨h1, IntWalk.u8_in _ (by omega), IntWalk.i64_in _ (by omega), by rw [IntWalk.i64_in _ (by omega)]; omega, ?_⟩
    rw [UInt8.toNat_ofNat_of_lt' (by show _ < 256; omega)]
  unfold len8 at fin
  have w8 : IntKind.i64.wrap 8 = 8 := by decide
  have w16 : IntKind.i64.wrap 16 = 16 := by decide
  have w24 : IntKind.i64.wrap 24 = 24 := by decide
  have w32 : IntKind.i64.wrap 32 = 32 := by decide
  have w40 : IntKind.i64.wrap 40 = 40 := by decide
  have w48 : IntKind.i64.wrap 48 = 48 := by decide
  have w56 : IntKind.i64.wrap 56 = 56 := by decide
  by_cases h32 : 4294967296 ≤ x
  · have b32 := bitsLen_shift 32 x (by simpa using h32)
    have h32' : (4294967296 : Int) ≤ x := by omega
    obtain ⟨y, hy⟩ : ∃ y, y = x / 4294967296 := ⟨_, rfl⟩
    rw [← hy] at s32
    simp only [Nat.reducePow] at b32
    rw [← hy] at b32
    have hyx : y < 2 ^ 32 := by omega
    have s16 : ((y : Nat) : Int).fdiv (2 ^ min 16 IntKind.u64.bits) = ((y / 65536 : Nat) : Int) := fdiv_nat y 65536
    by_cases h16 : 65536 ≤ y
    · have b16 := bitsLen_shift 16 y (by simpa using h16)
      have h16' : (65536 : Int) ≤ y := by omega
      obtain ⟨z, hz⟩ : ∃ z, z = y / 65536 := ⟨_, rfl⟩
      rw [← hz] at s16
      simp only [Nat.reducePow] at b16
      rw [← hz] at b16
      have hzx : z < 65536 := by omega
      have s8 : ((z : Nat) : Int).fdiv (2 ^ min 8 IntKind.u64.bits) = ((z / 256 : Nat) : Int) := fdiv_nat z 256
      by_cases h8 : 256 ≤ z
      · have b8 := bitsLen_shift 8 z (by simpa using h8)
        have h8' : (256 : Int) ≤ z := by omega
        obtain ⟨u, hu⟩ : ∃ u, u = z / 256 := ⟨_, rfl⟩
        rw [← hu] at s8
        simp only [Nat.reducePow] at b8
        rw [← hu] at b8
        obtain ⟨f1, f2, f3, f4, f5⟩ := fin u (32 + 16 + 8) (by omega) (by omega) (by omega)
        simp at f4
        simp [wops_cons, idxS, h32, h32', h16, h16', h8, h8', s32, s16, s8, f1, f2, f3, f4, f5, w8, w16, w24, w32, w40, w48, w56]
        exact h
      · have h8' : ¬ (256 : Int) ≤ z := by omega
        obtain ⟨f1, f2, f3, f4, f5⟩ := fin z (32 + 16) (by omega) (by omega) (by omega)
        simp at f4
        simp [wops_cons, idxS, h32, h32', h16, h16', h8, h8', s32, s16, s8, f1, f2, f3, f4, f5, w8, w16, w24, w32, w40, w48, w56]
        exact h
    · have h16' : ¬ (65536 : Int) ≤ y := by omega
      have b16 : Sort.bitsLen y = Sort.bitsLen y + 0 := rfl
      have hzx : y < 65536 := by omega
      have s8 : ((y : Nat) : Int).fdiv (2 ^ min 8 IntKind.u64.bits) = ((y / 256 : Nat) : Int) := fdiv_nat y 256
      by_cases h8 : 256 ≤ y
      · have b8 := bitsLen_shift 8 y (by simpa using h8)
        have h8' : (256 : Int) ≤ y := by omega
        obtain ⟨u, hu⟩ : ∃ u, u = y / 256 := ⟨_, rfl⟩
        rw [← hu] at s8
        simp only [Nat.reducePow] at b8
        rw [← hu] at b8
        obtain ⟨f1, f2, f3, f4, f5⟩ := fin u (32 + 8) (by omega) (by omega) (by omega)
        simp at f4
        simp [wops_cons, idxS, h32, h32', h16, h16', h8, h8', s32, s16, s8, f1, f2, f3, f4, f5, w8, w16, w24, w32, w40, w48, w56]
        exact h
      · have h8' : ¬ (256 : Int) ≤ y := by omega
        obtain ⟨f1, f2, f3, f4, f5⟩ := fin y (32) (by omega) (by omega) (by omega)
        simp at f4
        simp [wops_cons, idxS, h32, h32', h16, h16', h8, h8', s32, s16, s8, f1, f2, f3, f4, f5, w8, w16, w24, w32, w40, w48, w56]
        exact h
  · have h32' : ¬ (4294967296 : Int) ≤ x := by omega
    have b32 : Sort.bitsLen x = Sort.bitsLen x + 0 := rfl
    have hyx : x < 2 ^ 32 := by omega
    have s16 : ((x : Nat) : Int).fdiv (2 ^ min 16 IntKind.u64.bits) = ((x / 65536 : Nat) : Int) := fdiv_nat x 65536
    by_cases h16 : 65536 ≤ x
    · have b16 := bitsLen_shift 16 x (by simpa using h16)
      have h16' : (65536 : Int) ≤ x := by omega
      obtain ⟨z, hz⟩ : ∃ z, z = x / 65536 := ⟨_, rfl⟩
      rw [← hz] at s16
      simp only [Nat.reducePow] at b16
      rw [← hz] at b16
      have hzx : z < 65536 := by omega
      have s8 : ((z : Nat) : Int).fdiv (2 ^ min 8 IntKind.u64.bits) = ((z / 256 : Nat) : Int) := fdiv_nat z 256
      by_cases h8 : 256 ≤ z
      · have b8 := bitsLen_shift 8 z (by simpa using h8)
        have h8' : (256 : Int) ≤ z := by omega
        obtain ⟨u, hu⟩ : ∃ u, u = z / 256 := ⟨_, rfl⟩
        rw [← hu] at s8
        simp only [Nat.reducePow] at b8
        rw [← hu] at b8
        obtain ⟨f1, f2, f3, f4, f5⟩ := fin u (0 + 16 + 8) (by omega) (by omega) (by omega)
        simp at f4
        simp [wops_cons, idxS, h32, h32', h16, h16', h8, h8', s32, s16, s8, f1, f2, f3, f4, f5, w8, w16, w24, w32, w40, w48, w56]
        exact h
      · have h8' : ¬ (256 : Int) ≤ z := by omega
        obtain ⟨f1, f2, f3, f4, f5⟩ := fin z (0 + 16) (by omega) (by omega) (by omega)
        simp at f4
        simp [wops_cons, idxS, h32, h32', h16, h16', h8, h8', s32, s16, s8, f1, f2, f3, f4, f5, w8, w16, w24, w32, w40, w48, w56]
        exact h
    · have h16' : ¬ (65536 : Int) ≤ x := by omega
      have b16 : Sort.bitsLen x = Sort.bitsLen x + 0 := rfl
      have hzx : x < 65536 := by omega
      have s8 : ((x : Nat) : Int).fdiv (2 ^ min 8 IntKind.u64.bits) = ((x / 256 : Nat) : Int) := fdiv_nat x 256
      by_cases h8 : 256 ≤ x
      · have b8 := bitsLen_shift 8 x (by simpa using h8)
        have h8' : (256 : Int) ≤ x := by omega
        obtain ⟨u, hu⟩ : ∃ u, u = x / 256 := ⟨_, rfl⟩
        rw [← hu] at s8
        simp only [Nat.reducePow] at b8
        rw [← hu] at b8
        obtain ⟨f1, f2, f3, f4, f5⟩ := fin u (0 + 8) (by omega) (by omega) (by omega)
        simp at f4
        simp [wops_cons, idxS, h32, h32', h16, h16', h8, h8', s32, s16, s8, f1, f2, f3, f4, f5, w8, w16, w24, w32, w40, w48, w56]
        exact h
      · have h8' : ¬ (256 : Int) ≤ x := by omega
        obtain ⟨f1, f2, f3, f4, f5⟩ := fin x (0) (by omega) (by omega) (by omega)
        simp at f4
        simp [wops_cons, idxS, h32, h32', h16, h16', h8, h8', s32, s16, s8, f1, f2, f3, f4, f5, w8, w16, w24, w32, w40, w48, w56]
        exact h
theorem len_spec (x : Nat) (hx : x < 2 ^ 62) (σ : CSt) (Q : Out → CSt → Prop) (h : Q (.ret (.int .i64 (Sort.bitsLen x)) false) σ) : W E1 (.fn 66 #[.int .u64 x] none) σ Q := by
  rw [W_fn (fn := Tryz.f66) Tryz.func66 rfl rfl rfl]
  simp [wops_cons]
  refine len64_spec x hx _ _ ?_
  simpa [wops_cons] using h
theorem nextPow_spec (x : Nat) (h0 : 0 < x) (hx : x < 2 ^ 40) (σ : CSt) (Q : Out → CSt → Prop) (h : ∀ m : Nat, 0 < m → m ≤ 2 * x → Q (.ret (.int .u64 m) false) σ) : W E1 (.fn 113 #[.int .i64 x] none) σ Q := by
  rw [W_fn (fn := Tryz.f113) Tryz.func113 rfl rfl rfl]
  have hw : IntKind.u64.wrap (x : Int) = x := IntWalk.u64_in _ (by omega)
  simp [wops_cons, hw]
  refine len_spec x (by omega) _ _ ?_
  have h1 := Sort.two_pow_bitsLen_le h0
  have h2 : Sort.bitsLen x ≤ 40 := (Sort.bitsLen_le_iff x 40).2 hx
  have h3 : min (Sort.bitsLen x) IntKind.u64.bits = Sort.bitsLen x := Nat.min_eq_left (by show _ ≤ 64; omega)
  have h4 : IntKind.u64.wrap ((2 : Int) ^ Sort.bitsLen x) = ((2 ^ Sort.bitsLen x : Nat) : Int) := by
    have e : (2 : Int) ^ Sort.bitsLen x = ((2 ^ Sort.bitsLen x : Nat) : Int) := by simp
    rw [e]
    generalize 2 ^ Sort.bitsLen x = m at h1
    exact IntWalk.u64_in _ (by omega)
  have h5 := Nat.two_pow_pos (Sort.bitsLen x)
  generalize hm : 2 ^ Sort.bitsLen x = m at h1 h4 h5
  have := h m h5 h1
  simpa [wops_cons, h3, h4] using this
theorem next_spec (p : Nat) (r : Int) (σ : CSt) (hp : σ.get p = some (.cells [.int .u64 r] 166 false)) (Q : Out → CSt → Prop)
    (h : ∀ (r' : Int) (σ' : CSt), 0 ≤ r' → r' < 2 ^ 64 → σ'.get p = some (.cells [.int .u64 r'] 166 false) → σ'.n = σ.n → (∀ j, j ≠ p → σ'.get j = σ.get j) → Q (.ret (.int .u64 r') false) σ') : W E1 (.fn 114 #[.pointer (some ⟨p, 0, none⟩)] none) σ Q := by
  rw [W_fn (fn := Tryz.f114) Tryz.func114 rfl rfl rfl]
  simp [wops_cons]
  refine W_calm (by kernel_rfl) ?_
  simp [wops_cons, dops_cons, hp]
  refine W_calm (by kernel_rfl) ?_
  simp [wops_cons, dops_cons, hp]
  refine W_calm (by kernel_rfl) ?_
  simp [wops_cons, dops_cons, hp]
  refine h _ _ ?_ ?_ (by simp) (by simp) (fun j hj => by simp [CSt.get_put, hj])
  · exact (u64_rng _).1
  · exact (u64_rng _).2
theorem andI_lt (a : Int) (m : Nat) (h0 : 0 ≤ a) (ha : a < 2 ^ 64) (hm : 0 < m) (hb : m < 2 ^ 62) : ∃ r : Nat, andI .u64 a ((m - 1 : Nat) : Int) = r ∧ r < m := by
  refine ⟨a.toNat &&& (m - 1), ?_, Nat.lt_of_le_of_lt Nat.and_le_right (by omega)⟩
  unfold andI
  have e1 : (BitVec.ofInt IntKind.u64.bits a).toNat = a.toNat := by
    rw [BitVec.toNat_ofInt]
    show (a % ((2 ^ 64 : Nat) : Int)).toNat = _
    rw [Int.emod_eq_of_lt h0 (by simpa using ha)]
  have e2 : (BitVec.ofInt IntKind.u64.bits ((m - 1 : Nat) : Int)).toNat = m - 1 := by
    rw [BitVec.toNat_ofInt]
    show (((m - 1 : Nat) : Int) % ((2 ^ 64 : Nat) : Int)).toNat = _
    rw [Int.emod_eq_of_lt (by omega) (by omega)]
    rfl
  rw [BitVec.toNat_and, e1, e2]
  have := Nat.and_le_right (n := a.toNat) (m := m - 1)
  exact IntWalk.u64_in _ (by omega)
end Go.Sm
/- Sorting: the patterns broken. -/
set_option linter.unusedVariables false
set_option linter.unusedSimpArgs false
namespace Go.Sm
open Go Go.Proofs
set_option maxRecDepth 100000
set_option maxHeartbeats 4000000
theorem swp_permSP {d : Array Sn} {a b i j : Nat} (h1 : a ≤ i) (h2 : i < b) (h3 : a ≤ j) (h4 : j < b) (h5 : b ≤ d.size) : Sort.PermIn a b d (Sort.swp d i j) := Sort.swp_permIn d a b i j h1 h2 h3 h4 h5
theorem break_sP (n0 : Nat) (d : Array Sn) (hn0 : d.size = n0) (i cap : Nat) (pre post : List Value) (a b : Nat) (σ : CSt) (hv : PV σ i pre post d) (hb : b ≤ n0) (hbig : n0 < 2 ^ 40) (ha : a ≤ b) (Q : Out → CSt → Prop)
    (h : ∀ σ' d', Sort.PermIn a b d d' → PV σ' i pre post d' → But i σ σ' → Q (.ret (.tuple #[]) false) σ') :
    W E1 (.fn 106 #[.slice (some ⟨i, pre.length, none⟩) n0 cap, .int .i64 a, .int .i64 b, (.func (.func 53) #[] #[])] none) σ Q := by
  have hcn' : (0 : Int) < 1 := by decide
  rw [W_fn (fn := Tryz.f106) Tryz.func106 rfl rfl rfl]
  obtain ⟨len, hlen⟩ : ∃ len, len = b - a := ⟨_, rfl⟩
  have hw1 : IntKind.i64.wrap ((b : Int) - a) = (len : Int) := by rw [IntWalk.i64_in _ (by omega)]; omega
  by_cases h8 : 8 ≤ len
  · have h8' : (8 : Int) ≤ len := by omega
    obtain ⟨q, hq⟩ : ∃ q, q = len / 4 := ⟨_, rfl⟩
    have hw2 : IntKind.u64.wrap (len : Int) = len := IntWalk.u64_in _ (by omega)
    have hw3 : IntKind.i64.wrap ((len : Int).tdiv 4) = (q : Int) := by rw [IntWalk.i64_quo _ _ (by omega)]; omega
    have hw3' : IntKind.i64.wrap ((len : Int) / 4) = (q : Int) := by rw [IntWalk.i64_in _ (by omega)]; omega
    have hw4 : IntKind.i64.wrap ((q : Int) * 2) = (q : Int) * 2 := IntWalk.i64_in _ (by omega)
    have hw5 : IntKind.i64.wrap ((a : Int) + (q : Int) * 2) = ((a + q * 2 : Nat) : Int) := by rw [IntWalk.i64_in _ (by omega)]; omega
    obtain ⟨m0, hm0⟩ : ∃ m0, m0 = a + q * 2 := ⟨_, rfl⟩
    rw [← hm0] at hw5
    have hw6 : IntKind.i64.wrap ((m0 : Int) - 1) = ((m0 - 1 : Nat) : Int) := i64p m0 (by omega) (by omega)
    have hw7 : IntKind.i64.wrap ((m0 : Int) + 1) = ((m0 + 1 : Nat) : Int) := i64n1 m0 (by omega)
    simp [wops_cons, dops_cons, dops_if, dstOf, -Nat.not_lt, lenS, cokS, hcn', hw1, h8, h8', hw2]
    have hga : But i σ ((σ.alloc (.cells [.int .u64 0] 166 false)).put σ.n (.cells [.int .u64 len] 166 false)) := ((But.refl i σ).alloc _).put (Nat.le_refl _) _
    have hin := hv.2
    refine nextPow_spec len (by omega) (by omega) _ _ fun m hm hm2 => ?_
    simp [wops_cons, dops_cons, dops_if, dstOf, -st_eq, -ld_eq, -Nat.not_lt, lenS, cokS, hcn', hw1, hw3, hw3', hw4, hw5, hw6]
    refine W_loop_inv (fun n A σ' => ∃ tm k d' r, A = ⟨tm, 67, [], false⟩ ∧ tm.get 0 = some (.slice (some ⟨i, pre.length, none⟩) n0 cap) ∧ tm.get 3 = some (.func (.func 53) #[] #[]) ∧ tm.get 1 = some (.int .i64 (a : Nat)) ∧ tm.get 8 = some (.int .i64 (len : Nat)) ∧ tm.get 9 = some (.pointer (some ⟨σ.n, 0, none⟩)) ∧ tm.get 10 = some (.int .u64 (m : Nat)) ∧ tm.get 11 = some (.int .i64 (k : Nat)) ∧ m0 - 1 ≤ k ∧ n = m0 + 2 - k ∧ k ≤ m0 + 2 ∧ Sort.PermIn a b d d' ∧ d'.size = n0 ∧ σ'.get σ.n = some (.cells [.int .u64 r] 166 false) ∧ PV σ' i pre post d' ∧ But i σ σ') ?_ 3 _ _ ?_
    · rintro n A σ1 ⟨tm, k, d1, r, rfl, e0, e3, e1, e8, e9, e10, e11, hk, hn, hk2, hpm, hsz, hx, hv1, hg1⟩
      by_cases hkm : k ≤ m0 + 1
      · have hkm' : (k : Int) ≤ ((m0 + 1 : Nat) : Int) := by omega
        have hkm2 : (k : Int) ≤ (m0 : Int) + 1 := by omega
        simp [wops_cons, dops_cons, dops_if, dstOf, -st_eq, -ld_eq, -Nat.not_lt, lenS, cokS, hcn', e0, e3, e1, e8, e9, e10, e11, hw3, hw3', hw4, hw5, hw7, hkm, hkm', hkm2]
        refine next_spec σ.n r σ1 hx _ fun r' σ2 hr0 hr1 hx2 hn2 hoth => ?_
        have hm1 : IntKind.u64.wrap ((m : Int) - 1) = ((m - 1 : Nat) : Int) := by rw [IntWalk.u64_in _ (by omega)]; omega
        obtain ⟨o, ho, hom⟩ := andI_lt r' m hr0 hr1 hm (by omega)
        have hwo : IntKind.i64.wrap (o : Int) = (o : Int) := IntWalk.i64_in _ (by omega)
        have hv2 : PV σ2 i pre post d1 := ⟨by rw [hoth i (by omega)]; exact hv1.1, by rw [hn2]; exact hv1.2⟩
        have hg2 : But i σ σ2 := ⟨by rw [hn2]; exact hg1.1, fun j hj hne => by rw [hoth j (by omega)]; exact hg1.2 j hj hne⟩
        have hgi := hv2.1
        have hwk := i64n1 k (by omega)
        by_cases hol : len ≤ o
        · have hol' : (len : Int) ≤ o := by omega
          obtain ⟨o2, ho2⟩ : ∃ o2, o2 = o - len := ⟨_, rfl⟩
          have hwo2 : IntKind.i64.wrap ((o : Int) - len) = (o2 : Int) := by rw [IntWalk.i64_in _ (by omega)]; omega
          simp [wops_cons, dops_cons, dops_if, dstOf, -st_eq, -ld_eq, -Nat.not_lt, lenS, cokS, hcn', e0, e3, e1, e8, e9, e10, e11, hm1, ho, hwo, hol, hol', hwo2]
          refine W_calm (by kernel_rfl) ?_
          obtain ⟨p, hp⟩ : ∃ p, p = a + o2 := ⟨_, rfl⟩
          have hwp : IntKind.i64.wrap ((a : Int) + (o2 : Nat)) = (p : Int) := by rw [IntWalk.i64_in _ (by omega)]; omega
          have hpd : p < n0 := by omega
          have hkd : k < n0 := by omega
          have hrp := rowP_get (pre := pre) (post := post) (d := d1) (j := p) (by omega)
          have hrk := rowP_get (pre := pre) (post := post) (d := d1) (j := k) (by omega)
          have hst1 := rowP_st (pre := pre) (post := post) (d := d1) (j := k) (by first | omega | (simp; omega)) (aget d1 p)
          have hst2 := rowP_st (pre := pre) (post := post) (d := aset d1 k (aget d1 p)) (j := p) (by first | omega | (simp; omega)) (aget d1 k)
          simp [wops_cons, dops_cons, dops_if, dstOf, -st_eq, -ld_eq, -Nat.not_lt, lenS, cokS, hcn', e0, e3, e1, e8, e9, e10, e11, hwp, hpd, hkd, hgi, hrp, hrk, hst1, hst2, hwk]
          rw [← swp_aset]
          refine ⟨m0 + 2 - (k + 1), by omega, k + 1, rfl, by omega, rfl, by omega, _, Sort.permIn_trans _ _ _ _ _ hpm (swp_permSP (by omega) (by omega) (by omega) (by omega) (by omega)), by simp [hsz], ⟨r', ?_⟩, (hv2.put _).put _, (hg2.putL _).putL _⟩
          rw [if_neg (by omega), if_neg (by omega)]
          exact hx2
        · have hol' : ¬ (len : Int) ≤ o := by omega
          simp [wops_cons, dops_cons, dops_if, dstOf, -st_eq, -ld_eq, -Nat.not_lt, lenS, cokS, hcn', e0, e3, e1, e8, e9, e10, e11, hm1, ho, hwo, hol, hol']
          refine W_calm (by kernel_rfl) ?_
          obtain ⟨p, hp⟩ : ∃ p, p = a + o := ⟨_, rfl⟩
          have hwp : IntKind.i64.wrap ((a : Int) + (o : Nat)) = (p : Int) := by rw [IntWalk.i64_in _ (by omega)]; omega
          have hpd : p < n0 := by omega
          have hkd : k < n0 := by omega
          have hrp := rowP_get (pre := pre) (post := post) (d := d1) (j := p) (by omega)
          have hrk := rowP_get (pre := pre) (post := post) (d := d1) (j := k) (by omega)
          have hst1 := rowP_st (pre := pre) (post := post) (d := d1) (j := k) (by first | omega | (simp; omega)) (aget d1 p)
          have hst2 := rowP_st (pre := pre) (post := post) (d := aset d1 k (aget d1 p)) (j := p) (by first | omega | (simp; omega)) (aget d1 k)
          simp [wops_cons, dops_cons, dops_if, dstOf, -st_eq, -ld_eq, -Nat.not_lt, lenS, cokS, hcn', e0, e3, e1, e8, e9, e10, e11, hwp, hpd, hkd, hgi, hrp, hrk, hst1, hst2, hwk]
          rw [← swp_aset]
          refine ⟨m0 + 2 - (k + 1), by omega, k + 1, rfl, by omega, rfl, by omega, _, Sort.permIn_trans _ _ _ _ _ hpm (swp_permSP (by omega) (by omega) (by omega) (by omega) (by omega)), by simp [hsz], ⟨r', ?_⟩, (hv2.put _).put _, (hg2.putL _).putL _⟩
          rw [if_neg (by omega), if_neg (by omega)]
          exact hx2
      · have hkm' : ¬ (k : Int) ≤ ((m0 + 1 : Nat) : Int) := by omega
        have hkm2 : ¬ (k : Int) ≤ (m0 : Int) + 1 := by omega
        simp [wops_cons, dops_cons, dops_if, dstOf, -st_eq, -ld_eq, -Nat.not_lt, lenS, cokS, hcn', e0, e3, e1, e8, e9, e10, e11, hw3, hw3', hw4, hw5, hw7, hkm, hkm', hkm2]
        exact h σ1 d1 hpm hv1 hg1
    · refine ⟨_, m0 - 1, d, len, rfl, ?_⟩
      simp
      exact ⟨by omega, by omega, Sort.permIn_refl d a b, hn0, ⟨by rw [CSt.get_put, if_neg (by omega), CSt.get_alloc, if_neg (by omega)]; exact hv.1, by simp; omega⟩, hga⟩
  · have h8' : ¬ (8 : Int) ≤ len := by omega
    simp [wops_cons, dops_cons, dops_if, dstOf, -st_eq, -ld_eq, -Nat.not_lt, lenS, cokS, hcn', hw1, h8, h8']
    exact h σ d (Sort.permIn_refl d a b) hv (But.refl i σ)
end Go.Sm
/- Sorting strings: the pivot. -/
set_option linter.unusedVariables false
set_option linter.unusedSimpArgs false
namespace Go.Sm
open Go Go.Proofs
set_option maxRecDepth 100000
set_option maxHeartbeats 4000000
/-- But for a counter. -/
def CntP (p : Nat) (σ σ' : CSt) : Prop := σ.n ≤ σ'.n ∧ (∀ j, j < σ.n → j ≠ p → σ'.get j = σ.get j) ∧ ∃ s : Int, σ'.get p = some (.cells [.int .i64 s] 3 false)
theorem CntP.trans {p : Nat} {a b c : CSt} (h : CntP p a b) (h' : CntP p b c) : CntP p a c := ⟨Nat.le_trans h.1 h'.1, fun j hj hne => by rw [h'.2.1 j (Nat.lt_of_lt_of_le hj h.1) hne, h.2.1 j hj hne], h'.2.2⟩
theorem PV.cntP {p i : Nat} {pre post : List Value} {d : Array Sn} {σ σ' : CSt} (h : PV σ i pre post d) (hs : CntP p σ σ') (hne : i ≠ p) : PV σ' i pre post d := ⟨by rw [hs.2.1 i h.2 hne]; exact h.1, Nat.lt_of_lt_of_le h.2 hs.1⟩
theorem order2_sP (n0 : Nat) (d : Array Sn) (hn0 : d.size = n0) (i cap : Nat) (pre post : List Value) (a b p : Nat) (σ : CSt) (hv : PV σ i pre post d) (ha : a < n0) (hb : b < n0) (hip : i ≠ p) (hpn : p < σ.n) (s : Int) (hp : σ.get p = some (.cells [.int .i64 s] 3 false)) (Q : Out → CSt → Prop)
    (h : ∀ (x y : Nat) σ', (x = a ∧ y = b) ∨ (x = b ∧ y = a) → CntP p σ σ' → Q (.ret (.tuple #[.int .i64 x, .int .i64 y]) false) σ') :
    W E1 (.fn 145 #[.slice (some ⟨i, pre.length, none⟩) n0 cap, .int .i64 a, .int .i64 b, .pointer (some ⟨p, 0, none⟩), (.func (.func 53) #[] #[])] none) σ Q := by
  have hcn' : (0 : Int) < 1 := by decide
  rw [W_fn (fn := Tryz.f145) Tryz.func145 rfl rfl rfl]
  have hgi := hv.1
  have hra := rowP_get (pre := pre) (post := post) (d := d) (j := a) (by omega)
  have hrb := rowP_get (pre := pre) (post := post) (d := d) (j := b) (by omega)
  simp [wops_cons, dops_cons, dops_if, dstOf, -st_eq, -ld_eq, -Nat.not_lt, lenS, cokS, hcn']
  refine W_calm (by kernel_rfl) ?_
  simp [wops_cons, dops_cons, dops_if, dstOf, -st_eq, -ld_eq, -Nat.not_lt, lenS, cokS, hcn', ha, hb, hgi, hra, hrb]
  refine less_p _ _ _ _ fun cn σ1 gc hcn => ?_
  have hp1 := gc.get hp hpn
  cases hl : ltS (aget d b) (aget d a)
  · have hcn' : ¬ cn < 0 := by simpa [hl] using hcn
    simp [wops_cons, dops_cons, dops_if, dstOf, -st_eq, -ld_eq, -Nat.not_lt, lenS, cokS, hcn']
    exact h a b σ1 (.inl ⟨rfl, rfl⟩) ⟨gc.n, fun j hj _ => gc.old j hj, s, hp1⟩
  · have hcn' : cn < 0 := by simpa [hl] using hcn
    simp [wops_cons, dops_cons, dops_if, dstOf, -Nat.not_lt, lenS, cokS, hcn', hp1]
    refine h b a _ (.inr ⟨rfl, rfl⟩) ⟨gc.n, fun j hj hne => by rw [CSt.get_put, if_neg hne]; exact gc.old j hj, ?_⟩
    exact ⟨_, by rw [CSt.get_put, if_pos rfl]⟩
theorem median_sP (n0 : Nat) (d : Array Sn) (hn0 : d.size = n0) (i cap : Nat) (pre post : List Value) (a b c p : Nat) (σ : CSt) (hv : PV σ i pre post d) (ha : a < n0) (hb : b < n0) (hc : c < n0) (hip : i ≠ p) (hpn : p < σ.n) (s : Int) (hp : σ.get p = some (.cells [.int .i64 s] 3 false)) (Q : Out → CSt → Prop)
    (h : ∀ (x : Nat) σ', x = a ∨ x = b ∨ x = c → CntP p σ σ' → Q (.ret (.int .i64 x) false) σ') :
    W E1 (.fn 129 #[.slice (some ⟨i, pre.length, none⟩) n0 cap, .int .i64 a, .int .i64 b, .int .i64 c, .pointer (some ⟨p, 0, none⟩), (.func (.func 53) #[] #[])] none) σ Q := by
  have hcn' : (0 : Int) < 1 := by decide
  rw [W_fn (fn := Tryz.f129) Tryz.func129 rfl rfl rfl]
  simp [wops_cons, dops_cons, dops_if, dstOf, -st_eq, -ld_eq, -Nat.not_lt, lenS, cokS, hcn']
  refine order2_sP n0 d hn0 i cap pre post a b p σ hv ha hb hip hpn s hp _ fun x y σ1 hxy h1 => ?_
  obtain ⟨s1, hs1⟩ := h1.2.2
  simp [wops_cons, dops_cons, dops_if, dstOf, -st_eq, -ld_eq, -Nat.not_lt, lenS, cokS, hcn']
  refine order2_sP n0 d hn0 i cap pre post y c p σ1 (hv.cntP h1 hip) (by omega) hc hip (Nat.lt_of_lt_of_le hpn h1.1) s1 hs1 _ fun z w σ2 hzw h2 => ?_
  obtain ⟨s2, hs2⟩ := h2.2.2
  simp [wops_cons, dops_cons, dops_if, dstOf, -st_eq, -ld_eq, -Nat.not_lt, lenS, cokS, hcn']
  refine order2_sP n0 d hn0 i cap pre post x z p σ2 (hv.cntP (h1.trans h2) hip) (by omega) (by omega) hip (Nat.lt_of_lt_of_le hpn (h1.trans h2).1) s2 hs2 _ fun u v σ3 huv h3 => ?_
  simp [wops_cons, dops_cons, dops_if, dstOf, -st_eq, -ld_eq, -Nat.not_lt, lenS, cokS, hcn']
  exact h v σ3 (by omega) ((h1.trans h2).trans h3)
theorem medadj_sP (n0 : Nat) (d : Array Sn) (hn0 : d.size = n0) (i cap : Nat) (pre post : List Value) (a p : Nat) (σ : CSt) (hv : PV σ i pre post d) (ha0 : 0 < a) (ha : a + 1 < n0) (hbig : n0 < 2 ^ 40) (hip : i ≠ p) (hpn : p < σ.n) (s : Int) (hp : σ.get p = some (.cells [.int .i64 s] 3 false)) (Q : Out → CSt → Prop)
    (h : ∀ (x : Nat) σ', a - 1 ≤ x → x ≤ a + 1 → CntP p σ σ' → Q (.ret (.int .i64 x) false) σ') :
    W E1 (.fn 128 #[.slice (some ⟨i, pre.length, none⟩) n0 cap, .int .i64 a, .pointer (some ⟨p, 0, none⟩), (.func (.func 53) #[] #[])] none) σ Q := by
  have hcn' : (0 : Int) < 1 := by decide
  rw [W_fn (fn := Tryz.f128) Tryz.func128 rfl rfl rfl]
  have hw1 := i64p a (by omega) (by omega)
  obtain ⟨a1, ha1⟩ : ∃ a1, a1 = a + 1 := ⟨_, rfl⟩
  have hw2 : IntKind.i64.wrap ((a : Int) + 1) = (a1 : Int) := by rw [i64n1 a (by omega), ha1]
  simp [wops_cons, dops_cons, dops_if, dstOf, -st_eq, -ld_eq, -Nat.not_lt, lenS, cokS, hcn', hw1, hw2]
  refine median_sP n0 d hn0 i cap pre post (a - 1) a a1 p σ hv (by omega) (by omega) (by omega) hip hpn s hp _ fun x σ1 hx h1 => ?_
  simp [wops_cons, dops_cons, dops_if, dstOf, -st_eq, -ld_eq, -Nat.not_lt, lenS, cokS, hcn']
  exact h x σ1 (by omega) (by omega) h1
theorem piv_arP {n0 a b len q x y z : Nat} (hb : b ≤ n0) (hlen : len = b - a) (hq : q = len / 4) (hx : x = a + q) (hy : y = a + q * 2) (hz : z = a + q * 3) (hab : a < b) : a ≤ x ∧ a ≤ y ∧ a ≤ z ∧ x < b ∧ y < b ∧ z < b ∧ x < n0 ∧ y < n0 ∧ z < n0 ∧ (8 ≤ len → a < x ∧ a < y ∧ a < z ∧ 0 < x ∧ 0 < y ∧ 0 < z ∧ x + 1 < b ∧ y + 1 < b ∧ z + 1 < b ∧ x + 1 < n0 ∧ y + 1 < n0 ∧ z + 1 < n0) := by omega
theorem piv_inP {n0 a b x x' : Nat} (hb : b ≤ n0) (h1 : a < x) (h2 : x + 1 < b) (h3 : x - 1 ≤ x') (h4 : x' ≤ x + 1) : a ≤ x' ∧ x' < b ∧ x' < n0 := by omega
theorem piv_orP {a b x y z u : Nat} (hu : u = x ∨ u = y ∨ u = z) (hx : a ≤ x ∧ x < b) (hy : a ≤ y ∧ y < b) (hz : a ≤ z ∧ z < b) : a ≤ u ∧ u < b := by omega
theorem pivot_sP (n0 : Nat) (d : Array Sn) (hn0 : d.size = n0) (i cap : Nat) (pre post : List Value) (a b : Nat) (σ : CSt) (hv : PV σ i pre post d) (hb : b ≤ n0) (hbig : n0 < 2 ^ 40) (hab : a < b) (Q : Out → CSt → Prop)
    (h : ∀ (x : Nat) (hint : Int) σ', a ≤ x → x < b → (hint = 0 ∨ hint = 1 ∨ hint = 2) → PV σ' i pre post d → But i σ σ' → Q (.ret (.tuple #[.int .i64 x, .int .i64 hint]) false) σ') :
    W E1 (.fn 107 #[.slice (some ⟨i, pre.length, none⟩) n0 cap, .int .i64 a, .int .i64 b, (.func (.func 53) #[] #[])] none) σ Q := by
  have hcn' : (0 : Int) < 1 := by decide
  rw [W_fn (fn := Tryz.f107) Tryz.func107 rfl rfl rfl]
  obtain ⟨len, hlen⟩ : ∃ len, len = b - a := ⟨_, rfl⟩
  have hw1 : IntKind.i64.wrap ((b : Int) - a) = (len : Int) := by rw [IntWalk.i64_in _ (by omega)]; omega
  obtain ⟨q, hq⟩ : ∃ q, q = len / 4 := ⟨_, rfl⟩
  have hw3 : IntKind.i64.wrap ((len : Int).tdiv 4) = (q : Int) := by rw [IntWalk.i64_quo _ _ (by omega)]; omega
  have hw3' : IntKind.i64.wrap ((len : Int) / 4) = (q : Int) := by rw [IntWalk.i64_in _ (by omega)]; omega
  obtain ⟨x, hx⟩ : ∃ x, x = a + q := ⟨_, rfl⟩
  obtain ⟨y, hy⟩ : ∃ y, y = a + q * 2 := ⟨_, rfl⟩
  obtain ⟨z, hz⟩ : ∃ z, z = a + q * 3 := ⟨_, rfl⟩
  have hm1 : IntKind.i64.wrap (q : Int) = (q : Int) := IntWalk.i64_in _ (by omega)
  have hm1' : IntKind.i64.wrap ((q : Int) * 1) = (q : Int) := by rw [IntWalk.i64_in _ (by omega)]; omega
  have hm2 : IntKind.i64.wrap ((q : Int) * 2) = (q : Int) * 2 := IntWalk.i64_in _ (by omega)
  have hm3 : IntKind.i64.wrap ((q : Int) * 3) = (q : Int) * 3 := IntWalk.i64_in _ (by omega)
  have hwx : IntKind.i64.wrap ((a : Int) + q) = (x : Int) := by rw [IntWalk.i64_in _ (by omega)]; omega
  have hwy : IntKind.i64.wrap ((a : Int) + (q : Int) * 2) = (y : Int) := by rw [IntWalk.i64_in _ (by omega)]; omega
  have hwz : IntKind.i64.wrap ((a : Int) + (q : Int) * 3) = (z : Int) := by rw [IntWalk.i64_in _ (by omega)]; omega
  obtain ⟨ax, ay, az, xb, yb, zb, xn, yn, zn, hA⟩ := piv_arP hb hlen hq hx hy hz hab
  have hin := hv.2
  have hip : i ≠ σ.n := Nat.ne_of_lt hin
  have hga : But i σ (σ.alloc (.cells [.int .i64 0] 3 false)) := (But.refl i σ).alloc _
  have hva : PV (σ.alloc (.cells [.int .i64 0] 3 false)) i pre post d := ⟨by rw [CSt.get_alloc, if_neg hip]; exact hv.1, by simp; omega⟩
  have hpa : (σ.alloc (.cells [.int .i64 0] 3 false)).get σ.n = some (.cells [.int .i64 0] 3 false) := by simp
  have hpn : σ.n < (σ.alloc (.cells [.int .i64 0] 3 false)).n := by simp
  have hsw : ∀ {s : CSt}, CntP σ.n (σ.alloc (.cells [.int .i64 0] 3 false)) s → But i σ s := fun hs => ⟨Nat.le_trans hga.1 hs.1, fun j hj hne => by rw [hs.2.1 j (Nat.lt_of_lt_of_le hj hga.1) (by omega)]; exact hga.2 j hj hne⟩
  have hend : ∀ (u : Nat) (s1 : CSt) (s : Int), a ≤ u → u < b → CntP σ.n (σ.alloc (.cells [.int .i64 0] 3 false)) s1 → (s = 0 ∨ s = 1 ∨ s = 2) → Q (.ret (.tuple #[.int .i64 u, .int .i64 s]) false) s1 := fun u s1 s h1 h2 h3 h4 => h u s s1 h1 h2 h4 (hva.cntP h3 hip) (hsw h3)
  by_cases h8 : 8 ≤ len
  · have h8' : (8 : Int) ≤ len := by omega
    obtain ⟨lax, lay, laz, x0, y0, z0, x1b, y1b, z1b, x1n, y1n, z1n⟩ := hA h8
    by_cases h50 : 50 ≤ len
    · have h50' : (50 : Int) ≤ len := by omega
      simp [wops_cons, dops_cons, dops_if, dstOf, -st_eq, -ld_eq, -Nat.not_lt, lenS, cokS, hcn', hw1, hw3, hw3', hm1, hm1', hm2, hm3, hwx, hwy, hwz, h8, h8', h50, h50']
      refine medadj_sP n0 d hn0 i cap pre post x σ.n _ hva x0 x1n hbig hip hpn 0 hpa _ fun x' σ1 hx1 hx2 h1 => ?_
      obtain ⟨s1, hs1⟩ := h1.2.2
      simp [wops_cons, dops_cons, dops_if, dstOf, -st_eq, -ld_eq, -Nat.not_lt, lenS, cokS, hcn']
      refine medadj_sP n0 d hn0 i cap pre post y σ.n _ (hva.cntP h1 hip) y0 y1n hbig hip (Nat.lt_of_lt_of_le hpn h1.1) s1 hs1 _ fun y' σ2 hy1 hy2 h2 => ?_
      obtain ⟨s2, hs2⟩ := h2.2.2
      have h12 := h1.trans h2
      simp [wops_cons, dops_cons, dops_if, dstOf, -st_eq, -ld_eq, -Nat.not_lt, lenS, cokS, hcn']
      refine medadj_sP n0 d hn0 i cap pre post z σ.n _ (hva.cntP h12 hip) z0 z1n hbig hip (Nat.lt_of_lt_of_le hpn h12.1) s2 hs2 _ fun z' σ3 hz1 hz2 h3 => ?_
      obtain ⟨s3, hs3⟩ := h3.2.2
      have h13 := h12.trans h3
      simp [wops_cons, dops_cons, dops_if, dstOf, -st_eq, -ld_eq, -Nat.not_lt, lenS, cokS, hcn']
      obtain ⟨k1, k2, k3⟩ := piv_inP hb lax x1b hx1 hx2
      obtain ⟨k4, k5, k6⟩ := piv_inP hb lay y1b hy1 hy2
      obtain ⟨k7, k8, k9⟩ := piv_inP hb laz z1b hz1 hz2
      have hpb := fun u hu => piv_orP (u := u) hu ⟨k1, k2⟩ ⟨k4, k5⟩ ⟨k7, k8⟩
      refine median_sP n0 d hn0 i cap pre post x' y' z' σ.n _ (hva.cntP h13 hip) k3 k6 k9 hip (Nat.lt_of_lt_of_le hpn h13.1) s3 hs3 _ fun u σ4 hu h4 => ?_
      obtain ⟨s4, hs4⟩ := ((h13.trans h4)).2.2
      replace hpb := hpb u hu
      by_cases h0 : s4 = 0
      · simp [wops_cons, dops_cons, dops_if, dstOf, -Nat.not_lt, lenS, cokS, hcn', hs4, h0]
        exact hend u σ4 1 hpb.1 hpb.2 (h13.trans h4) (.inr (.inl rfl))
      · by_cases h12' : s4 = 12
        · simp [wops_cons, dops_cons, dops_if, dstOf, -Nat.not_lt, lenS, cokS, hcn', hs4, h0, h12']
          exact hend u σ4 2 hpb.1 hpb.2 (h13.trans h4) (.inr (.inr rfl))
        · simp [wops_cons, dops_cons, dops_if, dstOf, -Nat.not_lt, lenS, cokS, hcn', hs4, h0, h12']
          exact hend u σ4 0 hpb.1 hpb.2 (h13.trans h4) (.inl rfl)
    · have h50' : ¬ (50 : Int) ≤ len := by omega
      simp [wops_cons, dops_cons, dops_if, dstOf, -st_eq, -ld_eq, -Nat.not_lt, lenS, cokS, hcn', hw1, hw3, hw3', hm1, hm1', hm2, hm3, hwx, hwy, hwz, h8, h8', h50, h50']
      have hpb := fun u hu => piv_orP (u := u) hu ⟨ax, xb⟩ ⟨ay, yb⟩ ⟨az, zb⟩
      refine median_sP n0 d hn0 i cap pre post x y z σ.n _ hva xn yn zn hip hpn 0 hpa _ fun u σ4 hu h4 => ?_
      obtain ⟨s4, hs4⟩ := (h4).2.2
      replace hpb := hpb u hu
      by_cases h0 : s4 = 0
      · simp [wops_cons, dops_cons, dops_if, dstOf, -Nat.not_lt, lenS, cokS, hcn', hs4, h0]
        exact hend u σ4 1 hpb.1 hpb.2 h4 (.inr (.inl rfl))
      · by_cases h12' : s4 = 12
        · simp [wops_cons, dops_cons, dops_if, dstOf, -Nat.not_lt, lenS, cokS, hcn', hs4, h0, h12']
          exact hend u σ4 2 hpb.1 hpb.2 h4 (.inr (.inr rfl))
        · simp [wops_cons, dops_cons, dops_if, dstOf, -Nat.not_lt, lenS, cokS, hcn', hs4, h0, h12']
          exact hend u σ4 0 hpb.1 hpb.2 h4 (.inl rfl)
  · have h8' : ¬ (8 : Int) ≤ len := by omega
    simp [wops_cons, dops_cons, dops_if, dstOf, -st_eq, -ld_eq, -Nat.not_lt, lenS, cokS, hcn', hw1, hw3, hw3', hm1, hm1', hm2, hm3, hwx, hwy, hwz, h8, h8']
    exact hend y _ 1 ay yb ⟨Nat.le_refl _, fun _ _ _ => rfl, 0, hpa⟩ (.inr (.inl rfl))
end Go.Sm
/- Sorting strings: partial insertion sort. -/
set_option linter.unusedVariables false
set_option linter.unusedSimpArgs false
namespace Go.Sm
open Go Go.Proofs
set_option maxRecDepth 100000
set_option maxHeartbeats 4000000
section
variable {lt : Sn → Sn → Bool}
theorem shiftDown_sizeP : ∀ (j : Nat) (d : Array Sn), (Sort.shiftDown lt j d).size = d.size
  | 0, d => rfl
  | j + 1, d => by
    rw [Sort.shiftDown]
    split
    · rfl
    · rw [shiftDown_sizeP j]; simp
theorem shiftUp_sizeP (b j : Nat) (d : Array Sn) : (Sort.shiftUp lt b j d).size = d.size := by
  fun_induction Sort.shiftUp lt b j d <;> simp_all
theorem scanSorted_rngP (d : Array Sn) (b i : Nat) : i ≤ b → i ≤ Sort.scanSorted lt d b i ∧ Sort.scanSorted lt d b i ≤ b := by
  fun_induction Sort.scanSorted lt d b i with
  | case1 i h ih => intro h1; simp at h; have := ih (by omega); omega
  | case2 i h => intro h1; omega
end
theorem pins_ar {a b n0 k s2 : Nat} (h1 : a + 1 ≤ k) (h2 : k < b) (h3 : b ≤ n0) : 0 < k ∧ k < n0 ∧ k - 1 < n0 ∧ k ≤ n0 := by omega
theorem partIns_sP (n0 : Nat) (d : Array Sn) (hn0 : d.size = n0) (i cap : Nat) (pre post : List Value) (a b : Nat) (σ : CSt) (hv : PV σ i pre post d) (hb : b ≤ n0) (hbig : n0 < 2 ^ 40) (hab : a < b) (Q : Out → CSt → Prop)
    (h : ∀ σ', PV σ' i pre post (Sort.partialInsertionSort ltS d a b).1 → But i σ σ' → Q (.ret (.bool (Sort.partialInsertionSort ltS d a b).2) false) σ') :
    W E1 (.fn 109 #[.slice (some ⟨i, pre.length, none⟩) n0 cap, .int .i64 a, .int .i64 b, (.func (.func 53) #[] #[])] none) σ Q := by
  have hcn' : (0 : Int) < 1 := by decide
  rw [W_fn (fn := Tryz.f109) Tryz.func109 rfl rfl rfl]
  unfold Sort.partialInsertionSort at h
  have hwa := i64n1 a (by omega)
  simp [wops_cons, dops_cons, dops_if, dstOf, -st_eq, -ld_eq, -Nat.not_lt, lenS, cokS, hcn', hwa]
  refine W_loop_inv (fun n A σ' => ∃ tm k s d', A = ⟨tm, 141, [], false⟩ ∧ tm.get 0 = some (.slice (some ⟨i, pre.length, none⟩) n0 cap) ∧ tm.get 3 = some (.func (.func 53) #[] #[]) ∧ tm.get 1 = some (.int .i64 a) ∧ tm.get 2 = some (.int .i64 b) ∧ tm.get 8 = some (.bool false) ∧ tm.get 9 = some (.int .i64 (k : Nat)) ∧ tm.get 10 = some (.int .i64 (s : Nat)) ∧ a + 1 ≤ k ∧ k ≤ b ∧ s ≤ 5 ∧ n = 5 - s ∧ d'.size = n0 ∧ Sort.partialIns ltS a b (5 - s) k d' = Sort.partialIns ltS a b 5 (a + 1) d ∧ PV σ' i pre post d' ∧ But i σ σ') ?_ 5 _ _ ?_
  · rintro n A σ1 ⟨tm, k, s, d1, rfl, e0, e3, e1, e2, e8, e9, e10, hak, hkb, hs5, hn, hsz, hfin, hv1, hg1⟩
    by_cases hs : s < 5
    · have hs' : (s : Int) < 5 := by omega
      obtain ⟨s', hs'5⟩ : ∃ s', 5 - s = s' + 1 := ⟨4 - s, by omega⟩
      rw [hs'5, Sort.partialIns] at hfin
      have hsc := scanSorted_rngP (lt := ltS) d1 b k hkb
      simp [wops_cons, dops_cons, dops_if, dstOf, -st_eq, -ld_eq, -Nat.not_lt, lenS, cokS, hcn', e0, e3, e1, e2, e8, e9, e10, hs, hs']
      refine W_loop_J (fun n' A σ' => ∃ tm k', A = ⟨tm, 141, [], false⟩ ∧ tm.get 0 = some (.slice (some ⟨i, pre.length, none⟩) n0 cap) ∧ tm.get 3 = some (.func (.func 53) #[] #[]) ∧ tm.get 1 = some (.int .i64 a) ∧ tm.get 2 = some (.int .i64 b) ∧ tm.get 8 = some (.bool false) ∧ tm.get 9 = some (.int .i64 (k' : Nat)) ∧ tm.get 10 = some (.int .i64 (s : Nat)) ∧ a + 1 ≤ k' ∧ k' ≤ b ∧ n' = b - k' ∧ Sort.scanSorted ltS d1 b k' = Sort.scanSorted ltS d1 b k ∧ PV σ' i pre post d1 ∧ But i σ σ')
        (fun o σ' => ∃ tm, o = .code (.exit 2) ⟨tm, 141, [], false⟩ ∧ tm.get 0 = some (.slice (some ⟨i, pre.length, none⟩) n0 cap) ∧ tm.get 3 = some (.func (.func 53) #[] #[]) ∧ tm.get 1 = some (.int .i64 a) ∧ tm.get 2 = some (.int .i64 b) ∧ tm.get 8 = some (.bool false) ∧ tm.get 9 = some (.int .i64 (Sort.scanSorted ltS d1 b k : Nat)) ∧ tm.get 10 = some (.int .i64 (s : Nat)) ∧ PV σ' i pre post d1 ∧ But i σ σ') ?_ (b - k) _ _ ?_ ?_
      · rintro n' A σ2 ⟨tm, k', rfl, e0, e3, e1, e2, e8, e9, e10, hak', hkb', hn', hsc', hv2, hg2⟩
        have hgi := hv2.1
        by_cases hkb2 : k' < b
        · have hkb2' : (k' : Int) < b := by omega
          obtain ⟨r0, r1, r2, r3⟩ := pins_ar (s2 := 0) hak' hkb2 hb
          have hwk := i64p k' (by omega) (by omega)
          have hwk1 := i64n1 k' (by omega)
          have hr1 := rowP_get (pre := pre) (post := post) (d := d1) (j := k') (by omega)
          have hr0 := rowP_get (pre := pre) (post := post) (d := d1) (j := k' - 1) (by omega)
          simp [wops_cons, dops_cons, dops_if, dstOf, -st_eq, -ld_eq, -Nat.not_lt, lenS, cokS, hcn', e0, e3, e1, e2, e8, e9, e10, hkb2, hkb2']
          refine W_calm (by kernel_rfl) ?_
          simp [wops_cons, dops_cons, dops_if, dstOf, -st_eq, -ld_eq, -Nat.not_lt, lenS, cokS, hcn', e0, e3, e1, e2, e8, e9, e10, hkb2, hkb2', hwk, r1, r2, hgi, hr1, hr0]
          refine less_p _ _ _ _ fun cn σ2 gc hcn => ?_
          have hv2 := hv2.grow gc
          have hg2 := hg2.trans gc.but
          have hgi := hv2.1
          cases hl : ltS (aget d1 k') (aget d1 (k' - 1))
          · have hcn' : ¬ cn < 0 := by simpa [hl] using hcn
            simp [wops_cons, dops_cons, dops_if, dstOf, -st_eq, -ld_eq, -Nat.not_lt, lenS, cokS, hcn', e0, e3, e1, e2, e8, e9, e10, hl, hwk1]
            refine ⟨_, ?_, k' + 1, rfl, by omega, by omega, rfl, ?_, hv2, hg2⟩
            · omega
            · rw [← hsc']
              conv => rhs; rw [Sort.scanSorted]
              unfold aget at hl
              rw [if_pos (by simp [hl, hkb2])]
          · have hcn' : cn < 0 := by simpa [hl] using hcn
            simp [wops_cons, dops_cons, dops_if, dstOf, -st_eq, -ld_eq, -Nat.not_lt, lenS, cokS, hcn', e0, e3, e1, e2, e8, e9, e10, hl]
            refine ⟨?_, hv2, hg2⟩
            rw [← hsc', Sort.scanSorted, if_neg]
            unfold aget at hl
            simp [hl]
        · have hkb2' : ¬ (k' : Int) < b := by omega
          simp [wops_cons, dops_cons, dops_if, dstOf, -st_eq, -ld_eq, -Nat.not_lt, lenS, cokS, hcn', e0, e3, e1, e2, e8, e9, e10, hkb2, hkb2']
          refine W_calm (by kernel_rfl) ?_
          simp [wops_cons, dops_cons, dops_if, dstOf, -st_eq, -ld_eq, -Nat.not_lt, lenS, cokS, hcn', e0, e3, e1, e2, e8, e9, e10, hkb2, hkb2']
          refine ⟨?_, hv2, hg2⟩
          rw [← hsc', Sort.scanSorted, if_neg]
          simp [hkb2]
      · refine ⟨_, k, rfl, ?_⟩
        simp [e0, e3, e1, e2, e8, e9, e10]
        exact ⟨hak, hkb, hv1, hg1⟩
      · rintro o σ2 ⟨tm, rfl, e0, e3, e1, e2, e8, e9, e10, hv1, hg1⟩
        generalize hsk : Sort.scanSorted ltS d1 b k = m at hsc hfin e9
        obtain ⟨hm0, hm1⟩ := hsc
        by_cases hmb : m = b
        · rw [if_pos hmb] at hfin
          rw [← hfin] at h
          simp only at h
          simp [wops_cons, dops_cons, dops_if, dstOf, -st_eq, -ld_eq, -Nat.not_lt, lenS, cokS, hcn', e0, e3, e1, e2, e8, e9, e10, hmb]
          exact h σ2 hv1 hg1
        · have hmb' : ¬ (m : Int) = b := by omega
          have hmb2 : m < b := by omega
          rw [if_neg hmb] at hfin
          have hwba : IntKind.i64.wrap ((b : Int) - a) = ((b - a : Nat) : Int) := by rw [IntWalk.i64_in _ (by omega)]; omega
          by_cases h50 : b - a < 50
          · rw [if_pos h50] at hfin
            rw [← hfin] at h
            simp only at h
            have h50' : ((b - a : Nat) : Int) < 50 := by omega
            simp [wops_cons, dops_cons, dops_if, dstOf, -st_eq, -ld_eq, -Nat.not_lt, lenS, cokS, hcn', e0, e3, e1, e2, e8, e9, e10, hmb, hmb', hwba, h50']
            exact h σ2 hv1 hg1
          · rw [if_neg h50] at hfin
            have h50' : ¬ ((b - a : Nat) : Int) < 50 := by omega
            obtain ⟨r0, r1, r2, r3⟩ := pins_ar (s2 := 0) (show a + 1 ≤ m by omega) hmb2 hb
            have hwm := i64p m (by omega) (by omega)
            have hwm1 := i64n1 m (by omega)
            have hws := i64n1 s (by omega)
            have hwma : IntKind.i64.wrap ((m : Int) - a) = ((m - a : Nat) : Int) := by rw [IntWalk.i64_in _ (by omega)]; omega
            have hwbm : IntKind.i64.wrap ((b : Int) - m) = ((b - m : Nat) : Int) := by rw [IntWalk.i64_in _ (by omega)]; omega
            have hgi := hv1.1
            have hr1 := rowP_get (pre := pre) (post := post) (d := d1) (j := m) (by omega)
            have hr0 := rowP_get (pre := pre) (post := post) (d := d1) (j := m - 1) (by omega)
            have hst1 := rowP_st (pre := pre) (post := post) (d := d1) (j := m) (by first | omega | (simp; omega)) (aget d1 (m - 1))
            have hst2 := rowP_st (pre := pre) (post := post) (d := aset d1 m (aget d1 (m - 1))) (j := (m - 1)) (by first | omega | (simp; omega)) (aget d1 m)
            simp [wops_cons, dops_cons, dops_if, dstOf, -st_eq, -ld_eq, -Nat.not_lt, lenS, cokS, hcn', e0, e3, e1, e2, e8, e9, e10, hmb, hmb', hwba, h50']
            refine W_calm (by kernel_rfl) ?_
            simp [wops_cons, dops_cons, dops_if, dstOf, -st_eq, -ld_eq, -Nat.not_lt, lenS, cokS, hcn', e0, e3, e1, e2, e8, e9, e10, hwm, r1, r2, hgi, hr1, hr0, hst1, hst2, hwma]
            rw [← swp_aset]
            have hv3 : PV ((σ2.put i (.cells (rowD encS pre post (aset d1 m (aget d1 (m - 1)))) 31 false)).put i (.cells (rowD encS pre post (Sort.swp d1 m (m - 1))) 31 false)) i pre post (Sort.swp d1 m (m - 1)) := (hv1.put _).put _
            have hg3 : But i σ ((σ2.put i (.cells (rowD encS pre post (aset d1 m (aget d1 (m - 1)))) 31 false)).put i (.cells (rowD encS pre post (Sort.swp d1 m (m - 1))) 31 false)) := (hg1.putL _).putL _
            generalize ((σ2.put i (.cells (rowD encS pre post (aset d1 m (aget d1 (m - 1)))) 31 false)).put i (.cells (rowD encS pre post (Sort.swp d1 m (m - 1))) 31 false)) = σ3 at hv3 hg3 ⊢
            have hsz3 : (Sort.swp d1 m (m - 1)).size = n0 := by simp [hsz]
            generalize Sort.swp d1 m (m - 1) = d3 at hv3 hsz3 hfin
            simp only [ge_iff_le] at hfin
            by_cases hma : 2 ≤ m - a
            · have hma' : (2 : Int) ≤ ((m - a : Nat) : Int) := by omega
              rw [if_pos hma] at hfin
              simp [wops_cons, dops_cons, dops_if, dstOf, -st_eq, -ld_eq, -Nat.not_lt, lenS, cokS, hcn', e0, e3, e1, e2, e8, e9, e10, hma, hma', hwm]
              refine W_loop_J (fun n' A σ' => ∃ tm j d', A = ⟨tm, 141, [], false⟩ ∧ tm.get 0 = some (.slice (some ⟨i, pre.length, none⟩) n0 cap) ∧ tm.get 3 = some (.func (.func 53) #[] #[]) ∧ tm.get 1 = some (.int .i64 a) ∧ tm.get 2 = some (.int .i64 b) ∧ tm.get 8 = some (.bool false) ∧ tm.get 9 = some (.int .i64 (m : Nat)) ∧ tm.get 10 = some (.int .i64 (s : Nat)) ∧ tm.get 11 = some (.int .i64 (j : Nat)) ∧ j ≤ m - 1 ∧ n' = j ∧ d'.size = n0 ∧ Sort.shiftDown ltS j d' = Sort.shiftDown ltS (m - 1) d3 ∧ PV σ' i pre post d' ∧ But i σ σ')
                (fun o σ' => ∃ tm, o = .code (.exit 4) ⟨tm, 141, [], false⟩ ∧ tm.get 0 = some (.slice (some ⟨i, pre.length, none⟩) n0 cap) ∧ tm.get 3 = some (.func (.func 53) #[] #[]) ∧ tm.get 1 = some (.int .i64 a) ∧ tm.get 2 = some (.int .i64 b) ∧ tm.get 8 = some (.bool false) ∧ tm.get 9 = some (.int .i64 (m : Nat)) ∧ tm.get 10 = some (.int .i64 (s : Nat)) ∧ PV σ' i pre post (Sort.shiftDown ltS (m - 1) d3) ∧ But i σ σ') ?_ (m - 1) _ _ ?_ ?_
              · rintro n' A σ4 ⟨tm, j, d4, rfl, e0, e3, e1, e2, e8, e9, e10, e11, hj, hn', hsz4, hfin4, hv4, hg4⟩
                cases j with
                | zero =>
                  rw [Sort.shiftDown] at hfin4
                  rw [hfin4] at hv4
                  simp [wops_cons, dops_cons, dops_if, dstOf, -st_eq, -ld_eq, -Nat.not_lt, lenS, cokS, hcn', e0, e3, e1, e2, e8, e9, e10, e11]
                  exact ⟨hv4, hg4⟩
                | succ j =>
                  have hj1 : j + 1 < n0 := by omega
                  have hj0 : j < n0 := by omega
                  have hwj := i64n j (by omega)
                  have hi1 : (j : Int) + 1 < n0 := by omega
                  have hi0 : (0 : Int) ≤ (j : Int) + 1 := by omega
                  have hi2 : (1 : Int) ≤ (j : Int) + 1 := by omega
                  have hgi := hv4.1
                  have hr1 := rowP_get (pre := pre) (post := post) (d := d4) (j := j + 1) (by omega)
                  have hr0 := rowP_get (pre := pre) (post := post) (d := d4) (j := j) (by omega)
                  have hst1 := rowP_st (pre := pre) (post := post) (d := d4) (j := (j + 1)) (by first | omega | (simp; omega)) (aget d4 j)
                  have hst2 := rowP_st (pre := pre) (post := post) (d := aset d4 (j + 1) (aget d4 j)) (j := j) (by first | omega | (simp; omega)) (aget d4 (j + 1))
                  simp [wops_cons, dops_cons, dops_if, dstOf, -st_eq, -ld_eq, -Nat.not_lt, lenS, cokS, hcn', e0, e3, e1, e2, e8, e9, e10, e11, hi2]
                  refine W_calm (by kernel_rfl) ?_
                  simp [wops_cons, dops_cons, dops_if, dstOf, -st_eq, -ld_eq, -Nat.not_lt, lenS, cokS, hcn', e0, e3, e1, e2, e8, e9, e10, e11, hj1, hj0, hwj, hi1, hi0, hgi, hr1, hr0]
                  refine less_p _ _ _ _ fun cn σ4 gc hcn => ?_
                  have hv4 := hv4.grow gc
                  have hg4 := hg4.trans gc.but
                  have hgi := hv4.1
                  rw [Sort.shiftDown] at hfin4
                  cases hl : ltS (aget d4 (j + 1)) (aget d4 j)
                  · have hcn' : ¬ cn < 0 := by simpa [hl] using hcn
                    unfold aget at hl
                    rw [if_pos (by simp [hl])] at hfin4
                    rw [hfin4] at hv4
                    simp [wops_cons, dops_cons, dops_if, dstOf, -st_eq, -ld_eq, -Nat.not_lt, lenS, cokS, hcn', e0, e3, e1, e2, e8, e9, e10, e11]
                    exact ⟨hv4, hg4⟩
                  · have hcn' : cn < 0 := by simpa [hl] using hcn
                    have hl2 := hl
                    unfold aget at hl2
                    rw [if_neg (by simp [hl2])] at hfin4
                    simp [wops_cons, dops_cons, dops_if, dstOf, -st_eq, -ld_eq, -Nat.not_lt, lenS, cokS, hcn', e0, e3, e1, e2, e8, e9, e10, e11, hl]
                    refine W_calm (by kernel_rfl) ?_
                    simp [wops_cons, dops_cons, dops_if, dstOf, -st_eq, -ld_eq, -Nat.not_lt, lenS, cokS, hcn', e0, e3, e1, e2, e8, e9, e10, e11, hj1, hj0, hwj, hi1, hi0, hgi, hr1, hr0, hst1, hst2]
                    rw [← swp_aset]
                    exact ⟨j, by omega, j, rfl, by omega, rfl, _, by simp [hsz4], hfin4, (hv4.put _).put _, (hg4.putL _).putL _⟩
              · refine ⟨_, m - 1, d3, rfl, ?_⟩
                simp [e0, e3, e1, e2, e8, e9, e10]
                exact ⟨hsz3, hv3, hg3⟩
              · rintro o σ4 ⟨tm, rfl, e0, e3, e1, e2, e8, e9, e10, hv4, hg4⟩
                have hsz4 : (Sort.shiftDown ltS (m - 1) d3).size = n0 := by rw [shiftDown_sizeP]; exact hsz3
                generalize Sort.shiftDown ltS (m - 1) d3 = d4 at hv4 hsz4 hfin
                by_cases hbm : 2 ≤ b - m
                · have hbm' : (2 : Int) ≤ ((b - m : Nat) : Int) := by omega
                  rw [if_pos hbm] at hfin
                  simp [wops_cons, dops_cons, dops_if, dstOf, -st_eq, -ld_eq, -Nat.not_lt, lenS, cokS, hcn', e0, e3, e1, e2, e8, e9, e10, hwbm, hbm, hbm', hwm1]
                  refine W_loop_J (fun n' A σ' => ∃ tm j d', A = ⟨tm, 141, [], false⟩ ∧ tm.get 0 = some (.slice (some ⟨i, pre.length, none⟩) n0 cap) ∧ tm.get 3 = some (.func (.func 53) #[] #[]) ∧ tm.get 1 = some (.int .i64 a) ∧ tm.get 2 = some (.int .i64 b) ∧ tm.get 8 = some (.bool false) ∧ tm.get 9 = some (.int .i64 (m : Nat)) ∧ tm.get 10 = some (.int .i64 (s : Nat)) ∧ tm.get 12 = some (.int .i64 (j : Nat)) ∧ m + 1 ≤ j ∧ j ≤ b ∧ n' = b - j ∧ d'.size = n0 ∧ Sort.shiftUp ltS b j d' = Sort.shiftUp ltS b (m + 1) d4 ∧ PV σ' i pre post d' ∧ But i σ σ')
                    (fun o σ' => ∃ tm, o = .code (.exit 6) ⟨tm, 141, [], false⟩ ∧ tm.get 0 = some (.slice (some ⟨i, pre.length, none⟩) n0 cap) ∧ tm.get 3 = some (.func (.func 53) #[] #[]) ∧ tm.get 1 = some (.int .i64 a) ∧ tm.get 2 = some (.int .i64 b) ∧ tm.get 8 = some (.bool false) ∧ tm.get 9 = some (.int .i64 (m : Nat)) ∧ tm.get 10 = some (.int .i64 (s : Nat)) ∧ PV σ' i pre post (Sort.shiftUp ltS b (m + 1) d4) ∧ But i σ σ') ?_ (b - (m + 1)) _ _ ?_ ?_
                  · rintro n' A σ5 ⟨tm, j, d5, rfl, e0, e3, e1, e2, e8, e9, e10, e12, hj, hjb, hn', hsz5, hfin5, hv5, hg5⟩
                    by_cases hjlt : j < b
                    · have hjlt' : (j : Int) < b := by omega
                      have hj1 : j < n0 := by omega
                      have hj0 : j - 1 < n0 := by omega
                      have hwj := i64p j (by omega) (by omega)
                      have hwj1 := i64n1 j (by omega)
                      have hgi := hv5.1
                      have hr1 := rowP_get (pre := pre) (post := post) (d := d5) (j := j) (by omega)
                      have hr0 := rowP_get (pre := pre) (post := post) (d := d5) (j := j - 1) (by omega)
                      have hst1 := rowP_st (pre := pre) (post := post) (d := d5) (j := j) (by first | omega | (simp; omega)) (aget d5 (j - 1))
                      have hst2 := rowP_st (pre := pre) (post := post) (d := aset d5 j (aget d5 (j - 1))) (j := (j - 1)) (by first | omega | (simp; omega)) (aget d5 j)
                      simp [wops_cons, dops_cons, dops_if, dstOf, -st_eq, -ld_eq, -Nat.not_lt, lenS, cokS, hcn', e0, e3, e1, e2, e8, e9, e10, e12, hjlt, hjlt']
                      refine W_calm (by kernel_rfl) ?_
                      simp [wops_cons, dops_cons, dops_if, dstOf, -st_eq, -ld_eq, -Nat.not_lt, lenS, cokS, hcn', e0, e3, e1, e2, e8, e9, e10, e12, hj1, hj0, hwj, hgi, hr1, hr0]
                      refine less_p _ _ _ _ fun cn σ5 gc hcn => ?_
                      have hv5 := hv5.grow gc
                      have hg5 := hg5.trans gc.but
                      have hgi := hv5.1
                      rw [Sort.shiftUp, if_pos hjlt] at hfin5
                      cases hl : ltS (aget d5 j) (aget d5 (j - 1))
                      · have hcn' : ¬ cn < 0 := by simpa [hl] using hcn
                        unfold aget at hl
                        rw [if_pos (by simp [hl])] at hfin5
                        rw [hfin5] at hv5
                        simp [wops_cons, dops_cons, dops_if, dstOf, -st_eq, -ld_eq, -Nat.not_lt, lenS, cokS, hcn', e0, e3, e1, e2, e8, e9, e10, e12]
                        exact ⟨hv5, hg5⟩
                      · have hcn' : cn < 0 := by simpa [hl] using hcn
                        have hl2 := hl
                        unfold aget at hl2
                        rw [if_neg (by simp [hl2])] at hfin5
                        simp [wops_cons, dops_cons, dops_if, dstOf, -st_eq, -ld_eq, -Nat.not_lt, lenS, cokS, hcn', e0, e3, e1, e2, e8, e9, e10, e12, hl]
                        refine W_calm (by kernel_rfl) ?_
                        simp [wops_cons, dops_cons, dops_if, dstOf, -st_eq, -ld_eq, -Nat.not_lt, lenS, cokS, hcn', e0, e3, e1, e2, e8, e9, e10, e12, hj1, hj0, hwj, hwj1, hgi, hr1, hr0, hst1, hst2]
                        rw [← swp_aset]
                        exact ⟨b - (j + 1), by omega, j + 1, rfl, by omega, by omega, rfl, _, by simp [hsz5], hfin5, (hv5.put _).put _, (hg5.putL _).putL _⟩
                    · have hjlt' : ¬ (j : Int) < b := by omega
                      rw [Sort.shiftUp, if_neg hjlt] at hfin5
                      rw [hfin5] at hv5
                      simp [wops_cons, dops_cons, dops_if, dstOf, -st_eq, -ld_eq, -Nat.not_lt, lenS, cokS, hcn', e0, e3, e1, e2, e8, e9, e10, e12, hjlt, hjlt']
                      exact ⟨hv5, hg5⟩
                  · refine ⟨_, m + 1, d4, rfl, ?_⟩
                    simp [e0, e3, e1, e2, e8, e9, e10]
                    exact ⟨by omega, hsz4, hv4, hg4⟩
                  · rintro o σ5 ⟨tm, rfl, e0, e3, e1, e2, e8, e9, e10, hv5, hg5⟩
                    have hsz5 : (Sort.shiftUp ltS b (m + 1) d4).size = n0 := by rw [shiftUp_sizeP]; exact hsz4
                    simp [wops_cons, dops_cons, dops_if, dstOf, -st_eq, -ld_eq, -Nat.not_lt, lenS, cokS, hcn', e0, e3, e1, e2, e8, e9, e10, hws]
                    exact ⟨n - 1, by omega, m, rfl, s + 1, rfl, by omega, by omega, by omega, by omega, _, hsz5, by rw [← hfin]; congr 1; omega, hv5, hg5⟩
                · have hbm' : ¬ (2 : Int) ≤ ((b - m : Nat) : Int) := by omega
                  rw [if_neg hbm] at hfin
                  simp [wops_cons, dops_cons, dops_if, dstOf, -st_eq, -ld_eq, -Nat.not_lt, lenS, cokS, hcn', e0, e3, e1, e2, e8, e9, e10, hwbm, hbm, hbm', hws]
                  exact ⟨n - 1, by omega, m, rfl, s + 1, rfl, by omega, by omega, by omega, by omega, _, hsz4, by rw [← hfin]; congr 1; omega, hv4, hg4⟩
            · have hma' : ¬ (2 : Int) ≤ ((m - a : Nat) : Int) := by omega
              rw [if_neg hma] at hfin
              simp [wops_cons, dops_cons, dops_if, dstOf, -st_eq, -ld_eq, -Nat.not_lt, lenS, cokS, hcn', e0, e3, e1, e2, e8, e9, e10, hma, hma']
              have hv4 := hv3
              have hg4 := hg3
              have hsz4 := hsz3
              generalize d3 = d4 at hv4 hsz4 hfin
              generalize σ3 = σ4 at hv4 hg4 ⊢
              by_cases hbm : 2 ≤ b - m
              · have hbm' : (2 : Int) ≤ ((b - m : Nat) : Int) := by omega
                rw [if_pos hbm] at hfin
                simp [wops_cons, dops_cons, dops_if, dstOf, -st_eq, -ld_eq, -Nat.not_lt, lenS, cokS, hcn', e0, e3, e1, e2, e8, e9, e10, hwbm, hbm, hbm', hwm1]
                refine W_loop_J (fun n' A σ' => ∃ tm j d', A = ⟨tm, 141, [], false⟩ ∧ tm.get 0 = some (.slice (some ⟨i, pre.length, none⟩) n0 cap) ∧ tm.get 3 = some (.func (.func 53) #[] #[]) ∧ tm.get 1 = some (.int .i64 a) ∧ tm.get 2 = some (.int .i64 b) ∧ tm.get 8 = some (.bool false) ∧ tm.get 9 = some (.int .i64 (m : Nat)) ∧ tm.get 10 = some (.int .i64 (s : Nat)) ∧ tm.get 12 = some (.int .i64 (j : Nat)) ∧ m + 1 ≤ j ∧ j ≤ b ∧ n' = b - j ∧ d'.size = n0 ∧ Sort.shiftUp ltS b j d' = Sort.shiftUp ltS b (m + 1) d4 ∧ PV σ' i pre post d' ∧ But i σ σ')
                  (fun o σ' => ∃ tm, o = .code (.exit 6) ⟨tm, 141, [], false⟩ ∧ tm.get 0 = some (.slice (some ⟨i, pre.length, none⟩) n0 cap) ∧ tm.get 3 = some (.func (.func 53) #[] #[]) ∧ tm.get 1 = some (.int .i64 a) ∧ tm.get 2 = some (.int .i64 b) ∧ tm.get 8 = some (.bool false) ∧ tm.get 9 = some (.int .i64 (m : Nat)) ∧ tm.get 10 = some (.int .i64 (s : Nat)) ∧ PV σ' i pre post (Sort.shiftUp ltS b (m + 1) d4) ∧ But i σ σ') ?_ (b - (m + 1)) _ _ ?_ ?_
                · rintro n' A σ5 ⟨tm, j, d5, rfl, e0, e3, e1, e2, e8, e9, e10, e12, hj, hjb, hn', hsz5, hfin5, hv5, hg5⟩
                  by_cases hjlt : j < b
                  · have hjlt' : (j : Int) < b := by omega
                    have hj1 : j < n0 := by omega
                    have hj0 : j - 1 < n0 := by omega
                    have hwj := i64p j (by omega) (by omega)
                    have hwj1 := i64n1 j (by omega)
                    have hgi := hv5.1
                    have hr1 := rowP_get (pre := pre) (post := post) (d := d5) (j := j) (by omega)
                    have hr0 := rowP_get (pre := pre) (post := post) (d := d5) (j := j - 1) (by omega)
                    have hst1 := rowP_st (pre := pre) (post := post) (d := d5) (j := j) (by first | omega | (simp; omega)) (aget d5 (j - 1))
                    have hst2 := rowP_st (pre := pre) (post := post) (d := aset d5 j (aget d5 (j - 1))) (j := (j - 1)) (by first | omega | (simp; omega)) (aget d5 j)
                    simp [wops_cons, dops_cons, dops_if, dstOf, -st_eq, -ld_eq, -Nat.not_lt, lenS, cokS, hcn', e0, e3, e1, e2, e8, e9, e10, e12, hjlt, hjlt']
                    refine W_calm (by kernel_rfl) ?_
                    simp [wops_cons, dops_cons, dops_if, dstOf, -st_eq, -ld_eq, -Nat.not_lt, lenS, cokS, hcn', e0, e3, e1, e2, e8, e9, e10, e12, hj1, hj0, hwj, hgi, hr1, hr0]
                    refine less_p _ _ _ _ fun cn σ5 gc hcn => ?_
                    have hv5 := hv5.grow gc
                    have hg5 := hg5.trans gc.but
                    have hgi := hv5.1
                    rw [Sort.shiftUp, if_pos hjlt] at hfin5
                    cases hl : ltS (aget d5 j) (aget d5 (j - 1))
                    · have hcn' : ¬ cn < 0 := by simpa [hl] using hcn
                      unfold aget at hl
                      rw [if_pos (by simp [hl])] at hfin5
                      rw [hfin5] at hv5
                      simp [wops_cons, dops_cons, dops_if, dstOf, -st_eq, -ld_eq, -Nat.not_lt, lenS, cokS, hcn', e0, e3, e1, e2, e8, e9, e10, e12]
                      exact ⟨hv5, hg5⟩
                    · have hcn' : cn < 0 := by simpa [hl] using hcn
                      have hl2 := hl
                      unfold aget at hl2
                      rw [if_neg (by simp [hl2])] at hfin5
                      simp [wops_cons, dops_cons, dops_if, dstOf, -st_eq, -ld_eq, -Nat.not_lt, lenS, cokS, hcn', e0, e3, e1, e2, e8, e9, e10, e12, hl]
                      refine W_calm (by kernel_rfl) ?_
                      simp [wops_cons, dops_cons, dops_if, dstOf, -st_eq, -ld_eq, -Nat.not_lt, lenS, cokS, hcn', e0, e3, e1, e2, e8, e9, e10, e12, hj1, hj0, hwj, hwj1, hgi, hr1, hr0, hst1, hst2]
                      rw [← swp_aset]
                      exact ⟨b - (j + 1), by omega, j + 1, rfl, by omega, by omega, rfl, _, by simp [hsz5], hfin5, (hv5.put _).put _, (hg5.putL _).putL _⟩
                  · have hjlt' : ¬ (j : Int) < b := by omega
                    rw [Sort.shiftUp, if_neg hjlt] at hfin5
                    rw [hfin5] at hv5
                    simp [wops_cons, dops_cons, dops_if, dstOf, -st_eq, -ld_eq, -Nat.not_lt, lenS, cokS, hcn', e0, e3, e1, e2, e8, e9, e10, e12, hjlt, hjlt']
                    exact ⟨hv5, hg5⟩
                · refine ⟨_, m + 1, d4, rfl, ?_⟩
                  simp [e0, e3, e1, e2, e8, e9, e10]
                  exact ⟨by omega, hsz4, hv4, hg4⟩
                · rintro o σ5 ⟨tm, rfl, e0, e3, e1, e2, e8, e9, e10, hv5, hg5⟩
                  have hsz5 : (Sort.shiftUp ltS b (m + 1) d4).size = n0 := by rw [shiftUp_sizeP]; exact hsz4
                  simp [wops_cons, dops_cons, dops_if, dstOf, -st_eq, -ld_eq, -Nat.not_lt, lenS, cokS, hcn', e0, e3, e1, e2, e8, e9, e10, hws]
                  exact ⟨n - 1, by omega, m, rfl, s + 1, rfl, by omega, by omega, by omega, by omega, _, hsz5, by rw [← hfin]; congr 1; omega, hv5, hg5⟩
              · have hbm' : ¬ (2 : Int) ≤ ((b - m : Nat) : Int) := by omega
                rw [if_neg hbm] at hfin
                simp [wops_cons, dops_cons, dops_if, dstOf, -st_eq, -ld_eq, -Nat.not_lt, lenS, cokS, hcn', e0, e3, e1, e2, e8, e9, e10, hwbm, hbm, hbm', hws]
                exact ⟨n - 1, by omega, m, rfl, s + 1, rfl, by omega, by omega, by omega, by omega, _, hsz4, by rw [← hfin]; congr 1; omega, hv4, hg4⟩
    · have hs' : ¬ (s : Int) < 5 := by omega
      have hs0 : 5 - s = 0 := by omega
      rw [hs0, Sort.partialIns] at hfin
      rw [← hfin] at h
      simp only at h
      simp [wops_cons, dops_cons, dops_if, dstOf, -st_eq, -ld_eq, -Nat.not_lt, lenS, cokS, hcn', e0, e3, e1, e2, e8, e9, e10, hs, hs']
      exact h σ1 hv1 hg1
  · refine ⟨_, a + 1, 0, d, rfl, ?_⟩
    simp
    exact ⟨by omega, hn0, hv, But.refl i σ⟩
end Go.Sm
/- Sorting strings: the partitions. -/
set_option linter.unusedVariables false
set_option linter.unusedSimpArgs false
namespace Go.Sm
open Go Go.Proofs
set_option maxRecDepth 100000
set_option maxHeartbeats 4000000
theorem guard_ar {i j i2 j2 : Nat} (h1 : i ≤ i2) (h2 : j2 ≤ j) (h : ¬ j2 < i2) : (j2 - 1) + 1 - (i2 + 1) < j + 1 - i := by omega
theorem part_sP (n0 : Nat) (d : Array Sn) (hn0 : d.size = n0) (i cap : Nat) (pre post : List Value) (a b pv : Nat) (σ : CSt) (hv : PV σ i pre post d) (hb : b ≤ n0) (hbig : n0 < 2 ^ 40) (hab : a < b) (hpv : pv < b) (Q : Out → CSt → Prop)
    (h : ∀ σ', PV σ' i pre post (Sort.partition ltS d a b pv).2.2 → But i σ σ' → Q (.ret (.tuple #[.int .i64 (Sort.partition ltS d a b pv).1, .bool (Sort.partition ltS d a b pv).2.1]) false) σ') :
    W E1 (.fn 111 #[.slice (some ⟨i, pre.length, none⟩) n0 cap, .int .i64 a, .int .i64 b, .int .i64 pv, (.func (.func 53) #[] #[])] none) σ Q := by
  have hcn' : (0 : Int) < 1 := by decide
  rw [W_fn (fn := Tryz.f111) Tryz.func111 rfl rfl rfl]
  have had : a < n0 := by omega
  have hpd : pv < n0 := by omega
  have hwb := i64p b (by omega) (by omega)
  obtain ⟨a1, ha1⟩ : ∃ a1, a1 = a + 1 := ⟨_, rfl⟩
  have hwa : IntKind.i64.wrap ((a : Int) + 1) = (a1 : Int) := by rw [i64n1 a (by omega), ha1]
  obtain ⟨b1, hb1⟩ : ∃ b1, b1 = b - 1 := ⟨_, rfl⟩
  rw [← hb1] at hwb
  have hb1n : b1 < n0 := by omega
  have h1a : 1 ≤ a1 := by omega
  have hgi := hv.1
  have hra := rowP_get (pre := pre) (post := post) (d := d) (j := a) (by omega)
  have hrp := rowP_get (pre := pre) (post := post) (d := d) (j := pv) (by omega)
  have hst1 := rowP_st (pre := pre) (post := post) (d := d) (j := a) (by first | omega | (simp; omega)) (aget d pv)
  have hst2 := rowP_st (pre := pre) (post := post) (d := aset d a (aget d pv)) (j := pv) (by first | omega | (simp; omega)) (aget d a)
  unfold Sort.partition at h
  rw [← ha1, ← hb1] at h
  simp [wops_cons, dops_cons, dops_if, dstOf, -st_eq, -ld_eq, -Nat.not_lt, lenS, cokS, hcn']
  refine W_calm (by kernel_rfl) ?_
  simp [wops_cons, dops_cons, dops_if, dstOf, -st_eq, -ld_eq, -Nat.not_lt, lenS, cokS, hcn', had, hpd, hgi, hra, hrp, hst1, hst2, hwa, hwb]
  rw [← swp_aset]
  have hv1 : PV ((σ.put i (.cells (rowD encS pre post (aset d a (aget d pv))) 31 false)).put i (.cells (rowD encS pre post (Sort.swp d a pv)) 31 false)) i pre post (Sort.swp d a pv) := (hv.put _).put _
  have hg1 : But i σ ((σ.put i (.cells (rowD encS pre post (aset d a (aget d pv))) 31 false)).put i (.cells (rowD encS pre post (Sort.swp d a pv)) 31 false)) := (((But.refl i σ)).putL _).putL _
  have hsz1 : (Sort.swp d a pv).size = n0 := by simp [hn0]
  generalize ((σ.put i (.cells (rowD encS pre post (aset d a (aget d pv))) 31 false)).put i (.cells (rowD encS pre post (Sort.swp d a pv)) 31 false)) = σ1 at hv1 hg1 ⊢
  generalize Sort.swp d a pv = d1 at hv1 hsz1 h
  clear hst1 hst2
  have e0 := True.intro
  have e4 := True.intro
  have e1 := True.intro
  have eI := True.intro
  have eJ := True.intro
  refine W_loop_J (fun n A s => ∃ tm k, A = ⟨tm, 178, [], false⟩ ∧ tm.get 0 = some (.slice (some ⟨i, pre.length, none⟩) n0 cap) ∧ tm.get 4 = some (.func (.func 53) #[] #[]) ∧ tm.get 1 = some (.int .i64 a) ∧ tm.get 12 = some (.int .i64 (k : Nat)) ∧ tm.get 13 = some (.int .i64 (b1 : Nat)) ∧ a1 ≤ k ∧ k ≤ max a1 (b1 + 1) ∧ n = b1 + 1 - k ∧ Sort.scanUp (fun x => ltS x d1[a]!) d1 b1 k = Sort.scanUp (fun x => ltS x d1[a]!) d1 b1 a1 ∧ PV s i pre post d1 ∧ But i σ s)
    (fun o s => ∃ tm x, o = .code (.exit 0) ⟨tm, 178, [], false⟩ ∧ tm.get 0 = some (.slice (some ⟨i, pre.length, none⟩) n0 cap) ∧ tm.get 4 = some (.func (.func 53) #[] #[]) ∧ tm.get 1 = some (.int .i64 a) ∧ tm.get 12 = some (.int .i64 (x : Nat)) ∧ tm.get 13 = some (.int .i64 (b1 : Nat)) ∧ x = Sort.scanUp (fun x => ltS x d1[a]!) d1 b1 a1 ∧ a1 ≤ x ∧ x ≤ max a1 (b1 + 1) ∧ PV s i pre post d1 ∧ But i σ s) ?_ (b1 + 1 - a1) _ _ ?_ ?_
  · rintro n A s ⟨tm, k, rfl, e0, e4, e1, eI, eJ, hk0, hk1, hn, hsc, hv9, hg9⟩
    have hgi := hv9.1
    by_cases hkj : k ≤ b1
    · have hkj' : (k : Int) ≤ (b1 : Nat) := by omega
      have hkd : k < n0 := by omega
      have hwk := i64n1 k (by omega)
      have hrk := rowP_get (pre := pre) (post := post) (d := d1) (j := k) (by omega)
      have hra := rowP_get (pre := pre) (post := post) (d := d1) (j := a) (by omega)
      simp [wops_cons, dops_cons, dops_if, dstOf, -st_eq, -ld_eq, -Nat.not_lt, lenS, cokS, hcn', e0, e4, e1, eI, eJ, hkj, hkj']
      refine W_calm (by kernel_rfl) ?_
      simp [wops_cons, dops_cons, dops_if, dstOf, -st_eq, -ld_eq, -Nat.not_lt, lenS, cokS, hcn', e0, e4, e1, eI, eJ, hkj, hkj', hkd, had, hgi, hrk, hra]
      refine less_p _ _ _ _ fun cn σ9 gc hcn => ?_
      have hv9 := hv9.grow gc
      have hg9 := hg9.trans gc.but
      have hgi := hv9.1
      cases hl : ltS (aget d1 k) (aget d1 a)
      · have hcn' : ¬ cn < 0 := by simpa [hl] using hcn
        unfold aget at hl
        have hend : k = Sort.scanUp (fun x => ltS x d1[a]!) d1 b1 a1 := by rw [← hsc, Sort.scanUp, if_neg (by simp [hl])]
        simp [wops_cons, dops_cons, dops_if, dstOf, -st_eq, -ld_eq, -Nat.not_lt, lenS, cokS, hcn', e0, e4, e1, eI, eJ]
        exact ⟨k, rfl, hend, hk0, by omega, hv9, hg9⟩
      · have hcn' : cn < 0 := by simpa [hl] using hcn
        have hl2 := hl
        unfold aget at hl2
        have hgo : Sort.scanUp (fun x => ltS x d1[a]!) d1 b1 (k + 1) = Sort.scanUp (fun x => ltS x d1[a]!) d1 b1 a1 := by
          rw [← hsc]
          conv => rhs; rw [Sort.scanUp]
          rw [if_pos (by simp [hl2, hkj])]
        simp [wops_cons, dops_cons, dops_if, dstOf, -st_eq, -ld_eq, -Nat.not_lt, lenS, cokS, hcn', e0, e4, e1, eI, eJ, hl, hwk]
        exact ⟨b1 + 1 - (k + 1), by omega, k + 1, rfl, by omega, by omega, rfl, hgo, hv9, hg9⟩
    · have hkj' : ¬ (k : Int) ≤ (b1 : Nat) := by omega
      have hend : k = Sort.scanUp (fun x => ltS x d1[a]!) d1 b1 a1 := by rw [← hsc, Sort.scanUp, if_neg (by simp [hkj])]
      simp [wops_cons, dops_cons, dops_if, dstOf, -st_eq, -ld_eq, -Nat.not_lt, lenS, cokS, hcn', e0, e4, e1, eI, eJ, hkj, hkj']
      refine W_calm (by kernel_rfl) ?_
      simp [wops_cons, dops_cons, dops_if, dstOf, -st_eq, -ld_eq, -Nat.not_lt, lenS, cokS, hcn', e0, e4, e1, eI, eJ, hkj, hkj']
      exact ⟨k, rfl, hend, hk0, by omega, hv9, hg9⟩
  · refine ⟨_, a1, rfl, ?_⟩
    simp [e0, e4, e1, eI, eJ]
    first | exact ⟨hv1, hg1⟩ | exact ⟨by omega, hv1, hg1⟩
  rintro o σ1 ⟨tm, x, rfl, e0, e4, e1, eI, eJ, hx, hx0, hx1, hv1, hg1⟩
  simp [wops_cons, dops_cons, dops_if, dstOf, -st_eq, -ld_eq, -Nat.not_lt, lenS, cokS, hcn']
  refine W_loop_J (fun n A s => ∃ tm k, A = ⟨tm, 178, [], false⟩ ∧ tm.get 0 = some (.slice (some ⟨i, pre.length, none⟩) n0 cap) ∧ tm.get 4 = some (.func (.func 53) #[] #[]) ∧ tm.get 1 = some (.int .i64 a) ∧ tm.get 12 = some (.int .i64 (x : Nat)) ∧ tm.get 13 = some (.int .i64 (k : Nat)) ∧ k ≤ b1 ∧ n = k ∧ Sort.scanDown (fun x => !ltS x d1[a]!) d1 x k = Sort.scanDown (fun x => !ltS x d1[a]!) d1 x b1 ∧ PV s i pre post d1 ∧ But i σ s)
    (fun o s => ∃ tm y, o = .code (.exit 2) ⟨tm, 178, [], false⟩ ∧ tm.get 0 = some (.slice (some ⟨i, pre.length, none⟩) n0 cap) ∧ tm.get 4 = some (.func (.func 53) #[] #[]) ∧ tm.get 1 = some (.int .i64 a) ∧ tm.get 12 = some (.int .i64 (x : Nat)) ∧ tm.get 13 = some (.int .i64 (y : Nat)) ∧ y = Sort.scanDown (fun x => !ltS x d1[a]!) d1 x b1 ∧ y ≤ b1 ∧ PV s i pre post d1 ∧ But i σ s) ?_ (b1) _ _ ?_ ?_
  · rintro n A s ⟨tm, k, rfl, e0, e4, e1, eI, eJ, hk0, hn, hsc, hv9, hg9⟩
    have hgi := hv9.1
    by_cases hkj : x ≤ k
    · obtain ⟨k2, hk2⟩ : ∃ k2, k = k2 + 1 := ⟨k - 1, by omega⟩
      have hkj' : (x : Int) ≤ (k : Nat) := by omega
      have hkd : k < n0 := by omega
      have hwk := i64p k (by omega) (by omega)
      have hrk := rowP_get (pre := pre) (post := post) (d := d1) (j := k) (by omega)
      have hra := rowP_get (pre := pre) (post := post) (d := d1) (j := a) (by omega)
      simp [wops_cons, dops_cons, dops_if, dstOf, -st_eq, -ld_eq, -Nat.not_lt, lenS, cokS, hcn', e0, e4, e1, eI, eJ, hkj, hkj']
      refine W_calm (by kernel_rfl) ?_
      simp [wops_cons, dops_cons, dops_if, dstOf, -st_eq, -ld_eq, -Nat.not_lt, lenS, cokS, hcn', e0, e4, e1, eI, eJ, hkj, hkj', hkd, had, hgi, hrk, hra]
      refine less_p _ _ _ _ fun cn σ9 gc hcn => ?_
      have hv9 := hv9.grow gc
      have hg9 := hg9.trans gc.but
      have hgi := hv9.1
      cases hl : ltS (aget d1 k) (aget d1 a)
      · have hcn' : ¬ cn < 0 := by simpa [hl] using hcn
        have hl2 := hl
        unfold aget at hl2
        have hgo : Sort.scanDown (fun x => !ltS x d1[a]!) d1 x (k - 1) = Sort.scanDown (fun x => !ltS x d1[a]!) d1 x b1 := by
          rw [← hsc, hk2]
          conv => rhs; rw [Sort.scanDown]
          rw [if_pos (by rw [← hk2]; simp [hl2, hkj])]
          rfl
        simp [wops_cons, dops_cons, dops_if, dstOf, -st_eq, -ld_eq, -Nat.not_lt, lenS, cokS, hcn', e0, e4, e1, eI, eJ, hl, hwk]
        exact ⟨k - 1, by omega, k - 1, rfl, by omega, rfl, hgo, hv9, hg9⟩
      · have hcn' : cn < 0 := by simpa [hl] using hcn
        unfold aget at hl
        have hend : k = Sort.scanDown (fun x => !ltS x d1[a]!) d1 x b1 := by rw [← hsc, hk2, Sort.scanDown, if_neg (by rw [← hk2]; simp [hl])]
        simp [wops_cons, dops_cons, dops_if, dstOf, -st_eq, -ld_eq, -Nat.not_lt, lenS, cokS, hcn', e0, e4, e1, eI, eJ]
        exact ⟨k, rfl, hend, hk0, hv9, hg9⟩
    · have hkj' : ¬ (x : Int) ≤ (k : Nat) := by omega
      have hend : k = Sort.scanDown (fun x => !ltS x d1[a]!) d1 x b1 := by
        rw [← hsc]
        cases k with
        | zero => rfl
        | succ k => rw [Sort.scanDown, if_neg (by simp; omega)]
      simp [wops_cons, dops_cons, dops_if, dstOf, -st_eq, -ld_eq, -Nat.not_lt, lenS, cokS, hcn', e0, e4, e1, eI, eJ, hkj, hkj']
      refine W_calm (by kernel_rfl) ?_
      simp [wops_cons, dops_cons, dops_if, dstOf, -st_eq, -ld_eq, -Nat.not_lt, lenS, cokS, hcn', e0, e4, e1, eI, eJ, hkj, hkj']
      exact ⟨k, rfl, hend, hk0, hv9, hg9⟩
  · refine ⟨_, b1, rfl, ?_⟩
    simp [e0, e4, e1, eI, eJ]
    exact ⟨hv1, hg1⟩
  rintro o σ1 ⟨tm, y, rfl, e0, e4, e1, eI, eJ, hy, hy1, hv1, hg1⟩
  simp only [gt_iff_lt] at h
  rw [← hx, ← hy] at h
  by_cases hxy : y < x
  · have hxy' : (y : Int) < x := by omega
    rw [if_pos hxy] at h
    simp only at h
    have hyd : y < n0 := by omega
    have hgi := hv1.1
    have hra := rowP_get (pre := pre) (post := post) (d := d1) (j := a) (by omega)
    have hry := rowP_get (pre := pre) (post := post) (d := d1) (j := y) (by omega)
    have hst1 := rowP_st (pre := pre) (post := post) (d := d1) (j := y) (by first | omega | (simp; omega)) (aget d1 a)
    have hst2 := rowP_st (pre := pre) (post := post) (d := aset d1 y (aget d1 a)) (j := a) (by first | omega | (simp; omega)) (aget d1 y)
    simp [wops_cons, dops_cons, dops_if, dstOf, -st_eq, -ld_eq, -Nat.not_lt, lenS, cokS, hcn', e0, e4, e1, eI, eJ, hxy, hxy']
    refine W_calm (by kernel_rfl) ?_
    simp [wops_cons, dops_cons, dops_if, dstOf, -st_eq, -ld_eq, -Nat.not_lt, lenS, cokS, hcn', e0, e4, e1, eI, eJ, had, hyd, hgi, hra, hry, hst1, hst2]
    rw [← swp_aset]
    exact h _ ((hv1.put _).put _) ((hg1.putL _).putL _)
  · have hxy' : ¬ (y : Int) < x := by omega
    rw [if_neg hxy] at h
    simp only at h
    have hyd : y < n0 := by omega
    have hxd : x < n0 := by omega
    have hwx := i64n1 x (by omega)
    have hwy := i64p y (by omega) (by omega)
    have hgi := hv1.1
    have hrx := rowP_get (pre := pre) (post := post) (d := d1) (j := x) (by omega)
    have hry := rowP_get (pre := pre) (post := post) (d := d1) (j := y) (by omega)
    have hst1 := rowP_st (pre := pre) (post := post) (d := d1) (j := x) (by first | omega | (simp; omega)) (aget d1 y)
    have hst2 := rowP_st (pre := pre) (post := post) (d := aset d1 x (aget d1 y)) (j := y) (by first | omega | (simp; omega)) (aget d1 x)
    simp [wops_cons, dops_cons, dops_if, dstOf, -st_eq, -ld_eq, -Nat.not_lt, lenS, cokS, hcn', e0, e4, e1, eI, eJ, hxy, hxy']
    refine W_calm (by kernel_rfl) ?_
    simp [wops_cons, dops_cons, dops_if, dstOf, -st_eq, -ld_eq, -Nat.not_lt, lenS, cokS, hcn', e0, e4, e1, eI, eJ, hxd, hyd, hgi, hrx, hry, hst1, hst2, hwx, hwy]
    rw [← swp_aset]
    have hv2 : PV ((σ1.put i (.cells (rowD encS pre post (aset d1 x (aget d1 y))) 31 false)).put i (.cells (rowD encS pre post (Sort.swp d1 x y)) 31 false)) i pre post (Sort.swp d1 x y) := (hv1.put _).put _
    have hg2 : But i σ ((σ1.put i (.cells (rowD encS pre post (aset d1 x (aget d1 y))) 31 false)).put i (.cells (rowD encS pre post (Sort.swp d1 x y)) 31 false)) := ((hg1).putL _).putL _
    have hsz2 : (Sort.swp d1 x y).size = n0 := by simp [hsz1]
    generalize ((σ1.put i (.cells (rowD encS pre post (aset d1 x (aget d1 y))) 31 false)).put i (.cells (rowD encS pre post (Sort.swp d1 x y)) 31 false)) = σ2 at hv2 hg2 ⊢
    generalize Sort.swp d1 x y = d2 at hv2 hsz2 h
    clear hst1 hst2
    refine W_loop_J (fun n A s => ∃ tm u v d', A = ⟨tm, 178, [], false⟩ ∧ tm.get 0 = some (.slice (some ⟨i, pre.length, none⟩) n0 cap) ∧ tm.get 4 = some (.func (.func 53) #[] #[]) ∧ tm.get 1 = some (.int .i64 a) ∧ tm.get 12 = some (.int .i64 (u : Nat)) ∧ tm.get 13 = some (.int .i64 (v : Nat)) ∧ 1 ≤ u ∧ v < n0 ∧ n = v + 1 - u ∧ d'.size = n0 ∧ Sort.partLoop ltS a u v d' = Sort.partLoop ltS a (x + 1) (y - 1) d2 ∧ PV s i pre post d' ∧ But i σ s)
      (fun o s => ∃ tm, o = .code (.exit 4) ⟨tm, 178, [], false⟩ ∧ tm.get 0 = some (.slice (some ⟨i, pre.length, none⟩) n0 cap) ∧ tm.get 4 = some (.func (.func 53) #[] #[]) ∧ tm.get 1 = some (.int .i64 a) ∧ tm.get 13 = some (.int .i64 ((Sort.partLoop ltS a (x + 1) (y - 1) d2).1 : Nat)) ∧ (Sort.partLoop ltS a (x + 1) (y - 1) d2).1 < n0 ∧ (Sort.partLoop ltS a (x + 1) (y - 1) d2).2.size = n0 ∧ PV s i pre post (Sort.partLoop ltS a (x + 1) (y - 1) d2).2 ∧ But i σ s) ?_ (y - 1 + 1 - (x + 1)) _ _ ?_ ?_
    · rintro n A σ3 ⟨tm, u, v, d3, rfl, e0, e4, e1, eI, eJ, hu, hvn, hn, hsz3, hfin, hv3, hg3⟩
      rw [Sort.partLoop_eq] at hfin
      simp [wops_cons, dops_cons, dops_if, dstOf, -st_eq, -ld_eq, -Nat.not_lt, lenS, cokS, hcn']
      refine W_loop_J (fun n A s => ∃ tm k, A = ⟨tm, 178, [], false⟩ ∧ tm.get 0 = some (.slice (some ⟨i, pre.length, none⟩) n0 cap) ∧ tm.get 4 = some (.func (.func 53) #[] #[]) ∧ tm.get 1 = some (.int .i64 a) ∧ tm.get 12 = some (.int .i64 (k : Nat)) ∧ tm.get 13 = some (.int .i64 (v : Nat)) ∧ u ≤ k ∧ k ≤ max u (v + 1) ∧ n = v + 1 - k ∧ Sort.scanUp (fun x => ltS x d3[a]!) d3 v k = Sort.scanUp (fun x => ltS x d3[a]!) d3 v u ∧ PV s i pre post d3 ∧ But i σ s)
        (fun o s => ∃ tm x, o = .code (.exit 6) ⟨tm, 178, [], false⟩ ∧ tm.get 0 = some (.slice (some ⟨i, pre.length, none⟩) n0 cap) ∧ tm.get 4 = some (.func (.func 53) #[] #[]) ∧ tm.get 1 = some (.int .i64 a) ∧ tm.get 12 = some (.int .i64 (x : Nat)) ∧ tm.get 13 = some (.int .i64 (v : Nat)) ∧ x = Sort.scanUp (fun x => ltS x d3[a]!) d3 v u ∧ u ≤ x ∧ x ≤ max u (v + 1) ∧ PV s i pre post d3 ∧ But i σ s) ?_ (v + 1 - u) _ _ ?_ ?_
      · rintro n A s ⟨tm, k, rfl, e0, e4, e1, eI, eJ, hk0, hk1, hn, hsc, hv9, hg9⟩
        have hgi := hv9.1
        by_cases hkj : k ≤ v
        · have hkj' : (k : Int) ≤ (v : Nat) := by omega
          have hkd : k < n0 := by omega
          have hwk := i64n1 k (by omega)
          have hrk := rowP_get (pre := pre) (post := post) (d := d3) (j := k) (by omega)
          have hra := rowP_get (pre := pre) (post := post) (d := d3) (j := a) (by omega)
          simp [wops_cons, dops_cons, dops_if, dstOf, -st_eq, -ld_eq, -Nat.not_lt, lenS, cokS, hcn', e0, e4, e1, eI, eJ, hkj, hkj']
          refine W_calm (by kernel_rfl) ?_
          simp [wops_cons, dops_cons, dops_if, dstOf, -st_eq, -ld_eq, -Nat.not_lt, lenS, cokS, hcn', e0, e4, e1, eI, eJ, hkj, hkj', hkd, had, hgi, hrk, hra]
          refine less_p _ _ _ _ fun cn σ9 gc hcn => ?_
          have hv9 := hv9.grow gc
          have hg9 := hg9.trans gc.but
          have hgi := hv9.1
          cases hl : ltS (aget d3 k) (aget d3 a)
          · have hcn' : ¬ cn < 0 := by simpa [hl] using hcn
            unfold aget at hl
            have hend : k = Sort.scanUp (fun x => ltS x d3[a]!) d3 v u := by rw [← hsc, Sort.scanUp, if_neg (by simp [hl])]
            simp [wops_cons, dops_cons, dops_if, dstOf, -st_eq, -ld_eq, -Nat.not_lt, lenS, cokS, hcn', e0, e4, e1, eI, eJ]
            exact ⟨k, rfl, hend, hk0, by omega, hv9, hg9⟩
          · have hcn' : cn < 0 := by simpa [hl] using hcn
            have hl2 := hl
            unfold aget at hl2
            have hgo : Sort.scanUp (fun x => ltS x d3[a]!) d3 v (k + 1) = Sort.scanUp (fun x => ltS x d3[a]!) d3 v u := by
              rw [← hsc]
              conv => rhs; rw [Sort.scanUp]
              rw [if_pos (by simp [hl2, hkj])]
            simp [wops_cons, dops_cons, dops_if, dstOf, -st_eq, -ld_eq, -Nat.not_lt, lenS, cokS, hcn', e0, e4, e1, eI, eJ, hl, hwk]
            exact ⟨v + 1 - (k + 1), by omega, k + 1, rfl, by omega, by omega, rfl, hgo, hv9, hg9⟩
        · have hkj' : ¬ (k : Int) ≤ (v : Nat) := by omega
          have hend : k = Sort.scanUp (fun x => ltS x d3[a]!) d3 v u := by rw [← hsc, Sort.scanUp, if_neg (by simp [hkj])]
          simp [wops_cons, dops_cons, dops_if, dstOf, -st_eq, -ld_eq, -Nat.not_lt, lenS, cokS, hcn', e0, e4, e1, eI, eJ, hkj, hkj']
          refine W_calm (by kernel_rfl) ?_
          simp [wops_cons, dops_cons, dops_if, dstOf, -st_eq, -ld_eq, -Nat.not_lt, lenS, cokS, hcn', e0, e4, e1, eI, eJ, hkj, hkj']
          exact ⟨k, rfl, hend, hk0, by omega, hv9, hg9⟩
      · refine ⟨_, u, rfl, ?_⟩
        simp [e0, e4, e1, eI, eJ]
        first | exact ⟨hv3, hg3⟩ | exact ⟨by omega, hv3, hg3⟩
      rintro o σ3 ⟨tm, p, rfl, e0, e4, e1, eI, eJ, hp, hp0, hp1, hv3, hg3⟩
      simp [wops_cons, dops_cons, dops_if, dstOf, -st_eq, -ld_eq, -Nat.not_lt, lenS, cokS, hcn']
      refine W_loop_J (fun n A s => ∃ tm k, A = ⟨tm, 178, [], false⟩ ∧ tm.get 0 = some (.slice (some ⟨i, pre.length, none⟩) n0 cap) ∧ tm.get 4 = some (.func (.func 53) #[] #[]) ∧ tm.get 1 = some (.int .i64 a) ∧ tm.get 12 = some (.int .i64 (p : Nat)) ∧ tm.get 13 = some (.int .i64 (k : Nat)) ∧ k ≤ v ∧ n = k ∧ Sort.scanDown (fun x => !ltS x d3[a]!) d3 p k = Sort.scanDown (fun x => !ltS x d3[a]!) d3 p v ∧ PV s i pre post d3 ∧ But i σ s)
        (fun o s => ∃ tm y, o = .code (.exit 8) ⟨tm, 178, [], false⟩ ∧ tm.get 0 = some (.slice (some ⟨i, pre.length, none⟩) n0 cap) ∧ tm.get 4 = some (.func (.func 53) #[] #[]) ∧ tm.get 1 = some (.int .i64 a) ∧ tm.get 12 = some (.int .i64 (p : Nat)) ∧ tm.get 13 = some (.int .i64 (y : Nat)) ∧ y = Sort.scanDown (fun x => !ltS x d3[a]!) d3 p v ∧ y ≤ v ∧ PV s i pre post d3 ∧ But i σ s) ?_ (v) _ _ ?_ ?_
      · rintro n A s ⟨tm, k, rfl, e0, e4, e1, eI, eJ, hk0, hn, hsc, hv9, hg9⟩
        have hgi := hv9.1
        by_cases hkj : p ≤ k
        · obtain ⟨k2, hk2⟩ : ∃ k2, k = k2 + 1 := ⟨k - 1, by omega⟩
          have hkj' : (p : Int) ≤ (k : Nat) := by omega
          have hkd : k < n0 := by omega
          have hwk := i64p k (by omega) (by omega)
          have hrk := rowP_get (pre := pre) (post := post) (d := d3) (j := k) (by omega)
          have hra := rowP_get (pre := pre) (post := post) (d := d3) (j := a) (by omega)
          simp [wops_cons, dops_cons, dops_if, dstOf, -st_eq, -ld_eq, -Nat.not_lt, lenS, cokS, hcn', e0, e4, e1, eI, eJ, hkj, hkj']
          refine W_calm (by kernel_rfl) ?_
          simp [wops_cons, dops_cons, dops_if, dstOf, -st_eq, -ld_eq, -Nat.not_lt, lenS, cokS, hcn', e0, e4, e1, eI, eJ, hkj, hkj', hkd, had, hgi, hrk, hra]
          refine less_p _ _ _ _ fun cn σ9 gc hcn => ?_
          have hv9 := hv9.grow gc
          have hg9 := hg9.trans gc.but
          have hgi := hv9.1
          cases hl : ltS (aget d3 k) (aget d3 a)
          · have hcn' : ¬ cn < 0 := by simpa [hl] using hcn
            have hl2 := hl
            unfold aget at hl2
            have hgo : Sort.scanDown (fun x => !ltS x d3[a]!) d3 p (k - 1) = Sort.scanDown (fun x => !ltS x d3[a]!) d3 p v := by
              rw [← hsc, hk2]
              conv => rhs; rw [Sort.scanDown]
              rw [if_pos (by rw [← hk2]; simp [hl2, hkj])]
              rfl
            simp [wops_cons, dops_cons, dops_if, dstOf, -st_eq, -ld_eq, -Nat.not_lt, lenS, cokS, hcn', e0, e4, e1, eI, eJ, hl, hwk]
            exact ⟨k - 1, by omega, k - 1, rfl, by omega, rfl, hgo, hv9, hg9⟩
          · have hcn' : cn < 0 := by simpa [hl] using hcn
            unfold aget at hl
            have hend : k = Sort.scanDown (fun x => !ltS x d3[a]!) d3 p v := by rw [← hsc, hk2, Sort.scanDown, if_neg (by rw [← hk2]; simp [hl])]
            simp [wops_cons, dops_cons, dops_if, dstOf, -st_eq, -ld_eq, -Nat.not_lt, lenS, cokS, hcn', e0, e4, e1, eI, eJ]
            exact ⟨k, rfl, hend, hk0, hv9, hg9⟩
        · have hkj' : ¬ (p : Int) ≤ (k : Nat) := by omega
          have hend : k = Sort.scanDown (fun x => !ltS x d3[a]!) d3 p v := by
            rw [← hsc]
            cases k with
            | zero => rfl
            | succ k => rw [Sort.scanDown, if_neg (by simp; omega)]
          simp [wops_cons, dops_cons, dops_if, dstOf, -st_eq, -ld_eq, -Nat.not_lt, lenS, cokS, hcn', e0, e4, e1, eI, eJ, hkj, hkj']
          refine W_calm (by kernel_rfl) ?_
          simp [wops_cons, dops_cons, dops_if, dstOf, -st_eq, -ld_eq, -Nat.not_lt, lenS, cokS, hcn', e0, e4, e1, eI, eJ, hkj, hkj']
          exact ⟨k, rfl, hend, hk0, hv9, hg9⟩
      · refine ⟨_, v, rfl, ?_⟩
        simp [e0, e4, e1, eI, eJ]
        exact ⟨hv3, hg3⟩
      rintro o σ3 ⟨tm, q, rfl, e0, e4, e1, eI, eJ, hq, hq1, hv3, hg3⟩
      rw [← hp, ← hq] at hfin
      by_cases hpq : q < p
      · have hpq' : (q : Int) < p := by omega
        rw [if_pos hpq] at hfin
        have hf1 : q = (Sort.partLoop ltS a (x + 1) (y - 1) d2).1 := by rw [← hfin]
        have hf2 : d3 = (Sort.partLoop ltS a (x + 1) (y - 1) d2).2 := by rw [← hfin]
        simp [wops_cons, dops_cons, dops_if, dstOf, -st_eq, -ld_eq, -Nat.not_lt, lenS, cokS, hcn', e0, e4, e1, eI, eJ, hpq, hpq']
        rw [← hf1, ← hf2]
        exact ⟨rfl, by omega, hsz3, hv3, hg3⟩
      · have hpq' : ¬ (q : Int) < p := by omega
        rw [if_neg hpq] at hfin
        have hpd : p < n0 := by omega
        have hqd : q < n0 := by omega
        have hwp := i64n1 p (by omega)
        have hwq := i64p q (by omega) (by omega)
        have hgi := hv3.1
        have hrp := rowP_get (pre := pre) (post := post) (d := d3) (j := p) (by omega)
        have hrq := rowP_get (pre := pre) (post := post) (d := d3) (j := q) (by omega)
        have hst1 := rowP_st (pre := pre) (post := post) (d := d3) (j := p) (by first | omega | (simp; omega)) (aget d3 q)
        have hst2 := rowP_st (pre := pre) (post := post) (d := aset d3 p (aget d3 q)) (j := q) (by first | omega | (simp; omega)) (aget d3 p)
        simp [wops_cons, dops_cons, dops_if, dstOf, -st_eq, -ld_eq, -Nat.not_lt, lenS, cokS, hcn', e0, e4, e1, eI, eJ, hpq, hpq']
        refine W_calm (by kernel_rfl) ?_
        simp [wops_cons, dops_cons, dops_if, dstOf, -st_eq, -ld_eq, -Nat.not_lt, lenS, cokS, hcn', e0, e4, e1, eI, eJ, hpd, hqd, hgi, hrp, hrq, hst1, hst2, hwp, hwq]
        rw [← swp_aset]
        refine ⟨_, ?_, p + 1, rfl, q - 1, rfl, by omega, by omega, rfl, _, by simp [hsz3], hfin, (hv3.put _).put _, (hg3.putL _).putL _⟩
        rw [hn]
        exact guard_ar hp0 hq1 hpq
    · refine ⟨_, x + 1, y - 1, d2, rfl, ?_⟩
      simp [e0, e4, e1]
      exact ⟨by omega, hsz2, hv2, hg2⟩
    · rintro o σ4 ⟨tm, rfl, e0, e4, e1, eJ, hjn, hsz4, hv4, hg4⟩
      generalize (Sort.partLoop ltS a (x + 1) (y - 1) d2).1 = w at hjn eJ h
      generalize (Sort.partLoop ltS a (x + 1) (y - 1) d2).2 = d4 at hsz4 hv4 h
      have hgi := hv4.1
      have hra := rowP_get (pre := pre) (post := post) (d := d4) (j := a) (by omega)
      have hrw := rowP_get (pre := pre) (post := post) (d := d4) (j := w) (by omega)
      have hst1 := rowP_st (pre := pre) (post := post) (d := d4) (j := w) (by first | omega | (simp; omega)) (aget d4 a)
      have hst2 := rowP_st (pre := pre) (post := post) (d := aset d4 w (aget d4 a)) (j := a) (by first | omega | (simp; omega)) (aget d4 w)
      simp [wops_cons, dops_cons, dops_if, dstOf, -st_eq, -ld_eq, -Nat.not_lt, lenS, cokS, hcn', e0, e4, e1, eJ]
      refine W_calm (by kernel_rfl) ?_
      simp [wops_cons, dops_cons, dops_if, dstOf, -st_eq, -ld_eq, -Nat.not_lt, lenS, cokS, hcn', e0, e4, e1, eJ, had, hjn, hgi, hra, hrw, hst1, hst2]
      rw [← swp_aset]
      exact h _ ((hv4.put _).put _) ((hg4.putL _).putL _)
theorem partEq_sP (n0 : Nat) (d : Array Sn) (hn0 : d.size = n0) (i cap : Nat) (pre post : List Value) (a b pv : Nat) (σ : CSt) (hv : PV σ i pre post d) (hb : b ≤ n0) (hbig : n0 < 2 ^ 40) (hab : a < b) (hpv : pv < b) (Q : Out → CSt → Prop)
    (h : ∀ σ', PV σ' i pre post (Sort.partitionEqual ltS d a b pv).2 → But i σ σ' → Q (.ret (.int .i64 (Sort.partitionEqual ltS d a b pv).1) false) σ') :
    W E1 (.fn 110 #[.slice (some ⟨i, pre.length, none⟩) n0 cap, .int .i64 a, .int .i64 b, .int .i64 pv, (.func (.func 53) #[] #[])] none) σ Q := by
  have hcn' : (0 : Int) < 1 := by decide
  rw [W_fn (fn := Tryz.f110) Tryz.func110 rfl rfl rfl]
  have had : a < n0 := by omega
  have hpd : pv < n0 := by omega
  have hwb := i64p b (by omega) (by omega)
  obtain ⟨a1, ha1⟩ : ∃ a1, a1 = a + 1 := ⟨_, rfl⟩
  have hwa : IntKind.i64.wrap ((a : Int) + 1) = (a1 : Int) := by rw [i64n1 a (by omega), ha1]
  obtain ⟨b1, hb1⟩ : ∃ b1, b1 = b - 1 := ⟨_, rfl⟩
  rw [← hb1] at hwb
  have hb1n : b1 < n0 := by omega
  have h1a : 1 ≤ a1 := by omega
  have hgi := hv.1
  have hra := rowP_get (pre := pre) (post := post) (d := d) (j := a) (by omega)
  have hrp := rowP_get (pre := pre) (post := post) (d := d) (j := pv) (by omega)
  have hst1 := rowP_st (pre := pre) (post := post) (d := d) (j := a) (by first | omega | (simp; omega)) (aget d pv)
  have hst2 := rowP_st (pre := pre) (post := post) (d := aset d a (aget d pv)) (j := pv) (by first | omega | (simp; omega)) (aget d a)
  unfold Sort.partitionEqual at h
  rw [← ha1, ← hb1] at h
  simp [wops_cons, dops_cons, dops_if, dstOf, -st_eq, -ld_eq, -Nat.not_lt, lenS, cokS, hcn']
  refine W_calm (by kernel_rfl) ?_
  simp [wops_cons, dops_cons, dops_if, dstOf, -st_eq, -ld_eq, -Nat.not_lt, lenS, cokS, hcn', had, hpd, hgi, hra, hrp, hst1, hst2, hwa, hwb]
  rw [← swp_aset]
  have hv1 : PV ((σ.put i (.cells (rowD encS pre post (aset d a (aget d pv))) 31 false)).put i (.cells (rowD encS pre post (Sort.swp d a pv)) 31 false)) i pre post (Sort.swp d a pv) := (hv.put _).put _
  have hg1 : But i σ ((σ.put i (.cells (rowD encS pre post (aset d a (aget d pv))) 31 false)).put i (.cells (rowD encS pre post (Sort.swp d a pv)) 31 false)) := (((But.refl i σ)).putL _).putL _
  have hsz1 : (Sort.swp d a pv).size = n0 := by simp [hn0]
  generalize ((σ.put i (.cells (rowD encS pre post (aset d a (aget d pv))) 31 false)).put i (.cells (rowD encS pre post (Sort.swp d a pv)) 31 false)) = σ1 at hv1 hg1 ⊢
  generalize Sort.swp d a pv = d1 at hv1 hsz1 h
  clear hst1 hst2
  refine W_loop_J (fun n A s => ∃ tm u v d', A = ⟨tm, 90, [], false⟩ ∧ tm.get 0 = some (.slice (some ⟨i, pre.length, none⟩) n0 cap) ∧ tm.get 4 = some (.func (.func 53) #[] #[]) ∧ tm.get 1 = some (.int .i64 a) ∧ tm.get 11 = some (.int .i64 (u : Nat)) ∧ tm.get 12 = some (.int .i64 (v : Nat)) ∧ 1 ≤ u ∧ v < n0 ∧ n = v + 1 - u ∧ d'.size = n0 ∧ Sort.partEqLoop ltS a u v d' = Sort.partEqLoop ltS a a1 b1 d1 ∧ PV s i pre post d' ∧ But i σ s)
    (fun o s => ∃ tm, o = .code (.exit 0) ⟨tm, 90, [], false⟩ ∧ tm.get 11 = some (.int .i64 ((Sort.partEqLoop ltS a a1 b1 d1).1 : Nat)) ∧ PV s i pre post (Sort.partEqLoop ltS a a1 b1 d1).2 ∧ But i σ s) ?_ (b1 + 1 - a1) _ _ ?_ ?_
  · rintro n A σ3 ⟨tm, u, v, d3, rfl, e0, e4, e1, eI, eJ, hu, hvn, hn, hsz3, hfin, hv3, hg3⟩
    rw [Sort.partEqLoop_eq] at hfin
    simp [wops_cons, dops_cons, dops_if, dstOf, -st_eq, -ld_eq, -Nat.not_lt, lenS, cokS, hcn']
    refine W_loop_J (fun n A s => ∃ tm k, A = ⟨tm, 90, [], false⟩ ∧ tm.get 0 = some (.slice (some ⟨i, pre.length, none⟩) n0 cap) ∧ tm.get 4 = some (.func (.func 53) #[] #[]) ∧ tm.get 1 = some (.int .i64 a) ∧ tm.get 11 = some (.int .i64 (k : Nat)) ∧ tm.get 12 = some (.int .i64 (v : Nat)) ∧ u ≤ k ∧ k ≤ max u (v + 1) ∧ n = v + 1 - k ∧ Sort.scanUp (fun x => !ltS d3[a]! x) d3 v k = Sort.scanUp (fun x => !ltS d3[a]! x) d3 v u ∧ PV s i pre post d3 ∧ But i σ s)
      (fun o s => ∃ tm x, o = .code (.exit 2) ⟨tm, 90, [], false⟩ ∧ tm.get 0 = some (.slice (some ⟨i, pre.length, none⟩) n0 cap) ∧ tm.get 4 = some (.func (.func 53) #[] #[]) ∧ tm.get 1 = some (.int .i64 a) ∧ tm.get 11 = some (.int .i64 (x : Nat)) ∧ tm.get 12 = some (.int .i64 (v : Nat)) ∧ x = Sort.scanUp (fun x => !ltS d3[a]! x) d3 v u ∧ u ≤ x ∧ x ≤ max u (v + 1) ∧ PV s i pre post d3 ∧ But i σ s) ?_ (v + 1 - u) _ _ ?_ ?_
    · rintro n A s ⟨tm, k, rfl, e0, e4, e1, eI, eJ, hk0, hk1, hn, hsc, hv9, hg9⟩
      have hgi := hv9.1
      by_cases hkj : k ≤ v
      · have hkj' : (k : Int) ≤ (v : Nat) := by omega
        have hkd : k < n0 := by omega
        have hwk := i64n1 k (by omega)
        have hrk := rowP_get (pre := pre) (post := post) (d := d3) (j := k) (by omega)
        have hra := rowP_get (pre := pre) (post := post) (d := d3) (j := a) (by omega)
        simp [wops_cons, dops_cons, dops_if, dstOf, -st_eq, -ld_eq, -Nat.not_lt, lenS, cokS, hcn', e0, e4, e1, eI, eJ, hkj, hkj']
        refine W_calm (by kernel_rfl) ?_
        simp [wops_cons, dops_cons, dops_if, dstOf, -st_eq, -ld_eq, -Nat.not_lt, lenS, cokS, hcn', e0, e4, e1, eI, eJ, hkj, hkj', hkd, had, hgi, hrk, hra]
        refine less_p _ _ _ _ fun cn σ9 gc hcn => ?_
        have hv9 := hv9.grow gc
        have hg9 := hg9.trans gc.but
        have hgi := hv9.1
        cases hl : ltS (aget d3 a) (aget d3 k)
        · have hcn' : ¬ cn < 0 := by simpa [hl] using hcn
          have hl2 := hl
          unfold aget at hl2
          have hgo : Sort.scanUp (fun x => !ltS d3[a]! x) d3 v (k + 1) = Sort.scanUp (fun x => !ltS d3[a]! x) d3 v u := by
            rw [← hsc]
            conv => rhs; rw [Sort.scanUp]
            rw [if_pos (by simp [hl2, hkj])]
          simp [wops_cons, dops_cons, dops_if, dstOf, -st_eq, -ld_eq, -Nat.not_lt, lenS, cokS, hcn', e0, e4, e1, eI, eJ, hl, hwk]
          exact ⟨v + 1 - (k + 1), by omega, k + 1, rfl, by omega, by omega, rfl, hgo, hv9, hg9⟩
        · have hcn' : cn < 0 := by simpa [hl] using hcn
          unfold aget at hl
          have hend : k = Sort.scanUp (fun x => !ltS d3[a]! x) d3 v u := by rw [← hsc, Sort.scanUp, if_neg (by simp [hl])]
          simp [wops_cons, dops_cons, dops_if, dstOf, -st_eq, -ld_eq, -Nat.not_lt, lenS, cokS, hcn', e0, e4, e1, eI, eJ]
          exact ⟨k, rfl, hend, hk0, by omega, hv9, hg9⟩
      · have hkj' : ¬ (k : Int) ≤ (v : Nat) := by omega
        have hend : k = Sort.scanUp (fun x => !ltS d3[a]! x) d3 v u := by rw [← hsc, Sort.scanUp, if_neg (by simp [hkj])]
        simp [wops_cons, dops_cons, dops_if, dstOf, -st_eq, -ld_eq, -Nat.not_lt, lenS, cokS, hcn', e0, e4, e1, eI, eJ, hkj, hkj']
        refine W_calm (by kernel_rfl) ?_
        simp [wops_cons, dops_cons, dops_if, dstOf, -st_eq, -ld_eq, -Nat.not_lt, lenS, cokS, hcn', e0, e4, e1, eI, eJ, hkj, hkj']
        exact ⟨k, rfl, hend, hk0, by omega, hv9, hg9⟩
    · refine ⟨_, u, rfl, ?_⟩
      simp [e0, e4, e1, eI, eJ]
      first | exact ⟨hv3, hg3⟩ | exact ⟨by omega, hv3, hg3⟩
    rintro o σ3 ⟨tm, p, rfl, e0, e4, e1, eI, eJ, hp, hp0, hp1, hv3, hg3⟩
    simp [wops_cons, dops_cons, dops_if, dstOf, -st_eq, -ld_eq, -Nat.not_lt, lenS, cokS, hcn']
    refine W_loop_J (fun n A s => ∃ tm k, A = ⟨tm, 90, [], false⟩ ∧ tm.get 0 = some (.slice (some ⟨i, pre.length, none⟩) n0 cap) ∧ tm.get 4 = some (.func (.func 53) #[] #[]) ∧ tm.get 1 = some (.int .i64 a) ∧ tm.get 11 = some (.int .i64 (p : Nat)) ∧ tm.get 12 = some (.int .i64 (k : Nat)) ∧ k ≤ v ∧ n = k ∧ Sort.scanDown (fun x => ltS d3[a]! x) d3 p k = Sort.scanDown (fun x => ltS d3[a]! x) d3 p v ∧ PV s i pre post d3 ∧ But i σ s)
      (fun o s => ∃ tm y, o = .code (.exit 4) ⟨tm, 90, [], false⟩ ∧ tm.get 0 = some (.slice (some ⟨i, pre.length, none⟩) n0 cap) ∧ tm.get 4 = some (.func (.func 53) #[] #[]) ∧ tm.get 1 = some (.int .i64 a) ∧ tm.get 11 = some (.int .i64 (p : Nat)) ∧ tm.get 12 = some (.int .i64 (y : Nat)) ∧ y = Sort.scanDown (fun x => ltS d3[a]! x) d3 p v ∧ y ≤ v ∧ PV s i pre post d3 ∧ But i σ s) ?_ (v) _ _ ?_ ?_
    · rintro n A s ⟨tm, k, rfl, e0, e4, e1, eI, eJ, hk0, hn, hsc, hv9, hg9⟩
      have hgi := hv9.1
      by_cases hkj : p ≤ k
      · obtain ⟨k2, hk2⟩ : ∃ k2, k = k2 + 1 := ⟨k - 1, by omega⟩
        have hkj' : (p : Int) ≤ (k : Nat) := by omega
        have hkd : k < n0 := by omega
        have hwk := i64p k (by omega) (by omega)
        have hrk := rowP_get (pre := pre) (post := post) (d := d3) (j := k) (by omega)
        have hra := rowP_get (pre := pre) (post := post) (d := d3) (j := a) (by omega)
        simp [wops_cons, dops_cons, dops_if, dstOf, -st_eq, -ld_eq, -Nat.not_lt, lenS, cokS, hcn', e0, e4, e1, eI, eJ, hkj, hkj']
        refine W_calm (by kernel_rfl) ?_
        simp [wops_cons, dops_cons, dops_if, dstOf, -st_eq, -ld_eq, -Nat.not_lt, lenS, cokS, hcn', e0, e4, e1, eI, eJ, hkj, hkj', hkd, had, hgi, hrk, hra]
        refine less_p _ _ _ _ fun cn σ9 gc hcn => ?_
        have hv9 := hv9.grow gc
        have hg9 := hg9.trans gc.but
        have hgi := hv9.1
        cases hl : ltS (aget d3 a) (aget d3 k)
        · have hcn' : ¬ cn < 0 := by simpa [hl] using hcn
          unfold aget at hl
          have hend : k = Sort.scanDown (fun x => ltS d3[a]! x) d3 p v := by rw [← hsc, hk2, Sort.scanDown, if_neg (by rw [← hk2]; simp [hl])]
          simp [wops_cons, dops_cons, dops_if, dstOf, -st_eq, -ld_eq, -Nat.not_lt, lenS, cokS, hcn', e0, e4, e1, eI, eJ]
          exact ⟨k, rfl, hend, hk0, hv9, hg9⟩
        · have hcn' : cn < 0 := by simpa [hl] using hcn
          have hl2 := hl
          unfold aget at hl2
          have hgo : Sort.scanDown (fun x => ltS d3[a]! x) d3 p (k - 1) = Sort.scanDown (fun x => ltS d3[a]! x) d3 p v := by
            rw [← hsc, hk2]
            conv => rhs; rw [Sort.scanDown]
            rw [if_pos (by rw [← hk2]; simp [hl2, hkj])]
            rfl
          simp [wops_cons, dops_cons, dops_if, dstOf, -st_eq, -ld_eq, -Nat.not_lt, lenS, cokS, hcn', e0, e4, e1, eI, eJ, hl, hwk]
          exact ⟨k - 1, by omega, k - 1, rfl, by omega, rfl, hgo, hv9, hg9⟩
      · have hkj' : ¬ (p : Int) ≤ (k : Nat) := by omega
        have hend : k = Sort.scanDown (fun x => ltS d3[a]! x) d3 p v := by
          rw [← hsc]
          cases k with
          | zero => rfl
          | succ k => rw [Sort.scanDown, if_neg (by simp; omega)]
        simp [wops_cons, dops_cons, dops_if, dstOf, -st_eq, -ld_eq, -Nat.not_lt, lenS, cokS, hcn', e0, e4, e1, eI, eJ, hkj, hkj']
        refine W_calm (by kernel_rfl) ?_
        simp [wops_cons, dops_cons, dops_if, dstOf, -st_eq, -ld_eq, -Nat.not_lt, lenS, cokS, hcn', e0, e4, e1, eI, eJ, hkj, hkj']
        exact ⟨k, rfl, hend, hk0, hv9, hg9⟩
    · refine ⟨_, v, rfl, ?_⟩
      simp [e0, e4, e1, eI, eJ]
      exact ⟨hv3, hg3⟩
    rintro o σ3 ⟨tm, q, rfl, e0, e4, e1, eI, eJ, hq, hq1, hv3, hg3⟩
    rw [← hp, ← hq] at hfin
    by_cases hpq : q < p
    · have hpq' : (q : Int) < p := by omega
      rw [if_pos hpq] at hfin
      have hf1 : p = (Sort.partEqLoop ltS a a1 b1 d1).1 := by rw [← hfin]
      have hf2 : d3 = (Sort.partEqLoop ltS a a1 b1 d1).2 := by rw [← hfin]
      simp [wops_cons, dops_cons, dops_if, dstOf, -st_eq, -ld_eq, -Nat.not_lt, lenS, cokS, hcn', e0, e4, e1, eI, eJ, hpq, hpq']
      rw [← hf1, ← hf2]
      exact ⟨rfl, hv3, hg3⟩
    · have hpq' : ¬ (q : Int) < p := by omega
      rw [if_neg hpq] at hfin
      have hpd : p < n0 := by omega
      have hqd : q < n0 := by omega
      have hwp := i64n1 p (by omega)
      have hwq := i64p q (by omega) (by omega)
      have hgi := hv3.1
      have hrp := rowP_get (pre := pre) (post := post) (d := d3) (j := p) (by omega)
      have hrq := rowP_get (pre := pre) (post := post) (d := d3) (j := q) (by omega)
      have hst1 := rowP_st (pre := pre) (post := post) (d := d3) (j := p) (by first | omega | (simp; omega)) (aget d3 q)
      have hst2 := rowP_st (pre := pre) (post := post) (d := aset d3 p (aget d3 q)) (j := q) (by first | omega | (simp; omega)) (aget d3 p)
      simp [wops_cons, dops_cons, dops_if, dstOf, -st_eq, -ld_eq, -Nat.not_lt, lenS, cokS, hcn', e0, e4, e1, eI, eJ, hpq, hpq']
      refine W_calm (by kernel_rfl) ?_
      simp [wops_cons, dops_cons, dops_if, dstOf, -st_eq, -ld_eq, -Nat.not_lt, lenS, cokS, hcn', e0, e4, e1, eI, eJ, hpd, hqd, hgi, hrp, hrq, hst1, hst2, hwp, hwq]
      rw [← swp_aset]
      refine ⟨_, ?_, p + 1, rfl, q - 1, rfl, by omega, by omega, rfl, _, by simp [hsz3], hfin, (hv3.put _).put _, (hg3.putL _).putL _⟩
      rw [hn]
      exact guard_ar hp0 hq1 hpq
  · refine ⟨_, a1, b1, d1, rfl, ?_⟩
    simp
    exact ⟨h1a, hb1n, hsz1, hv1, hg1⟩
  · rintro o σ4 ⟨tm, rfl, eI, hv4, hg4⟩
    simp [wops_cons, dops_cons, dops_if, dstOf, -st_eq, -ld_eq, -Nat.not_lt, lenS, cokS, hcn', eI]
    exact h σ4 hv4 hg4
end Go.Sm
/- Sorting strings: pdqsort. -/
set_option linter.unusedVariables false
set_option linter.unusedSimpArgs false
namespace Go.Sm
open Go Go.Proofs
set_option maxRecDepth 100000
set_option maxHeartbeats 4000000
theorem swo_ltSP : Sort.SWO ltS where
  irrefl x := by simp [ltS]
  trans x y z h h' := by simp [ltS] at *; omega
  ntrans x y z h h' := by simp [ltS] at *; omega
theorem pdq_ar {a b x : Nat} (h1 : a ≤ x) (h2 : x < b) : ((b - 1) - (x - a) : Nat) = b - 1 - (x - a) ∧ a ≤ b - 1 - (x - a) ∧ b - 1 - (x - a) < b := by omega
/-- What is left to be done. -/
structure LeftP (a b : Nat) (d : Array Sn) (n0 a' b' : Nat) (d' : Array Sn) : Prop where
  le : a' ≤ b'
  hi : b' ≤ n0
  sz : d'.size = n0
  bel : Sort.Below ltS a' b' d'
  fin : ∀ R, Sort.PermIn a' b' d' R → Sort.SortedIn ltS a' b' R → Sort.PermIn a b d R ∧ Sort.SortedIn ltS a b R
theorem LeftP.perm {a b n0 a' b' : Nat} {d d' d2 : Array Sn} (h : LeftP a b d n0 a' b' d') (hp : Sort.PermIn a' b' d' d2) : LeftP a b d n0 a' b' d2 :=
  ⟨h.le, h.hi, by rw [hp.1]; exact h.sz, h.bel.perm (by rw [h.sz]; exact h.hi) hp, fun R h1 h2 => h.fin R (Sort.permIn_trans _ _ _ _ _ hp h1) h2⟩
theorem pdq_sP (n0 i cap : Nat) (pre post : List Value) (hbig : n0 < 2 ^ 40) : ∀ (m a b l : Nat) (d : Array Sn) (σ : CSt) (Q : Out → CSt → Prop), b - a ≤ m → d.size = n0 → PV σ i pre post d → a ≤ b → b ≤ n0 → l < 2 ^ 40 → Sort.Below ltS a b d →
    (∀ σ' d', Sort.PermIn a b d d' → Sort.SortedIn ltS a b d' → PV σ' i pre post d' → But i σ σ' → Q (.ret (.tuple #[]) false) σ') →
    W E1 (.fn 75 #[.slice (some ⟨i, pre.length, none⟩) n0 cap, .int .i64 a, .int .i64 b, .int .i64 l, (.func (.func 53) #[] #[])] none) σ Q := by
  have hcn' : (0 : Int) < 1 := by decide
  intro m
  induction m using Nat.strongRecOn with
  | _ m IH =>
  intro a b l d σ Q hm hn0 hv hab hb hl40 hbel h
  rw [W_fn (fn := Tryz.f75) Tryz.func75 rfl rfl rfl]
  simp [wops_cons, dops_cons, dops_if, dstOf, -st_eq, -ld_eq, -Nat.not_lt, lenS, cokS, hcn']
  refine W_loop_inv (fun n A s => ∃ tm a' b' l' wb wp d', A = ⟨tm, 148, [], false⟩ ∧ tm.get 0 = some (.slice (some ⟨i, pre.length, none⟩) n0 cap) ∧ tm.get 4 = some (.func (.func 53) #[] #[]) ∧ tm.get 1 = some (.int .i64 (a' : Nat)) ∧ tm.get 2 = some (.int .i64 (b' : Nat)) ∧ tm.get 3 = some (.int .i64 (l' : Nat)) ∧ tm.get 10 = some (.bool wb) ∧ tm.get 11 = some (.bool wp) ∧ b' - a' ≤ m ∧ n = b' - a' ∧ l' < 2 ^ 40 ∧ LeftP a b d n0 a' b' d' ∧ PV s i pre post d' ∧ But i σ s) ?_ (b - a) _ _ ?_
  · rintro n A σ1 ⟨tm, a', b', l', wb, wp, d1, rfl, e0, e4, e1, e2, e3, e10, e11, hsub, hn, hl', hL, hv1, hg1⟩
    have hab' := hL.le
    have hbn := hL.hi
    have hw1 : IntKind.i64.wrap ((b' : Int) - a') = ((b' - a' : Nat) : Int) := by rw [IntWalk.i64_in _ (by omega)]; omega
    obtain ⟨len, hlen⟩ : ∃ len, len = b' - a' := ⟨_, rfl⟩
    rw [← hlen] at hw1 hsub hn
    by_cases h12 : len ≤ 12
    · have h12' : (len : Int) ≤ 12 := by omega
      simp [wops_cons, dops_cons, dops_if, dstOf, -st_eq, -ld_eq, -Nat.not_lt, lenS, cokS, hcn', e0, e4, e1, e2, e3, hw1, h12, h12']
      refine insP_n n0 d1 hL.sz i cap pre post a' b' σ1 hv1 hbn hbig hab' _ fun σ2 hv2 hg2 => ?_
      have hi := Sort.insertionSort_holds (lt := ltS) swo_ltSP d1 a' b' hab' (by rw [hL.sz]; exact hbn)
      obtain ⟨f1, f2⟩ := hL.fin _ hi.1 hi.2
      simp [wops_cons, dops_cons, dops_if, dstOf, -st_eq, -ld_eq, -Nat.not_lt, lenS, cokS, hcn']
      exact h σ2 _ f1 f2 hv2 (hg1.trans hg2)
    · have h12' : ¬ (len : Int) ≤ 12 := by omega
      by_cases hl0 : l' = 0
      · have hl0' : (l' : Int) = 0 := by omega
        simp [wops_cons, dops_cons, dops_if, dstOf, -st_eq, -ld_eq, -Nat.not_lt, lenS, cokS, hcn', e0, e4, e1, e2, e3, hw1, h12, h12', hl0, hl0']
        refine heap_sP n0 d1 hL.sz i cap pre post a' b' σ1 hv1 hbn hbig hab' _ fun σ2 hv2 hg2 => ?_
        have hi := Sort.heapSort_holds (lt := ltS) swo_ltSP d1 a' b' hab' (by rw [hL.sz]; exact hbn)
        obtain ⟨f1, f2⟩ := hL.fin _ hi.1 hi.2
        simp [wops_cons, dops_cons, dops_if, dstOf, -st_eq, -ld_eq, -Nat.not_lt, lenS, cokS, hcn']
        exact h σ2 _ f1 f2 hv2 (hg1.trans hg2)
      · have hl0' : ¬ (l' : Int) = 0 := by omega
        have hwl := i64p l' (by omega) (by omega)
        simp [wops_cons, dops_cons, dops_if, dstOf, -st_eq, -ld_eq, -Nat.not_lt, lenS, cokS, hcn', -W_condK, W_cond_t, W_cond_f, e0, e4, e1, e2, e3, e10, hw1, h12, h12', hl0, hl0']
        refine W_cut (fun o s => ∃ tm l'' d', o = .code .normal ⟨tm, 148, [], false⟩ ∧ tm.get 0 = some (.slice (some ⟨i, pre.length, none⟩) n0 cap) ∧ tm.get 4 = some (.func (.func 53) #[] #[]) ∧ tm.get 1 = some (.int .i64 (a' : Nat)) ∧ tm.get 2 = some (.int .i64 (b' : Nat)) ∧ tm.get 3 = some (.int .i64 (l'' : Nat)) ∧ tm.get 10 = some (.bool wb) ∧ tm.get 11 = some (.bool wp) ∧ tm.get 12 = some (.int .i64 (len : Nat)) ∧ l'' < 2 ^ 40 ∧ LeftP a b d n0 a' b' d' ∧ PV s i pre post d' ∧ But i σ s) ?_ ?_
        · cases wb with
          | true =>
            simp [wops_cons, dops_cons, dops_if, dstOf, -st_eq, -ld_eq, -Nat.not_lt, lenS, cokS, hcn', e0, e4, e1, e2, e3, e10, e11]
            exact ⟨l', rfl, hl', d1, hL, hv1, hg1⟩
          | false =>
            simp [wops_cons, dops_cons, dops_if, dstOf, -st_eq, -ld_eq, -Nat.not_lt, lenS, cokS, hcn', e0, e4, e1, e2, e3, e10, e11]
            refine break_sP n0 d1 hL.sz i cap pre post a' b' σ1 hv1 hbn hbig hab' _ fun σ2 d2 hp2 hv2 hg2 => ?_
            simp [wops_cons, dops_cons, dops_if, dstOf, -st_eq, -ld_eq, -Nat.not_lt, lenS, cokS, hcn', e0, e4, e1, e2, e3, e10, e11, hwl]
            exact ⟨l' - 1, rfl, by omega, d2, hL.perm hp2, hv2, hg1.trans hg2⟩
        · clear e0 e4 e1 e2 e3 e10 e11 hl' hL hv1 hg1 hwl hl0 hl0'
          rintro o σ2 ⟨tm, l2, d2, rfl, e0, e4, e1, e2, e3, e10, e11, e12, hl2, hL, hv2, hg2⟩
          have hab2 : a' < b' := by omega
          simp [wops_cons, dops_cons, dops_if, dstOf, -st_eq, -ld_eq, -Nat.not_lt, lenS, cokS, hcn', -W_condK, W_cond_t, W_cond_f, e0, e4, e1, e2]
          refine pivot_sP n0 d2 hL.sz i cap pre post a' b' σ2 hv2 hbn hbig hab2 _ fun p hint σ3 hp0 hp1 hhint hv3 hg3' => ?_
          have hg3 := hg2.trans hg3'
          simp [wops_cons, dops_cons, dops_if, dstOf, -st_eq, -ld_eq, -Nat.not_lt, lenS, cokS, hcn', -W_condK, W_cond_t, W_cond_f]
          refine W_cut (fun o s => ∃ tm p' hint' d', o = .code .normal ⟨tm, 148, [], false⟩ ∧ tm.get 0 = some (.slice (some ⟨i, pre.length, none⟩) n0 cap) ∧ tm.get 4 = some (.func (.func 53) #[] #[]) ∧ tm.get 1 = some (.int .i64 (a' : Nat)) ∧ tm.get 2 = some (.int .i64 (b' : Nat)) ∧ tm.get 3 = some (.int .i64 (l2 : Nat)) ∧ tm.get 10 = some (.bool wb) ∧ tm.get 11 = some (.bool wp) ∧ tm.get 12 = some (.int .i64 (len : Nat)) ∧ tm.get 13 = some (.int .i64 (p' : Nat)) ∧ tm.get 14 = some (.int .i64 hint') ∧ a' ≤ p' ∧ p' < b' ∧ LeftP a b d n0 a' b' d' ∧ PV s i pre post d' ∧ But i σ s) ?_ ?_
          · by_cases hh2 : hint = 2
            · subst hh2
              simp [wops_cons, dops_cons, dops_if, dstOf, -st_eq, -ld_eq, -Nat.not_lt, lenS, cokS, hcn', e0, e4, e1, e2, e3, e10, e11, e12]
              refine rev_sP n0 d2 hL.sz i cap pre post a' b' σ3 hv3 hbn hbig hab2 _ fun σ4 hv4 hg4 => ?_
              have hr := Sort.reverseRange_holds (α := Sn) d2 a' b' hab' (by rw [hL.sz]; exact hbn)
              obtain ⟨q0, q1, q2⟩ := pdq_ar hp0 hp1
              have hwb1 := i64p b' (by omega) (by omega)
              have hwpa : IntKind.i64.wrap ((p : Int) - a') = ((p - a' : Nat) : Int) := by rw [IntWalk.i64_in _ (by omega)]; omega
              have hwpb : IntKind.i64.wrap (((b' - 1 : Nat) : Int) - ((p - a' : Nat) : Int)) = ((b' - 1 - (p - a') : Nat) : Int) := by rw [IntWalk.i64_in _ (by omega)]; omega
              simp [wops_cons, dops_cons, dops_if, dstOf, -st_eq, -ld_eq, -Nat.not_lt, lenS, cokS, hcn', e0, e4, e1, e2, e3, e10, e11, e12, hwb1, hwpa, hwpb]
              exact ⟨_, rfl, q1, q2, _, hL.perm hr, hv4, hg3.trans hg4⟩
            · simp [wops_cons, dops_cons, dops_if, dstOf, -st_eq, -ld_eq, -Nat.not_lt, lenS, cokS, hcn', e0, e4, e1, e2, e3, e10, e11, e12, hh2]
              exact ⟨p, rfl, hp0, hp1, d2, hL, hv3, hg3⟩
          · clear e0 e4 e1 e2 e3 e10 e11 e12 hL hv2 hg2 hv3 hg3 hg3' hp0 hp1 hhint
            rintro o σ4 ⟨tm, p, hint, d4, rfl, e0, e4, e1, e2, e3, e10, e11, e12, e13, e14, hp0, hp1, hL, hv4, hg4⟩
            simp [wops_cons, dops_cons, dops_if, dstOf, -st_eq, -ld_eq, -Nat.not_lt, lenS, cokS, hcn', -W_condK, W_cond_t, W_cond_f, -W_region]
            refine W_cut (fun o s => ∃ tm g, o = .code .normal ⟨tm, 148, [], false⟩ ∧ tm.get 0 = some (.slice (some ⟨i, pre.length, none⟩) n0 cap) ∧ tm.get 4 = some (.func (.func 53) #[] #[]) ∧ tm.get 1 = some (.int .i64 (a' : Nat)) ∧ tm.get 2 = some (.int .i64 (b' : Nat)) ∧ tm.get 3 = some (.int .i64 (l2 : Nat)) ∧ tm.get 10 = some (.bool wb) ∧ tm.get 11 = some (.bool wp) ∧ tm.get 12 = some (.int .i64 (len : Nat)) ∧ tm.get 13 = some (.int .i64 (p : Nat)) ∧ tm.get 75 = some (.bool g) ∧ s = σ4) ?_ ?_
            · cases wb with
              | false =>
                simp [wops_cons, dops_cons, dops_if, dstOf, -st_eq, -ld_eq, -Nat.not_lt, lenS, cokS, hcn', wops_if', e0, e4, e1, e2, e3, e10, e11, e12, e13, e14]
              | true =>
                cases wp with
                | false => simp [wops_cons, dops_cons, dops_if, dstOf, -st_eq, -ld_eq, -Nat.not_lt, lenS, cokS, hcn', wops_if', e0, e4, e1, e2, e3, e10, e11, e12, e13, e14]
                | true => simp [wops_cons, dops_cons, dops_if, dstOf, -st_eq, -ld_eq, -Nat.not_lt, lenS, cokS, hcn', wops_if', e0, e4, e1, e2, e3, e10, e11, e12, e13, e14]; omega
            · clear e0 e4 e1 e2 e3 e10 e11 e12 e13 e14
              rintro o s ⟨tm, g, rfl, e0, e4, e1, e2, e3, e10, e11, e12, e13, e75, hs⟩
              rw [hs]
              clear hs s
              simp [wops_cons, dops_cons, dops_if, dstOf, -st_eq, -ld_eq, -Nat.not_lt, lenS, cokS, hcn', -W_condK, W_cond_t, W_cond_f, -W_region]
              refine W_cut (fun o s => (o = .code .ret ⟨.nil, 134, [], false⟩ ∧ False) ∨ (∃ tm, o = .code .ret ⟨tm, 148, [], false⟩ ∧ Q (.ret (.tuple #[]) false) s) ∨ ∃ tm d', o = .code .normal ⟨tm, 148, [], false⟩ ∧ tm.get 0 = some (.slice (some ⟨i, pre.length, none⟩) n0 cap) ∧ tm.get 4 = some (.func (.func 53) #[] #[]) ∧ tm.get 1 = some (.int .i64 (a' : Nat)) ∧ tm.get 2 = some (.int .i64 (b' : Nat)) ∧ tm.get 3 = some (.int .i64 (l2 : Nat)) ∧ tm.get 10 = some (.bool wb) ∧ tm.get 11 = some (.bool wp) ∧ tm.get 12 = some (.int .i64 (len : Nat)) ∧ tm.get 13 = some (.int .i64 (p : Nat)) ∧ LeftP a b d n0 a' b' d' ∧ PV s i pre post d' ∧ But i σ s) ?_ ?_
              · cases g with
                | false =>
                  simp [wops_cons, dops_cons, dops_if, dstOf, -st_eq, -ld_eq, -Nat.not_lt, lenS, cokS, hcn', e0, e4, e1, e2, e3, e10, e11, e12, e13, e75]
                  exact ⟨d4, hL, hv4, hg4⟩
                | true =>
                  simp [wops_cons, dops_cons, dops_if, dstOf, -st_eq, -ld_eq, -Nat.not_lt, lenS, cokS, hcn', e0, e4, e1, e2, e3, e10, e11, e12, e13, e75]
                  refine partIns_sP n0 d4 hL.sz i cap pre post a' b' σ4 hv4 hbn hbig hab2 _ fun σ5 hv5 hg5 => ?_
                  obtain ⟨f1, f2⟩ := Sort.partialInsertionSort_holds (lt := ltS) swo_ltSP d4 a' b' hab2 (by rw [hL.sz]; exact hbn) hL.bel
                  generalize (Sort.partialInsertionSort ltS d4 a' b').1 = d5 at f1 f2 hv5
                  generalize (Sort.partialInsertionSort ltS d4 a' b').2 = r5 at f2
                  cases r5 with
                  | true =>
                    obtain ⟨f3, f4⟩ := hL.fin _ f1 (f2 rfl)
                    simp [wops_cons, dops_cons, dops_if, dstOf, -st_eq, -ld_eq, -Nat.not_lt, lenS, cokS, hcn', e0, e4, e1, e2, e3, e10, e11, e12, e13, e75]
                    exact h σ5 d5 f3 f4 hv5 (hg4.trans hg5)
                  | false =>
                    simp [wops_cons, dops_cons, dops_if, dstOf, -st_eq, -ld_eq, -Nat.not_lt, lenS, cokS, hcn', e0, e4, e1, e2, e3, e10, e11, e12, e13, e75]
                    exact ⟨d5, hL.perm f1, hv5, hg4.trans hg5⟩
              · clear e0 e4 e1 e2 e3 e10 e11 e12 e13 e75 hL hv4 hg4
                rintro o σ5 (⟨rfl, h0⟩ | ⟨tm, rfl, hq⟩ | ⟨tm, d5, rfl, e0, e4, e1, e2, e3, e10, e11, e12, e13, hL, hv5, hg5⟩)
                · exact h0.elim
                · simp [wops_cons, dops_cons, dops_if, dstOf, -st_eq, -ld_eq, -Nat.not_lt, lenS, cokS, hcn']
                  exact hq
                have hpn : p < n0 := by omega
                simp [wops_cons, dops_cons, dops_if, dstOf, -st_eq, -ld_eq, -Nat.not_lt, lenS, cokS, hcn', -W_condK, W_cond_t, W_cond_f, -W_region]
                refine W_cut (fun o s => ∃ tm g, o = .code .normal ⟨tm, 148, [], false⟩ ∧ tm.get 0 = some (.slice (some ⟨i, pre.length, none⟩) n0 cap) ∧ tm.get 4 = some (.func (.func 53) #[] #[]) ∧ tm.get 1 = some (.int .i64 (a' : Nat)) ∧ tm.get 2 = some (.int .i64 (b' : Nat)) ∧ tm.get 3 = some (.int .i64 (l2 : Nat)) ∧ tm.get 10 = some (.bool wb) ∧ tm.get 11 = some (.bool wp) ∧ tm.get 12 = some (.int .i64 (len : Nat)) ∧ tm.get 13 = some (.int .i64 (p : Nat)) ∧ tm.get 97 = some (.bool g) ∧ (g = true → 0 < a' ∧ ltS (aget d5 (a' - 1)) (aget d5 p) = false) ∧ PV s i pre post d5 ∧ But i σ s) ?_ ?_
                · refine W_calm (by kernel_rfl) ?_
                  have hgi := hv5.1
                  have hsz5 := hL.sz
                  by_cases ha0 : 0 < a'
                  · have ha0' : (0 : Int) < a' := by omega
                    have han : a' - 1 < n0 := by omega
                    have hwa := i64p a' ha0 (by omega)
                    have hra := rowP_get (pre := pre) (post := post) (d := d5) (j := a' - 1) (by omega)
                    have hrp := rowP_get (pre := pre) (post := post) (d := d5) (j := p) (by omega)
                    simp [wops_cons, dops_cons, dops_if, dstOf, -st_eq, -ld_eq, -Nat.not_lt, lenS, cokS, hcn', e0, e4, e1, e2, e3, e10, e11, e12, e13, ha0, ha0', hwa, han, hpn, hgi, hra, hrp]
                    refine less_p _ _ _ _ fun cn σ5 gc hcn => ?_
                    have hv5 := hv5.grow gc
                    have hg5 := hg5.trans gc.but
                    have hgi := hv5.1
                    cases hl : ltS (aget d5 (a' - 1)) (aget d5 p)
                    · have hcn' : ¬ cn < 0 := by simpa [hl] using hcn
                      simp [wops_cons, dops_cons, dops_if, dstOf, -st_eq, -ld_eq, -Nat.not_lt, lenS, cokS, hcn', e0, e4, e1, e2, e3, e10, e11, e12, e13, hl, ha0]
                      exact ⟨hv5, hg5⟩
                    · have hcn' : cn < 0 := by simpa [hl] using hcn
                      simp [wops_cons, dops_cons, dops_if, dstOf, -st_eq, -ld_eq, -Nat.not_lt, lenS, cokS, hcn', e0, e4, e1, e2, e3, e10, e11, e12, e13, hl, ha0]
                      exact ⟨hv5, hg5⟩
                  · have ha0' : ¬ (0 : Int) < a' := by omega
                    simp [wops_cons, dops_cons, dops_if, dstOf, -st_eq, -ld_eq, -Nat.not_lt, lenS, cokS, hcn', e0, e4, e1, e2, e3, e10, e11, e12, e13, ha0, ha0']
                    exact ⟨hv5, hg5⟩
                · clear e0 e4 e1 e2 e3 e10 e11 e12 e13 hv5 hg5
                  rintro o σ5 ⟨tm, g, rfl, e0, e4, e1, e2, e3, e10, e11, e12, e13, e97, hg, hv5, hg5⟩
                  cases g with
                  | true =>
                    obtain ⟨ha0, hnl⟩ := hg rfl
                    simp [wops_cons, dops_cons, dops_if, dstOf, -st_eq, -ld_eq, -Nat.not_lt, lenS, cokS, hcn', e0, e4, e1, e2, e3, e10, e11, e12, e13, e97]
                    refine partEq_sP n0 d5 hL.sz i cap pre post a' b' p σ5 hv5 hbn hbig hab2 hp1 _ fun σ6 hv6 hg6 => ?_
                    have hre := Sort.round_eq (lt := ltS) (d4 := (Sort.partitionEqual ltS d5 a' b' p).2) (mid := (Sort.partitionEqual ltS d5 a' b' p).1) swo_ltSP (Sort.partitionEqual_holds ltS) ha0 hp0 hp1 (by rw [hL.sz]; exact hbn) hL.bel hnl rfl
                    generalize (Sort.partitionEqual ltS d5 a' b' p).2 = d6 at hre hv6
                    generalize (Sort.partitionEqual ltS d5 a' b' p).1 = mid at hre
                    obtain ⟨k1, k2, k3, k4, k5⟩ := hre
                    simp [wops_cons, dops_cons, dops_if, dstOf, -st_eq, -ld_eq, -Nat.not_lt, lenS, cokS, hcn', e0, e4, e1, e2, e3, e10, e11, e12, e13]
                    exact ⟨b' - mid, by omega, mid, rfl, b', rfl, l2, rfl, by omega, rfl, hl2, d6, ⟨k2, hbn, by rw [k3]; exact hL.sz, k4, fun R r1 r2 => hL.fin R (k5 R r1 r2).1 (k5 R r1 r2).2⟩, hv6, hg5.trans hg6⟩
                  | false =>
                    simp [wops_cons, dops_cons, dops_if, dstOf, -st_eq, -ld_eq, -Nat.not_lt, lenS, cokS, hcn', e0, e4, e1, e2, e3, e10, e11, e12, e13, e97]
                    refine part_sP n0 d5 hL.sz i cap pre post a' b' p σ5 hv5 hbn hbig hab2 hp1 _ fun σ6 hv6 hg6 => ?_
                    have hre := Sort.round_part (lt := ltS) (d4 := (Sort.partition ltS d5 a' b' p).2.2) (mid := (Sort.partition ltS d5 a' b' p).1) (ap := (Sort.partition ltS d5 a' b' p).2.1) swo_ltSP (Sort.partition_holds ltS) hp0 hp1 (by rw [hL.sz]; exact hbn) hL.bel rfl
                    generalize (Sort.partition ltS d5 a' b' p).2.2 = d6 at hre hv6
                    generalize (Sort.partition ltS d5 a' b' p).2.1 = al at hre ⊢
                    generalize (Sort.partition ltS d5 a' b' p).1 = mid at hre
                    obtain ⟨k1, k2, k3, k4, k5, k6, k7⟩ := hre
                    have hw5 : IntKind.i64.wrap ((mid : Int) - a') = ((mid - a' : Nat) : Int) := by rw [IntWalk.i64_in _ (by omega)]; omega
                    have hw6 : IntKind.i64.wrap ((b' : Int) - mid) = ((b' - mid : Nat) : Int) := by rw [IntWalk.i64_in _ (by omega)]; omega
                    have hw7 : IntKind.i64.wrap ((len : Int) / 8) = ((len / 8 : Nat) : Int) := by rw [IntWalk.i64_in _ (by omega)]; omega
                    obtain ⟨mid1, hm1⟩ : ∃ mid1, mid1 = mid + 1 := ⟨_, rfl⟩
                    have hw8 : IntKind.i64.wrap ((mid : Int) + 1) = (mid1 : Int) := by rw [i64n1 mid (by omega), hm1]
                    have hsz6 : d6.size = n0 := by rw [k3]; exact hL.sz
                    rw [← hm1] at k5 k6 k7
                    obtain ⟨th, hth⟩ : ∃ th, th = len / 8 := ⟨_, rfl⟩
                    rw [← hth] at hw7
                    by_cases hlr : mid - a' < b' - mid
                    · have hlr' : ((mid - a' : Nat) : Int) < ((b' - mid : Nat) : Int) := by omega
                      simp [wops_cons, dops_cons, dops_if, dstOf, -st_eq, -ld_eq, -Nat.not_lt, lenS, cokS, hcn', e0, e4, e1, e2, e3, e10, e11, e12, e13, hw5, hw6, hw7, hlr, hlr']
                      refine IH (mid - a') (by omega) a' mid l2 d6 σ6 _ (Nat.le_refl _) hsz6 hv6 k1 (by omega) hl2 k4 fun σ7 d7 hp7 hs7 hv7 hg7 => ?_
                      obtain ⟨j1, j2⟩ := k6 d7 hp7 hs7
                      simp [wops_cons, dops_cons, dops_if, dstOf, -st_eq, -ld_eq, -Nat.not_lt, lenS, cokS, hcn', e0, e4, e1, e2, e3, e10, e11, e12, e13, hw8]
                      exact ⟨b' - mid1, by omega, mid1, rfl, b', rfl, l2, rfl, by omega, by omega, rfl, hl2, d7, ⟨by omega, hbn, by rw [hp7.1]; exact hsz6, j1, fun R r1 r2 => hL.fin R (j2 R r1 r2).1 (j2 R r1 r2).2⟩, hv7, (hg5.trans hg6).trans hg7⟩
                    · have hlr' : ¬ ((mid - a' : Nat) : Int) < ((b' - mid : Nat) : Int) := by omega
                      simp [wops_cons, dops_cons, dops_if, dstOf, -st_eq, -ld_eq, -Nat.not_lt, lenS, cokS, hcn', e0, e4, e1, e2, e3, e10, e11, e12, e13, hw5, hw6, hw7, hlr, hlr', hw8]
                      refine IH (b' - mid1) (by omega) mid1 b' l2 d6 σ6 _ (Nat.le_refl _) hsz6 hv6 (by omega) hbn hl2 k5 fun σ7 d7 hp7 hs7 hv7 hg7 => ?_
                      obtain ⟨j1, j2⟩ := k7 d7 hp7 hs7
                      simp [wops_cons, dops_cons, dops_if, dstOf, -st_eq, -ld_eq, -Nat.not_lt, lenS, cokS, hcn', e0, e4, e1, e2, e3, e10, e11, e12, e13]
                      exact ⟨mid - a', by omega, a', rfl, mid, rfl, l2, rfl, by omega, by omega, rfl, hl2, d7, ⟨k1, by omega, by rw [hp7.1]; exact hsz6, j1, fun R r1 r2 => hL.fin R (j2 R r1 r2).1 (j2 R r1 r2).2⟩, hv7, (hg5.trans hg6).trans hg7⟩
  · refine ⟨_, a, b, l, true, true, d, rfl, ?_⟩
    simp
    exact ⟨by omega, hl40, ⟨hab, hb, hn0, hbel, fun R h1 h2 => ⟨h1, h2⟩⟩, hv, But.refl i σ⟩
end Go.Sm
/- Sorting strings: slices.Sort. -/
set_option linter.unusedVariables false
set_option linter.unusedSimpArgs false
namespace Go.Sm
open Go Go.Proofs
set_option maxRecDepth 100000
set_option maxHeartbeats 4000000
theorem permIn_all_listP {d d' : Array Sn} (h : Sort.PermIn 0 d.size d d') : d'.toList.Perm d.toList := by
  have h1 := h.2.2
  have e1 : d.extract 0 d.size = d := by simp
  have e2 : d'.extract 0 d.size = d' := by rw [← h.1]; simp
  rwa [e1, e2] at h1
theorem sortedIn_allP {d' : Array Sn} (h : Sort.SortedIn ltS 0 d'.size d') : d'.toList.Pairwise fun x y => ltS y x = false := by
  rw [List.pairwise_iff_getElem]
  intro i j hi hj hij
  have := h i j (Nat.zero_le _) hij (by simpa using hj)
  rw [getElem!_pos d' i (by simpa using hi), getElem!_pos d' j (by simpa using hj)] at this
  simpa using this
theorem But.growB {b i : Nat} {σ σ' : CSt} (h : But i σ σ') (hi : b ≤ i) (hb : b ≤ σ.n) : GrowB b σ σ' := ⟨h.1, fun j hj => h.2 j (by omega) (by omega)⟩
theorem sort_ownP (b : Nat) (l : List Sn) (v : Value) (σ : CSt) (hb : b ≤ σ.n) (hown : Own b σ 31 encS v l) (hbig : l.length < 2 ^ 38) (Q : Out → CSt → Prop)
    (h : ∀ (l' : List Sn) (σ' : CSt), l'.Perm l → (l'.Pairwise fun x y => ltS y x = false) → Own b σ' 31 encS v l' → GrowB b σ σ' → Q (.ret (.tuple #[]) false) σ') :
    W E1 (.fn 52 #[v, (.func (.func 53) #[] #[])] none) σ Q := by
  have hcn' : (0 : Int) < 1 := by decide
  rw [W_fn (fn := Tryz.f52) Tryz.func52 rfl rfl rfl]
  rcases hown with ⟨rfl, rfl⟩ | ⟨i, cap, rfl, hbi, hin, hg, hcap⟩
  · have fin := h [] σ (List.Perm.refl _) List.Pairwise.nil Own.nil (GrowB.refl b σ)
    have hw : IntKind.u64.wrap 0 = 0 := by decide
    have hl : Sort.bitsLen 0 = 0 := rfl
    have hw0 : IntKind.i64.wrap 0 = 0 := by decide
    have hwo : IntKind.i64.wrap 1 = 1 := by decide
    simp [wops_cons, hw]
    refine len_spec 0 (by omega) _ _ ?_
    simp [wops_cons, hl]
    rw [W_fn (fn := Tryz.f75) Tryz.func75 rfl rfl rfl]
    simp [wops_cons]
    rw [W_loop]
    simp [wops_cons, hw0]
    rw [W_fn (fn := Tryz.f104) Tryz.func104 rfl rfl rfl]
    simp [wops_cons]
    rw [W_loop]
    simpa [wops_cons, hwo] using fin
  · have hw : IntKind.u64.wrap (l.length : Int) = l.length := IntWalk.u64_in _ (by omega)
    have hbl : Sort.bitsLen l.length < 2 ^ 40 := by
      have := (Sort.bitsLen_le_iff l.length 40).2 (by omega)
      omega
    have hd : l.toArray.size = l.length := by simp
    have hv : PV σ i [] [] l.toArray := ⟨by simpa [rowD] using hg, hin⟩
    simp [wops_cons, hw]
    refine len_spec l.length (by omega) _ _ ?_
    simp [wops_cons]
    refine pdq_sP l.length i cap [] [] (by omega) l.length 0 l.length _ l.toArray σ _ (by omega) hd hv (by omega) (Nat.le_refl _) hbl (.inl rfl) fun σ' d' hp hs hv' hg' => ?_
    simp [wops_cons]
    rw [← hd] at hp hs
    have hsz := hp.1
    rw [← hsz] at hs
    have hlen : d'.toList.length = l.length := by simp [hsz]
    refine h d'.toList σ' (by simpa using permIn_all_listP hp) (sortedIn_allP hs) (.inr ⟨i, cap, by rw [hlen], hbi, hv'.2, by simpa [rowD] using hv'.1, ?_⟩) (hg'.growB hbi hb)
    rcases hcap with h1 | ⟨h1, h2⟩
    · exact .inl h1
    · exact .inr ⟨List.eq_nil_of_length_eq_zero (by rw [hlen, h1]; rfl), h2⟩
end Go.Sm
/- Sorting spans that have room behind. -/
set_option linter.unusedVariables false
set_option linter.unusedSimpArgs false
namespace Go.Sm
open Go Go.Proofs
set_option maxRecDepth 100000
set_option maxHeartbeats 4000000
theorem sort_ownZP (b : Nat) (l : List Sn) (v : Value) (σ : CSt) (hb : b ≤ σ.n) (hown : OwnZ b σ 31 encS v l) (hbig : l.length < 2 ^ 38) (Q : Out → CSt → Prop)
    (h : ∀ (l' : List Sn) (σ' : CSt), l'.Perm l → (l'.Pairwise fun x y => ltS y x = false) → OwnZ b σ' 31 encS v l' → GrowB b σ σ' → Q (.ret (.tuple #[]) false) σ') :
    W E1 (.fn 52 #[v, (.func (.func 53) #[] #[])] none) σ Q := by
  have hcn' : (0 : Int) < 1 := by decide
  rw [W_fn (fn := Tryz.f52) Tryz.func52 rfl rfl rfl]
  rcases hown with ⟨rfl, rfl⟩ | ⟨i, cap, zs, rfl, hbi, hin, hg, hzs, hcap⟩
  · have fin := h [] σ (List.Perm.refl _) List.Pairwise.nil OwnZ.nil (GrowB.refl b σ)
    have hw : IntKind.u64.wrap 0 = 0 := by decide
    have hl : Sort.bitsLen 0 = 0 := rfl
    have hw0 : IntKind.i64.wrap 0 = 0 := by decide
    have hwo : IntKind.i64.wrap 1 = 1 := by decide
    simp [wops_cons, hw]
    refine len_spec 0 (by omega) _ _ ?_
    simp [wops_cons, hl]
    rw [W_fn (fn := Tryz.f75) Tryz.func75 rfl rfl rfl]
    simp [wops_cons]
    rw [W_loop]
    simp [wops_cons, hw0]
    rw [W_fn (fn := Tryz.f104) Tryz.func104 rfl rfl rfl]
    simp [wops_cons]
    rw [W_loop]
    simpa [wops_cons, hwo] using fin
  · have hw : IntKind.u64.wrap (l.length : Int) = l.length := IntWalk.u64_in _ (by omega)
    have hbl : Sort.bitsLen l.length < 2 ^ 40 := by
      have := (Sort.bitsLen_le_iff l.length 40).2 (by omega)
      omega
    have hd : l.toArray.size = l.length := by simp
    have hv : PV σ i [] zs l.toArray := ⟨by simpa [rowD] using hg, hin⟩
    simp [wops_cons, hw]
    refine len_spec l.length (by omega) _ _ ?_
    simp [wops_cons]
    refine pdq_sP l.length i cap [] zs (by omega) l.length 0 l.length _ l.toArray σ _ (by omega) hd hv (by omega) (Nat.le_refl _) hbl (.inl rfl) fun σ' d' hp hs hv' hg' => ?_
    simp [wops_cons]
    rw [← hd] at hp hs
    have hsz := hp.1
    rw [← hsz] at hs
    have hlen : d'.toList.length = l.length := by simp [hsz]
    refine h d'.toList σ' (by simpa using permIn_all_listP hp) (sortedIn_allP hs) (.inr ⟨i, cap, zs, by rw [hlen], hbi, hv'.2, by simpa [rowD] using hv'.1, hzs, ?_⟩) (hg'.growB hbi hb)
    rcases hcap with h1 | ⟨h1, h2⟩
    · exact .inl h1
    · exact .inr ⟨List.eq_nil_of_length_eq_zero (by rw [hlen, h1]; rfl), h2⟩
end Go.Sm
