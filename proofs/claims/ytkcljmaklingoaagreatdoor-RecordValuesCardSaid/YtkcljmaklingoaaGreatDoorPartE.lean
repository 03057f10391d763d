/- Part E of the proof. -/
import Derived.Sort.AssemblyPlain
import Derived.Test.YtkcljmaklingoaaGreatDoorPartC
import Derived.Test.YtkcljmaklingoaaGreatDoorPartD
/- Maps: their entries as a list; ranges over them. -/
set_option linter.unusedVariables false
set_option linter.unusedSimpArgs false
namespace Go.Sm
open Go
/-- A map's entries. -/
abbrev MlG (κ : Type) := List (κ × Value)
abbrev Ml := MlG ByteArray
section
variable {κ : Type} [DecidableEq κ]
def EntsG (key : κ → Value) (es : List MapEntry) (M : MlG κ) : Prop := es.map (fun e => (e.key, e.val)) = M.map fun p => (key p.1, p.2)
def posM (k : κ) : MlG κ → Nat → Option (Nat × Value)
  | [], _ => none
  | p :: M, i => if p.1 = k then some (i, p.2) else posM k M (i + 1)
/-- Keys of a kind: the model finds them. -/
structure Keyed (key : κ → Value) (kd : TypeDesc) : Prop where
  flat : ∀ k, flat0 (key k) = true
  same : ∀ k k', Instr.sameNow kd (key k) (key k') = some (decide (k' = k))
  inj : ∀ k k', key k = key k' → k = k'
theorem keyed_str : Keyed Value.string .string := by
  refine ⟨fun k => rfl, fun k k' => ?_, fun k k' h => by cases h; rfl⟩
  by_cases e1 : k' = k
  · subst e1; simp [Instr.sameNow, ba_self]
  · have hne : (k == k') = false := by
      cases h : (k == k') with
      | false => rfl
      | true => exact absurd (ba_eq h).symm e1
    simp [Instr.sameNow, hne, e1]
theorem keyed_int (ik : IntKind) : Keyed (Value.int ik) (.int ik) := by
  refine ⟨fun k => rfl, fun k k' => ?_, fun k k' h => by cases h; rfl⟩
  by_cases e1 : k' = k
  · subst e1; simp [Instr.sameNow]
  · have : ¬ k = k' := fun h => e1 h.symm
    simp [Instr.sameNow, e1, this]
theorem find_entsG {key : κ → Value} {kd : TypeDesc} (hk : Keyed key kd) (k : κ) : ∀ (es : List MapEntry) (M : MlG κ) (i : Nat), EntsG key es M → Instr.findNow kd (key k) es i = some (posM k M i)
  | [], [], _, _ => rfl
  | [], p :: M, _, h => by simp [EntsG] at h
  | e :: es, [], _, h => by simp [EntsG] at h
  | e :: es, p :: M, i, h => by
    simp only [EntsG, List.map_cons, List.cons.injEq, Prod.mk.injEq] at h
    obtain ⟨⟨h1, h2⟩, h3⟩ := h
    have ih := find_entsG hk k es M (i + 1) h3
    unfold Instr.findNow posM
    rw [h1, hk.same]
    by_cases e1 : p.1 = k
    · simp [e1, h2]
    · simp [e1]
      exact ih
def getM (M : MlG κ) (k : κ) : Option Value := (M.find? fun p => decide (p.1 = k)).map (·.2)
def setM : MlG κ → κ → Value → MlG κ
  | [], k, v => [(k, v)]
  | p :: M, k, v => if p.1 = k then (k, v) :: M else p :: setM M k v
theorem posM_none {k : κ} {v : Value} : ∀ {M : MlG κ} {i : Nat}, posM k M i = none → getM M k = none ∧ setM M k v = M ++ [(k, v)] ∧ ∀ p ∈ M, p.1 ≠ k
  | [], _, _ => ⟨rfl, rfl, by simp⟩
  | p :: M, i, h => by
    unfold posM at h
    by_cases e : p.1 = k
    · rw [if_pos e] at h; cases h
    · rw [if_neg e] at h
      obtain ⟨h1, h2, h3⟩ := posM_none (v := v) h
      unfold getM setM
      rw [if_neg e, h2]
      refine ⟨?_, rfl, fun q hq => ?_⟩
      · rw [List.find?_cons]
        simp only [e, decide_false]
        exact h1
      · rcases List.mem_cons.1 hq with rfl | hq
        · exact e
        · exact h3 q hq
theorem posM_some {k : κ} {v w : Value} {j : Nat} : ∀ {M : MlG κ} {i : Nat}, posM k M i = some (j, w) → i ≤ j ∧ j - i < M.length ∧ getM M k = some w ∧ setM M k v = M.set (j - i) (k, v) ∧ (M[j - i]?).map (·.1) = some k
  | [], _, h => by cases h
  | p :: M, i, h => by
    unfold posM at h
    by_cases e : p.1 = k
    · rw [if_pos e] at h
      cases h
      refine ⟨Nat.le_refl _, by simp, ?_, ?_, by simp [e]⟩
      · unfold getM; rw [List.find?_cons]; simp [e]
      · unfold setM; rw [if_pos e]; simp
    · rw [if_neg e] at h
      obtain ⟨h0, h1, h2, h3, h4⟩ := posM_some (v := v) h
      have hj : j - i = (j - (i + 1)) + 1 := by omega
      refine ⟨by omega, by simp; omega, ?_, ?_, by rw [hj]; simpa using h4⟩
      · unfold getM; rw [List.find?_cons]; simp only [e, decide_false]; exact h2
      · unfold setM; rw [if_neg e, h3, hj, List.set_cons_succ]
/-- The entries; their births are of their own, before the clock; no key twice. -/
structure EntsOk (key : κ → Value) (es : List MapEntry) (clock : Nat) (M : MlG κ) : Prop where
  ents : EntsG key es M
  nodup : (es.map (·.born)).Nodup
  born : ∀ e ∈ es, e.born < clock
  keys : (M.map (·.1)).Nodup
def MpG (key : κ → Value) (σ : CSt) (m : Nat) (M : MlG κ) : Prop := ∃ es clock, σ.get m = some (.map es clock) ∧ EntsOk key es.toList clock M
theorem EntsG.length {κ : Type} {key : κ → Value} {es : List MapEntry} {M : MlG κ} (h : EntsG key es M) : es.length = M.length := by have := congrArg List.length h; simpa using this
theorem entsOk_nil {κ : Type} (key : κ → Value) (c : Nat) : EntsOk key [] c ([] : MlG κ) := ⟨rfl, by simp, by simp, by simp⟩
theorem setM_keys {k : κ} {v : Value} : ∀ {M : MlG κ}, (M.map (·.1)).Nodup → ((setM M k v).map (·.1)).Nodup ∧ ∀ q, q ∈ (setM M k v).map (·.1) ↔ q = k ∨ q ∈ M.map (·.1)
  | [], _ => by simp [setM]
  | p :: M, h => by
    rw [List.map_cons, List.nodup_cons] at h
    obtain ⟨h1, h2⟩ := setM_keys (k := k) (v := v) h.2
    unfold setM
    by_cases e : p.1 = k
    · rw [if_pos e, List.map_cons, List.nodup_cons]
      refine ⟨⟨by rw [← e]; exact h.1, h.2⟩, fun q => ?_⟩
      simp [e]
    · rw [if_neg e, List.map_cons, List.nodup_cons]
      refine ⟨⟨fun hm => ?_, h1⟩, fun q => ?_⟩
      · rcases (h2 p.1).1 hm with h3 | h3
        · exact e h3
        · exact h.1 h3
      · rw [List.mem_cons, h2, List.map_cons, List.mem_cons]
        exact or_left_comm
theorem getM_none {k : κ} {M : MlG κ} (h : ∀ p ∈ M, p.1 ≠ k) : getM M k = none := by
  unfold getM
  rw [List.find?_eq_none.2 fun p hp => by simpa using h p hp]
  rfl
theorem getM_mem {k : κ} {v : Value} : ∀ {M : MlG κ}, (M.map (·.1)).Nodup → (k, v) ∈ M → getM M k = some v
  | [], _, h => by cases h
  | p :: M, hn, h => by
    rw [List.map_cons, List.nodup_cons] at hn
    unfold getM
    rw [List.find?_cons]
    rcases List.mem_cons.1 h with rfl | h
    · simp
    · have : p.1 ≠ k := fun e => hn.1 (by rw [e]; exact List.mem_map_of_mem (f := (·.1)) h)
      simp only [this, decide_false]
      exact getM_mem hn.2 h
theorem getM_setM (k : κ) (v : Value) (q : κ) : ∀ M : MlG κ, getM (setM M k v) q = if k = q then some v else getM M q
  | [] => by
    unfold setM getM
    by_cases e : k = q <;> simp [e]
  | p :: M => by
    have ih := getM_setM k v q M
    unfold getM at ih ⊢
    unfold setM
    by_cases e1 : p.1 = k
    · rw [if_pos e1]
      by_cases e : k = q
      · simp [e]
      · have : ¬ p.1 = q := fun h => e (by rw [← e1, h])
        simp [e, this]
    · rw [if_neg e1]
      simp only [List.find?_cons]
      by_cases e2 : p.1 = q
      · have e : ¬ k = q := fun h => e1 (by rw [e2, h])
        simp [e2, e]
      · simp only [e2, decide_false]
        exact ih
section
variable {P : Program} {σ : CSt} {t kt et : TypeId} {m : Nat} {M : MlG κ} {k : κ} {key : κ → Value} {kd : TypeDesc}
theorem lookup_mpG (ht : P.underlying t = some (.map kt et)) (hk : keyKind P kt = some kd) (hK : Keyed key kd) {z : Value} (hz : zeroOf? P et = some z) (h : MpG key σ m M) (ok : Bool) : lookupOp P σ t (.map (some m)) (key k) ok = some (if ok then .tuple #[(getM M k).getD z, .bool (getM M k).isSome] else (getM M k).getD z) := by
  obtain ⟨es, clock, hg, he⟩ := h
  have hf : findK P kt (key k) es = some (posM k M 0) := by unfold findK; rw [hk]; exact find_entsG hK k _ M 0 he.ents
  unfold lookupOp
  rw [ht]
  simp only [CSt.maps, hg, Option.map_some, hf, hK.flat, if_true]
  cases hp : posM k M 0 with
  | none => rw [(posM_none (v := z) hp).1]; simp [hz]
  | some jw => obtain ⟨j, w⟩ := jw; rw [(posM_some (v := z) hp).2.2.1]; simp
theorem lookup_nilG (ht : P.underlying t = some (.map kt et)) (hk : keyKind P kt = some kd) (hK : Keyed key kd) {z : Value} (hz : zeroOf? P et = some z) (ok : Bool) : lookupOp P σ t (.map none) (key k) ok = some (if ok then .tuple #[z, .bool false] else z) := by
  have hf : findK P kt (key k) #[] = some none := by unfold findK; rw [hk]; rfl
  unfold lookupOp
  rw [ht]
  simp only [hf, hK.flat, if_true, hz, Option.map_some]
theorem update_mpG (ht : P.underlying t = some (.map kt et)) (hk : keyKind P kt = some kd) (hK : Keyed key kd) (h : MpG key σ m M) (v : Value) : ∃ o, updateOp P σ t (.map (some m)) (key k) v = some (σ.put m o) ∧ MpG key (σ.put m o) m (setM M k v) := by
  obtain ⟨es, clock, hg, he⟩ := h
  have hf : findK P kt (key k) es = some (posM k M 0) := by unfold findK; rw [hk]; exact find_entsG hK k _ M 0 he.ents
  unfold updateOp
  rw [ht]
  simp only [CSt.maps, hg, hf, hK.flat, if_true]
  have hkeys := (setM_keys (k := k) (v := v) he.keys).1
  cases hp : posM k M 0 with
  | none =>
    refine ⟨_, rfl, _, _, by rw [CSt.get_put, if_pos rfl], ?_⟩
    have hset := (posM_none (v := v) hp).2.1
    rw [hset] at hkeys
    rw [hset]
    have he1 := he.ents
    refine ⟨?_, ?_, fun e h => ?_, hkeys⟩
    · unfold EntsG at he1 ⊢
      simp [he1]
    · rw [Array.toList_push, List.map_append, List.nodup_append]
      refine ⟨he.nodup, by simp, fun a ha b hb => ?_⟩
      obtain ⟨e, h1, rfl⟩ := List.mem_map.1 ha
      simp at hb
      have := he.born e h1
      omega
    · rw [Array.toList_push] at h
      rcases List.mem_append.1 h with h | h
      · have := he.born e h; omega
      · rw [List.mem_singleton] at h; rw [h]; exact Nat.lt_succ_self _
  | some jw =>
    obtain ⟨j, w⟩ := jw
    obtain ⟨h1, h2, h3, h4, h5⟩ := posM_some (v := v) hp
    refine ⟨_, rfl, _, _, by rw [CSt.get_put, if_pos rfl], ?_⟩
    rw [h4] at hkeys
    rw [h4]
    have he1 := he.ents
    have hb : (es.modify j fun e => { e with key := key k, val := v }).toList.map (·.born) = es.toList.map (·.born) := by
      rw [Array.toList_modify]
      apply List.ext_getElem?
      intro n
      simp only [List.getElem?_map, List.getElem?_modify]
      by_cases e : j = n
      · subst e; simp [Option.map_map, Function.comp_def]
      · simp [e]
    refine ⟨?_, by rw [hb]; exact he.nodup, fun e h => ?_, hkeys⟩
    · unfold EntsG at he1 ⊢
      rw [Array.toList_modify, Nat.sub_zero]
      apply List.ext_getElem?
      intro n
      have hn := congrArg (·[n]?) he1
      simp only [List.getElem?_map, List.getElem?_modify, List.getElem?_set] at hn ⊢
      by_cases e : j = n
      · subst e
        rw [Nat.sub_zero] at h2
        have hl := EntsG.length he1
        simp [h2, List.getElem?_eq_getElem (show j < es.toList.length by omega)]
      · simp [e]
        simpa using hn
    · have h6 : e.born ∈ (es.modify j fun e => { e with key := key k, val := v }).toList.map (·.born) := List.mem_map_of_mem h
      rw [hb] at h6
      obtain ⟨e', h7, h8⟩ := List.mem_map.1 h6
      rw [← h8]
      exact he.born e' h7
end
end
abbrev Mp (σ : CSt) (m : Nat) (M : Ml) : Prop := MpG Value.string σ m M
section
variable {P : Program} {σ : CSt} {t kt et : TypeId} {m : Nat} {M : Ml} {k : ByteArray}
theorem lookup_mp (ht : P.underlying t = some (.map kt et)) (hk : keyKind P kt = some .string) {z : Value} (hz : zeroOf? P et = some z) (h : Mp σ m M) : lookupOp P σ t (.map (some m)) (.string k) false = some ((getM M k).getD z) := by
  have := lookup_mpG (k := k) ht hk keyed_str hz h false
  simpa using this
theorem update_mp (ht : P.underlying t = some (.map kt et)) (hk : keyKind P kt = some .string) (h : Mp σ m M) (v : Value) : ∃ o, updateOp P σ t (.map (some m)) (.string k) v = some (σ.put m o) ∧ Mp (σ.put m o) m (setM M k v) := update_mpG ht hk keyed_str h v
end
/-! ### Ranges -/
section
variable {κ : Type} [DecidableEq κ]
/-- A range over a map: what is yet to come. -/
def MIt (key : κ → Value) (σ : CSt) (r m : Nat) (M S : MlG κ) : Prop := ∃ es clock seen, σ.get m = some (.map es clock) ∧ EntsOk key es.toList clock M ∧ σ.get r = some (.miter (some m) clock seen clock) ∧ r ≠ m ∧ EntsG key (es.toList.filter fun e => !seen.contains e.born) S
theorem MIt.congr {κ : Type} {key : κ → Value} {σ σ' : CSt} {r m : Nat} {M S : MlG κ} (h : MIt key σ r m M S) (h1 : σ'.get r = σ.get r) (h2 : σ'.get m = σ.get m) : MIt key σ' r m M S := by
  obtain ⟨es, clock, seen, a, b, c, d⟩ := h
  exact ⟨es, clock, seen, by rw [h2]; exact a, b, by rw [h1]; exact c, d⟩
theorem MIt.mp {κ : Type} {key : κ → Value} {σ : CSt} {r m : Nat} {M S : MlG κ} (h : MIt key σ r m M S) : MpG key σ m M := by
  obtain ⟨es, clock, seen, a, b, c, d⟩ := h
  exact ⟨es, clock, a, b⟩
variable {P : Program} {σ : CSt} {ev : Operand → Value} {dst : Option Tmp} {ty : TypeId} {pos : String} {after : Array Edge} {g : Option (Nat × Bool)}
@[simp] theorem copE_range (t : TypeId) (x : Operand) : cop P σ ev ⟨dst, .range t x, ty, pos, after, g⟩ = OpR.ofP (rangeOp P σ t (ev x)) := (rfl)
@[simp] theorem copE_next (it : Operand) (s : Bool) : cop P σ ev ⟨dst, .next it s, ty, pos, after, g⟩ = nextOp σ (ev it) s := (rfl)
@[simp] theorem copE_entry (it : Operand) : cop P σ ev ⟨dst, .entry it, ty, pos, after, g⟩ = OpR.ofV σ (entryOp σ (ev it)) := (rfl)
theorem range_mpG {κ : Type} {key : κ → Value} {t kt et : TypeId} {m : Nat} {M : MlG κ} (ht : P.underlying t = some (.map kt et)) (h : MpG key σ m M) (hm : m < σ.n) : ∃ o, rangeOp P σ t (.map (some m)) = some (.pointer (some ⟨σ.n, 0, none⟩), σ.alloc o) ∧ MIt key (σ.alloc o) σ.n m M M := by
  obtain ⟨es, clock, hg, he⟩ := h
  refine ⟨.miter (some m) clock #[] clock, ?_, es, clock, #[], ?_, he, by rw [CSt.get_alloc, if_pos rfl], by omega, ?_⟩
  · unfold rangeOp
    rw [ht]
    simp only [CSt.maps, hg]
  · rw [CSt.get_alloc, if_neg (by omega)]; exact hg
  · have : (es.toList.filter fun e => !(#[] : Array Nat).contains e.born) = es.toList := List.filter_eq_self.2 fun e _ => by simp
    rw [this]; exact he.ents
theorem filter_erase_born : ∀ (l : List MapEntry) (j : Nat) (h : j < l.length), (l.map (·.born)).Nodup → l.filter (fun e => !(e.born == l[j].born)) = l.eraseIdx j
  | [], j, h, _ => by simp at h
  | e :: l, 0, h, hn => by
    rw [List.map_cons, List.nodup_cons] at hn
    simp only [List.getElem_cons_zero, List.eraseIdx_zero, List.tail_cons]
    rw [List.filter_cons]
    simp
    intro a ha e2
    exact hn.1 (by rw [← e2]; exact List.mem_map_of_mem ha)
  | e :: l, j + 1, h, hn => by
    rw [List.map_cons, List.nodup_cons] at hn
    have hj : j < l.length := by simpa using h
    have ih := filter_erase_born l j hj hn.2
    simp only [List.getElem_cons_succ, List.eraseIdx_cons_succ]
    rw [List.filter_cons, ih]
    have : (!(e.born == l[j].born)) = true := by
      simp
      intro e2
      exact hn.1 (by rw [e2]; exact List.mem_map_of_mem (List.getElem_mem hj))
    rw [this]; rfl
theorem wres_next {κ : Type} {E : Env} {x : Ctx} {a : CAct} {d : Option Tmp} {K : CAct → CSt → Prop} {Q : Out → CSt → Prop} {key : κ → Value} {r m : Nat} {M S : MlG κ} (h : MIt key σ r m M S)
    (h0 : S = [] → K (a.put d (.tuple #[.bool false])) σ)
    (h1 : ∀ (j : Nat) (hj : j < S.length) (o : CObj), MIt key (σ.put r o) r m M (S.eraseIdx j) → entryOp (σ.put r o) (.pointer (some ⟨r, 0, none⟩)) = some (.tuple #[key S[j].1, S[j].2]) → K (a.put d (.tuple #[.bool true, key S[j].1, S[j].2])) (σ.put r o)) :
    wres E x a d K Q σ (nextOp σ (.pointer (some ⟨r, 0, none⟩)) false) := by
  obtain ⟨es, clock, seen, hm, he, hr, hrm, hS⟩ := h
  have hlast : (!seen.isEmpty && !es.isEmpty && es.all (·.born ≥ clock)) = false := by
    cases hz : es.isEmpty with
    | true => simp
    | false =>
      have : es.all (·.born ≥ clock) = false := by
        rw [Bool.eq_false_iff]
        intro hall
        have hne : es.toList ≠ [] := by
          intro h
          rw [Array.toList_eq_nil_iff] at h
          rw [h] at hz; simp at hz
        obtain ⟨e, l, hl⟩ := List.exists_cons_of_ne_nil hne
        have hmem : e ∈ es.toList := by rw [hl]; simp
        have h1 := he.born e hmem
        have h2 := Array.all_eq_true_iff_forall_mem.1 hall e (Array.mem_toList_iff.1 hmem)
        simp at h2
        omega
      rw [this]; simp
  have hmn : mapNext es clock seen = (if (es.toList.filter fun e => !seen.contains e.born).isEmpty then #[none] else #[]) ++ ((es.toList.filter fun e => !seen.contains e.born).map some).toArray := by
    unfold mapNext
    have e1 : ((es.filter fun e => !seen.contains e.born).filter fun e => decide (e.born < clock)) = es.filter fun e => !seen.contains e.born := by
      apply Array.filter_eq_self.2
      intro e h
      have := he.born e (Array.mem_toList_iff.2 (Array.mem_filter.1 h).1)
      simpa using this
    have e2 : ((es.filter fun e => !seen.contains e.born).filter fun e => decide (e.born ≥ clock)) = #[] := by
      apply Array.filter_eq_empty_iff.2
      intro e h
      have := he.born e (Array.mem_toList_iff.2 (Array.mem_filter.1 h).1)
      simp; omega
    simp only
    rw [e1, e2]
    have e3 : (es.filter fun e => !seen.contains e.born) = (es.toList.filter fun e => !seen.contains e.born).toArray := by
      rw [← Array.toList_filter]
    rw [e3]
    simp
  have hlen := EntsG.length hS
  unfold nextOp
  simp only [hr, CSt.maps, hm]
  rw [hlast, hmn]
  simp only [Bool.false_eq_true, if_false]
  generalize hL : (es.toList.filter fun e => !seen.contains e.born) = L at hS hlen ⊢
  unfold wres picks
  cases L with
  | nil =>
    have hS0 : S = [] := List.eq_nil_of_length_eq_zero (by simpa using hlen.symm)
    simp
    exact h0 hS0
  | cons e0 L =>
    have hpick : ∀ j, j < (e0 :: L).length → K (a.put d (.tuple #[.bool true, (e0 :: L)[j]!.key, (e0 :: L)[j]!.val])) (σ.put r (.miter (some m) clock (seen.push (e0 :: L)[j]!.born) clock)) := by
      intro j hj
      have hjS : j < S.length := by omega
      have hnd : ((e0 :: L).map (·.born)).Nodup := by rw [← hL]; exact List.Nodup.sublist (List.Sublist.map _ List.filter_sublist) he.nodup
      have hfe := filter_erase_born (e0 :: L) j hj hnd
      have hgj : (e0 :: L)[j]! = (e0 :: L)[j] := by rw [getElem!_pos]
      have hmem : (e0 :: L)[j] ∈ es.toList := (List.mem_filter.1 (by rw [hL]; exact List.getElem_mem hj : (e0 :: L)[j] ∈ es.toList.filter fun e => !seen.contains e.born)).1
      rw [hgj]
      generalize hej : (e0 :: L)[j] = ej at hfe hmem ⊢
      have hS' := hS
      unfold EntsG at hS'
      have hp := congrArg (·[j]?) hS'
      simp only [List.getElem?_map, List.getElem?_eq_getElem hj, List.getElem?_eq_getElem hjS, hej, Option.map_some, Option.some.injEq, Prod.mk.injEq] at hp
      rw [hp.1, hp.2]
      refine h1 j hjS _ ⟨es, clock, seen.push ej.born, by rw [CSt.get_put, if_neg (Ne.symm hrm)]; exact hm, he, by rw [CSt.get_put, if_pos rfl], hrm, ?_⟩ ?_
      · have e1 : (es.toList.filter fun e => !(seen.push ej.born).contains e.born) = (e0 :: L).eraseIdx j := by
          rw [← hfe, ← hL, List.filter_filter]
          apply List.filter_congr
          intro e _
          by_cases e2 : e.born = ej.born <;> simp [Array.contains_push, e2]
        rw [e1]
        unfold EntsG at hS ⊢
        rw [List.eraseIdx_eq_take_drop_succ, List.eraseIdx_eq_take_drop_succ, List.map_append, List.map_append, List.map_take, List.map_drop, List.map_take, List.map_drop, hS]
      · unfold entryOp
        have hb : (seen.push ej.born).back? = some ej.born := by simp
        simp only [CSt.get_put, if_true, CSt.maps, if_neg (Ne.symm hrm), hm, hb]
        have hf : es.find? (fun e => e.born == ej.born) = some ej := by
          rw [← Array.find?_toList]
          have : ∀ (l : List MapEntry), (l.map (·.born)).Nodup → ej ∈ l → l.find? (fun e => e.born == ej.born) = some ej := by
            intro l
            induction l with
            | nil => intro _ h; cases h
            | cons a l ih =>
              intro hn h
              rw [List.map_cons, List.nodup_cons] at hn
              rw [List.find?_cons]
              rcases List.mem_cons.1 h with rfl | h
              · simp
              · have : (a.born == ej.born) = false := by
                  simp
                  intro e2
                  exact hn.1 (by rw [e2]; exact List.mem_map_of_mem h)
                rw [this]
                exact ih hn.2 h
          exact this es.toList he.nodup hmem
        rw [hf]
        simp [hp.1, hp.2]
    simp
    split
    · rename_i h
      have hL0 : L = [] := h
      have := hpick 0 (by simp)
      simpa [hL0] using this
    · intro i hi
      have hi' : i < (e0 :: L).length := by simpa using hi
      have := hpick i hi'
      have hq : ((e0 :: L).map some)[i]? = some (some (e0 :: L)[i]!) := by
        rw [List.getElem?_map, List.getElem?_eq_getElem hi', getElem!_pos (e0 :: L) i hi']; rfl
      simp only [List.map_cons] at hq
      rw [hq]
      exact this
end
end Go.Sm
/- append to a slice of one's own: what else stays. -/
set_option linter.unusedVariables false
namespace Go.Sm
open Go
section
variable {α : Type} {P : Program} {σ : CSt} {e : TypeId} {sz b : Nat} {enc : α → List Value} {v x : Value} {l m : List α} {f : TF} {ts : Array TypeId}

theorem appendF_only (hsz : ∀ x, (enc x).length = sz) (hc : ∀ x, cokL (enc x) = true) (hfs : f.size = sz) (h0 : 0 < sz) (h1 : 0 < f.bytes) (h2 : f.zero.map List.length = some sz) (hown : Own b σ e enc v l) (hb : b ≤ σ.n)
    (hbig : (l.length + m.length) * f.bytes ≤ 2 ^ 47) (hl : l.length < 2 ^ 62) : ∃ v' σ', appendF σ e f v m.length (m.flatMap enc) = some (v', σ') ∧ Own b σ' e enc v' (l ++ m) ∧ GrowB b σ σ' ∧ (∀ j, j < σ.n → (∀ i off n c, v = .slice (some ⟨i, off, none⟩) n c → j ≠ i) → σ'.get j = σ.get j) ∧ (m ≠ [] → ∃ n c, v' = .slice (some ⟨σ.n, 0, none⟩) n c) := by
  have hml := enc_length enc hsz m
  have hll := enc_length enc hsz l
  have hcond : (m.flatMap enc).length = m.length * f.size ∧ cokL (m.flatMap enc) = true ∧ 0 < f.size ∧ 0 < f.bytes ∧ f.zero.map List.length = some f.size := by
    rw [hfs]; exact ⟨hml, cokL_enc hc m, h0, h1, h2⟩
  unfold appendF
  rw [if_pos hcond]
  rcases hown with ⟨rfl, rfl⟩ | ⟨i, cap, rfl, hbi, hin, hg, hcap⟩
  · by_cases hm : m.length = 0
    · have : m = [] := List.eq_nil_of_length_eq_zero hm
      subst this
      exact ⟨.slice none 0 0, σ, by simp, Own.nil, GrowB.refl b σ, fun _ _ _ => rfl, fun h => absurd rfl h⟩
    · refine ⟨.slice (some ⟨σ.n, 0, none⟩) m.length openCap, σ.alloc (.cells (m.flatMap enc) e false), ?_, .inr ⟨σ.n, openCap, rfl, hb, by simp, by simp, .inl rfl⟩, (GrowB.refl b σ).alloc hb _, fun j hj _ => by rw [CSt.get_alloc, if_neg (by omega)], fun _ => ⟨_, _, rfl⟩⟩
      simp only [hm, if_false]
      rw [if_pos (by simpa using hbig)]
  · by_cases hm : m.length = 0
    · have : m = [] := List.eq_nil_of_length_eq_zero hm
      subst this
      refine ⟨.slice (some ⟨i, 0, none⟩) l.length cap, σ, ?_, ?_, GrowB.refl b σ, fun _ _ _ => rfl, fun h => absurd rfl h⟩
      · simp only [List.length_nil, if_true]
        rw [if_pos]
        rcases hcap with rfl | ⟨rfl, rfl⟩
        · simp only [openCap]; omega
        · simp
      · rw [List.append_nil]
        exact .inr ⟨i, cap, rfl, hbi, hin, hg, hcap⟩
    · simp only [hm, if_false, hg]
      rcases hcap with rfl | ⟨rfl, rfl⟩
      · refine ⟨.slice (some ⟨σ.n, 0, none⟩) (l ++ m).length openCap, (σ.put i .dead).alloc (.cells ((l ++ m).flatMap enc) e false), ?_, .inr ⟨σ.n, openCap, rfl, hb, by simp, by simp, .inl rfl⟩, ((GrowB.refl b σ).put hbi _).alloc hb _, fun j hj hne => by rw [CSt.get_alloc, if_neg (by simp; omega), CSt.get_put, if_neg (hne _ _ _ _ rfl)], fun _ => ⟨_, _, rfl⟩⟩
        simp only [if_true, and_self]
        rw [if_neg, if_pos hbig]
        · have : ld (l.flatMap enc) 0 (l.length * f.size) = some (l.flatMap enc) := by
            rw [hfs, ← hll]
            unfold ld
            rw [if_pos (by omega), List.drop_zero, List.take_of_length_le (Nat.le_refl _)]
          rw [this]
          simp
        · rw [hll, hfs, Nat.add_mul]
          have : 0 < m.length * sz := Nat.mul_pos (by omega) h0
          omega
      · refine ⟨.slice (some ⟨σ.n, 0, none⟩) m.length openCap, σ.alloc (.cells (m.flatMap enc) e false), ?_, .inr ⟨σ.n, openCap, by simp, hb, by simp, by simp, .inl rfl⟩, (GrowB.refl b σ).alloc hb _, fun j hj _ => by rw [CSt.get_alloc, if_neg (by omega)], fun _ => ⟨_, _, rfl⟩⟩
        rw [if_neg (by simp [openCap]), if_neg (by rw [List.length_nil]; omega)]
        simp only [List.length_nil, Nat.zero_add, Nat.zero_mul] at hbig ⊢
        rw [if_pos hbig]
        simp [ld]
/-- append(s, x...), s one's own. -/
theorem append_only (hf : ts[0]?.bind (elemF P) = some (e, f)) (hu : (ts[1]?.bind (elemT P)).isSome = true) (hsz : ∀ x, (enc x).length = sz) (hc : ∀ x, cokL (enc x) = true) (hfs : f.size = sz) (h0 : 0 < sz) (h1 : 0 < f.bytes) (h2 : f.zero.map List.length = some sz)
    (hown : Own b σ e enc v l) (hb : b ≤ σ.n) (hx : Sl σ e sz enc x m) (hbig : (l.length + m.length) * f.bytes ≤ 2 ^ 47) (hl : l.length < 2 ^ 62) :
    ∃ v' σ', appendOp P σ ts v x = some (v', σ') ∧ Own b σ' e enc v' (l ++ m) ∧ GrowB b σ σ' ∧ (∀ j, j < σ.n → (∀ i off n c, v = .slice (some ⟨i, off, none⟩) n c → j ≠ i) → σ'.get j = σ.get j) ∧ (m ≠ [] → ∃ n c, v' = .slice (some ⟨σ.n, 0, none⟩) n c) := by
  obtain ⟨g1, g2⟩ := first_sl hsz hx
  obtain ⟨v', σ', g3, g4, g5⟩ := appendF_only hsz hc hfs h0 h1 h2 hown hb hbig hl
  refine ⟨v', σ', ?_, g4, g5⟩
  rw [appendOp_K (by rw [hf]; rfl) hu, hf]
  simp only [appK, g1, hfs, g2, Option.bind_some]
  exact g3
end
section
variable {P : Program} {σ : CSt} {ev : Operand → Value} {dst : Option Tmp} {ty : TypeId} {pos : String} {after : Array Edge} {g : Option (Nat × Bool)}
@[simp] theorem copE_lookup (t : TypeId) (m k : Operand) (ok : Bool) : cop P σ ev ⟨dst, .lookup t m k ok, ty, pos, after, g⟩ = OpR.ofV σ (lookupOp P σ t (ev m) (ev k) ok) := (rfl)
@[simp] theorem copE_mapUpdate (t : TypeId) (m k x : Operand) : cop P σ ev ⟨dst, .mapUpdate t m k x, ty, pos, after, g⟩ = OpR.ofS (updateOp P σ t (ev m) (ev k) (ev x)) := (rfl)
theorem copE_makeMap {t kt et : TypeId} (h : P.underlying t = some (.map kt et)) : cop P σ ev ⟨dst, .makeMap t none, ty, pos, after, g⟩ = .val (.map (some σ.n)) (σ.alloc (.map #[] 0)) := by
  simp only [cop, h]
end
end Go.Sm
/- Slices of one's own that have more room behind them. -/
set_option linter.unusedVariables false
set_option linter.unusedSimpArgs false
namespace Go.Sm
open Go
/-- A slice that is one's own: the first part of an object that was made behind a point. -/
def OwnZ {α : Type} (b : Nat) (σ : CSt) (e : TypeId) (enc : α → List Value) (v : Value) (l : List α) : Prop :=
  (v = .slice none 0 0 ∧ l = []) ∨ ∃ i cap zs, v = .slice (some ⟨i, 0, none⟩) l.length cap ∧ b ≤ i ∧ i < σ.n ∧ σ.get i = some (.cells (l.flatMap enc ++ zs) e false) ∧ cokL zs = true ∧ (cap = openCap ∨ (l = [] ∧ cap = 0 ∧ zs = []))
section
variable {α : Type} {σ σ' : CSt} {e : TypeId} {sz : Nat} {enc : α → List Value} {v : Value} {l : List α} {b : Nat}
theorem OwnZ.nil : OwnZ b σ e enc (.slice none 0 0) ([] : List α) := .inl ⟨rfl, rfl⟩
theorem Own.z (h : Own b σ e enc v l) : OwnZ b σ e enc v l := by
  rcases h with h | ⟨i, cap, h1, hb, hi, h2, h3⟩
  · exact .inl h
  · refine .inr ⟨i, cap, [], h1, hb, hi, by rw [List.append_nil]; exact h2, rfl, ?_⟩
    rcases h3 with h3 | ⟨h3, h4⟩
    · exact .inl h3
    · exact .inr ⟨h3, h4, rfl⟩
theorem OwnZ.sl (hsz : ∀ x, (enc x).length = sz) (h : OwnZ b σ e enc v l) : Sl σ e sz enc v l := by
  rcases h with h | ⟨i, cap, zs, rfl, hb, hi, hg, hz, hc⟩
  · exact .inl h
  · have hl := enc_length enc hsz l
    refine .inr ⟨i, 0, cap, _, false, rfl, hg, hi, ?_, ?_, ?_⟩
    · rw [List.drop_zero, ← hl, List.take_left]
    · rw [List.length_append]; omega
    · rcases hc with rfl | ⟨rfl, rfl, _⟩
      · exact .inl rfl
      · exact .inr ⟨by simp, by simp [openCap]⟩
theorem OwnZ.grow (h : OwnZ b σ e enc v l) (hg : Grow σ σ') : OwnZ b σ' e enc v l := by
  rcases h with h | ⟨i, cap, zs, h1, hb, hi, h2, h3⟩
  · exact .inl h
  · exact .inr ⟨i, cap, zs, h1, hb, Nat.lt_of_lt_of_le hi hg.n, hg.get h2 hi, h3⟩
theorem OwnZ.keep (h : OwnZ b σ e enc v l) (hn : σ.n ≤ σ'.n) (hg : ∀ i, b ≤ i → i < σ.n → σ'.get i = σ.get i) : OwnZ b σ' e enc v l := by
  rcases h with h | ⟨i, cap, zs, h1, hb, hi, h2, h3⟩
  · exact .inl h
  · exact .inr ⟨i, cap, zs, h1, hb, Nat.lt_of_lt_of_le hi hn, by rw [hg i hb hi]; exact h2, h3⟩
theorem OwnZ.put (h : OwnZ b σ e enc v l) {i : Nat} (hi : i < b) (o : CObj) : OwnZ b (σ.put i o) e enc v l :=
  h.keep (Nat.le_refl _) fun j hj _ => by rw [CSt.get_put, if_neg (by omega)]
theorem OwnZ.weaken {b' : Nat} (h : OwnZ b σ e enc v l) (hb : b' ≤ b) : OwnZ b' σ e enc v l := by
  rcases h with h | ⟨i, cap, zs, h1, hb', h2⟩
  · exact .inl h
  · exact .inr ⟨i, cap, zs, h1, Nat.le_trans hb hb', h2⟩
theorem OwnZ.fr {T : TypeId → Prop} {b' : Nat} {s0 s1 : CSt} (h : OwnZ b' s0 e enc v l) (ht : ¬ T e) (hg : Fr T b s0 s1) : OwnZ b' s1 e enc v l := by
  rcases h with h | ⟨i, cap, zs, h1, hb, hi, h2, h3⟩
  · exact .inl h
  · exact .inr ⟨i, cap, zs, h1, hb, Nat.lt_of_lt_of_le hi hg.1, hg.get h2 hi (.inr fun row' e' ro' he => by cases he; exact ht), h3⟩
theorem insRow_encZ (hsz : ∀ x, (enc x).length = sz) (a : Nat) (ha : a ≤ l.length) (x : α) (zs : List Value) : insRow sz a l.length (l.flatMap enc ++ zs) (enc x) = (l.take a ++ x :: l.drop a).flatMap enc := by
  have hl := enc_length enc hsz l
  rw [← insRow_enc hsz a ha x]
  unfold insRow
  have h1 : a * sz ≤ (l.flatMap enc).length := by rw [hl]; exact Nat.mul_le_mul_right _ ha
  rw [List.take_append_of_le_length h1, List.take_append_of_le_length (Nat.le_of_eq hl.symm)]
end
end Go.Sm
namespace Go.Sm
open Go
def objOf : Value → Option Nat
  | .slice (some ⟨i, _, _⟩) _ _ => some i
  | _ => none
/-- All but a slice's object is as it was. -/
def ButV (v : Value) (s0 s1 : CSt) : Prop := s0.n ≤ s1.n ∧ ∀ j, j < s0.n → objOf v ≠ some j → s1.get j = s0.get j
theorem ButV.refl (v : Value) (s : CSt) : ButV v s s := ⟨Nat.le_refl _, fun _ _ _ => rfl⟩
theorem Grow.butV {v : Value} {s0 s1 : CSt} (h : Grow s0 s1) : ButV v s0 s1 := ⟨h.n, fun j hj _ => h.old j hj⟩
theorem ButV.trans {v : Value} {s0 s1 s2 : CSt} (h : ButV v s0 s1) (h' : ButV v s1 s2) : ButV v s0 s2 := ⟨Nat.le_trans h.1 h'.1, fun j hj hne => by rw [h'.2 j (Nat.lt_of_lt_of_le hj h.1) hne, h.2 j hj hne]⟩
theorem ButV.putV {v : Value} {i : Nat} {s0 s1 : CSt} (h : ButV v s0 s1) (hi : objOf v = some i) (o : CObj) : ButV v s0 (s1.put i o) := ⟨h.1, fun j hj hne => by rw [CSt.get_put, if_neg (by rintro rfl; exact hne hi)]; exact h.2 j hj hne⟩
theorem ButV.put {v : Value} {i : Nat} {s0 s1 : CSt} (h : ButV v s0 s1) (hi : s0.n ≤ i) (o : CObj) : ButV v s0 (s1.put i o) := ⟨h.1, fun j hj hne => by rw [CSt.get_put, if_neg (by omega)]; exact h.2 j hj hne⟩
theorem ButV.alloc {v : Value} {s0 s1 : CSt} (h : ButV v s0 s1) (o : CObj) : ButV v s0 (s1.alloc o) := ⟨by have := h.1; simp; omega, fun j hj hne => by have := h.1; rw [CSt.get_alloc, if_neg (by omega)]; exact h.2 j hj hne⟩
/-! ### What is filtered in place -/
section
variable {α : Type} {enc : α → List Value} {sz : Nat}
theorem take_filter_step {p : α → Bool} {l d : List α} {i j : Nat} (hj : j < l.length) (hd : d.length = l.length) (h1 : d.take i = (l.take j).filter fun x => !p x) (h2 : i = ((l.take j).filter fun x => !p x).length) (h3 : d.drop j = l.drop j) (h4 : i ≤ j) (hp : p l[j] = false) :
    (d.set i l[j]).length = l.length ∧ (d.set i l[j]).take (i + 1) = (l.take (j + 1)).filter (fun x => !p x) ∧ i + 1 = ((l.take (j + 1)).filter fun x => !p x).length ∧ (d.set i l[j]).drop (j + 1) = l.drop (j + 1) := by
  have e : (l.take (j + 1)).filter (fun x => !p x) = (l.take j).filter (fun x => !p x) ++ [l[j]] := by
    rw [List.take_succ_eq_append_getElem hj, List.filter_append]
    simp [hp]
  refine ⟨by simpa using hd, ?_, by rw [e, List.length_append, ← h2]; rfl, ?_⟩
  · have h5 : i < d.length := by omega
    have hs : (d.set i l[j])[i]'(by simpa using h5) = l[j] := by simp
    rw [List.take_succ_eq_append_getElem (by simpa using h5), hs, e, ← h1]
    congr 1
    rw [List.take_set_of_le (Nat.le_refl _)]
  · rw [List.drop_set_of_lt (by omega)]
    have := congrArg (List.drop 1) h3
    simpa [List.drop_drop] using this
theorem take_filter_skip {p : α → Bool} {l d : List α} {i j : Nat} (hj : j < l.length) (h1 : d.take i = (l.take j).filter fun x => !p x) (h2 : i = ((l.take j).filter fun x => !p x).length) (h3 : d.drop j = l.drop j) (hp : p l[j] = true) :
    d.take i = (l.take (j + 1)).filter (fun x => !p x) ∧ i = ((l.take (j + 1)).filter fun x => !p x).length ∧ d.drop (j + 1) = l.drop (j + 1) := by
  have e : (l.take (j + 1)).filter (fun x => !p x) = (l.take j).filter (fun x => !p x) := by
    rw [List.take_succ_eq_append_getElem hj, List.filter_append]
    simp [hp]
  refine ⟨by rw [e]; exact h1, by rw [e]; exact h2, ?_⟩
  have := congrArg (List.drop 1) h3
  simpa [List.drop_drop] using this
theorem drop_get {l d : List α} {j : Nat} (hj : j < l.length) (hd : d.length = l.length) (h3 : d.drop j = l.drop j) : d[j]'(by omega) = l[j] := by
  have := congrArg (·[0]?) h3
  simpa [List.getElem?_drop, List.getElem?_eq_getElem hj, List.getElem?_eq_getElem (show j < d.length by omega)] using this
theorem first_take {p : α → Bool} {l : List α} {k : Nat} (hk : k < l.length) (h : ∀ i (hi : i < l.length), i < k → p l[i] = false) (hp : p l[k] = true) : (l.take (k + 1)).filter (fun x => !p x) = l.take k := by
  rw [List.take_succ_eq_append_getElem hk, List.filter_append]
  have : (l.take k).filter (fun x => !p x) = l.take k := by
    rw [List.filter_eq_self]
    intro x hx
    obtain ⟨i, hi, rfl⟩ := List.mem_iff_getElem.1 hx
    rw [List.length_take] at hi
    rw [List.getElem_take, h i (by omega) (by omega)]
    rfl
  rw [this]
  simp [hp]
/-- An element is written; more stands behind. -/
theorem enc_setZ (hsz : ∀ x, (enc x).length = sz) (l : List α) (i : Nat) (x : α) (h : i < l.length) (zs : List Value) : (l.flatMap enc ++ zs).take (i * sz) ++ enc x ++ (l.flatMap enc ++ zs).drop (i * sz + sz) = (l.set i x).flatMap enc ++ zs := by
  have hl := enc_length enc hsz l
  have h1 : i * sz + sz ≤ l.length * sz := by rw [← Nat.succ_mul]; exact Nat.mul_le_mul_right _ h
  rw [List.take_append_of_le_length (by omega), List.drop_append_of_le_length (by omega), ← List.append_assoc, enc_set enc hsz l i x h]
theorem rowZ (hsz : ∀ x, (enc x).length = sz) (l : List α) (zs : List Value) : ((l.flatMap enc ++ zs).drop 0).take (l.length * sz) = l.flatMap enc := by
  rw [List.drop_zero, ← enc_length enc hsz l, List.take_left]
/-- What is left, when the rest is made zero. -/
theorem clearZ (hsz : ∀ x, (enc x).length = sz) (d : List α) (i : Nat) (hi : i ≤ d.length) (zs os : List Value) (ho : os.length = (d.length - i) * sz) : (d.flatMap enc ++ zs).take (i * sz) ++ os ++ (d.flatMap enc ++ zs).drop (i * sz + os.length) = (d.take i).flatMap enc ++ (os ++ zs) := by
  have hl := enc_length enc hsz d
  have h1 : i * sz ≤ d.length * sz := Nat.mul_le_mul_right _ hi
  have h2 : i * sz + os.length = d.length * sz := by rw [ho, ← Nat.add_mul]; congr 1; omega
  rw [h2, List.take_append_of_le_length (by omega), enc_take enc hsz, ← hl, List.drop_left, List.append_assoc]
end
end Go.Sm
namespace Go.Sm
open Go
theorem OwnZ.frV {α : Type} {b : Nat} {s s2 : CSt} {e : TypeId} {enc : α → List Value} {v : Value} {l : List α} (h : OwnZ b s e enc v l) (hb : ButV v s s2) : Fr (fun t => t = e) b s s2 := by
  refine ⟨hb.1, fun j hj hc => hb.2 j hj fun ho => ?_⟩
  rcases h with ⟨rfl, _⟩ | ⟨i, cap, zs, rfl, hbi, hi, hg, _⟩
  · cases ho
  · cases ho
    rcases hc with hc | hc
    · omega
    · exact hc _ _ _ hg rfl
end Go.Sm
namespace Go.Sm
open Go
theorem len_mp {κ : Type} {key : κ → Value} {P : Program} {σ : CSt} {t kt et : TypeId} {m : Nat} {M : MlG κ} (ht : P.underlying t = some (.map kt et)) (h : MpG key σ m M) : lenF P σ (some t) (.map (some m)) = .val (.int .i64 (List.length M)) σ := by
  obtain ⟨es, clock, hg, he⟩ := h
  have hl := EntsG.length he.ents
  unfold lenF lenOp
  simp [ht, CSt.maps, hg, ← hl]
end Go.Sm
/- append to a slice of one's own that may have room behind it. -/
set_option linter.unusedVariables false
namespace Go.Sm
open Go
section
variable {α : Type} {P : Program} {σ : CSt} {e : TypeId} {sz b : Nat} {enc : α → List Value} {v x : Value} {l m : List α} {f : TF} {ts : Array TypeId}
theorem append_Z (hf : ts[0]?.bind (elemF P) = some (e, f)) (hu : (ts[1]?.bind (elemT P)).isSome = true) (hsz : ∀ x, (enc x).length = sz) (hc : ∀ x, cokL (enc x) = true) (hfs : f.size = sz) (h0 : 0 < sz) (h1 : 0 < f.bytes) (h2 : f.zero.map List.length = some sz)
    (hown : OwnZ b σ e enc v l) (hb : b ≤ σ.n) (hx : Sl σ e sz enc x m) (hbig : (l.length + m.length) * f.bytes ≤ 2 ^ 47) (hl : l.length < 2 ^ 62) :
    ∃ v' σ', appendOp P σ ts v x = some (v', σ') ∧ OwnZ b σ' e enc v' (l ++ m) ∧ ButV v σ σ' ∧ (objOf v' = objOf v ∨ objOf v' = some σ.n) := by
  rcases hown with ⟨rfl, rfl⟩ | ⟨i, cap, zs, rfl, hbi, hin, hg, hz, hcap⟩
  · by_cases hm : m = []
    · subst hm
      obtain ⟨v', σ', a1, a2, a3, a4, a5⟩ := append_only hf hu hsz hc hfs h0 h1 h2 (Own.nil (b := b) (σ := σ) (e := e) (enc := enc)) hb hx hbig hl
      obtain ⟨g1, g2⟩ := first_sl hsz hx
      rw [appendOp_K (by rw [hf]; rfl) hu, hf] at a1
      have hcond : ([] : List Value).length = 0 * f.size ∧ cokL ([] : List Value) = true ∧ 0 < f.size ∧ 0 < f.bytes ∧ f.zero.map List.length = some f.size := by
        rw [hfs]; exact ⟨by simp, rfl, h0, h1, h2⟩
      refine ⟨.slice none 0 0, σ, ?_, .inl ⟨rfl, rfl⟩, ButV.refl _ _, .inl rfl⟩
      rw [appendOp_K (by rw [hf]; rfl) hu, hf]
      have g2' : firstOf σ sz 0 x = some [] := by simpa using g2
      simp only [appK, g1, hfs, g2', Option.bind_some, List.flatMap_nil, List.length_nil]
      unfold appendF
      rw [if_pos hcond]
      simp
    · obtain ⟨v', σ', a1, a2, a3, a4, a5⟩ := append_only hf hu hsz hc hfs h0 h1 h2 (Own.nil (b := b) (σ := σ) (e := e) (enc := enc)) hb hx hbig hl
      obtain ⟨n, c, rfl⟩ := a5 hm
      exact ⟨_, σ', a1, a2.z, ⟨a3.1, fun j hj hne => a4 j hj (fun i off n c h => by cases h)⟩, .inr rfl⟩
  · rcases hcap with rfl | ⟨rfl, rfl, rfl⟩
    · by_cases hfit : m.length * sz ≤ zs.length
      · obtain ⟨σ', a1, a2, a3, a4⟩ := append_fit (P := P) (ts := ts) hf hu hsz hc hfs h0 h1 h2 hg hx hfit hl
        refine ⟨_, σ', a1, .inr ⟨i, openCap, _, rfl, hbi, by rw [a3]; exact hin, a2, cokL_drop hz _, .inl rfl⟩, ⟨by rw [a3]; exact Nat.le_refl _, fun j hj hne => a4 j (by rintro rfl; exact hne rfl)⟩, .inl rfl⟩
      · have hml := enc_length enc hsz m
        have hll := enc_length enc hsz l
        have hm0 : m.length ≠ 0 := by
          intro e
          rw [e] at hfit
          simp at hfit
        obtain ⟨g1, g2⟩ := first_sl hsz hx
        have hcond : (m.flatMap enc).length = m.length * f.size ∧ cokL (m.flatMap enc) = true ∧ 0 < f.size ∧ 0 < f.bytes ∧ f.zero.map List.length = some f.size := by
          rw [hfs]; exact ⟨hml, cokL_enc hc m, h0, h1, h2⟩
        refine ⟨.slice (some ⟨σ.n, 0, none⟩) (l ++ m).length openCap, (σ.put i .dead).alloc (.cells ((l ++ m).flatMap enc) e false), ?_, .inr ⟨σ.n, openCap, [], rfl, hb, by simp, by simp, rfl, .inl rfl⟩, ((ButV.refl _ _).putV rfl _).alloc _, .inr rfl⟩
        rw [appendOp_K (by rw [hf]; rfl) hu, hf]
        simp only [appK, g1, hfs, g2, Option.bind_some]
        unfold appendF
        rw [if_pos hcond]
        simp only [hm0, if_false, hg, if_true, and_self]
        rw [if_neg, if_pos hbig]
        · have : ld (l.flatMap enc ++ zs) 0 (l.length * f.size) = some (l.flatMap enc) := by
            rw [hfs, ← hll]
            unfold ld
            rw [if_pos (by rw [List.length_append]; omega), List.drop_zero, List.take_left]
          rw [this]
          simp
        · rw [List.length_append, hll, hfs, Nat.add_mul]
          omega
    · by_cases hm : m = []
      · subst hm
        obtain ⟨g1, g2⟩ := first_sl hsz hx
        have hcond : ([] : List Value).length = 0 * f.size ∧ cokL ([] : List Value) = true ∧ 0 < f.size ∧ 0 < f.bytes ∧ f.zero.map List.length = some f.size := by
          rw [hfs]; exact ⟨by simp, rfl, h0, h1, h2⟩
        refine ⟨.slice (some ⟨i, 0, none⟩) 0 0, σ, ?_, .inr ⟨i, 0, [], rfl, hbi, hin, hg, rfl, .inr ⟨rfl, rfl, rfl⟩⟩, ButV.refl _ _, .inl rfl⟩
        rw [appendOp_K (by rw [hf]; rfl) hu, hf]
        have g2' : firstOf σ sz 0 x = some [] := by simpa using g2
        simp only [appK, g1, hfs, g2', Option.bind_some, List.flatMap_nil, List.length_nil]
        unfold appendF
        rw [if_pos hcond]
        simp
      · have ho : Own b σ e enc (.slice (some ⟨i, 0, none⟩) 0 0) ([] : List α) := .inr ⟨i, 0, rfl, hbi, hin, by simpa using hg, .inr ⟨rfl, rfl⟩⟩
        obtain ⟨v', σ', a1, a2, a3, a4, a5⟩ := append_only hf hu hsz hc hfs h0 h1 h2 ho hb hx hbig hl
        obtain ⟨n, c, rfl⟩ := a5 hm
        exact ⟨_, σ', a1, a2.z, ⟨a3.1, fun j hj hne => a4 j hj (fun i' off n c h => by cases h; exact fun e => hne (by rw [e]; rfl))⟩, .inr rfl⟩
end
end Go.Sm
/- Strings put together; numbers as strings. -/
set_option linter.unusedVariables false
set_option linter.unusedSimpArgs false
namespace Go.Sm
open Go
section
variable {P : Program} {σ : CSt} {t : TypeId} {x y : Operand}
theorem ba_app (a b : List UInt8) : (⟨a.toArray⟩ : ByteArray) ++ ⟨b.toArray⟩ = ⟨(a ++ b).toArray⟩ := by
  apply ByteArray.ext
  rw [ByteArray.data_append]
  simp
theorem bin_stradd (a b : List UInt8) (h : a.length + b.length < 2 ^ 62) : binF P σ .add t x y (.string ⟨a.toArray⟩) (.string ⟨b.toArray⟩) = .val (.string ⟨(a ++ b).toArray⟩) σ := by
  have hm : IntKind.i64.max = 9223372036854775807 := rfl
  have hs : ¬ ((((⟨a.toArray⟩ : ByteArray).size + (⟨b.toArray⟩ : ByteArray).size : Nat) : Int) > IntKind.i64.max) := by
    have h1 : (⟨a.toArray⟩ : ByteArray).size = a.length := by simp [ByteArray.size]
    have h2 : (⟨b.toArray⟩ : ByteArray).size = b.length := by simp [ByteArray.size]
    rw [h1, h2, hm]
    omega
  simp only [binF, eqGuard, binOp, Op.stringOp]
  rw [if_neg hs, ba_app]
  rfl
theorem convF_str {s d : TypeId} (hs : ∃ k, P.underlying s = some (.int k)) (hd : P.underlying d = some .string) (k : IntKind) (n : Int) : convF P σ s d (.int k n) = .val (.string (Utf8.encode n)) σ := by
  obtain ⟨k', hs⟩ := hs
  have h1 : convertOp P σ s d (.int k n) = .fail := by
    unfold convertOp
    rw [hs, hd]
  simp only [convF, h1, or_fail, Sm.flat, flat0, if_true, convert, pureRun_bind, pureRun_underlying, hs, hd, Option.bind_some]
  rfl
theorem convF_bytes {s d e : TypeId} (hs : P.underlying s = some .string) (hd : P.underlying d = some (.slice e)) (he : P.underlying e = some (.int .u8)) (hi : (P.info? e).map (·.size) = some 1) (l : List UInt8) (hl : l.length < 2 ^ 62) : convF P σ s d (.string ⟨l.toArray⟩) = .val (.slice (some ⟨σ.n, 0, none⟩) l.length openCap) (σ.alloc (.cells (l.map fun b => .int .u8 b.toNat) e false)) := by
  obtain ⟨inf, hi1, hi2⟩ := Option.map_eq_some_iff.1 hi
  have h1 : convertOp P σ s d (.string ⟨l.toArray⟩) = .val (.slice (some ⟨σ.n, 0, none⟩) l.length openCap) (σ.alloc (.cells (l.map fun b => .int .u8 b.toNat) e false)) := by
    have hz : (⟨l.toArray⟩ : ByteArray).size = l.length := by simp [ByteArray.size]
    unfold convertOp
    rw [hs, hd]
    simp only [he, hi1, hz]
    rw [if_pos ⟨hi2, hl⟩]
  simp only [convF, h1]
  rfl
end
end Go.Sm
/- Comparisons of truth values. -/
set_option linter.unusedVariables false
set_option linter.unusedSimpArgs false
namespace Go.Sm
open Go
variable {P : Program} {σ : CSt} {t : TypeId} {x y : Operand}
theorem eq_bool (h : P.underlying t = some .bool) (a b : Bool) : pureRun P (Op.equal t (.bool a) (.bool b)) = some (a == b) := by
  obtain ⟨c, h1, h2⟩ := eq_kinds (P := P) 1 t [.bool] (by simp [kindsF, h]) (by simp [eqOkF, h]) 10000 (by omega) [.bool a] [.bool b] ⟨⟨a, rfl⟩, trivial⟩ ⟨⟨b, rfl⟩, trivial⟩
  have hw : ∀ v : Value, wrapV P t [v] = v := fun v => by simp [wrapV, isAggT, h]
  rw [hw, hw] at h1
  have e : c = (a == b) := by
    cases a <;> cases b <;> cases c <;> simp at h2 <;> rfl
  unfold Op.equal Op.maxDepth
  rw [h1, e]
theorem bin_booleq (h : P.underlying t = some .bool) (a b : Bool) : binF P σ .eql t x y (.bool a) (.bool b) = .val (.bool (a == b)) σ := by
  have : binOp .eql t (.bool a) (.bool b) = (do pure (.bool (← Op.equal t (.bool a) (.bool b))) : Sem Value) := rfl
  simp only [binF, flat, Bool.and_self, if_true]
  rw [this, pureRun_bind, pureRun_bind, eq_bool h]
  rfl
theorem bin_boolne (h : P.underlying t = some .bool) (a b : Bool) : binF P σ .neq t x y (.bool a) (.bool b) = .val (.bool (a != b)) σ := by
  have : binOp .neq t (.bool a) (.bool b) = (do pure (.bool (!(← Op.equal t (.bool a) (.bool b)))) : Sem Value) := rfl
  simp only [binF, flat, Bool.and_self, if_true]
  rw [this, pureRun_bind, pureRun_bind, eq_bool h]
  rfl
end Go.Sm
/- Operations under a condition in a drawn region. -/
set_option linter.unusedVariables false
set_option linter.unusedSimpArgs false
namespace Go.Sm
open Go
section
variable {E : Env} {σ : CSt}
theorem dopsR_if {ops : Array Oper} {b : Array Nat} {a0 : CAct} {Q : Out → CSt → Prop} {rs : List Rec} {i : Nat} {a : CAct} {dst : Option Tmp} {op : Op} {ty : TypeId} {pos : String} {after : Array Edge} {j : Nat} {want : Bool} {rest : List (Nat × Oper)} (hd : ((ops[j]?).bind (·.dst)).isSome = true) (hs : dstOf ops j < a.sz) :
    dopsR E ops b Q a0 ((i, ⟨dst, op, ty, pos, after, some (j, want)⟩) :: rest) a σ rs =
      guardK (a.get (dstOf ops j)) want
        (if isEff E.P ⟨dst, op, ty, pos, after, some (j, want)⟩ = true then dres E ops a0 a dst (fun a' σ' => again E.P ops b σ' i rs ∧ dopsR E ops b Q a0 rest a' σ' rs) Q σ (cop E.P σ a.eval ⟨dst, op, ty, pos, after, some (j, want)⟩)
          else rres (fun v => dopsR E ops b Q a0 rest (a.put dst v) σ (⟨i, a, v⟩ :: rs)) (cop E.P σ a.eval ⟨dst, op, ty, pos, after, some (j, want)⟩))
        (dopsR E ops b Q a0 rest (a.put dst nope) σ rs) := by
  obtain ⟨d, hd⟩ := Option.isSome_iff_exists.1 hd
  have hdd : dstOf ops j = d := by simp [dstOf, hd]
  rw [hdd] at hs ⊢
  rw [dopsR]
  simp only [wantedC, hd, hs, if_true]
  unfold guardK
  generalize a.get d = v
  cases v with
  | bool b => cases b <;> cases want <;> rfl
  | chan c => cases c <;> rfl
  | _ => rfl
end
end Go.Sm
/- Rows that are sorted in place; operations under a condition in a calm region. -/
set_option linter.unusedVariables false
set_option linter.unusedSimpArgs false
namespace Go.Sm
open Go
section
variable {E : Env} {σ : CSt}
theorem dops_if {ops : Array Oper} {a0 : CAct} {Q : Out → CSt → Prop} {a : CAct} {dst : Option Tmp} {op : Op} {ty : TypeId} {pos : String} {after : Array Edge} {j : Nat} {want : Bool} {rest : List Oper} (hd : ((ops[j]?).bind (·.dst)).isSome = true) (hs : dstOf ops j < a.sz) :
    dops E ops Q a0 (⟨dst, op, ty, pos, after, some (j, want)⟩ :: rest) a σ =
      guardK (a.get (dstOf ops j)) want
        (dres E ops a0 a dst (dops E ops Q a0 rest) Q σ (cop E.P σ a.eval ⟨dst, op, ty, pos, after, some (j, want)⟩))
        (dops E ops Q a0 rest (a.put dst nope) σ) := by
  obtain ⟨d, hd⟩ := Option.isSome_iff_exists.1 hd
  have hdd : dstOf ops j = d := by simp [dstOf, hd]
  rw [hdd] at hs ⊢
  rw [dops]
  simp only [wantedC, hd, hs, if_true]
  unfold guardK
  generalize a.get d = v
  cases v with
  | bool b => cases b <;> cases want <;> rfl
  | chan c => cases c <;> rfl
  | _ => rfl
end
/-- All but one object is as it was. -/
def But (L : Nat) (s0 s1 : CSt) : Prop := s0.n ≤ s1.n ∧ ∀ j, j < s0.n → j ≠ L → s1.get j = s0.get j
theorem But.refl (L : Nat) (s : CSt) : But L s s := ⟨Nat.le_refl _, fun _ _ _ => rfl⟩
theorem Grow.but {L : Nat} {s0 s1 : CSt} (h : Grow s0 s1) : But L s0 s1 := ⟨h.n, fun j hj _ => h.old j hj⟩
theorem But.trans {L : Nat} {s0 s1 s2 : CSt} (h : But L s0 s1) (h' : But L s1 s2) : But L s0 s2 := ⟨Nat.le_trans h.1 h'.1, fun j hj hne => by rw [h'.2 j (Nat.lt_of_lt_of_le hj h.1) hne, h.2 j hj hne]⟩
theorem But.putL {L : Nat} {s0 s1 : CSt} (h : But L s0 s1) (o : CObj) : But L s0 (s1.put L o) := ⟨h.1, fun j hj hne => by rw [CSt.get_put, if_neg hne]; exact h.2 j hj hne⟩
theorem But.put {L i : Nat} {s0 s1 : CSt} (h : But L s0 s1) (hi : s0.n ≤ i) (o : CObj) : But L s0 (s1.put i o) := ⟨h.1, fun j hj hne => by rw [CSt.get_put, if_neg (by omega)]; exact h.2 j hj hne⟩
theorem But.alloc {L : Nat} {s0 s1 : CSt} (h : But L s0 s1) (o : CObj) : But L s0 (s1.alloc o) := ⟨by have := h.1; simp; omega, fun j hj hne => by have := h.1; rw [CSt.get_alloc, if_neg (by omega)]; exact h.2 j hj hne⟩
theorem But.back {L : Nat} {s0 s1 : CSt} {o : CObj} (h : But L s0 s1) (hL : s0.get L = some o) : Grow s0 (s1.put L o) := ⟨h.1, fun j hj => by
  by_cases e : j = L
  · subst e; simp [hL]
  · rw [CSt.get_put, if_neg e]; exact h.2 j hj e⟩
theorem But.get {L i : Nat} {s0 s1 : CSt} {o : CObj} (h : But L s0 s1) (hg : s0.get i = some o) (hi : i < s0.n) (hne : i ≠ L) : s1.get i = some o := by rw [h.2 i hi hne]; exact hg
theorem But.from_ {L : Nat} {s0 s1 s2 : CSt} (g : Grow s0 s1) (h : But L s1 s2) (hL : s0.n ≤ L) : Grow s0 s2 := ⟨Nat.le_trans g.n h.1, fun i hi => by rw [h.2 i (Nat.lt_of_lt_of_le hi g.n) (by omega)]; exact g.old i hi⟩
theorem Own.but {α : Type} {b L : Nat} {σ σ' : CSt} {e : TypeId} {enc : α → List Value} {v : Value} {l : List α} (h : Own b σ e enc v l) (hL : L < b) (hg : But L σ σ') : Own b σ' e enc v l := h.keep hg.1 fun i hbi hin => hg.2 i hin (by omega)
/-- A loop, with what holds behind it. -/
theorem W_loop_J {E : Env} {x : Ctx} {c : Code} {Q : Out → CSt → Prop} (I : Nat → CAct → CSt → Prop) (J : Out → CSt → Prop) (hstep : ∀ n a σ, I n a σ → W E (.code x c a) σ (kinv I n J)) (n : Nat) (a : CAct) (σ : CSt) (h : I n a σ) (hJ : ∀ o s, J o s → Q o s) : W E (.code x (.loop c) a) σ Q :=
  W.weaken (W_loop_inv (Q := J) I hstep n a σ h) hJ
/-! ### Conditions one by one -/
theorem W_cond_t {E : Env} {x : Ctx} {c : Operand} {t e : Code} {a : CAct} {σ : CSt} {Q : Out → CSt → Prop} (h : a.eval c = .bool true) : W E (.code x (.cond c t e) a) σ Q = W E (.code x t a) σ Q := by simp [h]
theorem W_cond_f {E : Env} {x : Ctx} {c : Operand} {t e : Code} {a : CAct} {σ : CSt} {Q : Out → CSt → Prop} (h : a.eval c = .bool false) : W E (.code x (.cond c t e) a) σ Q = W E (.code x e a) σ Q := by simp [h]
theorem W_cut {E : Env} {t : Task} {σ : CSt} {Q : Out → CSt → Prop} (J : Out → CSt → Prop) (h1 : W E t σ J) (h2 : ∀ o s, J o s → Q o s) : W E t σ Q := W.weaken h1 h2
/-! ### Rows -/
section
def aset {α : Type} (d : Array α) (j : Nat) (x : α) : Array α := d.setIfInBounds j x
@[simp] theorem aset_size {α : Type} (d : Array α) (j : Nat) (x : α) : (aset d j x).size = d.size := by simp [aset]
def rowD {α : Type} (enc : α → List Value) (pre post : List Value) (d : Array α) : List Value := pre ++ d.toList.flatMap enc ++ post
theorem rowD_len {α : Type} {enc : α → List Value} {sz : Nat} {pre post : List Value} {d : Array α} (hsz : ∀ x, (enc x).length = sz) : (rowD enc pre post d).length = pre.length + d.size * sz + post.length := by
  unfold rowD
  rw [List.length_append, List.length_append, enc_length enc hsz, show d.toList.length = d.size from by simp]
variable {α : Type} [Inhabited α]
def aget (d : Array α) (j : Nat) : α := d[j]!
theorem swp_aset (d : Array α) (i j : Nat) : Sort.swp d i j = aset (aset d i (aget d j)) j (aget d i) := rfl
@[simp] theorem swp_sz (d : Array α) (i j : Nat) : (Sort.swp d i j).size = d.size := Sort.swp_size d i j
theorem aget_aset (d : Array α) (j k : Nat) (x : α) (hj : j < d.size) : aget (aset d j x) k = if k = j then x else aget d k := by
  unfold aget aset
  rw [getElem!_def, getElem!_def, Array.getElem?_setIfInBounds]
  by_cases e : j = k
  · subst e; simp [hj]
  · rw [if_neg e, if_neg (Ne.symm e)]
variable {enc : α → List Value} {sz : Nat} {pre post : List Value} {d : Array α}
theorem aget_eq {j : Nat} (hj : j < d.size) : aget d j = d.toList[j]'(by simpa using hj) := by
  unfold aget; rw [getElem!_pos d j hj]; simp
theorem rowD_ld (hsz : ∀ x, (enc x).length = sz) {j : Nat} (hj : j < d.size) : ld (rowD enc pre post d) (pre.length + j * sz) sz = some (enc (aget d j)) := by
  have hl := rowD_len (enc := enc) (pre := pre) (post := post) (d := d) hsz
  have h1 : j * sz + sz ≤ d.size * sz := by rw [← Nat.succ_mul]; exact Nat.mul_le_mul_right _ hj
  have h2 := row_get (enc := enc) hsz (l := d.toList) (row := rowD enc pre post d) (off := pre.length) (by
    unfold rowD
    rw [List.append_assoc, List.drop_left, List.take_append_of_le_length (by rw [enc_length enc hsz]; exact Nat.le_refl _), List.take_of_length_le (by rw [enc_length enc hsz]; exact Nat.le_refl _)]) j (by simpa using hj)
  unfold ld
  rw [if_pos (by omega), h2, aget_eq hj]
theorem rowD_st {α : Type} {enc : α → List Value} {sz : Nat} {pre post : List Value} {d : Array α} (hsz : ∀ x, (enc x).length = sz) {j : Nat} (hj : j < d.size) (x : α) : st (rowD enc pre post d) (pre.length + j * sz) (enc x) = some (rowD enc pre post (aset d j x)) := by
  have hl := rowD_len (enc := enc) (pre := pre) (post := post) (d := d) hsz
  have h1 : j * sz + sz ≤ d.size * sz := by rw [← Nat.succ_mul]; exact Nat.mul_le_mul_right _ hj
  have h3 := enc_length enc hsz d.toList
  rw [show d.toList.length = d.size from by simp] at h3
  unfold st
  rw [hsz, if_pos (by omega)]
  congr 1
  have h2 := enc_set enc hsz d.toList j x (by simpa using hj)
  have e : (aset d j x).toList = d.toList.set j x := by unfold aset; rw [Array.toList_setIfInBounds]
  unfold rowD
  rw [e, ← h2, List.append_assoc pre, List.append_assoc pre, List.take_append, List.take_of_length_le (by omega), List.append_assoc, List.append_assoc, List.append_assoc, List.append_assoc]
  congr 1
  have e1 : pre.length + j * sz - pre.length = j * sz := by omega
  rw [e1, List.take_append_of_le_length (by rw [h3]; omega)]
  congr 1
  congr 1
  rw [List.drop_append, List.drop_of_length_le (by omega), List.nil_append]
  have e2 : pre.length + j * sz + sz - pre.length = j * sz + sz := by omega
  rw [e2, List.drop_append_of_le_length (by rw [h3]; omega)]
/-- Elements of one cell. -/
theorem rowD_get {v : α → Value} (he : ∀ x, enc x = [v x]) {j : Nat} (hj : j < d.size) : (rowD enc pre post d)[pre.length + j]? = some (v (aget d j)) := by
  have h := rowD_ld (enc := enc) (pre := pre) (post := post) (sz := 1) (fun x => by rw [he]; rfl) hj
  unfold ld at h
  split at h
  · rename_i hl
    have h1 := Option.some.inj h
    have h2 := congrArg (·[0]?) h1
    rw [he] at h2
    simpa [List.getElem?_take, List.getElem?_drop] using h2
  · cases h
theorem rowD_st1 {α : Type} {enc : α → List Value} {pre post : List Value} {d : Array α} {v : α → Value} (he : ∀ x, enc x = [v x]) {j : Nat} (hj : j < d.size) (x : α) : st (rowD enc pre post d) (pre.length + j) [v x] = some (rowD enc pre post (aset d j x)) := by
  have h := rowD_st (enc := enc) (pre := pre) (post := post) (sz := 1) (fun x => by rw [he]; rfl) hj x
  rwa [he, Nat.mul_one] at h
theorem i64p (a : Nat) (h0 : 0 < a) (h : a < 2 ^ 61) : IntKind.i64.wrap ((a : Int) - 1) = ((a - 1 : Nat) : Int) := by
  rw [IntWalk.i64_in _ (by omega)]; omega
end
end Go.Sm
/- Bits; a string's byte. -/
set_option linter.unusedVariables false
set_option linter.unusedSimpArgs false
namespace Go.Sm
open Go
section
variable {P : Program} {σ : CSt} {ev : Operand → Value} {dst : Option Tmp} {ty : TypeId} {pos : String} {after : Array Edge} {g : Option (Nat × Bool)}
variable {t : TypeId} {x y : Operand} {k k' : IntKind} {a b : Int} {s u : ByteArray}
def andI (k : IntKind) (a b : Int) : Int := k.wrap ((BitVec.ofInt k.bits a &&& BitVec.ofInt k.bits b).toNat)
def orI (k : IntKind) (a b : Int) : Int := k.wrap ((BitVec.ofInt k.bits a ||| BitVec.ofInt k.bits b).toNat)
def xorI (k : IntKind) (a b : Int) : Int := k.wrap ((BitVec.ofInt k.bits a ^^^ BitVec.ofInt k.bits b).toNat)
@[simp] theorem bin_and : binF P σ .and t x y (.int k a) (.int k b) = .val (.int k (andI k a b)) σ := by simp [binF, eqGuard, binOp, Op.intBits, andI]
@[simp] theorem bin_or : binF P σ .or t x y (.int k a) (.int k b) = .val (.int k (orI k a b)) σ := by simp [binF, eqGuard, binOp, Op.intBits, orI]
@[simp] theorem bin_xor : binF P σ .xor t x y (.int k a) (.int k b) = .val (.int k (xorI k a b)) σ := by simp [binF, eqGuard, binOp, Op.intBits, xorI]
theorem u64_rng (n : Int) : 0 ≤ IntKind.u64.wrap n ∧ IntKind.u64.wrap n < 2 ^ 64 := by
  have h : IntKind.u64.wrap n = n % 2 ^ 64 := by simp [IntKind.wrap, IntKind.bits, IntKind.signed]
  rw [h]
  omega
/-- s[i], of a string. -/
def idxS (fl : OpR) (ok : Bool) (σ : CSt) : Value → Value → OpR
  | .string s, .int _ n => if ok = true ∧ 0 ≤ n then (match s[n.toNat]? with | some b => .val (.int .u8 b.toNat) σ | none => fl) else fl
  | _, _ => fl
@[simp] theorem copE_index (ix : Operand) : cop P σ ev ⟨dst, .index t x ix, ty, pos, after, g⟩ = idxS (flatOp P σ ev ⟨dst, .index t x ix, ty, pos, after, g⟩) (strT P t) σ (ev x) (ev ix) := by
  unfold idxS
  split
  · rename_i s k n hx hi
    split
    · rename_i h
      split
      · rename_i b hb
        have ht : P.underlying t = some .string := by
          have := h.1
          unfold strT at this
          split at this
          · assumption
          · cases this
        show flatOp P σ ev _ = _
        unfold flatOp
        simp [Op.operands, hx, hi, Sm.flat, flat0, execOp, pureRun_bind, Instr.index, asIntOf, pureRun_underlying, ht, h.2, hb]
      · rfl
    · rfl
  · rfl
/-- min, max of two. -/
def minK (fl : OpR) (σ : CSt) : Value → Value → OpR
  | .int k a, .int _ b => .val (.int k (if b < a then b else a)) σ
  | _, _ => fl
def maxK (fl : OpR) (σ : CSt) : Value → Value → OpR
  | .int k a, .int _ b => .val (.int k (if a < b then b else a)) σ
  | _, _ => fl
@[simp] theorem callOp_min {ts : Array TypeId} : callOp P σ ev ⟨dst, .call ⟨.builtin .min, #[x, y], ts⟩, ty, pos, after, g⟩ ⟨.builtin .min, #[x, y], ts⟩ = minK (flatOp P σ ev ⟨dst, .call ⟨.builtin .min, #[x, y], ts⟩, ty, pos, after, g⟩) σ (ev x) (ev y) := by
  unfold minK
  split
  · rename_i k a k' b hx hy
    show flatOp P σ ev _ = _
    unfold flatOp
    have ho : (⟨.builtin .min, #[x, y], ts⟩ : Call).operands = #[x, y] := by simp [Call.operands]
    simp [Op.operands, ho, hx, hy, Sm.flat, flat0, execOp, pureRun_bind, resolve, invoke, builtin, Builtin.min_, Builtin.min2]
  · rfl
@[simp] theorem callOp_max {ts : Array TypeId} : callOp P σ ev ⟨dst, .call ⟨.builtin .max, #[x, y], ts⟩, ty, pos, after, g⟩ ⟨.builtin .max, #[x, y], ts⟩ = maxK (flatOp P σ ev ⟨dst, .call ⟨.builtin .max, #[x, y], ts⟩, ty, pos, after, g⟩) σ (ev x) (ev y) := by
  unfold maxK
  split
  · rename_i k a k' b hx hy
    show flatOp P σ ev _ = _
    unfold flatOp
    have ho : (⟨.builtin .max, #[x, y], ts⟩ : Call).operands = #[x, y] := by simp [Call.operands]
    simp [Op.operands, ho, hx, hy, Sm.flat, flat0, execOp, pureRun_bind, resolve, invoke, builtin, Builtin.max_, Builtin.max2]
  · rfl
end
end Go.Sm
/- Bytes: slices of them; strings laid behind them. -/
set_option linter.unusedVariables false
set_option linter.unusedSimpArgs false
namespace Go.Sm
open Go
/-- A byte, as it lies. -/
def encY (x : UInt8) : List Value := [.int .u8 x.toNat]
theorem encY_len (x : UInt8) : (encY x).length = 1 := rfl
theorem encY_cok (x : UInt8) : cokL (encY x) = true := rfl
theorem flat_encY (l : List UInt8) : l.flatMap encY = l.map fun b => .int .u8 b.toNat := by
  induction l with
  | nil => rfl
  | cons x l ih => rw [List.flatMap_cons, ih]; rfl
theorem bytesOf_encY (l : List UInt8) : bytesOf? (l.flatMap encY) = some l := by
  induction l with
  | nil => rfl
  | cons x l ih =>
    rw [List.flatMap_cons]
    show bytesOf? (.int .u8 x.toNat :: l.flatMap encY) = _
    simp [bytesOf?, ih]
section
variable {α : Type} {P : Program} {σ : CSt} {e : TypeId} {sz b : Nat} {enc : α → List Value} {v x : Value} {l m : List α} {f : TF} {ts : Array TypeId}
theorem appendOp_S {s : Value} (h : (ts[0]?.bind (elemF P)).isSome = true) (h' : ts[1]?.bind P.underlying = some .string) : appendOp P σ ts s x = appK (ts[0]?.bind (elemF P)) σ s x := by
  obtain ⟨⟨e, f⟩, hf⟩ := Option.isSome_iff_exists.1 h
  rw [hf]
  simp only [Option.bind_eq_some_iff] at hf h'
  obtain ⟨t, ht, hf⟩ := hf
  obtain ⟨u, hu, hund⟩ := h'
  obtain ⟨inf, g1, g2, g3, g4⟩ := elemOf_some hf
  simp only [appendOp, ht, hu, g1, hund, appK]
  cases lenOf? x with
  | none => rfl
  | some n =>
    simp only [g2]
    congr 1
    funext new
    exact appendTo_F g2 g3 g4 _ _ _
theorem first_str (m : List UInt8) : lenOf? (.string ⟨m.toArray⟩) = some m.length ∧ firstOf σ 1 m.length (.string ⟨m.toArray⟩) = some (m.flatMap encY) := by
  have hz : (⟨m.toArray⟩ : ByteArray).size = m.length := by simp [ByteArray.size]
  refine ⟨by rw [lenOf_string, hz], ?_⟩
  have : (⟨m.toArray⟩ : ByteArray).extract 0 m.length = ⟨m.toArray⟩ := by
    rw [← hz]
    apply ByteArray.ext
    rw [ByteArray.data_extract]
    simp [ByteArray.size]
  simp only [firstOf, this, flat_encY]
/-- append(s, string...), s one's own. -/
theorem append_str {l m : List UInt8} (hf : ts[0]?.bind (elemF P) = some (e, f)) (hu : ts[1]?.bind P.underlying = some .string) (hfs : f.size = 1) (h1 : 0 < f.bytes) (h2 : f.zero.map List.length = some 1)
    (hown : Own b σ e encY v l) (hb : b ≤ σ.n) (hbig : (l.length + m.length) * f.bytes ≤ 2 ^ 47) (hl : l.length < 2 ^ 62) :
    ∃ v' σ', appendOp P σ ts v (.string ⟨m.toArray⟩) = some (v', σ') ∧ Own b σ' e encY v' (l ++ m) ∧ GrowB b σ σ' ∧ (∀ j, j < σ.n → (∀ i off n c, v = .slice (some ⟨i, off, none⟩) n c → j ≠ i) → σ'.get j = σ.get j) := by
  obtain ⟨g1, g2⟩ := first_str (σ := σ) m
  obtain ⟨v', σ', g3, g4, g5, g6, _⟩ := appendF_only encY_len encY_cok hfs Nat.one_pos h1 h2 hown hb hbig hl
  refine ⟨v', σ', ?_, g4, g5, g6⟩
  rw [appendOp_S (by rw [hf]; rfl) hu, hf]
  simp only [appK, g1, hfs, g2, Option.bind_some]
  exact g3
/-- append to a slice that is full: a new object. -/
theorem appendF_full (hsz : ∀ x, (enc x).length = sz) (hc : ∀ x, cokL (enc x) = true) (hfs : f.size = sz) (h0 : 0 < sz) (h1 : 0 < f.bytes) (h2 : f.zero.map List.length = some sz)
    {i : Nat} {ro : Bool} (hg : σ.get i = some (.cells (l.flatMap enc) e ro)) (hm : m ≠ []) (hbig : (l.length + m.length) * f.bytes ≤ 2 ^ 47) (hl : l.length < openCap) :
    appendF σ e f (.slice (some ⟨i, 0, none⟩) l.length l.length) m.length (m.flatMap enc) = some (.slice (some ⟨σ.n, 0, none⟩) (l.length + m.length) openCap, σ.alloc (.cells ((l ++ m).flatMap enc) e false)) := by
  have hml := enc_length enc hsz m
  have hll := enc_length enc hsz l
  have hm0 : m.length ≠ 0 := fun h => hm (List.eq_nil_of_length_eq_zero h)
  have hcond : (m.flatMap enc).length = m.length * f.size ∧ cokL (m.flatMap enc) = true ∧ 0 < f.size ∧ 0 < f.bytes ∧ f.zero.map List.length = some f.size := by
    rw [hfs]; exact ⟨hml, cokL_enc hc m, h0, h1, h2⟩
  unfold appendF
  rw [if_pos hcond]
  simp only [hm0, if_false, hg]
  rw [if_neg (by omega), if_neg (by omega), if_pos hbig]
  have : ld (l.flatMap enc) 0 (l.length * f.size) = some (l.flatMap enc) := by
    rw [hfs, ← hll]
    unfold ld
    rw [if_pos (by omega), List.drop_zero, List.take_of_length_le (Nat.le_refl _)]
  rw [this]
  simp
theorem appendF_none (hfs : f.size = sz) (h0 : 0 < sz) (h1 : 0 < f.bytes) (h2 : f.zero.map List.length = some sz) (i n : Nat) : appendF σ e f (.slice (some ⟨i, 0, none⟩) n n) 0 [] = some (.slice (some ⟨i, 0, none⟩) n n, σ) := by
  unfold appendF
  rw [if_pos (by rw [hfs]; exact ⟨by simp, rfl, h0, h1, h2⟩)]
  simp
/-- A slice's bytes as a string. -/
theorem convF_tostr {s d e' : TypeId} {v : Value} {l : List UInt8} (hs : P.underlying s = some (.slice e')) (he : P.underlying e' = some (.int .u8)) (hd : P.underlying d = some .string) (h : Sl σ e 1 encY v l) : convF P σ s d v = .val (.string ⟨l.toArray⟩) σ := by
  have h1 : convertOp P σ s d v = .val (.string ⟨l.toArray⟩) σ := by
    rcases h with ⟨rfl, rfl⟩ | ⟨i, off, cap, row, ro, rfl, hg, hi, hrow, hlen, hcap⟩
    · unfold convertOp
      rw [hs, hd]
      simp only [he]
      rfl
    · unfold convertOp
      rw [hs, hd]
      have hld : ld row off l.length = some (l.flatMap encY) := by
        unfold ld
        rw [Nat.mul_one] at hlen hrow
        rw [if_pos hlen, hrow]
      simp only [he, CSt.cells, hg, hld, Option.bind_some, bytesOf_encY]
  simp only [convF, h1]
  rfl
end
section
variable {α : Type} {P : Program} {σ : CSt} {e t : TypeId} {sz : Nat} {enc : α → List Value} {v : Value} {l : List α} {f : TF}
/-- s[lo:hi] -/
theorem Sl.mid (hf : elemF P t = some (e, f)) (hfs : f.size = sz) (h0 : 0 < sz) (hsz : ∀ x, (enc x).length = sz) (h : Sl σ e sz enc v l) (lo hi : Nat) (h1 : lo ≤ hi) (h2 : hi ≤ l.length) {bl bh : Option Value} (hl : bound? 0 bl = some lo) (hh : bound? l.length bh = some hi) :
    ∃ q c, sliceOp P σ t v bl bh none = some (.slice q (hi - lo) c) ∧ Sl σ e sz enc (.slice q (hi - lo) c) ((l.take hi).drop lo) := by
  have he : (elemF P t).isSome = true := by rw [hf]; rfl
  have hlen : ((l.take hi).drop lo).length = hi - lo := by rw [List.length_drop, List.length_take, Nat.min_eq_left h2]
  have hrw : ∀ {row : List Value} {off : Nat}, (row.drop off).take (l.length * sz) = l.flatMap enc → (row.drop (off + lo * sz)).take ((hi - lo) * sz) = ((l.take hi).drop lo).flatMap enc := by
    intro row off hrow
    have a1 := row_take hsz hrow hi h2
    have a2 := row_drop hsz a1 lo (by rw [List.length_take, Nat.min_eq_left h2]; exact h1)
    rw [hlen] at a2
    exact a2
  rcases h with ⟨rfl, rfl⟩ | ⟨i, off, cap, row, ro, rfl, hg, hin, hrow, hle, hcap⟩
  · have hhi : hi = 0 := by simpa using h2
    subst hhi
    have hlo : lo = 0 := by omega
    subst hlo
    refine ⟨none, 0, ?_, by simpa using Sl.nil⟩
    rw [sliceOp_nil he]
    simp only [List.length_nil] at hh
    rw [hl, hh]
    rfl
  · have hb : off + lo * sz + (hi - lo) * sz ≤ row.length := by
      have : lo * sz + (hi - lo) * sz = hi * sz := by rw [← Nat.add_mul]; congr 1; omega
      have : hi * sz ≤ l.length * sz := Nat.mul_le_mul_right _ h2
      omega
    by_cases hc : cap = openCap
    · subst hc
      refine ⟨some ⟨i, off + lo * sz, none⟩, openCap, ?_, .inr ⟨i, off + lo * sz, openCap, row, ro, by rw [hlen], hg, hin, by rw [hlen]; exact hrw hrow, by rw [hlen]; exact hb, .inl rfl⟩⟩
      rw [sliceOp_open he, hl, hh, hf, hg]
      simp only [sliceO, hfs]
      rw [if_pos ⟨trivial, h0, h1, .inl h2⟩]
    · rcases hcap with hcap | ⟨hc1, hc2⟩
      · exact absurd hcap hc
      · by_cases hm : cap = lo
        · refine ⟨some ⟨i, off, none⟩, cap - lo, ?_, .inr ⟨i, off, cap - lo, row, ro, by rw [hlen], hg, hin, ?_, ?_, .inr ⟨by rw [hlen]; omega, by omega⟩⟩⟩
          · rw [sliceOp_cap he _ _ _ _ hc, hl, hh, hf]
            simp only [sliceC]
            rw [if_pos ⟨h1, by omega, trivial, hc2⟩, if_pos hm]
          · have hz : hi - lo = 0 := by omega
            rw [hlen, hz, Nat.zero_mul, List.take_zero]
            have : (l.take hi).drop lo = [] := List.eq_nil_of_length_eq_zero (by rw [hlen, hz])
            rw [this]
            rfl
          · have hz : hi - lo = 0 := by omega
            rw [hlen, hz]
            omega
        · refine ⟨some ⟨i, off + lo * sz, none⟩, cap - lo, ?_, .inr ⟨i, off + lo * sz, cap - lo, row, ro, by rw [hlen], hg, hin, by rw [hlen]; exact hrw hrow, by rw [hlen]; exact hb, .inr ⟨by rw [hlen]; omega, by omega⟩⟩⟩
          rw [sliceOp_cap he _ _ _ _ hc, hl, hh, hf]
          simp only [sliceC, hfs]
          rw [if_pos ⟨h1, by omega, trivial, hc2⟩, if_neg hm]
end
section
/-! ### Seven bits a byte -/
set_option maxRecDepth 100000 in
theorem or_80 (n : Nat) (h : n < 256) : orI .u8 (n : Nat) 128 = ((n % 128 + 128 : Nat) : Int) := by
  have : ∀ n : Fin 256, orI .u8 ((n : Nat) : Int) 128 = ((n.val % 128 + 128 : Nat) : Int) := by decide
  exact this ⟨n, h⟩
set_option maxRecDepth 100000 in
theorem and_7f (n : Nat) (h : n < 256) : andI .u8 (n : Nat) 127 = ((n % 128 : Nat) : Int) := by
  have : ∀ n : Fin 256, andI .u8 ((n : Nat) : Int) 127 = ((n.val % 128 : Nat) : Int) := by decide
  exact this ⟨n, h⟩
theorem or_add (n c s : Nat) (hn : n < 2 ^ s) (h : n + c * 2 ^ s < 2 ^ 64) : orI .u64 (n : Nat) ((c * 2 ^ s : Nat) : Int) = ((n + c * 2 ^ s : Nat) : Int) := by
  have h1 : c * 2 ^ s < 2 ^ 64 := by omega
  have h2 : n < 2 ^ 64 := by omega
  have e : c * 2 ^ s + n = c * 2 ^ s ||| n := by
    rw [Nat.mul_comm]
    exact Nat.two_pow_add_eq_or_of_lt hn c
  have e2 : (n ||| c * 2 ^ s) = n + c * 2 ^ s := by rw [Nat.or_comm, ← e, Nat.add_comm]
  unfold orI
  have h3 : ((BitVec.ofInt 64 (n : Int)) ||| (BitVec.ofInt 64 ((c * 2 ^ s : Nat) : Int))).toNat = n + c * 2 ^ s := by
    rw [BitVec.toNat_or, BitVec.ofInt_natCast, BitVec.ofInt_natCast, BitVec.toNat_ofNat, BitVec.toNat_ofNat, Nat.mod_eq_of_lt h2, Nat.mod_eq_of_lt h1, e2]
  show IntKind.u64.wrap ((((BitVec.ofInt 64 (n : Int)) ||| (BitVec.ofInt 64 ((c * 2 ^ s : Nat) : Int))).toNat : Nat) : Int) = _
  rw [h3]
  have : IntKind.u64.wrap ((n + c * 2 ^ s : Nat) : Int) = ((n + c * 2 ^ s : Nat) : Int) % 2 ^ 64 := by simp [IntKind.wrap, IntKind.bits, IntKind.signed]
  rw [this]
  omega
end
end Go.Sm
/- Numbers as bytes: seven bits a byte, the lowest first (no program). -/
namespace Go.Sm
/-- A number's bytes. -/
def num (n : Nat) : List UInt8 := if h : n < 128 then [UInt8.ofNat n] else UInt8.ofNat (n % 128 + 128) :: num (n / 128)
termination_by n
decreasing_by omega
/-- The number whose bytes these are. -/
def valB : List UInt8 → Nat
  | [] => 0
  | c :: l => c.toNat % 128 + 128 * valB l
/-- More is to come behind each of them. -/
def Hi (l : List UInt8) : Prop := ∀ c ∈ l, 128 ≤ c.toNat
theorem num_lt {n : Nat} (h : n < 128) : num n = [UInt8.ofNat n] := by rw [num, dif_pos h]
theorem num_ge {n : Nat} (h : 128 ≤ n) : num n = UInt8.ofNat (n % 128 + 128) :: num (n / 128) := by rw [num, dif_neg (by omega)]
theorem ofNat_toNat {n : Nat} (h : n < 256) : (UInt8.ofNat n).toNat = n := by simp; omega
theorem u8_eq {a b : UInt8} (h : a.toNat = b.toNat) : a = b := UInt8.toNat_inj.1 h
theorem u8_lt (c : UInt8) : c.toNat < 256 := c.toNat_lt
theorem val_num (n : Nat) : valB (num n) = n := by
  induction n using Nat.strongRecOn with
  | _ n ih =>
    by_cases h : n < 128
    · rw [num_lt h]
      show (UInt8.ofNat n).toNat % 128 + 128 * 0 = n
      rw [ofNat_toNat (by omega)]
      omega
    · rw [num_ge (by omega)]
      show (UInt8.ofNat (n % 128 + 128)).toNat % 128 + 128 * valB (num (n / 128)) = n
      rw [ofNat_toNat (by omega), ih _ (by omega)]
      omega
theorem num_inj {a b : Nat} (h : num a = num b) : a = b := by rw [← val_num a, h, val_num]
theorem num_form (n : Nat) : ∃ l c, num n = l ++ [c] ∧ Hi l ∧ c.toNat < 128 ∧ (c.toNat ≠ 0 ∨ l = []) := by
  induction n using Nat.strongRecOn with
  | _ n ih =>
    by_cases h : n < 128
    · exact ⟨[], UInt8.ofNat n, num_lt h, (fun _ hc => absurd hc (by simp)), (by rw [ofNat_toNat (by omega)]; exact h), .inr rfl⟩
    · obtain ⟨l, c, h1, h2, h3, h4⟩ := ih (n / 128) (by omega)
      refine ⟨UInt8.ofNat (n % 128 + 128) :: l, c, ?_, ?_, h3, ?_⟩
      · rw [num_ge (by omega), h1]; rfl
      · intro x hx
        rcases List.mem_cons.1 hx with rfl | hx
        · rw [ofNat_toNat (by omega)]; omega
        · exact h2 x hx
      · refine .inl fun hc => ?_
        rcases h4 with h4 | rfl
        · exact h4 hc
        · have := val_num (n / 128)
          rw [h1] at this
          simp only [List.nil_append, valB, hc] at this
          omega
theorem val_app (l m : List UInt8) : valB (l ++ m) = valB l + 128 ^ l.length * valB m := by
  induction l with
  | nil => simp [valB]
  | cons x l ih =>
    simp only [List.cons_append, valB, ih, List.length_cons, Nat.pow_succ, Nat.mul_add]
    rw [Nat.mul_comm (128 ^ l.length) 128, Nat.mul_assoc, Nat.add_assoc]
theorem val_lt (l : List UInt8) : valB l < 128 ^ l.length := by
  induction l with
  | nil => simp [valB]
  | cons x l ih =>
    simp only [valB, List.length_cons, Nat.pow_succ]
    omega
theorem val_one (c : UInt8) (h : c.toNat < 128) : valB [c] = c.toNat := by
  simp only [valB]; omega
theorem num_of (l : List UInt8) (c : UInt8) (hl : Hi l) (hc : c.toNat < 128) (h0 : c.toNat ≠ 0 ∨ l = []) : num (valB (l ++ [c])) = l ++ [c] := by
  induction l with
  | nil =>
    rw [List.nil_append, val_one c hc, num_lt hc]
    congr 1
    exact u8_eq (ofNat_toNat (by omega))
  | cons x l ih =>
    have hc0 : c.toNat ≠ 0 := by
      rcases h0 with h0 | h0
      · exact h0
      · cases h0
    have hx := hl x List.mem_cons_self
    have hx2 := u8_lt x
    have hpos : 0 < valB (l ++ [c]) := by
      rw [val_app, val_one c hc]
      have : 0 < 128 ^ l.length * c.toNat := Nat.mul_pos (Nat.pow_pos (by omega)) (by omega)
      omega
    have e : valB ((x :: l) ++ [c]) = x.toNat % 128 + 128 * valB (l ++ [c]) := rfl
    rw [e, num_ge (by omega)]
    have e1 : (x.toNat % 128 + 128 * valB (l ++ [c])) / 128 = valB (l ++ [c]) := by omega
    have e2 : (x.toNat % 128 + 128 * valB (l ++ [c])) % 128 + 128 = x.toNat := by omega
    rw [e1, e2, ih (fun y hy => hl y (List.mem_cons_of_mem _ hy)) (.inl hc0)]
    show UInt8.ofNat x.toNat :: (l ++ [c]) = x :: (l ++ [c])
    congr 1
    exact u8_eq (ofNat_toNat hx2)
theorem num_pos (n : Nat) : 1 ≤ (num n).length := by
  obtain ⟨l, c, h, _⟩ := num_form n
  rw [h]; simp
/-- Which numbers have 64 bits. -/
theorem val_64 (l : List UInt8) (c : UInt8) (hc : c.toNat < 128) (h0 : c.toNat ≠ 0 ∨ l = []) : valB (l ++ [c]) < 2 ^ 64 ↔ l.length ≤ 9 ∧ (l.length = 9 → c.toNat ≤ 1) := by
  rw [val_app, val_one c hc]
  have hv := val_lt l
  by_cases h9 : l.length < 9
  · have h1 : 128 ^ l.length ≤ 128 ^ 8 := Nat.pow_le_pow_right (by omega) (by omega)
    have h2 : 128 ^ l.length * c.toNat ≤ 128 ^ 8 * 127 := Nat.mul_le_mul h1 (by omega)
    have h3 : (128 : Nat) ^ 8 = 72057594037927936 := by decide
    have h4 : (2 : Nat) ^ 64 = 18446744073709551616 := by decide
    rw [h3] at h1 h2
    rw [h4]
    constructor
    · intro _; omega
    · intro _; omega
  · by_cases h10 : l.length = 9
    · rw [h10] at hv ⊢
      have h3 : (128 : Nat) ^ 9 = 9223372036854775808 := by decide
      have h4 : (2 : Nat) ^ 64 = 18446744073709551616 := by decide
      rw [h3] at hv ⊢
      rw [h4]
      omega
    · have h1 : 128 ^ 10 ≤ 128 ^ l.length := Nat.pow_le_pow_right (by omega) (by omega)
      have h3 : (128 : Nat) ^ 10 = 1180591620717411303424 := by decide
      have h4 : (2 : Nat) ^ 64 = 18446744073709551616 := by decide
      have hc0 : 1 ≤ c.toNat := by
        rcases h0 with h0 | h0
        · omega
        · rw [h0] at h9; simp at h9
      have h2 : 128 ^ l.length * 1 ≤ 128 ^ l.length * c.toNat := Nat.mul_le_mul_left _ hc0
      rw [h3] at h1
      rw [h4]
      omega
theorem num_len10 {n : Nat} (h : n < 2 ^ 64) : (num n).length ≤ 10 := by
  obtain ⟨l, c, h1, h2, h3, h4⟩ := num_form n
  have hv := val_num n
  rw [h1] at hv
  have := ((val_64 l c h3 h4).1 (by rw [hv]; exact h)).1
  rw [h1, List.length_append]
  simp only [List.length_cons, List.length_nil]
  omega
/-- The number that bytes begin with, and what stands behind it. -/
def rd (b : List UInt8) : Option (Nat × List UInt8) :=
  match b.dropWhile (fun c => decide (128 ≤ c.toNat)) with
  | [] => none
  | c :: r => if (b.takeWhile fun c => decide (128 ≤ c.toNat)).length ≤ 9 ∧ (c.toNat ≠ 0 ∨ (b.takeWhile fun c => decide (128 ≤ c.toNat)) = []) ∧ ((b.takeWhile fun c => decide (128 ≤ c.toNat)).length = 9 → c.toNat ≤ 1) then some (valB ((b.takeWhile fun c => decide (128 ≤ c.toNat)) ++ [c]), r) else none
theorem dw_hi {b : List UInt8} (h : Hi b) : b.dropWhile (fun c => decide (128 ≤ c.toNat)) = [] := by
  induction b with
  | nil => rfl
  | cons x b ih =>
    rw [List.dropWhile_cons, if_pos (by simpa using h x List.mem_cons_self)]
    exact ih fun y hy => h y (List.mem_cons_of_mem _ hy)
theorem rd_hi {b : List UInt8} (h : Hi b) : rd b = none := by
  have : b.dropWhile (fun c => decide (128 ≤ c.toNat)) = [] := by
    have := dw_hi h
    exact this
  unfold rd
  rw [this]
theorem tw_app {l : List UInt8} (hl : Hi l) (m : List UInt8) : (l ++ m).takeWhile (fun c => decide (128 ≤ c.toNat)) = l ++ m.takeWhile (fun c => decide (128 ≤ c.toNat)) := by
  rw [List.takeWhile_append_of_pos]
  intro x hx
  simpa using hl x hx
theorem dw_app {l : List UInt8} (hl : Hi l) (m : List UInt8) : (l ++ m).dropWhile (fun c => decide (128 ≤ c.toNat)) = m.dropWhile (fun c => decide (128 ≤ c.toNat)) := by
  rw [List.dropWhile_append_of_pos]
  intro x hx
  simpa using hl x hx
theorem rd_app {l : List UInt8} (hl : Hi l) (c : UInt8) (hc : c.toNat < 128) (r : List UInt8) : rd (l ++ c :: r) = if l.length ≤ 9 ∧ (c.toNat ≠ 0 ∨ l = []) ∧ (l.length = 9 → c.toNat ≤ 1) then some (valB (l ++ [c]), r) else none := by
  have hd : (decide (128 ≤ c.toNat)) = false := decide_eq_false (by omega)
  unfold rd
  rw [dw_app hl, tw_app hl, List.dropWhile_cons, List.takeWhile_cons, hd]
  simp
theorem rd_long {l : List UInt8} (hl : Hi l) (h : 10 ≤ l.length) (r : List UInt8) : rd (l ++ r) = none := by
  unfold rd
  rw [dw_app hl, tw_app hl]
  split
  · rfl
  · rw [if_neg]
    rw [List.length_append]
    omega
theorem rd_num {n : Nat} (h : n < 2 ^ 64) (r : List UInt8) : rd (num n ++ r) = some (n, r) := by
  obtain ⟨l, c, h1, h2, h3, h4⟩ := num_form n
  have hv := val_num n
  rw [h1] at hv
  have h5 := (val_64 l c h3 h4).1 (by rw [hv]; exact h)
  rw [h1, List.append_assoc]
  show rd (l ++ c :: r) = _
  rw [rd_app h2 c h3, if_pos ⟨h5.1, h4, h5.2⟩, hv]
theorem hi_split (b : List UInt8) : Hi b ∨ ∃ l c r, b = l ++ c :: r ∧ Hi l ∧ c.toNat < 128 := by
  induction b with
  | nil => exact .inl fun _ h => absurd h (by simp)
  | cons x b ih =>
    by_cases hx : x.toNat < 128
    · exact .inr ⟨[], x, b, rfl, fun _ h => absurd h (by simp), hx⟩
    · rcases ih with ih | ⟨l, c, r, h1, h2, h3⟩
      · refine .inl fun y hy => ?_
        rcases List.mem_cons.1 hy with rfl | hy
        · omega
        · exact ih y hy
      · refine .inr ⟨x :: l, c, r, by rw [h1]; rfl, fun y hy => ?_, h3⟩
        rcases List.mem_cons.1 hy with rfl | hy
        · omega
        · exact h2 y hy
theorem rd_some {b : List UInt8} {n : Nat} {r : List UInt8} (h : rd b = some (n, r)) : b = num n ++ r ∧ n < 2 ^ 64 := by
  rcases hi_split b with hb | ⟨l, c, r', rfl, hl, hc⟩
  · rw [rd_hi hb] at h; cases h
  · rw [rd_app hl c hc] at h
    split at h
    · rename_i hh
      cases h
      exact ⟨by rw [num_of l c hl hc hh.2.1, List.append_assoc]; rfl, (val_64 l c hc hh.2.1).2 ⟨hh.1, hh.2.2⟩⟩
    · cases h
/-- What the law's own reader compares. -/
theorem num_mod {l : List UInt8} (hl : Hi l) (c : UInt8) (hc : c.toNat < 128) (h9 : l.length ≤ 9) : num (valB (l ++ [c]) % 2 ^ 64) = l ++ [c] ↔ (c.toNat ≠ 0 ∨ l = []) ∧ (l.length = 9 → c.toNat ≤ 1) := by
  constructor
  · intro h
    obtain ⟨l', c', h1, h2, h3, h4⟩ := num_form (valB (l ++ [c]) % 2 ^ 64)
    rw [h] at h1
    have h5 := List.append_inj_left' h1 rfl
    have h6 := List.append_inj_right' h1 rfl
    cases h6
    subst h5
    have hv := val_num (valB (l ++ [c]) % 2 ^ 64)
    rw [h] at hv
    have : valB (l ++ [c]) < 2 ^ 64 := by rw [hv]; exact Nat.mod_lt _ (by decide)
    exact ⟨h4, ((val_64 l c hc h4).1 this).2⟩
  · rintro ⟨h4, h5⟩
    have := (val_64 l c hc h4).2 ⟨h9, h5⟩
    rw [Nat.mod_eq_of_lt this, num_of l c hl hc h4]
theorem rd_len {b r : List UInt8} {n : Nat} (h : rd b = some (n, r)) : b.length = (num n).length + r.length := by
  rw [(rd_some h).1, List.length_append]
end Go.Sm
/- Chains of versions as lists: plain facts. -/
namespace Go.Sm

structure Ver where
  at_ : Int
  val : ByteArray
  gone : Bool
  deriving DecidableEq

/-- The times rise. -/
def Srt (c : List Ver) : Prop := c.Pairwise fun a b => a.at_ < b.at_
/-- The version of a time. -/
def lk (c : List Ver) (t : Int) : Option Ver := c.find? fun v => v.at_ == t

theorem get_mem_drop {α : Type} {l : List α} {k : Nat} (h : k < l.length) : l[k] ∈ l.drop k := by rw [List.drop_eq_getElem_cons h]; exact List.mem_cons_self
theorem lk_none_of {c : List Ver} {t : Int} (h : ∀ v ∈ c, v.at_ ≠ t) : lk c t = none := by
  simp only [lk, List.find?_eq_none]
  intro v hv
  simpa using h v hv
theorem lk_cons (v : Ver) (c : List Ver) (t : Int) : lk (v :: c) t = if v.at_ = t then some v else lk c t := by
  simp only [lk, List.find?_cons]
  by_cases h : v.at_ = t
  · simp [h]
  · have : (v.at_ == t) = false := by simpa using h
    rw [this, if_neg h]
theorem lk_append (c d : List Ver) (t : Int) : lk (c ++ d) t = (lk c t).or (lk d t) := by simp [lk, List.find?_append]
theorem lk_some {c : List Ver} {t : Int} {v : Ver} (h : lk c t = some v) : v ∈ c ∧ v.at_ = t := by
  simp only [lk] at h
  exact ⟨List.mem_of_find?_eq_some h, by simpa using List.find?_some h⟩
theorem Srt.tail {v : Ver} {c : List Ver} (h : Srt (v :: c)) : Srt c := (List.pairwise_cons.1 h).2
theorem Srt.head {v : Ver} {c : List Ver} (h : Srt (v :: c)) : ∀ u ∈ c, v.at_ < u.at_ := (List.pairwise_cons.1 h).1
theorem Srt.lk_mem {c : List Ver} (h : Srt c) {v : Ver} (hv : v ∈ c) : lk c v.at_ = some v := by
  induction c with
  | nil => cases hv
  | cons u c ih =>
    rw [lk_cons]
    rcases List.mem_cons.1 hv with rfl | hv
    · simp
    · have := h.head v hv
      rw [if_neg (by omega)]
      exact ih h.tail hv
theorem Srt.ext : ∀ {c d : List Ver}, Srt c → Srt d → (∀ t, lk c t = lk d t) → c = d
  | [], [], _, _, _ => rfl
  | [], v :: d, _, _, h => by have := h v.at_; rw [lk_cons, if_pos rfl] at this; cases this
  | v :: c, [], _, _, h => by have := h v.at_; rw [lk_cons, if_pos rfl] at this; cases this
  | u :: c, v :: d, hc, hd, h => by
    have h1 := h u.at_
    rw [lk_cons, if_pos rfl, lk_cons] at h1
    have h2 := h v.at_
    rw [lk_cons, lk_cons, if_pos rfl] at h2
    have he : u = v := by
      by_cases e : v.at_ = u.at_
      · rw [if_pos e] at h1; exact Option.some.inj h1
      · rw [if_neg e] at h1
        rw [if_neg (Ne.symm e)] at h2
        have a := hd.head u (lk_some h1.symm).1
        have b := hc.head v (lk_some h2).1
        omega
    subst he
    rw [Srt.ext hc.tail hd.tail fun t => by
      have := h t
      rw [lk_cons, lk_cons] at this
      by_cases e : u.at_ = t
      · rw [lk_none_of fun x hx => by have := hc.head x hx; omega, lk_none_of fun x hx => by have := hd.head x hx; omega]
      · rwa [if_neg e, if_neg e] at this]

/-! ### A version more -/
def putL (c : List Ver) (v : Ver) : List Ver := (c.filter fun u => decide (u.at_ < v.at_)) ++ v :: c.filter fun u => decide (v.at_ < u.at_)
theorem Srt.filter {c : List Ver} (h : Srt c) (p : Ver → Bool) : Srt (c.filter p) := List.Pairwise.filter p h
theorem Srt.put {c : List Ver} (h : Srt c) (v : Ver) : Srt (putL c v) := by
  unfold putL Srt
  rw [List.pairwise_append]
  refine ⟨h.filter _, List.pairwise_cons.2 ⟨fun u hu => by simp at hu; exact hu.2, h.filter _⟩, fun a ha b hb => ?_⟩
  simp at ha hb
  rcases hb with rfl | hb
  · exact ha.2
  · omega
theorem lk_filter {c : List Ver} (p : Ver → Bool) (t : Int) (hp : ∀ v, v.at_ = t → p v = true) : lk (c.filter p) t = lk c t := by
  induction c with
  | nil => rfl
  | cons v c ih =>
    rw [List.filter_cons, lk_cons]
    by_cases e : v.at_ = t
    · rw [if_pos (hp v e), lk_cons, if_pos e, if_pos e]
    · rw [if_neg e]
      split
      · rw [lk_cons, if_neg e, ih]
      · exact ih
theorem lk_filter_none {c : List Ver} (p : Ver → Bool) (t : Int) (hp : ∀ v, v.at_ = t → p v = false) : lk (c.filter p) t = none :=
  lk_none_of fun v hv e => by
    have := (List.mem_filter.1 hv).2
    rw [hp v e] at this
    cases this
theorem lk_put (c : List Ver) (v : Ver) (t : Int) : lk (putL c v) t = if v.at_ = t then some v else lk c t := by
  unfold putL
  rw [lk_append, lk_cons]
  by_cases e : v.at_ = t
  · rw [if_pos e, if_pos e, lk_filter_none _ t fun u hu => by simp; omega]; rfl
  · rw [if_neg e, if_neg e]
    by_cases h : t < v.at_
    · rw [lk_filter _ t fun u hu => by simp; omega, lk_filter_none _ t fun u hu => by simp; omega, Option.or_none]
    · rw [lk_filter_none _ t fun u hu => by simp; omega, lk_filter _ t fun u hu => by simp; omega, Option.none_or]

/-! ### By definition -/
def makeL (l : List Ver) : List Ver := l.foldl putL []
def lastAt (l : List Ver) (t : Int) : Option Ver := (l.filter fun v => v.at_ == t).getLast?
def plainL (l : List Ver) : List Ver := (List.range 256).filterMap fun t : Nat => lastAt l t
theorem lastAt_snoc (l : List Ver) (v : Ver) (t : Int) : lastAt (l ++ [v]) t = if v.at_ = t then some v else lastAt l t := by
  unfold lastAt
  rw [List.filter_append]
  by_cases e : v.at_ = t <;> simp [e]
theorem makeL_snoc (l : List Ver) (v : Ver) : makeL (l ++ [v]) = putL (makeL l) v := by simp [makeL]
theorem lastAt_at {l : List Ver} {t : Int} {v : Ver} (h : lastAt l t = some v) : v ∈ l ∧ v.at_ = t := by
  have := List.mem_of_getLast? h
  simpa using this
theorem rev_ind {α : Type} {P : List α → Prop} (h0 : P []) (h1 : ∀ l a, P l → P (l ++ [a])) (l : List α) : P l := by
  have : ∀ m : List α, P m.reverse := by
    intro m
    induction m with
    | nil => exact h0
    | cons a m ih => rw [List.reverse_cons]; exact h1 _ _ ih
  have := this l.reverse
  rwa [List.reverse_reverse] at this
theorem makeL_srt (l : List Ver) : Srt (makeL l) := rev_ind (P := fun l => Srt (makeL l)) List.Pairwise.nil (fun l v ih => by rw [makeL_snoc]; exact ih.put v) l
theorem lk_makeL (l : List Ver) (t : Int) : lk (makeL l) t = lastAt l t :=
  rev_ind (P := fun l => lk (makeL l) t = lastAt l t) rfl (fun l v ih => by rw [makeL_snoc, lk_put, lastAt_snoc, ih]) l
theorem range_srt (l : List Ver) : ∀ (n : Nat), Srt ((List.range n).filterMap fun t : Nat => lastAt l t) ∧ (∀ v ∈ ((List.range n).filterMap fun t : Nat => lastAt l t), v.at_ < n) ∧
    ∀ t : Int, lk ((List.range n).filterMap fun t : Nat => lastAt l t) t = if 0 ≤ t ∧ t < n then lastAt l t else none
  | 0 => ⟨List.Pairwise.nil, by simp, fun t => by simp [lk]; intro h h'; omega⟩
  | n + 1 => by
    obtain ⟨h1, h2, h3⟩ := range_srt l n
    have hone : ∀ t : Int, lk ([n].filterMap fun t : Nat => lastAt l t) t = if t = n then lastAt l t else none := by
      intro t
      cases hl : lastAt l (n : Int) with
      | none => by_cases e : t = n <;> simp [hl, lk, e]
      | some v =>
        have := (lastAt_at hl).2
        simp only [List.filterMap_cons, hl, List.filterMap_nil, lk_cons, this]
        by_cases e : t = n
        · subst e; simp [hl]
        · rw [if_neg (Ne.symm e), if_neg e]; rfl
    have hmem : ∀ v ∈ ([n].filterMap fun t : Nat => lastAt l t), v.at_ = n := by
      intro v hv
      simp at hv
      exact (lastAt_at hv).2
    simp only [List.range_succ, List.filterMap_append]
    refine ⟨?_, fun v hv => ?_, fun t => ?_⟩
    · unfold Srt
      rw [List.pairwise_append]
      refine ⟨h1, ?_, fun a ha b hb => ?_⟩
      · simp only [List.filterMap_cons, List.filterMap_nil]
        split <;> simp
      · rw [hmem b hb]; exact h2 a ha
    · rcases List.mem_append.1 hv with hv | hv
      · have := h2 v hv; omega
      · have := hmem v hv; omega
    · rw [lk_append, h3, hone]
      by_cases a : 0 ≤ t ∧ t < n
      · rw [if_pos a, if_neg (by omega), if_pos (by omega), Option.or_none]
      · rw [if_neg a, Option.none_or]
        by_cases b : t = n
        · rw [if_pos b, if_pos (by omega)]
        · rw [if_neg b, if_neg (by omega)]
theorem make_plain (l : List Ver) (h : ∀ v ∈ l, 0 ≤ v.at_ ∧ v.at_ < 256) : makeL l = plainL l := by
  obtain ⟨h1, _, h3⟩ := range_srt l 256
  refine Srt.ext (makeL_srt l) h1 fun t => ?_
  unfold plainL
  rw [lk_makeL, h3]
  by_cases a : 0 ≤ t ∧ t < (256 : Nat)
  · rw [if_pos a]
  · rw [if_neg a]
    cases hl : lastAt l t with
    | none => rfl
    | some v =>
      obtain ⟨m, e⟩ := lastAt_at hl
      have := h v m
      omega

/-! ### What a search finds -/
theorem filter_take {α : Type} {l : List α} {k : Nat} (p : α → Bool) (h1 : ∀ x ∈ l.take k, p x = true) (h2 : ∀ x ∈ l.drop k, p x = false) : l.filter p = l.take k := by
  conv => lhs; rw [← List.take_append_drop k l]
  rw [List.filter_append, List.filter_eq_self.2 h1, List.filter_eq_nil_iff.2 fun x hx => by simp [h2 x hx], List.append_nil]
theorem filter_drop {α : Type} {l : List α} {k : Nat} (p : α → Bool) (h1 : ∀ x ∈ l.take k, p x = false) (h2 : ∀ x ∈ l.drop k, p x = true) : l.filter p = l.drop k := by
  conv => lhs; rw [← List.take_append_drop k l]
  rw [List.filter_append, List.filter_eq_self.2 h2, List.filter_eq_nil_iff.2 fun x hx => by simp [h1 x hx], List.nil_append]
/-- What the search tells: how many are below a time. -/
structure Found (c : List Ver) (t : Int) (k : Nat) : Prop where
  le : k ≤ c.length
  lo : ∀ v ∈ c.take k, v.at_ < t
  hi : ∀ v ∈ c.drop k, t ≤ v.at_
theorem Found.lk {c : List Ver} {t : Int} {k : Nat} (hs : Srt c) (h : Found c t k) : Sm.lk c t = if h : k < c.length then (if c[k].at_ = t then some c[k] else none) else none := by
  have e1 : c.take k ++ c.drop k = c := List.take_append_drop k c
  rw [← e1, lk_append, lk_none_of (c := c.take k) fun v hv => by have := h.lo v hv; omega, Option.none_or, e1]
  split
  · rename_i hk
    rw [List.drop_eq_getElem_cons hk, lk_cons]
    split
    · rfl
    · rename_i hne
      have h1 := h.hi c[k] (get_mem_drop hk)
      refine lk_none_of fun v hv => ?_
      have hs2 : Srt (c.drop k) := List.Pairwise.sublist (List.drop_sublist k c) hs
      rw [List.drop_eq_getElem_cons hk] at hs2
      have := hs2.head v hv
      omega
  · rw [List.drop_of_length_le (by omega)]; rfl
theorem Found.put_ins {c : List Ver} {v : Ver} {k : Nat} (hs : Srt c) (h : Found c v.at_ k) (hn : ∀ hk : k < c.length, c[k].at_ ≠ v.at_) : putL c v = c.take k ++ v :: c.drop k := by
  unfold putL
  rw [filter_take (k := k) _ (fun x hx => by simpa using h.lo x hx) fun x hx => by simpa using h.hi x hx]
  rw [filter_drop (k := k) _ (fun x hx => by have := h.lo x hx; simp; omega) fun x hx => ?_]
  have h1 := h.hi x hx
  have hk : k < c.length := by
    by_cases hk : k < c.length
    · exact hk
    · rw [List.drop_of_length_le (by omega)] at hx; cases hx
  have h2 := hn hk
  have hs2 : Srt (c.drop k) := List.Pairwise.sublist (List.drop_sublist k c) hs
  have h3 := h.hi c[k] (get_mem_drop hk)
  rw [List.drop_eq_getElem_cons hk] at hx hs2
  rcases List.mem_cons.1 hx with rfl | hx
  · simp; omega
  · have := hs2.head x hx
    simp; omega
theorem Found.put_set {c : List Ver} {v : Ver} {k : Nat} (hs : Srt c) (h : Found c v.at_ k) (hk : k < c.length) (he : c[k].at_ = v.at_) : putL c v = c.set k v := by
  unfold putL
  rw [filter_take (k := k) _ (fun x hx => by simpa using h.lo x hx) fun x hx => by simpa using h.hi x hx]
  rw [filter_drop (k := k + 1) _ (fun x hx => ?_) fun x hx => ?_]
  · rw [List.set_eq_take_append_cons_drop, if_pos hk]
  · rw [List.take_succ_eq_append_getElem hk] at hx
    simp only [List.mem_append, List.mem_singleton] at hx
    rcases hx with hx | rfl
    · have := h.lo x hx; simp; omega
    · simp; omega
  · have hs2 : Srt (c.drop k) := List.Pairwise.sublist (List.drop_sublist k c) hs
    rw [List.drop_eq_getElem_cons hk] at hs2
    have := hs2.head x hx
    simp; omega

/-! ### The last one up to a time -/
def atL (c : List Ver) (t : Int) : Option Ver := (c.filter fun v => decide (v.at_ ≤ t)).getLast?
/-- How many are at most at a time. -/
theorem Found.upto {c : List Ver} {t : Int} {k : Nat} (hs : Srt c) (h : Found c t k) : (c.filter fun v => decide (v.at_ ≤ t)) = c.take (if (∃ hk : k < c.length, c[k].at_ = t) then k + 1 else k) := by
  have hs2 : Srt (c.drop k) := List.Pairwise.sublist (List.drop_sublist k c) hs
  split
  · rename_i hh
    obtain ⟨hk, he⟩ := hh
    rw [List.drop_eq_getElem_cons hk] at hs2
    refine filter_take _ (fun x hx => ?_) fun x hx => ?_
    · rw [List.take_succ_eq_append_getElem hk] at hx
      simp only [List.mem_append, List.mem_singleton] at hx
      rcases hx with hx | rfl
      · have := h.lo x hx; simp; omega
      · simp; omega
    · have := hs2.head x hx; simp; omega
  · rename_i hh
    refine filter_take _ (fun x hx => by have := h.lo x hx; simp; omega) fun x hx => ?_
    have h1 := h.hi x hx
    by_cases hk : k < c.length
    · have h2 : c[k].at_ ≠ t := fun e => hh ⟨hk, e⟩
      have h3 := h.hi c[k] (get_mem_drop hk)
      rw [List.drop_eq_getElem_cons hk] at hx hs2
      rcases List.mem_cons.1 hx with rfl | hx
      · simp; omega
      · have := hs2.head x hx; simp; omega
    · rw [List.drop_of_length_le (by omega)] at hx; cases hx
theorem take_last {α : Type} {l : List α} {k : Nat} (h : k < l.length) : (l.take (k + 1)).getLast? = some l[k] := by
  rw [List.take_succ_eq_append_getElem h, List.getLast?_append]
  rfl
theorem Found.at_eq {c : List Ver} {t : Int} {k : Nat} (hs : Srt c) (h : Found c t k) (hk : k < c.length) (he : c[k].at_ = t) : atL c t = some c[k] := by
  have := h.upto hs
  rw [if_pos ⟨hk, he⟩] at this
  unfold atL
  rw [this]
  exact take_last hk
theorem Found.at_lt {c : List Ver} {t : Int} {k : Nat} (hs : Srt c) (h : Found c t (k + 1)) (hn : ¬ ∃ hk : k + 1 < c.length, c[k + 1].at_ = t) : atL c t = some (c[k]'(by have := h.le; omega)) := by
  have := h.upto hs
  rw [if_neg hn] at this
  unfold atL
  rw [this]
  exact take_last (by have := h.le; omega)
theorem Found.at_zero {c : List Ver} {t : Int} (hs : Srt c) (h : Found c t 0) (hn : ¬ ∃ hk : 0 < c.length, c[0].at_ = t) : atL c t = none := by
  have := h.upto hs
  rw [if_neg hn] at this
  unfold atL
  rw [this]
  rfl
/-- What stays of a chain. -/
def cutL (c : List Ver) (t : Int) : List Ver :=
  match (c.filter fun v => decide (v.at_ ≤ t)).length with
  | 0 => c
  | n + 1 => if ((c[n]?).map (·.gone)).getD false then c.drop (n + 1) else c.drop n
theorem cut_of {c : List Ver} {t : Int} {k : Nat} (hk : k < c.length) (h : (c.filter fun v => decide (v.at_ ≤ t)) = c.take (k + 1)) : cutL c t = if c[k].gone then c.drop (k + 1) else c.drop k := by
  have : (c.filter fun v => decide (v.at_ ≤ t)).length = k + 1 := by rw [h]; simp; omega
  unfold cutL
  rw [this]
  simp [hk]
theorem Found.cut_eq {c : List Ver} {t : Int} {k : Nat} (hs : Srt c) (h : Found c t k) (hk : k < c.length) (he : c[k].at_ = t) : cutL c t = if c[k].gone then c.drop (k + 1) else c.drop k := by
  have := h.upto hs
  rw [if_pos ⟨hk, he⟩] at this
  exact cut_of hk this
theorem Found.cut_lt {c : List Ver} {t : Int} {k : Nat} (hs : Srt c) (h : Found c t (k + 1)) (hn : ¬ ∃ hk : k + 1 < c.length, c[k + 1].at_ = t) : cutL c t = if (c[k]'(by have := h.le; omega)).gone then c.drop (k + 1) else c.drop k := by
  have := h.upto hs
  rw [if_neg hn] at this
  exact cut_of (by have := h.le; omega) this
theorem Found.cut_zero {c : List Ver} {t : Int} (hs : Srt c) (h : Found c t 0) (hn : ¬ ∃ hk : 0 < c.length, c[0].at_ = t) : cutL c t = c := by
  have := h.upto hs
  rw [if_neg hn] at this
  unfold cutL
  rw [this]
  rfl
end Go.Sm
/- Records as bytes (no program). -/
set_option linter.unusedVariables false
set_option linter.unusedSimpArgs false
namespace Go.Sm
def byt (s : ByteArray) : List UInt8 := s.data.toList
def str (l : List UInt8) : ByteArray := ⟨l.toArray⟩
theorem byt_str (l : List UInt8) : byt (str l) = l := by simp [byt, str]
theorem str_byt (s : ByteArray) : str (byt s) = s := by cases s; simp [byt, str]
theorem str_inj {a b : List UInt8} (h : str a = str b) : a = b := by rw [← byt_str a, h, byt_str]
theorem size_str (l : List UInt8) : (str l).size = l.length := by simp [str, ByteArray.size]
theorem len_byt (s : ByteArray) : (byt s).length = s.size := by simp [byt]
/-- A text that bytes begin with. -/
def rdText (most : Nat) (b : List UInt8) : Option (ByteArray × List UInt8) :=
  (rd b).bind fun p => if p.1 ≤ p.2.length ∧ p.1 ≤ most then some (str (p.2.take p.1), p.2.drop p.1) else none
/-- A version's value that bytes begin with. -/
def rdVer (at_ : Int) (b : List UInt8) : Option (Ver × List UInt8) :=
  (rd b).bind fun p => if p.1 = 0 then some (⟨at_, str [], true⟩, p.2) else if p.1 ≤ 201 ∧ p.1 - 1 ≤ p.2.length then some (⟨at_, str (p.2.take (p.1 - 1)), false⟩, p.2.drop (p.1 - 1)) else none
def serText (s : ByteArray) : List UInt8 := num s.size ++ byt s
def serVer (v : Ver) : List UInt8 := if v.gone then [0] else num (v.val.size + 1) ++ byt v.val
structure Wri where
  key : ByteArray
  ver : Ver
  deriving DecidableEq
def serW (w : Wri) : List UInt8 := serText w.key ++ serVer w.ver
structure Rcd where
  at_ : Nat
  ws : List Wri
  deriving DecidableEq
def serR (r : Rcd) : List UInt8 := num r.at_ ++ num r.ws.length ++ r.ws.flatMap serW
/-- So many writes that bytes begin with, keys rising. -/
def rdWs (at_ : Int) : Nat → ByteArray → List UInt8 → Option (List Wri × List UInt8)
  | 0, _, b => some ([], b)
  | n + 1, last, b => (rdText 32 b).bind fun p => (rdVer at_ p.2).bind fun q => if klt last p.1 then (rdWs at_ n p.1 q.2).map fun r => (⟨p.1, q.1⟩ :: r.1, r.2) else none
/-- The record whose bytes these are. -/
def dec (b : List UInt8) : Option Rcd :=
  (rd b).bind fun p => (rd p.2).bind fun q => if 1 ≤ p.1 ∧ p.1 ≤ 2 ^ 40 ∧ q.1 ≤ b.length then (rdWs p.1 q.1 (str []) q.2).bind fun r => if r.2 = [] then some ⟨p.1, r.1⟩ else none else none
def decP (b : List UInt8) : Option (Rcd × List UInt8) :=
  (rd b).bind fun p => (rd p.2).bind fun q => (rdWs p.1 q.1 (str []) q.2).map fun r => (⟨p.1, r.1⟩, r.2)
def GoodV (v : Ver) : Prop := (v.gone = true → v.val = str []) ∧ v.val.size ≤ 200
def GoodW (at_ : Int) (w : Wri) : Prop := 1 ≤ w.key.size ∧ w.key.size ≤ 32 ∧ GoodV w.ver ∧ w.ver.at_ = at_
/-- Keys rise. -/
def Rise (l : List Wri) : Prop := l.Pairwise fun a c => klt a.key c.key = true
structure GoodR (r : Rcd) : Prop where
  at1 : 1 ≤ r.at_
  at2 : r.at_ ≤ 2 ^ 40
  ws : ∀ w ∈ r.ws, GoodW r.at_ w
  rise : Rise r.ws
theorem rdText_ser {s : ByteArray} {most : Nat} (h : s.size ≤ most) (hm : most < 2 ^ 64) (r : List UInt8) : rdText most (serText s ++ r) = some (s, r) := by
  unfold rdText serText
  rw [List.append_assoc, rd_num (by omega)]
  have e : s.size ≤ (byt s ++ r).length ∧ s.size ≤ most := by
    rw [List.length_append, len_byt]; omega
  simp only [Option.bind_some, e, and_self, if_true]
  rw [← len_byt s, List.take_left, List.drop_left, str_byt]
theorem rdVer_ser {v : Ver} (h : GoodV v) (r : List UInt8) : rdVer v.at_ (serVer v ++ r) = some (v, r) := by
  obtain ⟨a, s, g⟩ := v
  unfold rdVer serVer
  cases g with
  | true =>
    have hv : s = str [] := h.1 rfl
    subst hv
    have e : num 0 = [0] := num_lt (by omega)
    show (rd ([0] ++ r)).bind _ = _
    rw [← e, rd_num (by decide)]
    rfl
  | false =>
    have hs : s.size ≤ 200 := h.2
    show (rd ((num (s.size + 1) ++ byt s) ++ r)).bind _ = _
    rw [List.append_assoc, rd_num (by omega)]
    have e : s.size + 1 ≤ 201 ∧ s.size + 1 - 1 ≤ (byt s ++ r).length := by
      rw [List.length_append, len_byt]; omega
    simp only [Option.bind_some, e, and_self, if_true]
    rw [if_neg (by omega), Nat.add_sub_cancel, ← len_byt s, List.take_left, List.drop_left, str_byt]
theorem klt_nil {s : ByteArray} (h : 1 ≤ s.size) : klt (str []) s = true := by
  unfold klt
  rw [ByteArray.toList_eq, ByteArray.toList_eq]
  have : s.data.toList ≠ [] := by
    intro e
    have := len_byt s
    unfold byt at this
    rw [e] at this
    simp at this
    omega
  cases hd : s.data.toList with
  | nil => exact absurd hd this
  | cons a l => rfl
theorem rdWs_ser {at_ : Int} {r : List UInt8} : ∀ {ws : List Wri} {last : ByteArray}, (∀ w ∈ ws, GoodW at_ w) → Rise ws → (∀ w ∈ ws, klt last w.key = true) → rdWs at_ ws.length last (ws.flatMap serW ++ r) = some (ws, r)
  | [], _, _, _, _ => rfl
  | w :: ws, last, h1, h2, h3 => by
    obtain ⟨g1, g2, g3, g4⟩ := h1 w List.mem_cons_self
    obtain ⟨q1, q2⟩ := List.pairwise_cons.1 h2
    have ih := rdWs_ser (r := r) (fun x hx => h1 x (List.mem_cons_of_mem _ hx)) q2 q1
    show rdWs at_ (ws.length + 1) last _ = _
    unfold rdWs
    have e : (w :: ws).flatMap serW ++ r = serText w.key ++ (serVer w.ver ++ (ws.flatMap serW ++ r)) := by
      rw [List.flatMap_cons, serW, List.append_assoc, List.append_assoc]
    rw [e, rdText_ser g2 (by decide)]
    simp only [Option.bind_some]
    rw [← g4, rdVer_ser g3]
    simp only [Option.bind_some, h3 w List.mem_cons_self, if_true]
    rw [g4, ih]
    rfl
theorem num_len_pos (n : Nat) : 1 ≤ (num n).length := num_pos n
theorem ser_len (ws : List Wri) : ws.length ≤ (ws.flatMap serW).length := by
  induction ws with
  | nil => simp
  | cons w ws ih =>
    have : 1 ≤ (serW w).length := by
      have := num_pos w.key.size
      unfold serW serText
      simp only [List.length_append]
      omega
    rw [List.flatMap_cons, List.length_append, List.length_cons]
    omega
theorem decP_ser {r : Rcd} (h : GoodR r) (hl : r.ws.length < 2 ^ 64) (t : List UInt8) : decP (serR r ++ t) = some (r, t) := by
  have h2 := h.at2
  unfold decP serR
  rw [List.append_assoc, List.append_assoc, rd_num (by omega)]
  simp only [Option.bind_some]
  rw [rd_num hl]
  simp only [Option.bind_some]
  rw [rdWs_ser h.ws h.rise fun w hw => klt_nil (h.ws w hw).1]
  rfl
theorem dec_ser {r : Rcd} (h : GoodR r) (hl : r.ws.length < 2 ^ 64) : dec (serR r) = some r := by
  have h1 := h.at1
  have h2 := h.at2
  have hlen : r.ws.length ≤ (serR r).length := by
    have := ser_len r.ws
    unfold serR
    simp only [List.length_append]
    omega
  unfold dec
  have e : serR r = num r.at_ ++ (num r.ws.length ++ (r.ws.flatMap serW ++ [])) := by rw [serR, List.append_nil, List.append_assoc]
  have e1 : rd (serR r) = some (r.at_, num r.ws.length ++ (r.ws.flatMap serW ++ [])) := by rw [e, rd_num (by omega)]
  rw [e1]
  simp only [Option.bind_some]
  rw [rd_num hl]
  simp only [Option.bind_some, h1, h2, hlen, and_self, if_true]
  rw [rdWs_ser h.ws h.rise fun w hw => klt_nil (h.ws w hw).1]
  rfl
/-- No record's bytes begin with all of another one's. -/
theorem ser_apart {x y : Rcd} (hx : GoodR x) (hy : GoodR y) (lx : x.ws.length < 2 ^ 64) (ly : y.ws.length < 2 ^ 64) : serR x <+: serR y ↔ x = y := by
  constructor
  · rintro ⟨t, ht⟩
    have h1 := decP_ser hx lx t
    have h2 := decP_ser hy ly []
    rw [List.append_nil, ← ht, h1] at h2
    cases h2
    rfl
  · rintro rfl
    exact List.prefix_refl _
end Go.Sm
/- code.Writer: numbers, texts; a version's value. -/
set_option linter.unusedVariables false
set_option linter.unusedSimpArgs false
namespace Go.Sm
open Go Go.Proofs
set_option maxRecDepth 100000
set_option maxHeartbeats 4000000
def encV (v : Ver) : List Value := [.int .u64 v.at_, .string v.val, .bool v.gone]
def TW : TypeId → Prop := fun t => t = 27 ∨ t = 5
instance : DecidablePred TW := fun t => inferInstanceAs (Decidable (t = 27 ∨ t = 5))
/-- A writer: its bytes so far. -/
def Wt (b p : Nat) (σ : CSt) (l : List UInt8) : Prop := ∃ v, σ.get p = some (.cells [v] 27 false) ∧ b ≤ p ∧ p < σ.n ∧ Own b σ 5 encY v l
theorem app_fr {b : Nat} {σ σ' : CSt} {v : Value} {l : List UInt8} (hown : Own b σ 5 encY v l) (hn : σ.n ≤ σ'.n) (hf : ∀ j, j < σ.n → (∀ i off n c, v = .slice (some ⟨i, off, none⟩) n c → j ≠ i) → σ'.get j = σ.get j) : Fr (fun t => t = 5) b σ σ' := by
  refine ⟨hn, fun j hj hc => hf j hj fun i off n c hv => ?_⟩
  rintro rfl
  rcases hown with ⟨h1, _⟩ | ⟨i', cap, h1, hb, hi, hg, _⟩
  · rw [h1] at hv; cases hv
  · rw [h1] at hv
    cases hv
    rcases hc with hc | hc
    · omega
    · exact hc _ _ _ hg rfl
theorem wapp_sl {b : Nat} {σ : CSt} {v x : Value} {l m : List UInt8} (hw : Own b σ 5 encY v l) (hb : b ≤ σ.n) (hx : Sl σ 5 1 encY x m) (hbig : l.length + m.length ≤ 2 ^ 47) :
    ∃ q c σ', appendOp Tryz.prog σ #[25, 25] v x = some (.slice q (l.length + m.length) c, σ') ∧ Own b σ' 5 encY (.slice q (l.length + m.length) c) (l ++ m) ∧ Fr (fun t => t = 5) b σ σ' := by
  obtain ⟨v', σ', a1, a2, a3, a4, _⟩ := append_only (P := Tryz.prog) (ts := #[25, 25]) (e := 5) (sz := 1) (enc := encY) (l := l) (m := m) (b := b) ef25 (by simp) encY_len encY_cok rfl (by decide) (by decide) rfl hw hb hx (by show _ * 1 ≤ _; omega) (by omega)
  obtain ⟨q, c, rfl⟩ := (a2.sl (sz := 1) encY_len).form
  rw [List.length_append] at a1 a2
  exact ⟨q, c, σ', a1, a2, app_fr hw a3.1 a4⟩
theorem wapp_str {b : Nat} {σ : CSt} {v : Value} {l m : List UInt8} (hw : Own b σ 5 encY v l) (hb : b ≤ σ.n) (hbig : l.length + m.length ≤ 2 ^ 47) :
    ∃ q c σ', appendOp Tryz.prog σ #[25, 9] v (.string ⟨m.toArray⟩) = some (.slice q (l.length + m.length) c, σ') ∧ Own b σ' 5 encY (.slice q (l.length + m.length) c) (l ++ m) ∧ Fr (fun t => t = 5) b σ σ' := by
  obtain ⟨v', σ', a1, a2, a3, a4⟩ := append_str (P := Tryz.prog) (ts := #[25, 9]) (e := 5) (l := l) (m := m) (b := b) ef25 (by simp) rfl (by decide) rfl hw hb (by show _ * 1 ≤ _; omega) (by omega)
  obtain ⟨q, c, rfl⟩ := (a2.sl (sz := 1) encY_len).form
  rw [List.length_append] at a1 a2
  exact ⟨q, c, σ', a1, a2, app_fr hw a3.1 a4⟩
theorem Wt.fr {b p : Nat} {σ σ1 : CSt} {v : Value} {l : List UInt8} (hn : σ.n ≤ σ1.n) (hp : b ≤ p) (hpn : p < σ.n) (hown : Own b σ1 5 encY v l) (h1p : ∃ w, σ1.get p = some (.cells [w] 27 false)) : Wt b p (σ1.put p (.cells [v] 27 false)) l := by
  refine ⟨v, by simp, hp, by simp; omega, ?_⟩
  obtain ⟨w, h1p⟩ := h1p
  rcases hown with h | ⟨i, cap, h1, hb, hi, hg, h2⟩
  · exact .inl h
  · refine .inr ⟨i, cap, h1, hb, hi, ?_, h2⟩
    rw [CSt.get_put, if_neg]
    · exact hg
    · rintro rfl
      rw [h1p] at hg
      injection hg with e1
      injection e1 with e2 e3 e4
      exact absurd e3 (by decide)
theorem fr_TW {b : Nat} {σ σ' : CSt} (h : Fr (fun t => t = 5) b σ σ') : Fr TW b σ σ' := h.mono (fun _ => .inr) (Nat.le_refl _)
/-- What stands in it is written back. -/
theorem Wt.back {b p : Nat} {σ σ0 σ1 : CSt} {v v1 : Value} {l : List UInt8} (hgp : σ.get p = some (.cells [v] 27 false)) (hp : b ≤ p) (hpn : p < σ.n) (g : Grow σ σ0) (f : Fr (fun t => t = 5) b σ0 σ1) (hown : Own b σ1 5 encY v1 l) :
    σ1.get p = some (.cells [v] 27 false) ∧ Wt b p (σ1.put p (.cells [v1] 27 false)) l ∧ Fr TW b σ (σ1.put p (.cells [v1] 27 false)) := by
  have h0 := g.get hgp hpn
  have gn := g.n
  have h1 : σ1.get p = some (.cells [v] 27 false) := f.get h0 (by omega) (.inr fun row e ro he => by cases he; decide)
  have fn := f.1
  exact ⟨h1, Wt.fr (σ := σ) (by omega) hp hpn hown ⟨_, h1⟩, (g.fr.trans (fr_TW f)).put hp h1 (.inl rfl) _⟩
theorem u8_of (m : Nat) : IntKind.u8.wrap (m : Int) = ((m % 256 : Nat) : Int) := by
  have : IntKind.u8.wrap (m : Int) = (m : Int) % 2 ^ 8 := by simp [IntKind.wrap, IntKind.bits, IntKind.signed]
  rw [this]
  omega
theorem byte_of (n : Nat) (h : n < 256) : ∃ c : UInt8, c.toNat = n := ⟨UInt8.ofNat n, ofNat_toNat h⟩
theorem wnum_spec (b p n : Nat) (l : List UInt8) (σ : CSt) (hn : n < 2 ^ 64) (hw : Wt b p σ l) (hb : b ≤ σ.n) (hl : l.length < 2 ^ 40) (Q : Out → CSt → Prop)
    (h : ∀ σ', Wt b p σ' (l ++ num n) → Fr TW b σ σ' → Q (.ret (.tuple #[]) false) σ') : W E1 (.fn 42 #[.pointer (some ⟨p, 0, none⟩), .int .u64 n] none) σ Q := by
  rw [W_fn (fn := Tryz.f42) Tryz.func42 rfl rfl rfl]
  simp [wops_cons]
  have hlen := num_len10 hn
  refine W_loop_inv (fun k a σ' => ∃ tm m pre, a = ⟨tm, 31, [], false⟩ ∧ tm.get 0 = some (.pointer (some ⟨p, 0, none⟩)) ∧ tm.get 1 = some (.int .u64 (m : Nat)) ∧ (k = m ∧ m < 2 ^ 64 ∧ num n = pre ++ num m ∧ Wt b p σ' (l ++ pre) ∧ Fr TW b σ σ')) ?_ n _ _ ?_
  · rintro k a σ' ⟨tm, m, pre, rfl, h0, h1, hk, hm, hpre, ⟨v, hg, hbp, hpn, hown⟩, hf⟩
    have hlp : pre.length ≤ 10 := by
      have := congrArg List.length hpre
      rw [List.length_append] at this
      omega
    have hnn := hf.1
    by_cases h128 : m < 128
    · have hge : ¬ ((128 : Int) ≤ (m : Int)) := by omega
      obtain ⟨c, hc⟩ := byte_of m (by omega)
      have hu : IntKind.u8.wrap (m : Int) = (c.toNat : Int) := by rw [u8_of, Nat.mod_eq_of_lt (by omega), hc]
      have hnum : num m = [c] := by rw [num_lt h128]; congr 1; exact u8_eq (by rw [ofNat_toNat (by omega), hc])
      have g0 : Grow σ' (σ'.alloc (.cells [.int .u8 c.toNat] 5 false)) := (Grow.refl σ').alloc _
      obtain ⟨q, cp, s1, a1, a2, a3⟩ := wapp_sl (x := .slice (some ⟨σ'.n, 0, none⟩) 1 1) (m := [c]) (hown.grow g0) (by simp; omega) (Sl.all (l := [c]) (cap := 1) (ro := false) encY_len (by simp [encY]) (by simp) (.inr ⟨by simp, by simp [openCap]⟩)) (by simp; omega)
      obtain ⟨b1, b2, b3⟩ := Wt.back hg hbp hpn g0 a3 a2
      have hQ := h _ (by rw [hpre, hnum, ← List.append_assoc]; exact b2) (hf.trans b3)
      simpa [wops_cons, h0, h1, hg, hge, h128, hu, a1, b1] using hQ
    · have hge : (128 : Int) ≤ (m : Int) := by omega
      obtain ⟨c, hc⟩ := byte_of (m % 128 + 128) (by omega)
      have hu : orI .u8 (IntKind.u8.wrap (m : Int)) 128 = (c.toNat : Int) := by
        rw [u8_of, or_80 _ (by omega), hc]
        congr 1
        omega
      have hnum : num m = c :: num (m / 128) := by rw [num_ge (by omega)]; congr 1; exact u8_eq (by rw [ofNat_toNat (by omega), hc])
      have g0 : Grow σ' (σ'.alloc (.cells [.int .u8 c.toNat] 5 false)) := (Grow.refl σ').alloc _
      obtain ⟨q, cp, s1, a1, a2, a3⟩ := wapp_sl (x := .slice (some ⟨σ'.n, 0, none⟩) 1 1) (m := [c]) (hown.grow g0) (by simp; omega) (Sl.all (l := [c]) (cap := 1) (ro := false) encY_len (by simp [encY]) (by simp) (.inr ⟨by simp, by simp [openCap]⟩)) (by simp; omega)
      obtain ⟨b1, b2, b3⟩ := Wt.back hg hbp hpn g0 a3 a2
      have hsh : (m : Int).fdiv (2 ^ min 7 64) = ((m / 128 : Nat) : Int) := by
        have : (2 : Int) ^ min 7 64 = 128 := by decide
        rw [this, Int.fdiv_eq_ediv_of_nonneg _ (by omega)]
        omega
      simp at a1
      simp [wops_cons, h0, h1, hg, hge, h128, hu, a1, b1]
      exact ⟨m / 128, by omega, m / 128, hsh, rfl, by omega, pre ++ [c], by rw [hpre, hnum]; simp, by simpa [List.append_assoc, Nat.add_assoc] using b2, by simpa [List.append_assoc, Nat.add_assoc] using hf.trans b3⟩
  · exact ⟨_, n, [], rfl, rfl, rfl, rfl, hn, rfl, by simpa using hw, Fr.refl _ _ _⟩
theorem Wt.grow {b p : Nat} {σ σ' : CSt} {l : List UInt8} (h : Wt b p σ l) (g : Grow σ σ') : Wt b p σ' l := by
  obtain ⟨v, h1, h2, h3, h4⟩ := h
  have := g.n
  exact ⟨v, g.get h1 h3, h2, by omega, h4.grow g⟩
/-- Bytes of a string behind it. -/
theorem wtext_back {b p : Nat} {σ : CSt} {l : List UInt8} (hw : Wt b p σ l) (hb : b ≤ σ.n) (s : ByteArray) (hbig : l.length + s.size ≤ 2 ^ 47) :
    ∃ v q c s1, σ.get p = some (.cells [v] 27 false) ∧ appendOp Tryz.prog σ #[25, 9] v (.string s) = some (.slice q (l.length + s.size) c, s1) ∧ s1.get p = some (.cells [v] 27 false) ∧
      Wt b p (s1.put p (.cells [.slice q (l.length + s.size) c] 27 false)) (l ++ byt s) ∧ Fr TW b σ (s1.put p (.cells [.slice q (l.length + s.size) c] 27 false)) := by
  obtain ⟨v, hg, hbp, hpn, hown⟩ := hw
  obtain ⟨q, c, s1, a1, a2, a3⟩ := wapp_str (m := byt s) hown hb (by rw [len_byt]; exact hbig)
  have e : (⟨(byt s).toArray⟩ : ByteArray) = s := str_byt s
  rw [e, len_byt] at a1
  rw [len_byt] at a2
  obtain ⟨b1, b2, b3⟩ := Wt.back hg hbp hpn (Grow.refl σ) a3 a2
  exact ⟨v, q, c, s1, hg, a1, b1, b2, b3⟩
theorem wtext_spec (b p : Nat) (s : ByteArray) (l : List UInt8) (σ : CSt) (hs : s.size < 2 ^ 40) (hw : Wt b p σ l) (hb : b ≤ σ.n) (hl : l.length < 2 ^ 39) (Q : Out → CSt → Prop)
    (h : ∀ σ', Wt b p σ' (l ++ serText s) → Fr TW b σ σ' → Q (.ret (.tuple #[]) false) σ') : W E1 (.fn 50 #[.pointer (some ⟨p, 0, none⟩), .string s] none) σ Q := by
  rw [W_fn (fn := Tryz.f50) Tryz.func50 rfl rfl rfl]
  have hu : IntKind.u64.wrap (s.size : Int) = (s.size : Int) := IntWalk.u64_in _ (by omega)
  have hln := num_len10 (n := s.size) (by omega)
  simp [wops_cons, hu]
  refine wnum_spec b p s.size l σ (by omega) hw hb (by omega) _ fun σ1 h1 f1 => ?_
  have f1n := f1.1
  obtain ⟨v, q, c, s1, hg, a1, b1, b2, b3⟩ := wtext_back h1 (by omega) s (by rw [List.length_append]; omega)
  have hQ := h _ (by rw [serText, ← List.append_assoc]; exact b2) (f1.trans b3)
  simp only [List.length_append] at a1 hQ
  simpa [wops_cons, hg, a1, b1] using hQ
theorem value_spec (b p : Nat) (x : Ver) (l : List UInt8) (σ : CSt) (hs : x.val.size < 2 ^ 38) (hw : Wt b p σ l) (hb : b ≤ σ.n) (hl : l.length < 2 ^ 39) (Q : Out → CSt → Prop)
    (h : ∀ σ', Wt b p σ' (l ++ serVer x) → Fr TW b σ σ' → Q (.ret (.tuple #[]) false) σ') : W E1 (.fn 43 #[.pointer (some ⟨p, 0, none⟩), .agg (encV x).toArray] none) σ Q := by
  rw [W_fn (fn := Tryz.f43) Tryz.func43 rfl rfl rfl]
  obtain ⟨at_, val, gone⟩ := x
  have g0 : Grow σ (σ.alloc (.cells [.int .u64 at_, .string val, .bool gone] 33 false)) := (Grow.refl σ).alloc _
  have hw0 := hw.grow g0
  have hc0 : (σ.alloc (.cells [.int .u64 at_, .string val, .bool gone] 33 false)).get σ.n = some (.cells [.int .u64 at_, .string val, .bool gone] 33 false) := by simp
  cases gone with
  | true =>
    simp [wops_cons, encV]
    have e : serVer ⟨at_, val, true⟩ = num 0 := by rw [num_lt (by omega)]; rfl
    refine wnum_spec b p 0 l _ (by decide) hw0 (by simp; omega) (by omega) _ fun σ1 h1 f1 => ?_
    have hQ := h _ (by rw [e]; exact h1) (g0.fr.trans f1)
    simpa [wops_cons] using hQ
  | false =>
    have hz : val.size < 2 ^ 38 := hs
    have hu : IntKind.u64.wrap (IntKind.u64.wrap (val.size : Int) + 1) = ((val.size + 1 : Nat) : Int) := by rw [IntWalk.u64_in (val.size : Int) (by omega), IntWalk.u64_in _ (by omega)]; omega
    have hln := num_len10 (n := val.size + 1) (by omega)
    simp [wops_cons, encV]
    rw [hu]
    refine wnum_spec b p (val.size + 1) l _ (by omega) hw0 (by simp; omega) (by omega) _ fun σ1 h1 f1 => ?_
    have f1n := f1.1
    have hc1 : σ1.get σ.n = some (.cells [.int .u64 at_, .string val, .bool false] 33 false) := f1.get hc0 (by simp) (.inr fun row e ro he => by cases he; decide)
    obtain ⟨v, q, c, s1, hg, a1, b1, b2, b3⟩ := wtext_back h1 (by simp at f1n; omega) val (by rw [List.length_append]; omega)
    have hQ := h _ (by
      have e : serVer ⟨at_, val, false⟩ = num (val.size + 1) ++ byt val := rfl
      rw [e, ← List.append_assoc]; exact b2) ((g0.fr.trans f1).trans b3)
    simp only [List.length_append] at a1 hQ
    simp [wops_cons]
    refine W_calm (by kernel_rfl) ?_
    simpa [dops_cons, hg, hc1, a1, b1] using hQ
/-- A version's time and value. -/
def serV (x : Ver) : List UInt8 := num x.at_.toNat ++ serVer x
theorem valuev_spec (b p : Nat) (x : Ver) (l : List UInt8) (σ : CSt) (hat : 0 ≤ x.at_ ∧ x.at_ < 2 ^ 64) (hs : x.val.size < 2 ^ 38) (hw : Wt b p σ l) (hb : b ≤ σ.n) (hl : l.length < 2 ^ 38) (Q : Out → CSt → Prop)
    (h : ∀ σ', Wt b p σ' (l ++ serV x) → Fr TW b σ σ' → Q (.ret (.tuple #[]) false) σ') : W E1 (.fn 13 #[.pointer (some ⟨p, 0, none⟩), .agg (encV x).toArray] none) σ Q := by
  rw [W_fn (fn := Tryz.f13) Tryz.func13 rfl rfl rfl]
  have g0 : Grow σ (σ.alloc (.cells (encV x) 33 false)) := (Grow.refl σ).alloc _
  have hw0 := hw.grow g0
  have hc0 : (σ.alloc (.cells (encV x) 33 false)).get σ.n = some (.cells (encV x) 33 false) := by simp
  obtain ⟨n, hn⟩ : ∃ n : Nat, x.at_ = n := ⟨x.at_.toNat, by omega⟩
  have hn64 : n < 2 ^ 64 := by omega
  have hln := num_len10 hn64
  have he : encV x = [.int .u64 n, .string x.val, .bool x.gone] := by rw [encV, hn]
  rw [he] at hw0 hc0 g0 ⊢
  simp [wops_cons]
  refine wnum_spec b p n l _ hn64 hw0 (by simp; omega) (by omega) _ fun σ1 h1 f1 => ?_
  have f1n := f1.1
  simp at f1n
  have hc1 : σ1.get σ.n = some (.cells [.int .u64 n, .string x.val, .bool x.gone] 33 false) := f1.get hc0 (by simp) (.inr fun row e ro he => by cases he; decide)
  have hv := value_spec b p x (l ++ num n) σ1 hs h1 (by omega) (by rw [List.length_append]; omega)
  rw [he] at hv
  simp [wops_cons, hc1]
  refine hv _ fun σ2 h2 f2 => ?_
  have hQ := h _ (by rw [serV, hn, Int.toNat_natCast, ← List.append_assoc]; exact h2) ((g0.fr.trans f1).trans f2)
  simpa [wops_cons] using hQ
end Go.Sm
/- Loops by goto. -/
set_option linter.unusedVariables false
set_option linter.unusedSimpArgs false
namespace Go.Sm
open Go
section
variable {E : Env}
/-- What a round of such a loop ends with. -/
def kgo (E : Env) (x : Ctx) (B Z : Code) (I : Nat → CAct → CSt → Prop) (n : Nat) (Q : Out → CSt → Prop) : Out → CSt → Prop := fun o σ => match o with
  | .code (.goto 1) a => ∃ m, m < n ∧ I m a σ
  | .code (.goto 0) a => W E (.code x Z a) σ (kscope E x B Q)
  | o => kscope E x B Q o σ
@[simp] theorem kgo_goto1 {x : Ctx} {B Z : Code} {I : Nat → CAct → CSt → Prop} {n : Nat} {Q : Out → CSt → Prop} {a : CAct} {σ : CSt} : kgo E x B Z I n Q (.code (.goto 1) a) σ = ∃ m, m < n ∧ I m a σ := (rfl)
@[simp] theorem kgo_goto0 {x : Ctx} {B Z : Code} {I : Nat → CAct → CSt → Prop} {n : Nat} {Q : Out → CSt → Prop} {a : CAct} {σ : CSt} : kgo E x B Z I n Q (.code (.goto 0) a) σ = W E (.code x Z a) σ (kscope E x B Q) := (rfl)
@[simp] theorem kgo_normal {x : Ctx} {B Z : Code} {I : Nat → CAct → CSt → Prop} {n : Nat} {Q : Out → CSt → Prop} {a : CAct} {σ : CSt} : kgo E x B Z I n Q (.code .normal a) σ = Q (.code .normal a) σ := (rfl)
@[simp] theorem kgo_ret {x : Ctx} {B Z : Code} {I : Nat → CAct → CSt → Prop} {n : Nat} {Q : Out → CSt → Prop} {a : CAct} {σ : CSt} : kgo E x B Z I n Q (.code .ret a) σ = Q (.code .ret a) σ := (rfl)
@[simp] theorem kgo_exit {x : Ctx} {B Z : Code} {I : Nat → CAct → CSt → Prop} {n : Nat} {Q : Out → CSt → Prop} {i : Nat} {a : CAct} {σ : CSt} : kgo E x B Z I n Q (.code (.exit i) a) σ = Q (.code (.exit i) a) σ := (rfl)
@[simp] theorem kgo_panic {x : Ctx} {B Z : Code} {I : Nat → CAct → CSt → Prop} {n : Nat} {Q : Out → CSt → Prop} {v : Value} {a : CAct} {σ : CSt} : kgo E x B Z I n Q (.code (.panic v) a) σ = Q (.code (.panic v) a) σ := (rfl)
theorem goto_loop {x : Ctx} {B T Z : Code} {Q : Out → CSt → Prop} (h1 : findLabel B 1 = some (.seq .skip T)) (h0 : findLabel B 0 = some Z) (I : Nat → CAct → CSt → Prop)
    (hstep : ∀ n a σ, I n a σ → W E (.code x T a) σ (kgo E x B Z I n Q)) : ∀ n a σ, I n a σ → W E (.code x T a) σ (kscope E x B Q) := by
  intro n
  induction n using Nat.strongRecOn with
  | _ n ih =>
    intro a σ h
    refine (hstep n a σ h).weaken fun o s ho => ?_
    unfold kgo at ho
    split at ho
    · rename_i a'
      obtain ⟨m, hm, hi⟩ := ho
      have := ih m hm a' s hi
      simp only [kscope, h1, W_scoped]
      rw [W_seq, W_skip]
      simpa only [kseq_normal] using this
    · rename_i a'
      simp only [kscope, h0, W_scoped]
      exact ho
    · exact ho
theorem goto_start {x : Ctx} {r T Z : Code} {Q : Out → CSt → Prop} (h1 : findLabel r 1 = none) (h0 : findLabel (.seq r (.seq (.label 1) T)) 0 = some Z) (I : Nat → CAct → CSt → Prop)
    (hstep : ∀ n a σ, I n a σ → W E (.code x T a) σ (kgo E x (.seq r (.seq (.label 1) T)) Z I n Q)) (n : Nat) {a : CAct} {σ : CSt} (hf : W E (.code x r a) σ fun o s => ∃ a', o = .code .normal a' ∧ I n a' s) : W E (.code x (.scope (.seq r (.seq (.label 1) T))) a) σ Q := by
  rw [W_scope, W_scoped, W_seq]
  refine hf.weaken fun o s ho => ?_
  obtain ⟨a', rfl, hi⟩ := ho
  rw [kseq_normal, W_seq, W_label, kseq_normal]
  exact goto_loop (by simp [findLabel, h1]) h0 I hstep n a' s hi
end
end Go.Sm
/- code.Reader: numbers. -/
set_option linter.unusedVariables false
set_option linter.unusedSimpArgs false
namespace Go.Sm
open Go Go.Proofs
set_option maxRecDepth 100000
set_option maxHeartbeats 4000000
def TR : TypeId → Prop := fun t => t = 41
instance : DecidablePred TR := fun t => inferInstanceAs (Decidable (t = 41))
/-- A reader: what is left; nothing, if something was none. -/
def Ro (b p : Nat) (σ : CSt) (o : Option (List UInt8)) : Prop := ∃ v l, σ.get p = some (.cells [v, .bool o.isNone] 41 false) ∧ b ≤ p ∧ p < σ.n ∧ Sl σ 5 1 encY v l ∧ (∀ m, o = some m → l = m) ∧ l.length < 2 ^ 40
theorem cell_y {l : List UInt8} {row : List Value} {off : Nat} (h : (row.drop off).take (l.length * 1) = l.flatMap encY) (k : Nat) (hk : k < l.length) : row[off + k]? = some (.int .u8 l[k].toNat) := by
  have := row_cell (enc := encY) encY_len h k 0 hk (by decide)
  rw [Nat.mul_one, Nat.add_zero] at this
  rw [this]
  rfl
/-- s[k:], s[:k], s[j:k] of bytes. -/
theorem ysl_tail {σ : CSt} {v : Value} {l : List UInt8} (h : Sl σ 5 1 encY v l) (k : Nat) (hk : k ≤ l.length) (kd : IntKind) : ∃ q c, sliceOp Tryz.prog σ 25 v (some (.int kd (k : Nat))) none none = some (.slice q (l.length - k) c) ∧ Sl σ 5 1 encY (.slice q (l.length - k) c) (l.drop k) := by
  have := Sl.mid (P := Tryz.prog) (t := 25) ef25 rfl Nat.one_pos encY_len h k l.length hk (Nat.le_refl _) (bl := some (.int kd (k : Nat))) (bh := none) (by simp) (by simp)
  rw [List.take_of_length_le (Nat.le_refl _)] at this
  exact this
theorem ysl_head {σ : CSt} {v : Value} {l : List UInt8} (h : Sl σ 5 1 encY v l) (k : Nat) (hk : k ≤ l.length) (kd : IntKind) : ∃ q c, sliceOp Tryz.prog σ 25 v none (some (.int kd (k : Nat))) none = some (.slice q k c) ∧ Sl σ 5 1 encY (.slice q k c) (l.take k) := by
  have := Sl.mid (P := Tryz.prog) (t := 25) ef25 rfl Nat.one_pos encY_len h 0 k (by omega) hk (bl := none) (bh := some (.int kd (k : Nat))) (by simp) (by simp)
  rw [List.drop_zero, Nat.sub_zero] at this
  exact this
theorem ysl_mid {σ : CSt} {v : Value} {l : List UInt8} (h : Sl σ 5 1 encY v l) (j k : Nat) (hj : j ≤ k) (hk : k ≤ l.length) (kd kd' : IntKind) : ∃ q c, sliceOp Tryz.prog σ 25 v (some (.int kd (j : Nat))) (some (.int kd' (k : Nat))) none = some (.slice q (k - j) c) ∧ Sl σ 5 1 encY (.slice q (k - j) c) ((l.take k).drop j) :=
  Sl.mid (P := Tryz.prog) (t := 25) ef25 rfl Nat.one_pos encY_len h j k hj hk (bl := some (.int kd (j : Nat))) (bh := some (.int kd' (k : Nat))) (by simp) (by simp)
theorem val_snoc (l : List UInt8) (i : Nat) (h : i < l.length) : valB (l.take (i + 1)) = valB (l.take i) + l[i].toNat % 128 * 2 ^ (7 * i) := by
  rw [List.take_succ_eq_append_getElem h, val_app, List.length_take, Nat.min_eq_left (by omega)]
  have e : (128 : Nat) ^ i = 2 ^ (7 * i) := by rw [Nat.pow_mul]
  have e2 : valB [l[i]] = l[i].toNat % 128 := by simp [valB]
  rw [e, e2, Nat.mul_comm]
theorem acc_or (m : List UInt8) (c : UInt8) (i : Nat) (hm : m.length = i) (hi : i ≤ 8) : orI .u64 (valB m : Nat) (IntKind.u64.wrap (IntKind.u64.wrap ((c.toNat : Int) % 128) * 2 ^ min (7 * i) IntKind.u64.bits)) = ((valB m + c.toNat % 128 * 2 ^ (7 * i) : Nat) : Int) := by
  have h1 := val_lt m
  have h2 : (128 : Nat) ^ i = 2 ^ (7 * i) := by rw [Nat.pow_mul]
  rw [hm, h2] at h1
  have h3 : (2 : Nat) ^ (7 * i) ≤ 2 ^ 56 := Nat.pow_le_pow_right (by omega) (by omega)
  have h4 : c.toNat % 128 * 2 ^ (7 * i) ≤ 127 * 2 ^ 56 := Nat.mul_le_mul (by omega) h3
  have hb : min (7 * i) IntKind.u64.bits = 7 * i := Nat.min_eq_left (by show 7 * i ≤ 64; omega)
  have e1 : IntKind.u64.wrap ((c.toNat : Int) % 128) = ((c.toNat % 128 : Nat) : Int) := by rw [IntWalk.u64_in _ (by omega)]; omega
  have e2 : ((c.toNat % 128 : Nat) : Int) * 2 ^ (7 * i) = ((c.toNat % 128 * 2 ^ (7 * i) : Nat) : Int) := by push_cast; rfl
  rw [hb, e1, e2, IntWalk.u64_in _ (by omega)]
  exact or_add _ _ _ h1 (by omega)
theorem acc_fin (m : List UInt8) (c : UInt8) (i : Nat) (hm : m.length = i) (hi : i ≤ 9) (hc : c.toNat < 128) (h9 : i = 9 → c.toNat ≤ 1) : orI .u64 (valB m : Nat) (IntKind.u64.wrap (IntKind.u64.wrap (c.toNat : Int) * 2 ^ min (7 * i) IntKind.u64.bits)) = ((valB m + c.toNat % 128 * 2 ^ (7 * i) : Nat) : Int) := by
  have h1 := val_lt m
  have h2 : (128 : Nat) ^ i = 2 ^ (7 * i) := by rw [Nat.pow_mul]
  rw [hm, h2] at h1
  have h6 : valB m + c.toNat % 128 * 2 ^ (7 * i) < 2 ^ 64 := by
    by_cases h : i = 9
    · subst h
      have := h9 rfl
      have e : c.toNat % 128 ≤ 1 := by omega
      have h4 : c.toNat % 128 * 2 ^ (7 * 9) ≤ 1 * 2 ^ 63 := Nat.mul_le_mul e (Nat.le_refl _)
      omega
    · have h3 : (2 : Nat) ^ (7 * i) ≤ 2 ^ 56 := Nat.pow_le_pow_right (by omega) (by omega)
      have h4 : c.toNat % 128 * 2 ^ (7 * i) ≤ 127 * 2 ^ 56 := Nat.mul_le_mul (by omega) h3
      omega
  have hb : min (7 * i) IntKind.u64.bits = 7 * i := Nat.min_eq_left (by show 7 * i ≤ 64; omega)
  have e1 : IntKind.u64.wrap (c.toNat : Int) = ((c.toNat % 128 : Nat) : Int) := by rw [IntWalk.u64_in _ (by omega)]; omega
  have e2 : ((c.toNat % 128 : Nat) : Int) * 2 ^ (7 * i) = ((c.toNat % 128 * 2 ^ (7 * i) : Nat) : Int) := by push_cast; rfl
  rw [hb, e1, e2, IntWalk.u64_in _ (by omega)]
  exact or_add _ _ _ h1 h6
theorem rnum_spec (b p : Nat) (o : Option (List UInt8)) (σ : CSt) (hr : Ro b p σ o) (hb : b ≤ σ.n) (Q : Out → CSt → Prop)
    (h : ∀ (n : Nat) σ', n = ((o.bind rd).map (·.1)).getD 0 → n < 2 ^ 64 → Ro b p σ' ((o.bind rd).map (·.2)) → Fr TR b σ σ' → Q (.ret (.int .u64 n) false) σ') : W E1 (.fn 45 #[.pointer (some ⟨p, 0, none⟩)] none) σ Q := by
  obtain ⟨v, l, hg, hbp, hpn, hsl, hol, hbig⟩ := hr
  have hbad : ∀ (o' : Option (Nat × List UInt8)), o.bind rd = none → Q (.ret (.int .u64 0) false) (σ.put p (.cells [v, .bool true] 41 false)) := by
    intro o' ho
    have hf : Fr TR b σ (σ.put p (.cells [v, .bool true] 41 false)) := (Fr.refl TR b σ).put hbp hg rfl _
    have := h 0 _ (by rw [ho]; rfl) (by decide) (by rw [ho]; exact ⟨v, l, by simp, hbp, by simpa using hpn, hsl.fr (by decide) hf, by simp, hbig⟩) hf
    simpa using this
  rw [W_fn (fn := Tryz.f45) Tryz.func45 rfl rfl rfl]
  simp [wops_cons, -W_scope]
  refine goto_start rfl rfl (fun k a s => ∃ tm, ∃ i sh : Nat, ∃ x : Int, a = ⟨tm, 78, [], false⟩ ∧ tm.get 0 = some (.pointer (some ⟨p, 0, none⟩)) ∧ tm.get 3 = some (.int .u64 x) ∧ tm.get 4 = some (.int .i64 (sh : Nat)) ∧ tm.get 5 = some (.int .i64 (i : Nat)) ∧ (s = σ ∧ i ≤ l.length ∧ i ≤ 10 ∧ sh = 7 * i ∧ k = 10 - i ∧ Hi (l.take i) ∧ (i ≤ 9 → x = valB (l.take i)))) ?_ 10 ?_
  · rintro k a s ⟨tm, i, sh, x, rfl, h0, h3, h4, h5, rfl, hil, hi10, hsh, hk, hhi, hx⟩
    cases o with
    | none =>
      have hQ := hbad none rfl
      simp only [Option.isNone_none] at hg
      simpa [wops_cons, wops_if', dstOf, h0, h3, h4, h5, hg] using hQ
    | some l' =>
      obtain rfl := hol l' rfl
      simp only [Option.isNone_some] at hg
      obtain ⟨q, c, rfl⟩ := hsl.form
      simp only [Option.bind_some] at hbad h
      by_cases hlen : i < l.length
      · have hlen1 : ¬ ((l.length : Int) ≤ (i : Int)) := by omega
        by_cases h63 : 63 < sh
        · have hQ := hbad none (by
            have hi : i = 10 := by omega
            subst hi
            rw [← List.take_append_drop 10 l]
            exact rd_long hhi (by rw [List.length_take]; omega) _)
          have h63' : (63 : Int) < (sh : Int) := by omega
          simpa [wops_cons, wops_if', dstOf, h0, h3, h4, h5, hg, hlen1, h63'] using hQ
        · have h63' : ¬ ((63 : Int) < (sh : Int)) := by omega
          have hx1 := hx (by omega)
          subst hx1
          obtain ⟨j, off, row, ro, rfl, hgj, hjn, hrow, hle⟩ := hsl.at hlen
          have hld := cell_y hrow i hlen
          have hl1 := row_le hle i hlen
          have hlen2 : (i : Int) < (l.length : Int) := by omega
          have hcu := u8_lt l[i]
          have hsn := val_snoc l i hlen
          by_cases h128 : 128 ≤ l[i].toNat
          · have h128' : (128 : Int) ≤ (l[i].toNat : Int) := by omega
            have ha := and_7f l[i].toNat hcu
            simp [wops_cons, wops_if', dstOf, h0, h3, h4, h5, hg, hlen, hlen1, hlen2, h63', hgj, hld, hl1, h128, h128', ha]
            have e1 : IntKind.i64.wrap ((sh : Int) + 7) = ((sh + 7 : Nat) : Int) := by rw [IntWalk.i64_in _ (by omega)]; omega
            have e2 : IntKind.i64.wrap ((i : Int) + 1) = ((i + 1 : Nat) : Int) := by rw [IntWalk.i64_in _ (by omega)]; omega
            refine ⟨10 - (i + 1), by omega, i + 1, sh + 7, e1, e2, by omega, by omega, by omega, rfl, ?_, fun hi9 => ?_⟩
            · rw [List.take_succ_eq_append_getElem hlen]
              intro y hy
              rcases List.mem_append.1 hy with hy | hy
              · exact hhi y hy
              · rw [List.mem_singleton.1 hy]; exact h128
            · have hv := acc_or (l.take i) l[i] i (by rw [List.length_take]; omega) (by omega)
              rw [hsn, ← hsh]
              rw [← hsh] at hv
              exact hv
          · have h128' : ¬ ((128 : Int) ≤ (l[i].toNat : Int)) := by omega
            have hl : l = l.take i ++ l[i] :: l.drop (i + 1) := by rw [← List.drop_eq_getElem_cons hlen, List.take_append_drop]
            have hrd := rd_app hhi l[i] (by omega) (l.drop (i + 1))
            rw [← hl] at hrd
            have hti : (l.take i).length = i := by rw [List.length_take]; omega
            have htn : l.take i = [] ↔ i = 0 := by
              constructor
              · intro e; rw [e] at hti; simpa using hti.symm
              · rintro rfl; rfl
            simp only [hti, htn, ← List.take_succ_eq_append_getElem hlen] at hrd
            have e2 : IntKind.i64.wrap ((i : Int) + 1) = (i : Int) + 1 := by rw [IntWalk.i64_in _ (by omega)]
            have hgood : i ≤ 9 ∧ (l[i].toNat ≠ 0 ∨ i = 0) ∧ (i = 9 → l[i].toNat ≤ 1) → ∃ q c', sliceOp Tryz.prog s 25 (.slice (some ⟨j, off, none⟩) l.length c) (some (.int .i64 ((i : Int) + 1))) none none = some (.slice q (l.length - (i + 1)) c') ∧
                orI .u64 (valB (l.take i) : Nat) (IntKind.u64.wrap (IntKind.u64.wrap (l[i].toNat : Int) * 2 ^ min sh IntKind.u64.bits)) = ((valB (l.take (i + 1)) : Nat) : Int) ∧ Q (.ret (.int .u64 (valB (l.take (i + 1)) : Nat)) false) (s.put p (.cells [.slice q (l.length - (i + 1)) c', .bool false] 41 false)) := by
              intro hh
              rw [if_pos hh] at hrd
              obtain ⟨q, c', d1, d2⟩ := ysl_tail hsl (i + 1) (by omega) .i64
              have hf : Fr TR b s (s.put p (.cells [.slice q (l.length - (i + 1)) c', .bool false] 41 false)) := (Fr.refl TR b s).put hbp hg rfl _
              refine ⟨q, c', d1, by rw [hsn, hsh]; exact acc_fin _ _ _ hti hh.1 (by omega) hh.2.2, ?_⟩
              refine h _ _ (by rw [hrd]; rfl) (rd_some hrd).2 ?_ hf
              rw [hrd]
              exact ⟨_, _, by simp, hbp, by simpa using hpn, d2.fr (by decide) hf, by simp, by rw [List.length_drop]; omega⟩
            by_cases hc0 : l[i].toNat = 0
            · by_cases hi0 : i = 0
              · obtain ⟨q, c', d1, d2, d3⟩ := hgood ⟨by omega, .inr hi0, by omega⟩
                have hs63 : ¬ ((sh : Int) = 63) := by omega
                subst hi0
                have hsh0 : sh = 0 := by omega
                subst hsh0
                have hne : ¬ (l = []) := fun e => by rw [e] at hlen; simp at hlen
                have hlen0 : 0 < l.length := hlen
                have hw1 : IntKind.i64.wrap 1 = 1 := by decide
                simp only [Nat.add_zero, Nat.zero_mul] at hld hl1
                simp only [hc0] at hld
                simp at hld
                simp at d1
                simp only [hc0] at d2
                simp at d2
                simpa [wops_cons, wops_if', dstOf, h0, h3, h4, h5, hg, hlen, hlen1, hlen2, h63', hgj, hld, hl1, h128, h128', hc0, hs63, hne, hlen0, hw1, d1, d2] using d3
              · have hQ := hbad none (by rw [hrd, if_neg]; omega)
                have hi0' : 0 < i := by omega
                simpa [wops_cons, wops_if', dstOf, h0, h3, h4, h5, hg, hlen, hlen1, hlen2, h63', hgj, hld, hl1, h128, h128', hc0, hi0, hi0'] using hQ
            · by_cases hs63 : sh = 63
              · have hs63' : (sh : Int) = 63 := by omega
                by_cases hc1 : 1 < l[i].toNat
                · have hQ := hbad none (by rw [hrd, if_neg]; omega)
                  have hc1' : (1 : Int) < (l[i].toNat : Int) := by omega
                  simpa [wops_cons, wops_if', dstOf, h0, h3, h4, h5, hg, hlen, hlen1, hlen2, h63', hgj, hld, hl1, h128, h128', hc0, hs63', hc1, hc1'] using hQ
                · obtain ⟨q, c', d1, d2, d3⟩ := hgood ⟨by omega, .inl hc0, by omega⟩
                  have hc1' : ¬ ((1 : Int) < (l[i].toNat : Int)) := by omega
                  simp only [hs63] at d2
                  simpa [wops_cons, wops_if', dstOf, h0, h3, h4, h5, hg, hlen, hlen1, hlen2, h63', hgj, hld, hl1, h128, h128', hc0, hs63', hs63, hc1, hc1', e2, d1, d2] using d3
              · have hs63' : ¬ ((sh : Int) = 63) := by omega
                obtain ⟨q, c', d1, d2, d3⟩ := hgood ⟨by omega, .inl hc0, by omega⟩
                simpa [wops_cons, wops_if', dstOf, h0, h3, h4, h5, hg, hlen, hlen1, hlen2, h63', hgj, hld, hl1, h128, h128', hc0, hs63', e2, d1, d2] using d3
      · have hlen1 : ((l.length : Int) ≤ (i : Int)) := by omega
        have hQ := hbad none (by
          have : l.take i = l := List.take_of_length_le (by omega)
          rw [this] at hhi
          exact rd_hi hhi)
        simpa [wops_cons, wops_if', dstOf, h0, h3, h4, h5, hg, hlen1] using hQ
  · simp [wops_cons]
    exact ⟨0, 0, rfl, rfl, by omega, by omega, rfl, rfl, (fun _ h => absurd h (by simp)), fun _ => rfl⟩
end Go.Sm
/- code.Reader: texts; a version read; the end. -/
set_option linter.unusedVariables false
set_option linter.unusedSimpArgs false
namespace Go.Sm
open Go Go.Proofs
set_option maxRecDepth 100000
set_option maxHeartbeats 4000000
theorem ystr {σ : CSt} {v : Value} {l : List UInt8} (h : Sl σ 5 1 encY v l) : convF Tryz.prog σ 25 9 v = .val (.string (str l)) σ := convF_tostr (e := 5) (e' := 5) Tryz.underlying25 Tryz.underlying5 Tryz.underlying9 h
/-- The reader's cell is written anew. -/
theorem Ro.back {b p : Nat} {σ : CSt} {v0 v : Value} {bad0 : Bool} (hg : σ.get p = some (.cells [v0, .bool bad0] 41 false)) (hbp : b ≤ p) (hpn : p < σ.n) {l : List UInt8} (hsl : Sl σ 5 1 encY v l) (hbig : l.length < 2 ^ 40) (o : Option (List UInt8)) (ho : ∀ m, o = some m → l = m) :
    Ro b p (σ.put p (.cells [v, .bool o.isNone] 41 false)) o ∧ Fr TR b σ (σ.put p (.cells [v, .bool o.isNone] 41 false)) := by
  have hf : Fr TR b σ (σ.put p (.cells [v, .bool o.isNone] 41 false)) := (Fr.refl TR b σ).put hbp hg rfl _
  exact ⟨⟨v, l, by simp, hbp, by simpa using hpn, hsl.fr (by decide) hf, ho, hbig⟩, hf⟩
theorem rtext_spec (b p most : Nat) (o : Option (List UInt8)) (σ : CSt) (hr : Ro b p σ o) (hb : b ≤ σ.n) (hm : most < 2 ^ 40) (Q : Out → CSt → Prop)
    (h : ∀ σ', Ro b p σ' ((o.bind (rdText most)).map (·.2)) → Fr TR b σ σ' → Q (.ret (.string (((o.bind (rdText most)).map (·.1)).getD (str []))) false) σ') : W E1 (.fn 46 #[.pointer (some ⟨p, 0, none⟩), .int .i64 most] none) σ Q := by
  rw [W_fn (fn := Tryz.f46) Tryz.func46 rfl rfl rfl]
  simp [wops_cons]
  refine rnum_spec b p o σ hr hb _ fun n σ1 hn hn64 h1 f1 => ?_
  have hmu : IntKind.u64.wrap (most : Int) = (most : Int) := IntWalk.u64_in _ (by omega)
  have hbad : o.bind (rdText most) = none → ∀ v l, Sl σ1 5 1 encY v l → l.length < 2 ^ 40 → ∀ bad, σ1.get p = some (.cells [v, .bool bad] 41 false) → b ≤ p → p < σ1.n → Q (.ret (.string ⟨#[]⟩) false) (σ1.put p (.cells [v, .bool true] 41 false)) := by
    intro e v l hsl hl bad hg hbp hpn
    obtain ⟨c1, c2⟩ := Ro.back hg hbp hpn hsl hl none (by simp)
    have := h _ (by rw [e]; exact c1) (f1.trans c2)
    rw [e] at this
    exact this
  cases hbr : o.bind rd with
  | none =>
    rw [hbr] at hn h1
    obtain ⟨v, l, hg, hbp, hpn, hsl, hol, hbig⟩ := h1
    have e : o.bind (rdText most) = none := by
      cases o with
      | none => rfl
      | some m => simp only [Option.bind_some] at hbr ⊢; rw [rdText, hbr]; rfl
    have hQ := hbad e v l hsl hbig _ hg hbp hpn
    simp only [Option.map_none, Option.isNone_none] at hg
    simpa [wops_cons, wops_if', dstOf, hg] using hQ
  | some q =>
    obtain ⟨n', r⟩ := q
    rw [hbr] at hn h1
    obtain rfl : n = n' := hn
    obtain ⟨v, l, hg, hbp, hpn, hsl, hol, hbig⟩ := h1
    obtain rfl := hol r rfl
    have e : o.bind (rdText most) = if n ≤ l.length ∧ n ≤ most then some (str (l.take n), l.drop n) else none := by
      cases o with
      | none => cases hbr
      | some m => simp only [Option.bind_some] at hbr ⊢; rw [rdText, hbr]; rfl
    simp only [Option.map_some, Option.isNone_some] at hg
    obtain ⟨q, c, rfl⟩ := hsl.form
    have hlu : IntKind.u64.wrap (l.length : Int) = (l.length : Int) := IntWalk.u64_in _ (by omega)
    by_cases h1 : n ≤ l.length
    · have h1' : ¬ ((l.length : Int) < (n : Int)) := by omega
      have h1'' : ¬ (l.length < n) := by omega
      by_cases h2 : n ≤ most
      · have h2' : ¬ ((most : Int) < (n : Int)) := by omega
        have h2'' : ¬ (most < n) := by omega
        rw [if_pos ⟨h1, h2⟩] at e
        obtain ⟨q1, c1, d1, d2⟩ := ysl_head hsl n h1 .u64
        obtain ⟨q2, c2, d3, d4⟩ := ysl_tail hsl n h1 .u64
        have hcv := ystr d2
        obtain ⟨b1, b2⟩ := Ro.back hg hbp hpn d4 (by rw [List.length_drop]; omega) (some (l.drop n)) (by simp)
        have hQ := h _ (by rw [e]; exact b1) (f1.trans b2)
        rw [e] at hQ
        simp only [Option.map_some, Option.getD_some, Option.isNone_some] at hQ
        simpa [wops_cons, wops_if', dstOf, hg, hlu, hmu, h1', h1'', h2', h2'', d1, d3, hcv] using hQ
      · have h2' : ((most : Int) < (n : Int)) := by omega
        have h2'' : (most < n) := by omega
        have hQ := hbad (by rw [e, if_neg (fun hh => h2 hh.2)]) _ _ hsl hbig _ hg hbp hpn
        simpa [wops_cons, wops_if', dstOf, hg, hlu, hmu, h1', h1'', h2', h2''] using hQ
    · have h1' : ((l.length : Int) < (n : Int)) := by omega
      have h1'' : (l.length < n) := by omega
      have hQ := hbad (by rw [e, if_neg (fun hh => h1 hh.1)]) _ _ hsl hbig _ hg hbp hpn
      simpa [wops_cons, wops_if', dstOf, hg, hlu, hmu, h1', h1''] using hQ
theorem rend_spec (b p : Nat) (o : Option (List UInt8)) (σ : CSt) (hr : Ro b p σ o) (Q : Out → CSt → Prop) (h : Q (.ret (.bool (decide (o = some []))) false) σ) : W E1 (.fn 19 #[.pointer (some ⟨p, 0, none⟩)] none) σ Q := by
  rw [W_fn (fn := Tryz.f19) Tryz.func19 rfl rfl rfl]
  obtain ⟨v, l, hg, hbp, hpn, hsl, hol, hbig⟩ := hr
  cases o with
  | none =>
    simp only [Option.isNone_none] at hg
    simpa [wops_cons, wops_if', dstOf, hg] using h
  | some m =>
    obtain rfl := hol m rfl
    simp only [Option.isNone_some] at hg
    obtain ⟨q, c, rfl⟩ := hsl.form
    simp only [Option.some.injEq] at h
    have e : decide (l.length = 0) = decide (l = []) := by
      cases l <;> simp
    by_cases hl : l = []
    · have : l.length = 0 := by rw [hl]; rfl
      simpa [wops_cons, wops_if', dstOf, hg, this, hl] using h
    · have h0 : ¬ (l.length = 0) := fun e => hl (List.eq_nil_of_length_eq_zero e)
      simpa [wops_cons, wops_if', dstOf, hg, h0, hl] using h
theorem Ro.grow {b p : Nat} {σ σ' : CSt} {o : Option (List UInt8)} (h : Ro b p σ o) (g : Grow σ σ') : Ro b p σ' o := by
  obtain ⟨v, l, hg, hbp, hpn, hsl, hol, hbig⟩ := h
  have := g.n
  exact ⟨v, l, g.get hg hpn, hbp, by omega, hsl.grow g, hol, hbig⟩
/-- Something else is written. -/
theorem Ro.put33 {b p i : Nat} {s : CSt} {o : Option (List UInt8)} (h : Ro b p s o) {row : List Value} {e : TypeId} {ro : Bool} (hg' : s.get i = some (.cells row e ro)) (h41 : e ≠ 41) (h5 : e ≠ 5) (ob : CObj) : Ro b p (s.put i ob) o := by
  obtain ⟨v, l, hg, hbp, hpn, hsl, hol, hbig⟩ := h
  refine ⟨v, l, ?_, hbp, by simpa using hpn, ?_, hol, hbig⟩
  · rw [CSt.get_put, if_neg]
    · exact hg
    · rintro rfl
      rw [hg] at hg'
      injection hg' with e1
      injection e1 with e2 e3 e4
      exact h41 e3.symm
  · rcases hsl with hsl | ⟨j, off, cap, row', ro', k1, k2, k3, k4⟩
    · exact .inl hsl
    · refine .inr ⟨j, off, cap, row', ro', k1, ?_, by simpa using k3, k4⟩
      rw [CSt.get_put, if_neg]
      · exact k2
      · rintro rfl
        rw [k2] at hg'
        injection hg' with e1
        injection e1 with e2 e3 e4
        exact h5 e3.symm
theorem rread_spec (b p : Nat) (at_ : Int) (o : Option (List UInt8)) (σ : CSt) (hr : Ro b p σ o) (hb : b ≤ σ.n) (Q : Out → CSt → Prop)
    (h : ∀ σ', Ro b p σ' ((o.bind (rdVer at_)).map (·.2)) → Fr TR b σ σ' → Q (.ret (.agg (encV (((o.bind (rdVer at_)).map (·.1)).getD ⟨at_, str [], true⟩)).toArray) false) σ') : W E1 (.fn 44 #[.pointer (some ⟨p, 0, none⟩), .int .u64 at_] none) σ Q := by
  rw [W_fn (fn := Tryz.f44) Tryz.func44 rfl rfl rfl]
  simp [wops_cons]
  have g0 : Grow σ (σ.alloc (.cells [.int .u64 0, .string ⟨#[]⟩, .bool false] 33 false)) := (Grow.refl σ).alloc _
  refine rnum_spec b p o _ (hr.grow g0) (by simp; omega) _ fun n σ1 hn hn64 h1 f1 => ?_
  have hc1 := f1.get (i := σ.n) (by simp; rfl) (by simp) (.inr fun row e ro he => by cases he; decide)
  have f01 := g0.fr.trans f1
  have n1 : σ.n < σ1.n := by have := f1.1; simp at this; omega
  obtain ⟨v, l, hg, hbp, hpn, hsl, hol, hbig⟩ := h1
  have hpσ : p < σ.n := by obtain ⟨_, _, _, _, hp, _⟩ := hr; exact hp
  have hpn1 : ¬ (p = σ.n) := by omega
  have hpn2 : ¬ (σ.n = p) := by omega
  -- what is none, and what is gone
  have hgone : ∀ (o' : Option (List UInt8)) (bad0 : Bool), σ1.get p = some (.cells [v, .bool bad0] 41 false) → (o.bind (rdVer at_)).map (·.2) = o' → ((o.bind (rdVer at_)).map (·.1)).getD ⟨at_, str [], true⟩ = ⟨at_, str [], true⟩ → (∀ m, o' = some m → l = m) →
      Q (.ret (.agg #[.int .u64 at_, .string ⟨#[]⟩, .bool true]) false) ((σ1.put p (.cells [v, .bool o'.isNone] 41 false)).put σ.n (.cells [.int .u64 at_, .string ⟨#[]⟩, .bool true] 33 false)) := by
    intro o' bad0 hg e1 e2 e3
    obtain ⟨c1, c2⟩ := Ro.back hg hbp hpn hsl hbig o' e3
    have hcn : (σ1.put p (.cells [v, .bool o'.isNone] 41 false)).get σ.n = some (.cells [.int .u64 0, .string ⟨#[]⟩, .bool false] 33 false) := by rw [CSt.get_put, if_neg hpn2]; exact hc1
    have := h _ (by rw [e1]; exact c1.put33 hcn (by decide) (by decide) (.cells [.int .u64 at_, .string ⟨#[]⟩, .bool true] 33 false)) ((f01.trans c2).new (Nat.le_refl _) (.cells [.int .u64 at_, .string ⟨#[]⟩, .bool true] 33 false))
    rw [e2] at this
    exact this
  cases hbr : o.bind rd with
  | none =>
    rw [hbr] at hn hg hol
    obtain rfl : n = 0 := hn
    have e : o.bind (rdVer at_) = none := by
      cases o with
      | none => rfl
      | some m => simp only [Option.bind_some] at hbr ⊢; rw [rdVer, hbr]; rfl
    have hQ := hgone none _ hg (by rw [e]; rfl) (by rw [e]; rfl) (by simp)
    simp only [Option.map_none, Option.isNone_none] at hg hQ
    simpa [wops_cons, wops_if', dstOf, hg, hc1, hpn1, hpn2] using hQ
  | some q =>
    obtain ⟨n', r⟩ := q
    rw [hbr] at hn hg hol
    obtain rfl : n = n' := hn
    obtain rfl := hol r rfl
    have e : o.bind (rdVer at_) = if n = 0 then some (⟨at_, str [], true⟩, l) else if n ≤ 201 ∧ n - 1 ≤ l.length then some (⟨at_, str (l.take (n - 1)), false⟩, l.drop (n - 1)) else none := by
      cases o with
      | none => cases hbr
      | some m => simp only [Option.bind_some] at hbr ⊢; rw [rdVer, hbr]; rfl
    obtain ⟨q, c, rfl⟩ := hsl.form
    have hlu : IntKind.u64.wrap (l.length : Int) = (l.length : Int) := IntWalk.u64_in _ (by omega)
    rcases Nat.eq_zero_or_pos n with rfl | hpos
    · rw [if_pos rfl] at e
      have hQ := hgone (some l) _ hg (by rw [e]; rfl) (by rw [e]; rfl) (by simp)
      simp only [Option.map_some, Option.isNone_some] at hg hQ
      simpa [wops_cons, wops_if', dstOf, hg, hc1, hpn1, hpn2] using hQ
    · obtain ⟨m, rfl⟩ : ∃ m, n = m + 1 := ⟨n - 1, by omega⟩
      rw [if_neg (by omega), Nat.add_sub_cancel] at e
      have hn0 : ¬ ((m : Int) + 1 = 0) := by omega
      have hn1 : (0 : Int) < (m : Int) + 1 := by omega
      have hmu : IntKind.u64.wrap ((m : Int) + 1 - 1) = (m : Int) := by rw [IntWalk.u64_in _ (by omega)]; omega
      have hmu' : IntKind.u64.wrap (m : Int) = (m : Int) := IntWalk.u64_in _ (by omega)
      by_cases h2 : m + 1 ≤ 201
      · have h2' : ¬ ((201 : Int) < (m : Int) + 1) := by omega
        by_cases h3 : m ≤ l.length
        · have h3' : ¬ ((l.length : Int) < (m : Int)) := by omega
          have h3'' : ¬ (l.length < m) := by omega
          rw [if_pos ⟨h2, h3⟩] at e
          obtain ⟨q1, c1, d1, d2⟩ := ysl_head hsl m h3 .u64
          have hcv := ystr d2
          simp only [Option.map_some, Option.isNone_some] at hg
          have hps : ¬ (p = σ1.n) := by omega
          have hps2 : ¬ (σ1.n = p) := by omega
          have hsn : ¬ (σ.n = σ1.n) := by omega
          have hsn2 : ¬ (σ1.n = σ.n) := by omega
          have g2 : Grow σ1 ((σ1.alloc (.cells [.int .u64 0, .string ⟨#[]⟩, .bool false] 33 false)).put σ1.n (.cells [.int .u64 at_, .string (str (l.take m)), .bool false] 33 false)) := ⟨by simp, fun j hj => by rw [CSt.get_put, if_neg (by omega), CSt.get_alloc, if_neg (by omega)]⟩
          obtain ⟨q2, c2, d3, d4⟩ := ysl_tail (hsl.grow g2) m h3 .u64
          obtain ⟨e1, e2⟩ := Ro.back (g2.get hg hpn) hbp (by simp; omega) d4 (by rw [List.length_drop]; omega) (some (l.drop m)) (by simp)
          have hcn := e2.get (i := σ.n) (g2.get hc1 n1) (by simp; omega) (.inr fun row e ro he => by cases he; decide)
          have hQ := h _ (by rw [e]; exact e1.put33 hcn (by decide) (by decide) (.cells [.int .u64 at_, .string (str (l.take m)), .bool false] 33 false)) (((f01.trans g2.fr).trans e2).new (Nat.le_refl _) (.cells [.int .u64 at_, .string (str (l.take m)), .bool false] 33 false))
          rw [e] at hQ
          simp only [Option.map_some, Option.getD_some, Option.isNone_some, encV] at hQ
          simpa [wops_cons, wops_if', dstOf, hg, hc1, hpn1, hpn2, hn0, hn1, hmu, hmu', hlu, h2', h3', h3'', d1, d3, hcv, hps, hps2, hsn, hsn2] using hQ
        · have h3' : ((l.length : Int) < (m : Int)) := by omega
          have h3'' : (l.length < m) := by omega
          have hQ := hgone none _ hg (by rw [e, if_neg (fun hh => h3 hh.2)]; rfl) (by rw [e, if_neg (fun hh => h3 hh.2)]; rfl) (by simp)
          simp only [Option.map_some, Option.isNone_some, Option.isNone_none] at hg hQ
          simpa [wops_cons, wops_if', dstOf, hg, hc1, hpn1, hpn2, hn0, hn1, hmu, hmu', hlu, h2', h3', h3''] using hQ
      · have h2' : ((201 : Int) < (m : Int) + 1) := by omega
        have hQ := hgone none _ hg (by rw [e, if_neg (fun hh => h2 hh.1)]; rfl) (by rw [e, if_neg (fun hh => h2 hh.1)]; rfl) (by simp)
        simp only [Option.map_some, Option.isNone_some, Option.isNone_none] at hg hQ
        simpa [wops_cons, wops_if', dstOf, hg, hc1, hpn1, hpn2, hn0, hn1, hmu, hmu', hlu, h2'] using hQ
/-- A version, its time ahead of it. -/
def rdV (b : List UInt8) : Option (Ver × List UInt8) := (rd b).bind fun p => rdVer p.1 p.2
theorem rreadv_spec (b p : Nat) (o : Option (List UInt8)) (σ : CSt) (hr : Ro b p σ o) (hb : b ≤ σ.n) (Q : Out → CSt → Prop)
    (h : ∀ (x : Ver) σ', (∀ y r, o.bind rdV = some (y, r) → x = y) → Ro b p σ' ((o.bind rdV).map (·.2)) → Fr TR b σ σ' → Q (.ret (.agg (encV x).toArray) false) σ') : W E1 (.fn 17 #[.pointer (some ⟨p, 0, none⟩)] none) σ Q := by
  rw [W_fn (fn := Tryz.f17) Tryz.func17 rfl rfl rfl]
  simp [wops_cons]
  have g0 : Grow σ (σ.alloc (.cells [.int .u64 0, .string ⟨#[]⟩, .bool false] 33 false)) := (Grow.refl σ).alloc _
  refine rnum_spec b p o _ (hr.grow g0) (by simp; omega) _ fun n σ1 hn hn64 h1 f1 => ?_
  have hc1 := f1.get (i := σ.n) (by simp; rfl) (by simp) (.inr fun row e ro he => by cases he; decide)
  have n1 : σ.n < σ1.n := by have := f1.1; simp at this; omega
  simp [wops_cons, hc1]
  refine rread_spec b p n _ σ1 h1 (by omega) _ fun σ2 h2 f2 => ?_
  have hc2 := f2.get hc1 n1 (.inr fun row e ro he => by cases he; decide)
  have e : ((o.bind rd).map (·.2)).bind (rdVer n) = o.bind rdV := by
    cases o with
    | none => rfl
    | some m =>
      simp only [Option.bind_some] at hn ⊢
      unfold rdV
      cases hr : rd m with
      | none => rfl
      | some q =>
        rw [hr] at hn
        obtain rfl : n = q.1 := hn
        rfl
  rw [e] at h2 ⊢
  obtain ⟨x, hx⟩ : ∃ x, ((o.bind rdV).map (·.1)).getD ⟨n, str [], true⟩ = x := ⟨_, rfl⟩
  have hxy : ∀ y r, o.bind rdV = some (y, r) → x = y := fun y r hy => by rw [← hx, hy]; rfl
  rw [hx]
  have hQ := h x _ hxy (h2.put33 hc2 (by decide) (by decide) (.cells (encV x) 33 false)) (((g0.fr.trans f1).trans f2).new (Nat.le_refl _) _)
  simp only [encV] at hQ ⊢
  simpa [wops_cons, hc2] using hQ
end Go.Sm
/- record.Encode. -/
set_option linter.unusedVariables false
set_option linter.unusedSimpArgs false
namespace Go.Sm
open Go Go.Proofs
set_option maxRecDepth 100000
set_option maxHeartbeats 4000000
def encWr (w : Wri) : List Value := [.string w.key, .int .u64 w.ver.at_, .string w.ver.val, .bool w.ver.gone]
theorem lenWr (w : Wri) : (encWr w).length = 4 := rfl
theorem cokWr (w : Wri) : cokL (encWr w) = true := rfl
theorem flat_take_le {α : Type} (f : α → List UInt8) (l : List α) (i : Nat) : ((l.take i).flatMap f).length ≤ (l.flatMap f).length := by
  conv => rhs; rw [← List.take_append_drop i l, List.flatMap_append, List.length_append]
  omega
theorem flat_mem_le {α : Type} (f : α → List UInt8) {l : List α} {x : α} (h : x ∈ l) : (f x).length ≤ (l.flatMap f).length := by
  induction l with
  | nil => cases h
  | cons y l ih =>
    rw [List.flatMap_cons, List.length_append]
    rcases List.mem_cons.1 h with rfl | h
    · omega
    · have := ih h
      omega
theorem i64s (k : Nat) (h : k < 2 ^ 62) : IntKind.i64.wrap ((k : Int) + 1) = (k : Int) + 1 := IntWalk.i64_in _ (by omega)
theorem enc_spec (at_ : Nat) (ws : List Wri) (v : Value) (σ : CSt) (hat : at_ < 2 ^ 64) (hsl : Sl σ 90 4 encWr v ws) (hbig : (serR ⟨at_, ws⟩).length < 2 ^ 37) (hv : ∀ w ∈ ws, w.ver.val.size < 2 ^ 37) (Q : Out → CSt → Prop)
    (h : ∀ v' σ', Own σ.n σ' 5 encY v' (serR ⟨at_, ws⟩) → Grow σ σ' → Q (.ret v' false) σ') : W E1 (.fn 24 #[.agg #[.int .u64 at_, v]] none) σ Q := by
  rw [W_fn (fn := Tryz.f24) Tryz.func24 rfl rfl rfl]
  obtain ⟨pv, cv, rfl⟩ := hsl.form
  have hwl : ws.length < 2 ^ 37 := by
    have := ser_len ws
    unfold serR at hbig
    simp only [List.length_append] at hbig
    omega
  have hlu : IntKind.u64.wrap (ws.length : Int) = (ws.length : Int) := IntWalk.u64_in _ (by omega)
  have g0 : Grow σ ((σ.alloc (.cells [.int .u64 at_, .slice pv ws.length cv] 47 false)).alloc (.cells [.slice none 0 0] 27 false)) := ((Grow.refl σ).alloc _).alloc _
  have hw0 : Wt σ.n (σ.n + 1) ((σ.alloc (.cells [.int .u64 at_, .slice pv ws.length cv] 47 false)).alloc (.cells [.slice none 0 0] 27 false)) [] := ⟨.slice none 0 0, by simp, by omega, by simp, Own.nil⟩
  simp [wops_cons]
  refine wnum_spec σ.n (σ.n + 1) at_ [] _ hat hw0 (by simp; omega) (by simp) _ fun σ1 h1 f1 => ?_
  have fn1 := f1.1
  simp at fn1
  have hc1 := f1.get (i := σ.n) (o := .cells [.int .u64 at_, .slice pv ws.length cv] 47 false) (by simp) (by simp; omega) (.inr fun row e ro he => by cases he; decide)
  have hl1 := num_len10 hat
  simp [wops_cons, hc1, hlu]
  refine wnum_spec σ.n (σ.n + 1) ws.length _ σ1 (by omega) h1 (by omega) (by simp; omega) _ fun σ2 h2 f2 => ?_
  have fn2 := f2.1
  have hc2 := f2.get hc1 (by omega) (.inr fun row e ro he => by cases he; decide)
  have hl2 := num_len10 (n := ws.length) (by omega)
  have f02 := (g0.fr.trans f1).trans f2
  simp [wops_cons, hc2]
  refine W_loop_inv (fun k a s => ∃ tm, ∃ i : Nat, a = ⟨tm, 30, [], false⟩ ∧ tm.get 3 = some (.pointer (some ⟨σ.n + 1, 0, none⟩)) ∧ tm.get 15 = some (.slice pv ws.length cv) ∧ tm.get 16 = some (.int .i64 ws.length) ∧ tm.get 17 = some (.int .i64 (i : Nat)) ∧ i ≤ ws.length ∧ k = ws.length - i ∧ Wt σ.n (σ.n + 1) s (num at_ ++ num ws.length ++ (ws.take i).flatMap serW) ∧ Fr TW σ.n σ s) ?_ ws.length _ _ ?_
  · rintro k a s ⟨tm, i, rfl, e3, e15, e16, e17, hi, hk, hw, hf⟩
    have hsls := hsl.fr (T := TW) (b := σ.n) (by decide) hf
    have fnn := hf.1
    by_cases hlt : i < ws.length
    · have hlt' : (i : Int) < (ws.length : Int) := by omega
      obtain ⟨j, off, row, ro, rfl, hgj, hjn, hrow, hle⟩ := hsls.at hlt
      have hld := row_get lenWr hrow i hlt
      have hle2 := row_le hle i hlt
      have hw1 := i64s i (by omega)
      have g1 : Grow s ((s.alloc (.cells [.string ⟨#[]⟩, .int .u64 0, .string ⟨#[]⟩, .bool false] 90 false)).put s.n (.cells (encWr ws[i]) 90 false)) := ⟨by simp, fun j hj => by rw [CSt.get_put, if_neg (by omega), CSt.get_alloc, if_neg (by omega)]⟩
      simp only [encWr] at hld g1
      simp [wops_cons, e3, e15, e16, e17, hlt, hlt', hgj, hld, hle2]
      have hmem : ws[i] ∈ ws := List.getElem_mem hlt
      have htot : (num at_ ++ num ws.length ++ (ws.take i).flatMap serW).length + (serW ws[i]).length ≤ (serR ⟨at_, ws⟩).length := by
        have e : (ws.take (i + 1)).flatMap serW = (ws.take i).flatMap serW ++ serW ws[i] := by rw [List.take_succ_eq_append_getElem hlt, List.flatMap_append]; simp
        have := flat_take_le serW ws (i + 1)
        rw [e] at this
        unfold serR
        simp only [List.length_append] at this ⊢
        omega
      have hkey : ws[i].key.size ≤ (serW ws[i]).length := by
        unfold serW serText
        simp only [List.length_append, len_byt]
        omega
      have gn := g1.n
      refine wtext_spec σ.n (σ.n + 1) ws[i].key _ _ (by omega) (hw.grow g1) (by omega) (by omega) _ fun s1 k1 m1 => ?_
      have hcs : s1.get s.n = some (.cells [.string ws[i].key, .int .u64 ws[i].ver.at_, .string ws[i].ver.val, .bool ws[i].ver.gone] 90 false) := m1.get (by simp) (by simp) (.inr fun row e ro he => by cases he; decide)
      have mn1 := m1.1
      have hv1 := value_spec σ.n (σ.n + 1) ws[i].ver _ s1 (by have := hv _ hmem; omega) k1 (by omega) (by
        have hsw : (serW ws[i]).length = (serText ws[i].key).length + (serVer ws[i].ver).length := by rw [serW, List.length_append]
        simp only [List.length_append] at htot ⊢
        omega)
      simp only [encV] at hv1
      simp [wops_cons, hcs, e3]
      refine hv1 _ fun s2 k2 m2 => ?_
      have hall : Wt σ.n (σ.n + 1) s2 (num at_ ++ (num ws.length ++ (ws.take (i + 1)).flatMap serW)) := by
        rw [List.take_succ_eq_append_getElem hlt, List.flatMap_append, List.flatMap_singleton, serW]
        simpa [List.append_assoc] using k2
      simp [wops_cons, e3, e15, e16, e17, hw1]
      exact ⟨ws.length - (i + 1), by omega, i + 1, rfl, by omega, rfl, hall, ((hf.trans g1.fr).trans m1).trans m2⟩
    · have hlt' : ¬ ((i : Int) < (ws.length : Int)) := by omega
      have hie : i = ws.length := by omega
      subst hie
      rw [List.take_of_length_le (Nat.le_refl _)] at hw
      obtain ⟨v', hg, hbp, hpn, hown⟩ := hw
      have hQ := h v' s hown (hf.grow (Nat.le_refl _))
      simpa [wops_cons, e3, e15, e16, e17, hg] using hQ
  · refine ⟨_, 0, rfl, rfl, rfl, rfl, rfl, by omega, rfl, by simpa using h2, f02⟩
end Go.Sm
/- The laws' own numbers, texts, versions, records as bytes. -/
set_option linter.unusedVariables false
set_option linter.unusedSimpArgs false
namespace Go.Sm
open Go Go.Proofs
set_option maxRecDepth 100000
set_option maxHeartbeats 4000000
/-- Bytes of one's own: with room behind them, or without. -/
def Ow (b : Nat) (σ : CSt) (v : Value) (l : List UInt8) : Prop := Own b σ 5 encY v l ∨ ∃ i, v = .slice (some ⟨i, 0, none⟩) l.length l.length ∧ b ≤ i ∧ i < σ.n ∧ σ.get i = some (.cells (l.flatMap encY) 5 false) ∧ l.length < openCap
theorem Ow.sl {b : Nat} {σ : CSt} {v : Value} {l : List UInt8} (h : Ow b σ v l) : Sl σ 5 1 encY v l := by
  rcases h with h | ⟨i, rfl, hb, hi, hg, hl⟩
  · exact h.sl encY_len
  · exact Sl.all encY_len hg hi (.inr ⟨Nat.le_refl _, hl⟩)
theorem Ow.grow {b : Nat} {σ σ' : CSt} {v : Value} {l : List UInt8} (h : Ow b σ v l) (g : Grow σ σ') : Ow b σ' v l := by
  rcases h with h | ⟨i, rfl, hb, hi, hg, hl⟩
  · exact .inl (h.grow g)
  · exact .inr ⟨i, rfl, hb, Nat.lt_of_lt_of_le hi g.n, g.get hg hi, hl⟩
theorem Ow.weaken {b b' : Nat} {σ : CSt} {v : Value} {l : List UInt8} (h : Ow b σ v l) (hb : b' ≤ b) : Ow b' σ v l := by
  rcases h with h | ⟨i, rfl, h1, h2⟩
  · exact .inl (h.weaken hb)
  · exact .inr ⟨i, rfl, Nat.le_trans hb h1, h2⟩
theorem Ow.fr {T : TypeId → Prop} {b b' : Nat} {s0 s1 : CSt} {v : Value} {l : List UInt8} (h : Ow b' s0 v l) (ht : ¬ T 5) (hg : Fr T b s0 s1) : Ow b' s1 v l := by
  rcases h with (h | ⟨i, cap, h1, h2, h3, h4, h5⟩) | ⟨i, rfl, h2, h3, h4, h5⟩
  · exact .inl (.inl h)
  · exact .inl (.inr ⟨i, cap, h1, h2, Nat.lt_of_lt_of_le h3 hg.1, hg.get h4 h3 (.inr fun row e ro he => by cases he; exact ht), h5⟩)
  · exact .inr ⟨i, rfl, h2, Nat.lt_of_lt_of_le h3 hg.1, hg.get h4 h3 (.inr fun row e ro he => by cases he; exact ht), h5⟩
theorem oapp {b : Nat} {σ : CSt} {v x : Value} {ts : Array TypeId} {l m : List UInt8} (hts : ts[0]? = some 25) (hop : ∀ s, appendOp Tryz.prog σ ts s x = (elemF Tryz.prog 25).bind fun p => appendF σ p.1 p.2 s m.length (m.flatMap encY)) (hw : Ow b σ v l) (hb : b ≤ σ.n) (hbig : l.length + m.length ≤ 2 ^ 46) :
    ∃ q c σ', appendOp Tryz.prog σ ts v x = some (.slice q (l.length + m.length) c, σ') ∧ Ow b σ' (.slice q (l.length + m.length) c) (l ++ m) ∧ Fr (fun t => t = 5) b σ σ' := by
  rcases hw with hw | ⟨i, rfl, h2, h3, h4, h5⟩
  · obtain ⟨v', σ', a1, a2, a3, a4, _⟩ := appendF_only (f := ⟨1, 1, some [.int .u8 0], false, true⟩) (m := m) encY_len encY_cok rfl Nat.one_pos (by decide) rfl hw hb (by show _ * 1 ≤ _; omega) (by omega)
    obtain ⟨q, c, rfl⟩ := (a2.sl (sz := 1) encY_len).form
    rw [List.length_append] at a1 a2
    refine ⟨q, c, σ', ?_, .inl a2, app_fr hw a3.1 a4⟩
    rw [hop, ef25]
    exact a1
  · by_cases hm : m = []
    · subst hm
      refine ⟨some ⟨i, 0, none⟩, l.length, σ, ?_, ?_, Fr.refl _ _ _⟩
      · rw [hop, ef25]
        exact appendF_none rfl Nat.one_pos (by decide) rfl i _
      · rw [List.append_nil]
        exact .inr ⟨i, rfl, h2, h3, h4, h5⟩
    · refine ⟨some ⟨σ.n, 0, none⟩, openCap, σ.alloc (.cells ((l ++ m).flatMap encY) 5 false), ?_, .inl (.inr ⟨σ.n, openCap, by rw [List.length_append], hb, by simp, by simp, .inl rfl⟩), (Fr.refl _ b σ).alloc _⟩
      rw [hop, ef25]
      exact appendF_full encY_len encY_cok rfl Nat.one_pos (by decide) rfl h4 hm (by show _ * 1 ≤ _; omega) h5
theorem oapp_sl {b : Nat} {σ : CSt} {v x : Value} {l m : List UInt8} (hw : Ow b σ v l) (hb : b ≤ σ.n) (hx : Sl σ 5 1 encY x m) (hbig : l.length + m.length ≤ 2 ^ 46) :
    ∃ q c σ', appendOp Tryz.prog σ #[25, 25] v x = some (.slice q (l.length + m.length) c, σ') ∧ Ow b σ' (.slice q (l.length + m.length) c) (l ++ m) ∧ Fr (fun t => t = 5) b σ σ' := by
  refine oapp rfl (fun s => ?_) hw hb hbig
  obtain ⟨g1, g2⟩ := first_sl encY_len hx
  rw [appendOp_K (by simp [ef25]) (by simp)]
  show appK (elemF Tryz.prog 25) σ s x = _
  rw [ef25]
  simp only [appK, g1, g2, Option.bind_some]
theorem oapp_str {b : Nat} {σ : CSt} {v : Value} {l : List UInt8} (s : ByteArray) (hw : Ow b σ v l) (hb : b ≤ σ.n) (hbig : l.length + s.size ≤ 2 ^ 46) :
    ∃ q c σ', appendOp Tryz.prog σ #[25, 9] v (.string s) = some (.slice q (l.length + s.size) c, σ') ∧ Ow b σ' (.slice q (l.length + s.size) c) (l ++ byt s) ∧ Fr (fun t => t = 5) b σ σ' := by
  have := oapp (x := .string s) (ts := #[25, 9]) (m := byt s) rfl (fun t => ?_) hw hb (by rw [len_byt]; exact hbig)
  · rw [len_byt] at this; exact this
  · obtain ⟨g1, g2⟩ := first_str (σ := σ) (byt s)
    have e : (⟨(byt s).toArray⟩ : ByteArray) = s := str_byt s
    rw [e] at g1 g2
    rw [appendOp_S (by simp [ef25]) rfl]
    show appK (elemF Tryz.prog 25) σ t (.string s) = _
    rw [ef25]
    simp only [appK, g1, g2, Option.bind_some]
/-- A new slice of one byte. -/
theorem Ow.one {b : Nat} {σ : CSt} (hb : b ≤ σ.n) (c : UInt8) : Ow b (σ.alloc (.cells [.int .u8 c.toNat] 5 false)) (.slice (some ⟨σ.n, 0, none⟩) 1 1) [c] :=
  .inr ⟨σ.n, rfl, hb, by simp, by simp [encY], by simp [openCap]⟩
theorem lnum_spec : ∀ (n : Nat) (σ : CSt), n < 2 ^ 64 → ∀ (Q : Out → CSt → Prop), (∀ q c σ', Ow σ.n σ' (.slice q (num n).length c) (num n) → Grow σ σ' → Q (.ret (.slice q (num n).length c) false) σ') → W E1 (.fn 14 #[.int .u64 n] none) σ Q := by
  intro n
  induction n using Nat.strongRecOn with
  | _ n ih =>
    intro σ hn Q h
    rw [W_fn (fn := Tryz.f14) Tryz.func14 rfl rfl rfl]
    by_cases h128 : n < 128
    · have h128' : (n : Int) < 128 := by omega
      obtain ⟨c, hc⟩ := byte_of n (by omega)
      have hu : IntKind.u8.wrap (n : Int) = (c.toNat : Int) := by rw [u8_of, Nat.mod_eq_of_lt (by omega), hc]
      have hnum : num n = [c] := by rw [num_lt h128]; congr 1; exact u8_eq (by rw [ofNat_toNat (by omega), hc])
      rw [hnum] at h
      have := h _ _ _ (Ow.one (Nat.le_refl _) c) ((Grow.refl σ).alloc _)
      simpa [wops_cons, h128', hu] using this
    · have h128' : ¬ ((n : Int) < 128) := by omega
      obtain ⟨c, hc⟩ := byte_of (n % 128 + 128) (by omega)
      have hnum : num n = c :: num (n / 128) := by rw [num_ge (by omega)]; congr 1; exact u8_eq (by rw [ofNat_toNat (by omega), hc])
      have hu : IntKind.u8.wrap (IntKind.u8.wrap ((n : Int) % 128) + 128) = (c.toNat : Int) := by
        have e1 : IntKind.u8.wrap ((n : Int) % 128) = (n : Int) % 128 := IntWalk.u8_in _ (by omega)
        rw [e1, IntWalk.u8_in _ (by omega), hc]
        omega
      have hdiv : (n : Int) / 128 = ((n / 128 : Nat) : Int) := by omega
      have hdu : IntKind.u64.wrap ((n : Int) / 128) = ((n / 128 : Nat) : Int) := by rw [IntWalk.u64_in _ (by omega)]; omega
      have htm : (n : Int).tmod 128 = (n : Int) % 128 := Int.tmod_eq_emod_of_nonneg (by omega)
      simp [wops_cons, h128', hu, hdu, htm]
      have g0 : Grow σ (σ.alloc (.cells [.int .u8 c.toNat] 5 false)) := (Grow.refl σ).alloc _
      refine ih (n / 128) (by omega) _ (by omega) _ fun q cp σ1 h1 g1 => ?_
      have hl := num_len10 (n := n / 128) (by omega)
      have gn := g0.n
      have gn1 := g1.n
      obtain ⟨q2, c2, s2, a1, a2, a3⟩ := oapp_sl ((Ow.one (Nat.le_refl _) c).grow g1) (by omega) h1.sl (by simp; omega)
      have f2 : Fr (fun t => t = 5) σ.n σ s2 := (g0.trans g1).fr.trans a3
      have e : [c].length + (num (n / 128)).length = (num n).length := by rw [hnum]; simp; omega
      rw [e] at a1 a2
      have hQ := h q2 c2 s2 (by rw [hnum] at a2 ⊢; exact a2) (f2.grow (Nat.le_refl _))
      simpa [wops_cons, a1] using hQ
theorem ltext_spec (s : ByteArray) (σ : CSt) (hs : s.size < 2 ^ 40) (Q : Out → CSt → Prop) (h : ∀ q c σ', Ow σ.n σ' (.slice q (serText s).length c) (serText s) → Grow σ σ' → Q (.ret (.slice q (serText s).length c) false) σ') : W E1 (.fn 51 #[.string s] none) σ Q := by
  rw [W_fn (fn := Tryz.f51) Tryz.func51 rfl rfl rfl]
  have hu : IntKind.u64.wrap (s.size : Int) = (s.size : Int) := IntWalk.u64_in _ (by omega)
  simp [wops_cons, hu]
  refine lnum_spec s.size σ (by omega) _ fun q cp σ1 h1 g1 => ?_
  have hl := num_len10 (n := s.size) (by omega)
  have gn1 := g1.n
  obtain ⟨q2, c2, s2, a1, a2, a3⟩ := oapp_str s h1 (by omega) (by omega)
  have e : (num s.size).length + s.size = (serText s).length := by rw [serText, List.length_append, len_byt]
  rw [e] at a1 a2
  have hQ := h q2 c2 s2 a2 ((g1.fr.trans a3).grow (Nat.le_refl _))
  simpa [wops_cons, a1] using hQ
theorem lver_spec (x : Ver) (σ : CSt) (hs : x.val.size < 2 ^ 40) (Q : Out → CSt → Prop) (h : ∀ q c σ', Ow σ.n σ' (.slice q (serVer x).length c) (serVer x) → Grow σ σ' → Q (.ret (.slice q (serVer x).length c) false) σ') : W E1 (.fn 15 #[.agg (encV x).toArray] none) σ Q := by
  rw [W_fn (fn := Tryz.f15) Tryz.func15 rfl rfl rfl]
  obtain ⟨at_, val, gone⟩ := x
  have g0 : Grow σ (σ.alloc (.cells [.int .u64 at_, .string val, .bool gone] 33 false)) := (Grow.refl σ).alloc _
  cases gone with
  | true =>
    have hQ := h (some ⟨σ.n + 1, 0, none⟩) 1 ((σ.alloc (.cells [.int .u64 at_, .string val, .bool true] 33 false)).alloc (.cells [.int .u8 0] 5 false)) (by
      have := Ow.one (b := σ.n) (σ := σ.alloc (.cells [.int .u64 at_, .string val, .bool true] 33 false)) (by simp) 0
      simpa [serVer] using this) (g0.alloc _)
    simpa [wops_cons, encV, serVer] using hQ
  | false =>
    have hz : val.size < 2 ^ 40 := hs
    have hu : IntKind.u64.wrap (IntKind.u64.wrap (val.size : Int) + 1) = ((val.size + 1 : Nat) : Int) := by rw [IntWalk.u64_in (val.size : Int) (by omega), IntWalk.u64_in _ (by omega)]; omega
    have hc0 : (σ.alloc (.cells [.int .u64 at_, .string val, .bool false] 33 false)).get σ.n = some (.cells [.int .u64 at_, .string val, .bool false] 33 false) := by simp
    simp [wops_cons, encV]
    refine W_drawn (l := [0, 1, 2, 3, 4, 6, 7, 5, 8, 9]) (b := #[0, 1, 3, 7, 15, 31, 0, 64, 255, 511]) (by kernel_rfl) (by kernel_rfl) (by kernel_rfl) ?_
    simp [dopsR_cons, opAt, isEff, again, befBits, isRead, Nat.add_assoc, hc0]
    rw [hu]
    refine lnum_spec (val.size + 1) _ (by omega) _ fun q cp σ1 h1 g1 => ?_
    have hl := num_len10 (n := val.size + 1) (by omega)
    have gn0 := g0.n
    have gn1 := g1.n
    simp at gn1
    have hc1 := g1.get hc0 (by simp)
    obtain ⟨q2, c2, s2, a1, a2, a3⟩ := oapp_str val h1 (by simp; omega) (by omega)
    have e : (num (val.size + 1)).length + val.size = (serVer ⟨at_, val, false⟩).length := by
      have : serVer ⟨at_, val, false⟩ = num (val.size + 1) ++ byt val := rfl
      rw [this, List.length_append, len_byt]
    rw [e] at a1 a2
    have hQ := h q2 c2 s2 (a2.weaken (by simp)) (((g0.trans g1).fr.trans (a3.mono (fun _ h => h) (by simp))).grow (Nat.le_refl _))
    have tb : ∀ j, j < 8 → Nat.testBit 255 j = true := by decide
    simpa [dopsR_cons, opAt, isEff, again, befBits, isRead, Nat.add_assoc, hc1, a1, tb] using hQ
theorem clone_5 (l : List UInt8) (v : Value) (σ : CSt) (hsl : Sl σ 5 1 encY v l) (hbig : l.length < 2 ^ 40) (Q : Out → CSt → Prop)
    (h : ∀ (v' : Value) (σ' : CSt), Own σ.n σ' 5 encY v' l → Grow σ σ' → Q (.ret v' false) σ') : W E1 (.fn 16 #[v] none) σ Q := by
  rw [W_fn (fn := Tryz.f16) Tryz.func16 rfl rfl rfl]
  have h0 : (0 : Nat) ≠ openCap := by simp [openCap]
  rcases hsl with ⟨rfl, rfl⟩ | ⟨i, off, cap, row, ro, rfl, hg, hin, hrow, hlen, hcap⟩
  · have := h _ σ Own.nil (Grow.refl σ)
    simpa [wops_cons] using this
  by_cases hl : l.length = 0
  · have hnil : l = [] := List.eq_nil_of_length_eq_zero hl
    subst hnil
    have := h (.slice (some ⟨σ.n, 0, none⟩) 0 0) (σ.alloc (.cells [] 5 false)) (.inr ⟨σ.n, 0, rfl, Nat.le_refl _, by simp, by simp, .inr ⟨rfl, rfl⟩⟩) ((Grow.refl σ).alloc _)
    have hin' : ¬ i = σ.n := by omega
    have hoff : off ≤ row.length := by simp at hlen; omega
    simpa [wops_cons, appendOp_K, appK, appendF, hg, h0, hin', hoff] using this
  · have hn0 : ¬ l = [] := by rintro rfl; simp at hl
    have hb : l.length * 1 ≤ 140737488355328 := by omega
    have hrl : ((l.flatMap encY).length : Nat) = l.length * 1 := enc_length encY (fun _ => rfl) l
    have hck : cokL (l.flatMap encY) = true := cokL_enc (fun _ => rfl) l
    have := h (.slice (some ⟨σ.n + 1, 0, none⟩) l.length openCap) ((σ.alloc (.cells [] 5 false)).alloc (.cells (l.flatMap encY) 5 false))
      (.inr ⟨σ.n + 1, openCap, rfl, by omega, by simp, by simp, .inl rfl⟩) (((Grow.refl σ).alloc _).alloc _)
    have hin' : ¬ i = σ.n := by omega
    simp only [Nat.mul_one] at hlen hrow hrl hb
    simpa [wops_cons, appendOp_K, appK, appendF, hg, h0, hin', hlen, hrow, hrl, hl, hb, hck, hn0, -List.length_flatMap] using this
theorem yeq_spec (v w : Value) (l m : List UInt8) (σ : CSt) (hv : Sl σ 5 1 encY v l) (hw : Sl σ 5 1 encY w m) (hl : l.length < 2 ^ 60) (hm : m.length < 2 ^ 60) (Q : Out → CSt → Prop) (h : Q (.ret (.bool (decide (l = m))) false) σ) : W E1 (.fn 18 #[v, w] none) σ Q := by
  rw [W_fn (fn := Tryz.f18) Tryz.func18 rfl rfl rfl]
  obtain ⟨p1, c1, rfl⟩ := hv.form
  obtain ⟨p2, c2, rfl⟩ := hw.form
  by_cases hlen : l.length = m.length
  · have hlen' : ((l.length : Int) = m.length) := by omega
    simp [wops_cons, hlen, hlen']
    refine W_loop_inv (fun n a σ' => ∃ tm, ∃ k : Nat, a = ⟨tm, 26, [], false⟩ ∧ tm.get 0 = some (.slice p1 m.length c1) ∧ tm.get 1 = some (.slice p2 m.length c2) ∧ tm.get 12 = some (.int .i64 m.length) ∧ tm.get 13 = some (.int .i64 (k : Nat)) ∧ (k ≤ l.length ∧ n = l.length - k ∧ l.take k = m.take k ∧ σ' = σ)) ?_ l.length _ _ ?_
    · rintro n a σ' ⟨tm, k, rfl, h0, h1, h12, h13, hk, hn, htk, rfl⟩
      by_cases hlt : k < l.length
      · have hlt2 : k < m.length := by omega
        have hlt' : (k : Int) < l.length := by omega
        have hlt2' : (k : Int) < m.length := by omega
        obtain ⟨i, off, row, ro, rfl, hg, hin, hrow, hle⟩ := hv.at hlt
        obtain ⟨i2, off2, row2, ro2, rfl, hg2, hin2, hrow2, hle2⟩ := hw.at hlt2
        have hld := cell_y hrow k hlt
        have hl1 := row_le hle k hlt
        have hld2 := cell_y hrow2 k hlt2
        have hl2 := row_le hle2 k hlt2
        have hw := i64s k (by omega)
        simp [wops_cons, h0, h1, h12, h13, hlt2, hlt2']
        refine W_calm (by kernel_rfl) ?_
        simp [dops_cons, h0, h1, h12, h13, hlt, hlt', hlt2, hlt2', hg, hg2, hld, hld2, hl1, hl2]
        by_cases he : l[k] = m[k]
        · have he' : l[k].toNat = m[k].toNat := by rw [he]
          simp [wops_cons, he, he', h0, h1, h12, h13, hw]
          refine ⟨l.length - (k + 1), by omega, k + 1, rfl, by omega, rfl, ?_⟩
          rw [List.take_succ_eq_append_getElem hlt, List.take_succ_eq_append_getElem hlt2, htk, he]
        · have he' : ¬ (l[k].toNat = m[k].toNat) := fun e => he (u8_eq e)
          have he'' : ¬ ((l[k].toNat : Int) = m[k].toNat) := by omega
          have hne : l ≠ m := by rintro rfl; exact he rfl
          rw [decide_eq_false hne] at h
          simpa [wops_cons, he, he', he''] using h
      · have hkl : k = l.length := by omega
        have hlt' : ¬ ((k : Int) < l.length) := by omega
        have hlt2 : ¬ (k < m.length) := by omega
        have hlt2' : ¬ ((k : Int) < m.length) := by omega
        have he : l = m := by
          have := htk
          rwa [List.take_of_length_le (by omega), List.take_of_length_le (by omega)] at this
        rw [decide_eq_true he] at h
        simpa [wops_cons, h12, h13, hlt, hlt', hlt2, hlt2'] using h
    · refine ⟨_, 0, rfl, ?_⟩
      simp [hlen]
  · have hne : l ≠ m := by rintro rfl; exact hlen rfl
    have hi : ¬ ((l.length : Int) = m.length) := by omega
    rw [decide_eq_false hne] at h
    simpa [wops_cons, hi, hlen] using h
end Go.Sm
/- record.Decode. -/
set_option linter.unusedVariables false
set_option linter.unusedSimpArgs false
namespace Go.Sm
open Go Go.Proofs
set_option maxRecDepth 100000
set_option maxHeartbeats 4000000
theorem kle_eq (s u : ByteArray) : (klt s u || s.toList == u.toList) = !klt u s := by
  cases h : klt s u with
  | true =>
    have := bl_asymm h
    unfold klt; rw [this]; rfl
  | false =>
    by_cases e : s.toList = u.toList
    · rw [e]
      have : s = u := ba_list_inj e
      subst this
      have := bl_irrefl s.toList
      unfold klt; simp [this]
    · have : klt u s = true := by
        cases h' : klt u s with
        | true => rfl
        | false => exact absurd (bl_tri h h') e
      rw [this]
      simp [e]
/-- What a record is handed back as. -/
def RetR (σ : CSt) (o : Option Rcd) (a e : Value) : Prop := match o with
  | none => a = .agg #[.int .u64 0, .slice none 0 0] ∧ e = .int .i64 10
  | some r => ∃ v, a = .agg #[.int .u64 r.at_, v] ∧ e = .int .i64 0 ∧ Sl σ 90 4 encWr v r.ws
theorem app_wr {b : Nat} {s1 : CSt} {l : List Wri} {x : Wri} {v : Value} (ho : Own b s1 90 encWr v l) (hb : b ≤ s1.n) (hl : l.length < 2 ^ 40) :
    ∃ p9 c9 s9, appendOp Tryz.prog (s1.alloc (.cells (encWr x) 90 false)) #[45, 45] v (.slice (some ⟨s1.n, 0, none⟩) 1 1) = some (.slice p9 (l.length + 1) c9, s9) ∧ Own b s9 90 encWr (.slice p9 (l.length + 1) c9) (l ++ [x]) ∧ ButV v s1 s9 ∧ GrowB b s1 s9 := by
  have hga : Grow s1 (s1.alloc (.cells (encWr x) 90 false)) := (Grow.refl s1).alloc _
  obtain ⟨v9, s9, a1, a2, a3, a4, a5⟩ := append_only (P := Tryz.prog) (ts := #[45, 45]) (e := 90) (sz := 4) (enc := encWr) (l := l) (m := [x]) (b := b) ef45 (by simp) lenWr cokWr rfl (by decide) (by decide) rfl (σ := s1.alloc (.cells (encWr x) 90 false))
    (ho.grow hga) (by simp; omega) (Sl.all (l := [x]) (i := s1.n) (cap := 1) (ro := false) lenWr (by simp) (by simp) (.inr ⟨by simp, by simp [openCap]⟩)) (by show (_ + 1) * 48 ≤ _; omega) (by omega)
  obtain ⟨p9, c9, rfl⟩ := (a2.sl (sz := 4) lenWr).form
  rw [List.length_append] at a1 a2
  refine ⟨p9, c9, s9, a1, a2, ⟨by have := a3.1; simp at this; omega, fun j hj hne => ?_⟩, (hga.toB hb).trans a3⟩
  rw [a4 j (by simp; omega) (fun i off n c h => by rintro rfl; exact hne (by rw [h]; rfl)), hga.old j hj]
theorem Ro.fr {T : TypeId → Prop} {b b' p : Nat} {σ σ' : CSt} {o : Option (List UInt8)} (h : Ro b p σ o) (h41 : ¬ T 41) (h5 : ¬ T 5) (f : Fr T b' σ σ') : Ro b p σ' o := by
  obtain ⟨v, l, hg, hbp, hpn, hsl, hol, hbig⟩ := h
  exact ⟨v, l, f.get hg hpn (.inr fun row e ro he => by cases he; exact h41), hbp, Nat.lt_of_lt_of_le hpn f.1, hsl.fr h5 f, hol, hbig⟩
theorem dec_step {at_ : Int} {n : Nat} {last : ByteArray} {b : List UInt8} : rdWs at_ (n + 1) last b = (rdText 32 b).bind fun p => (rdVer at_ p.2).bind fun q => if klt last p.1 then (rdWs at_ n p.1 q.2).map fun r => (⟨p.1, q.1⟩ :: r.1, r.2) else none := rfl
def finR (at_ : Nat) (done : List Wri) (r : List Wri × List UInt8) : Option Rcd := if r.2 = [] then some ⟨at_, done ++ r.1⟩ else none
theorem rdec_spec (l : List UInt8) (v : Value) (σ : CSt) (hsl : Sl σ 5 1 encY v l) (hbig : l.length < 2 ^ 36) (Q : Out → CSt → Prop)
    (h : ∀ a e σ', RetR σ' (dec l) a e → Grow σ σ' → Q (.ret (.tuple #[a, e]) false) σ') : W E1 (.fn 20 #[v] none) σ Q := by
  rw [W_fn (fn := Tryz.f20) Tryz.func20 rfl rfl rfl]
  obtain ⟨pv, cv, rfl⟩ := hsl.form
  simp [wops_cons]
  have g0 : Grow σ ((σ.alloc (.cells [.int .u64 0, .slice none 0 0] 47 false)).alloc (.cells [.slice pv l.length cv, .bool false] 41 false)) := ((Grow.refl σ).alloc _).alloc _
  have hr0 : Ro σ.n (σ.n + 1) ((σ.alloc (.cells [.int .u64 0, .slice none 0 0] 47 false)).alloc (.cells [.slice pv l.length cv, .bool false] 41 false)) (some l) := ⟨_, l, by simp, by omega, by simp, hsl.grow g0, by simp, by omega⟩
  refine rnum_spec σ.n (σ.n + 1) (some l) _ hr0 (by simp; omega) _ fun at_ σ1 hat hat64 h1 f1 => ?_
  have fn1 := f1.1
  simp at fn1
  have hc1 := f1.get (i := σ.n) (o := .cells [.int .u64 0, .slice none 0 0] 47 false) (by simp) (by simp; omega) (.inr fun row e ro he => by cases he; decide)
  simp [wops_cons]
  have g1 : Grow σ1 ((σ1.alloc (.cells [.int .u64 0, .slice none 0 0] 47 false)).put σ1.n (.cells [.int .u64 at_, .slice none 0 0] 47 false)) := ⟨by simp, fun j hj => by rw [CSt.get_put, if_neg (by omega), CSt.get_alloc, if_neg (by omega)]⟩
  refine rnum_spec σ.n (σ.n + 1) _ _ (h1.grow g1) (by simp; omega) _ fun n σ2 hn hn64 h2 f2 => ?_
  have fn2 := f2.1
  simp at fn2
  have hc2 := f2.get (g1.get hc1 (by omega)) (by simp; omega) (.inr fun row e ro he => by cases he; decide)
  have hc5 := f2.get (i := σ1.n) (o := .cells [.int .u64 at_, .slice none 0 0] 47 false) (by simp) (by simp) (.inr fun row e ro he => by cases he; decide)
  have f02 : Fr TR σ.n σ σ2 := ((g0.fr.trans f1).trans g1.fr).trans f2
  have hlu : IntKind.u64.wrap (l.length : Int) = (l.length : Int) := IntWalk.u64_in _ (by omega)
  -- what is left to be read, if all was well
  obtain ⟨o3, hd3, h3⟩ : ∃ o3 : Option (List UInt8), (dec l = o3.bind fun rest => (rdWs at_ n (str []) rest).bind (finR at_ [])) ∧ ∃ v2 bad0, σ2.get (σ.n + 1) = some (.cells [v2, .bool bad0] 41 false) ∧ (o3.isNone = (bad0 || (decide ((at_ : Int) < 1) || decide (1099511627776 < (at_ : Int)) || decide ((l.length : Int) < (n : Int))))) ∧ Ro σ.n (σ.n + 1) (σ2.put (σ.n + 1) (.cells [v2, .bool o3.isNone] 41 false)) o3 ∧ Fr TR σ.n σ2 (σ2.put (σ.n + 1) (.cells [v2, .bool o3.isNone] 41 false)) := by
    obtain ⟨v2, l2, hg2, hbp2, hpn2, hsl2, hol2, hbig2⟩ := h2
    cases hr1 : rd l with
    | none =>
      rw [Option.bind_some, hr1] at hg2
      obtain ⟨c1, c2⟩ := Ro.back hg2 hbp2 hpn2 hsl2 hbig2 none (by simp)
      exact ⟨none, by unfold dec; rw [hr1]; rfl, v2, _, hg2, by simp, c1, c2⟩
    | some q1 =>
      rw [Option.bind_some, hr1] at hat hn hg2 hol2
      simp only [Option.map_some, Option.getD_some, Option.bind_some] at hat hn hg2 hol2
      subst hat
      cases hr2 : rd q1.2 with
      | none =>
        rw [hr2] at hg2
        obtain ⟨c1, c2⟩ := Ro.back hg2 hbp2 hpn2 hsl2 hbig2 none (by simp)
        exact ⟨none, by unfold dec; rw [hr1]; simp only [Option.bind_some]; rw [hr2]; rfl, v2, _, hg2, by simp, c1, c2⟩
      | some q2 =>
        rw [hr2] at hg2 hn hol2
        simp only [Option.map_some, Option.getD_some] at hn hg2 hol2
        subst hn
        have hde : dec l = if 1 ≤ q1.1 ∧ q1.1 ≤ 2 ^ 40 ∧ q2.1 ≤ l.length then (rdWs q1.1 q2.1 (str []) q2.2).bind (finR q1.1 []) else none := by
          unfold dec; rw [hr1]; simp only [Option.bind_some]; rw [hr2]; rfl
        by_cases hc : 1 ≤ q1.1 ∧ q1.1 ≤ 2 ^ 40 ∧ q2.1 ≤ l.length
        · rw [if_pos hc] at hde
          obtain ⟨c1, c2⟩ := Ro.back hg2 hbp2 hpn2 hsl2 hbig2 (some q2.2) hol2
          have e1 : ¬ ((q1.1 : Int) < 1) := by omega
          have e2 : ¬ (1099511627776 < (q1.1 : Int)) := by omega
          have e3 : ¬ ((l.length : Int) < (q2.1 : Int)) := by omega
          exact ⟨some q2.2, hde, v2, _, hg2, by simp [e1, e2, e3], c1, c2⟩
        · rw [if_neg hc] at hde
          obtain ⟨c1, c2⟩ := Ro.back hg2 hbp2 hpn2 hsl2 hbig2 none (by simp)
          refine ⟨none, hde, v2, _, hg2, ?_, c1, c2⟩
          have : (q1.1 : Int) < 1 ∨ 1099511627776 < (q1.1 : Int) ∨ (l.length : Int) < (q2.1 : Int) := by omega
          simp only [Option.isNone_none, Option.isNone_some, Bool.false_or]
          rcases this with h | h | h
          · rw [decide_eq_true h]; rfl
          · rw [decide_eq_true h]; simp
          · rw [decide_eq_true h]; simp
  obtain ⟨v2, bad0, hg2, hb3, h3, f3⟩ := h3
  have hne : ¬ (σ.n + 1 = σ1.n) := by omega
  have hc2' := f3.get hc2 (by omega) (.inr fun row e ro he => by cases he; decide)
  have hc5' := f3.get hc5 (by omega) (.inr fun row e ro he => by cases he; decide)
  have fn3 := f3.1
  generalize hs3 : σ2.put (σ.n + 1) (.cells [v2, .bool o3.isNone] 41 false) = σ3 at h3 f3 hc2' hc5' fn3
  have f03 := f02.trans f3
  simp [wops_cons, -W_region]
  refine W_cut (fun out s => ∃ tm, out = .code .normal ⟨tm, 77, [], false⟩ ∧ tm.get 2 = some (.pointer (some ⟨σ.n, 0, none⟩)) ∧ tm.get 4 = some (.pointer (some ⟨σ.n + 1, 0, none⟩)) ∧ tm.get 5 = some (.pointer (some ⟨σ1.n, 0, none⟩)) ∧ tm.get 6 = some (.int .u64 (n : Nat)) ∧ s = σ3) ?_ ?_
  · rw [W_region]
    cases bad0 with
    | true =>
      rw [hb3] at hs3
      simp [wops_cons, wops_if', dstOf, hg2]
      exact hs3
    | false =>
      rw [Bool.false_or] at hb3
      rw [hb3] at hs3
      by_cases e1 : (at_ : Int) < 1
      · rw [decide_eq_true e1] at hs3
        simp [wops_cons, wops_if', dstOf, hg2, hc5, e1]
        exact hs3
      · by_cases e2 : 1099511627776 < (at_ : Int)
        · rw [decide_eq_true e2] at hs3
          simp [wops_cons, wops_if', dstOf, hg2, hc5, e1, e2]
          simpa using hs3
        · by_cases e3 : (l.length : Int) < (n : Int)
          · rw [decide_eq_true e3] at hs3
            simp [wops_cons, wops_if', dstOf, hg2, hc5, e1, e2, e3, hlu]
            simpa using hs3
          · rw [decide_eq_false e1, decide_eq_false e2, decide_eq_false e3] at hs3
            simp [wops_cons, wops_if', dstOf, hg2, hc5, e1, e2, e3, hlu]
            exact hs3
  · rintro out s ⟨tm, rfl, t2, t4, t5, t6, rfl⟩
    simp [wops_cons, t2, t4, t5, t6]
    have hnl : o3.isSome = true → n ≤ l.length := fun hs => by
      rw [Option.isNone_eq_false_iff.2 hs] at hb3
      simp at hb3
      omega
    refine W_loop_inv (fun k a s => ∃ tm, ∃ i : Nat, ∃ last o done wv, a = ⟨tm, 77, [], false⟩ ∧ tm.get 2 = some (.pointer (some ⟨σ.n, 0, none⟩)) ∧ tm.get 4 = some (.pointer (some ⟨σ.n + 1, 0, none⟩)) ∧ tm.get 5 = some (.pointer (some ⟨σ1.n, 0, none⟩)) ∧ tm.get 7 = some (.string last) ∧ tm.get 41 = some (.int .u64 (n : Nat)) ∧ tm.get 42 = some (.int .u64 (i : Nat)) ∧
      (i ≤ n ∧ k = n - i ∧ (dec l = o.bind fun rest => (rdWs at_ (n - i) last rest).bind (finR at_ done)) ∧ s.get σ.n = some (.cells [.int .u64 0, .slice none 0 0] 47 false) ∧ s.get σ1.n = some (.cells [.int .u64 at_, wv] 47 false) ∧ Own σ.n s 90 encWr wv done ∧ done.length = i ∧ Ro σ.n (σ.n + 1) s o ∧ Grow σ s ∧ σ1.n < s.n ∧ (o.isSome = true → n ≤ l.length))) ?_ n _ _ ?_
    · rintro k a s ⟨tm, i, last, o, done, wv, rfl, t2, t4, t5, t7, t41, t42, hi, hk, hde, k2, k5, hown, hdl, hro, hg, hsn, hol⟩
      obtain ⟨pw, cw, rfl⟩ := (hown.sl (sz := 4) lenWr).form
      by_cases hlt : i < n
      · have hlt' : (i : Int) < (n : Int) := by omega
        obtain ⟨m, hm⟩ : ∃ m, n - i = m + 1 := ⟨n - i - 1, by omega⟩
        have hgn := hg.n
        simp [wops_cons, t2, t4, t5, t7, t41, t42, hlt, hlt']
        refine rtext_spec σ.n (σ.n + 1) 32 o s hro hgn (by decide) _ fun s1 r1 f1 => ?_
        obtain ⟨key, hkey⟩ : ∃ key, ((o.bind (rdText 32)).map (·.1)).getD (str []) = key := ⟨_, rfl⟩
        rw [hkey]
        have sn1 := f1.1
        have k2a := f1.get k2 (by omega) (.inr fun row e ro he => by cases he; decide)
        have k5a := f1.get k5 hsn (.inr fun row e ro he => by cases he; decide)
        have owa := hown.fr (T := TR) (by decide) f1
        have hn1 : ¬ (σ1.n = s1.n) := by omega
        have hn2 : ¬ (s1.n = σ1.n) := by omega
        have hn3 : ¬ (σ.n = s1.n) := by omega
        have hn4 : ¬ (s1.n = σ.n) := by omega
        have hn5 : ¬ (σ.n = σ1.n) := by omega
        have hn6 : ¬ (σ1.n = σ.n) := by omega
        simp [wops_cons, t2, t4, t5, t7, t41, t42, hn1, hn2, k5a]
        have g2 : Grow s1 ((s1.alloc (.cells [.string ⟨#[]⟩, .int .u64 0, .string ⟨#[]⟩, .bool false] 90 false)).put s1.n (.cells [.string key, .int .u64 0, .string ⟨#[]⟩, .bool false] 90 false)) := ⟨by simp, fun j hj => by rw [CSt.get_put, if_neg (by omega), CSt.get_alloc, if_neg (by omega)]⟩
        refine rread_spec σ.n (σ.n + 1) at_ _ _ (r1.grow g2) (by simp; omega) _ fun s3 r3 f3 => ?_
        have sn3 := f3.1
        simp at sn3
        obtain ⟨ver, hver⟩ : ∃ ver, ((((o.bind (rdText 32)).map (·.2)).bind (rdVer at_)).map (·.1)).getD ⟨at_, str [], true⟩ = ver := ⟨_, rfl⟩
        rw [hver]
        obtain ⟨o2, ho2⟩ : ∃ o2, ((((o.bind (rdText 32)).map (·.2)).bind (rdVer at_)).map (·.2)) = o2 := ⟨_, rfl⟩
        rw [ho2] at r3
        have k2b := f3.get (g2.get k2a (by omega)) (by simp; omega) (.inr fun row e ro he => by cases he; decide)
        have k5b := f3.get (g2.get k5a (by omega)) (by simp; omega) (.inr fun row e ro he => by cases he; decide)
        have k8 : s3.get s1.n = some (.cells [.string key, .int .u64 0, .string ⟨#[]⟩, .bool false] 90 false) := f3.get (by simp) (by simp) (.inr fun row e ro he => by cases he; decide)
        have owb := (owa.grow g2).fr (T := TR) (by decide) f3
        have hgb : Grow σ s3 := (((hg.fr.trans f1).trans g2.fr).trans f3).grow (Nat.le_refl _)
        have hn7 : ¬ (σ.n + 1 = s1.n) := by omega
        simp [wops_cons, t2, t4, t5, t7, t41, t42, encV, k8]
        obtain ⟨v4, l4, hg4, hbp4, hpn4, hsl4, hol4, hbig4⟩ := r3
        have hbad : dec l = none → Q (.ret (.tuple #[.agg #[.int .u64 0, .slice none 0 0], .int .i64 10]) false) ((s3.put s1.n (.cells [.string key, .int .u64 ver.at_, .string ver.val, .bool ver.gone] 90 false)).put σ.n (.cells [.int .u64 0, .slice none 0 0] 47 false)) := fun hd =>
          h _ _ _ (by rw [hd]; exact ⟨rfl, rfl⟩) ⟨by simpa using hgb.n, fun j hj => by rw [CSt.get_put, if_neg (by omega), CSt.get_put, if_neg (by omega)]; exact hgb.old j hj⟩
        cases ho : o.bind (rdText 32) with
        | none =>
          rw [ho] at ho2
          obtain rfl : none = o2 := ho2
          have hd : dec l = none := by
            rw [hde, hm]
            cases o with
            | none => rfl
            | some rest =>
              simp only [Option.bind_some] at ho ⊢
              rw [dec_step, ho]; rfl
          have hQ := hbad hd
          simp only [Option.isNone_none] at hg4
          simpa [wops_cons, wops_if', dstOf, hg4, hn7, t2, t4, t5, t7, t41, t42, k2b, hn3, hn4] using hQ
        | some q =>
          obtain ⟨rest, rfl, hrest⟩ : ∃ rest, o = some rest ∧ rdText 32 rest = some q := by
            cases o with
            | none => cases ho
            | some rest => exact ⟨rest, rfl, ho⟩
          rw [ho] at ho2 hkey hver
          obtain rfl : q.1 = key := hkey
          simp only [Option.map_some, Option.bind_some] at ho2 hver
          rw [hm, Option.bind_some, dec_step, hrest, Option.bind_some] at hde
          cases hrv : rdVer at_ q.2 with
          | none =>
            rw [hrv] at ho2 hde
            obtain rfl : none = o2 := ho2
            have hQ := hbad hde
            simp only [Option.isNone_none] at hg4
            simpa [wops_cons, wops_if', dstOf, hg4, hn7, t2, t4, t5, t7, t41, t42, k2b, hn3, hn4] using hQ
          | some r =>
            rw [hrv] at ho2 hde hver
            obtain rfl : some r.2 = o2 := ho2
            obtain rfl : r.1 = ver := hver
            simp only [Option.isNone_some, Option.bind_some] at hg4 hde
            have hkb := kle_eq q.1 last
            cases hk : klt last q.1 with
            | false =>
              rw [hk] at hde hkb
              have hQ := hbad hde
              simpa [wops_cons, wops_if', dstOf, hg4, hn7, t2, t4, t5, t7, t41, t42, k2b, hn3, hn4, hkb] using hQ
            | true =>
              rw [hk] at hde hkb
              simp [wops_cons, wops_if', dstOf, hg4, hn7, t2, t4, t5, t7, t41, t42, k2b, hn3, hn4, hkb]
              have hf4 : Fr TR σ.n s1 (s3.put s1.n (.cells [.string q.1, .int .u64 r.1.at_, .string r.1.val, .bool r.1.gone] 90 false)) := (g2.fr.trans f3).new (Nat.le_refl _) _
              have hro4 : Ro σ.n (σ.n + 1) (s3.put s1.n (.cells [.string q.1, .int .u64 r.1.at_, .string r.1.val, .bool r.1.gone] 90 false)) (some r.2) := Ro.put33 ⟨v4, l4, hg4, hbp4, hpn4, hsl4, hol4, hbig4⟩ k8 (by decide) (by decide) _
              have k8' : (s3.put s1.n (.cells [.string q.1, .int .u64 r.1.at_, .string r.1.val, .bool r.1.gone] 90 false)).get s1.n = some (.cells [.string q.1, .int .u64 r.1.at_, .string r.1.val, .bool r.1.gone] 90 false) := by simp
              have k2c : (s3.put s1.n (.cells [.string q.1, .int .u64 r.1.at_, .string r.1.val, .bool r.1.gone] 90 false)).get σ.n = some (.cells [.int .u64 0, .slice none 0 0] 47 false) := by simp [hn3, k2b]
              have k5c : (s3.put s1.n (.cells [.string q.1, .int .u64 r.1.at_, .string r.1.val, .bool r.1.gone] 90 false)).get σ1.n = some (.cells [.int .u64 at_, .slice pw done.length cw] 47 false) := by simp [hn1, k5b]
              have hgc : Grow σ (s3.put s1.n (.cells [.string q.1, .int .u64 r.1.at_, .string r.1.val, .bool r.1.gone] 90 false)) := ((hg.fr.trans f1).trans hf4).grow (Nat.le_refl _)
              have sn4 : s1.n + 1 ≤ (s3.put s1.n (.cells [.string q.1, .int .u64 r.1.at_, .string r.1.val, .bool r.1.gone] 90 false)).n := by simpa using sn3
              have owc := owa.fr (T := TR) (by decide) hf4
              generalize s3.put s1.n (.cells [.string q.1, .int .u64 r.1.at_, .string r.1.val, .bool r.1.gone] 90 false) = s4 at hro4 k8' k2c k5c hgc sn4 owc
              obtain ⟨p9, c9, s9, a1, a2, a3, a4⟩ := app_wr (x := ⟨q.1, r.1⟩) owc hgc.n (by have := hol rfl; omega)
              simp [encWr] at a1
              have f9 : Fr (fun t => t = 90) σ.n s4 s9 := owc.z.frV a3
              have k2d := f9.get k2c (by omega) (.inr fun row e ro he => by cases he; decide)
              have k5d := f9.get k5c (by omega) (.inr fun row e ro he => by cases he; decide)
              have hro5 := hro4.fr (by decide) (by decide) f9
              have sn9 := f9.1
              have hn8 : ¬ (σ1.n = s4.n) := by omega
              have k8d : s9.get s1.n = some (.cells [.string q.1, .int .u64 r.1.at_, .string r.1.val, .bool r.1.gone] 90 false) := by
                rw [a3.2 s1.n (by omega)]
                · exact k8'
                · intro hj
                  rcases owa with ⟨e, _⟩ | ⟨i', cap, e, h1, h2, _⟩
                  · rw [e] at hj; cases hj
                  · rw [e] at hj; cases hj; omega
              refine W_drawn (l := [0, 1, 2, 3, 4, 5, 6, 7, 8, 9]) (b := #[0, 1, 0, 4, 0, 16, 60, 127, 255, 511]) (by kernel_rfl) (by kernel_rfl) (by kernel_rfl) ?_
              simp [wops_cons, dopsR_cons, opAt, isEff, again, befBits, isRead, Nat.add_assoc, k8', k2c, k5c, t2, t4, t5, t7, t41, t42, a1, k5d, hn1, hn2, hn5, hn8, k8d, Nat.testBit_eq_decide_div_mod_eq]
              have hw := IntWalk.u64_in ((i : Int) + 1) (by omega)
              rw [hw]
              refine ⟨n - (i + 1), by omega, i + 1, by omega, by omega, rfl, some r.2, done ++ [⟨q.1, r.1⟩], ?_, k2d, (a2.fr (T := fun t => t = 47) (b := σ.n) (by decide) ((Fr.refl (fun t => t = 47) σ.n _).put (by omega) k5d rfl _)), by simp [hdl], ?_, ?_, by omega, fun _ => hol rfl⟩
              · have e : n - (i + 1) = m := by omega
                rw [hde, if_pos rfl, e, Option.bind_some]
                cases rdWs at_ m q.1 r.2 with
                | none => rfl
                | some x => simp [finR]
              · exact hro5.fr (T := fun t => t = 47) (by decide) (by decide) ((Fr.refl (fun t => t = 47) σ.n _).put (by omega) k5d rfl _)
              · exact (((hgc.fr (T := fun t => t = 90 ∨ t = 47)).trans (f9.mono (fun _ => .inl) (Nat.le_refl _))).put (by omega) k5d (.inr rfl) _).grow (Nat.le_refl _)
      · have hin : i = n := by omega
        subst hin
        have hlt' : ¬ ((i : Int) < (i : Int)) := by omega
        simp [wops_cons, t2, t4, t5, t7, t41, t42]
        refine rend_spec σ.n (σ.n + 1) o s hro _ ?_
        have hn5 : ¬ (σ.n = σ1.n) := by omega
        have hn6 : ¬ (σ1.n = σ.n) := by omega
        rw [Nat.sub_self] at hde
        by_cases he : o = some []
        · subst he
          have hd : dec l = some ⟨at_, done⟩ := by rw [hde]; simp [rdWs, finR]
          have hgQ : Grow σ (s.put σ.n (.cells [.int .u64 at_, .slice pw done.length cw] 47 false)) := ⟨by simpa using hg.n, fun j hj => by rw [CSt.get_put, if_neg (by omega)]; exact hg.old j hj⟩
          have hQ := h (.agg #[.int .u64 at_, .slice pw done.length cw]) (.int .i64 0) (s.put σ.n (.cells [.int .u64 at_, .slice pw done.length cw] 47 false)) (by
            rw [hd]
            exact ⟨_, rfl, rfl, (hown.sl lenWr).fr (T := fun t => t = 47) (b := σ.n) (by decide) ((Fr.refl (fun t => t = 47) σ.n _).put (Nat.le_refl _) k2 rfl _)⟩) hgQ
          simpa [wops_cons, t2, t4, t5, t7, t41, t42, k2, k5, hn5, hn6] using hQ
        · have hd : dec l = none := by
            rw [hde]
            cases o with
            | none => rfl
            | some r =>
              have hr : ¬ r = [] := fun e => he (by rw [e])
              simp [rdWs, finR, hr]
          have hQ := h (.agg #[.int .u64 0, .slice none 0 0]) (.int .i64 10) (s.put σ.n (.cells [.int .u64 0, .slice none 0 0] 47 false)) (by rw [hd]; exact ⟨rfl, rfl⟩) ⟨by simpa using hg.n, fun j hj => by rw [CSt.get_put, if_neg (by omega)]; exact hg.old j hj⟩
          simpa [wops_cons, t2, t4, t5, t7, t41, t42, k2, k5, hn5, hn6, he] using hQ
    · exact ⟨_, 0, str [], o3, [], .slice none 0 0, rfl, by simp [t2], by simp [t4], by simp [t5], rfl, rfl, rfl, by omega, rfl, hd3, hc2', hc5', Own.nil, rfl, h3, f03.grow (Nat.le_refl _), by omega, hnl⟩
end Go.Sm
/- Slices of slices are the same where the object is. -/
set_option linter.unusedVariables false
namespace Go.Sm
open Go
theorem sliceOp_get {P : Program} {σ σ' : CSt} {t : TypeId} {v : Value} {lo hi mx : Option Value} (h : ∀ i, objOf v = some i → σ'.get i = σ.get i) : sliceOp P σ' t v lo hi mx = sliceOp P σ t v lo hi mx := by
  unfold sliceOp
  cases elemOf? P t with
  | none => rfl
  | some p =>
    cases v with
    | slice p len cap =>
      cases p with
      | none => cases len <;> cases cap <;> rfl
      | some a =>
        obtain ⟨i, off, q⟩ := a
        cases q with
        | some _ => rfl
        | none =>
          have e : σ'.cells i = σ.cells i := by unfold CSt.cells; rw [h i rfl]
          simp only [e]
    | _ => rfl
theorem sliceOp_grow {α : Type} {P : Program} {σ σ' : CSt} {e : TypeId} {sz : Nat} {enc : α → List Value} {l : List α} {t : TypeId} {v : Value} {lo hi mx : Option Value} (hsl : Sl σ e sz enc v l) (g : Grow σ σ') : sliceOp P σ' t v lo hi mx = sliceOp P σ t v lo hi mx := by
  refine sliceOp_get fun i hi => ?_
  rcases hsl with ⟨rfl, _⟩ | ⟨i', off, cap, row, ro, rfl, _, hin, _⟩
  · cases hi
  · cases hi; exact g.old _ hin
end Go.Sm
/- The law's own reader of numbers. -/
set_option linter.unusedVariables false
set_option linter.unusedSimpArgs false
namespace Go.Sm
open Go Go.Proofs
set_option maxRecDepth 100000
set_option maxHeartbeats 4000000
theorem u64_mod (n : Nat) : IntKind.u64.wrap (n : Int) = ((n % 2 ^ 64 : Nat) : Int) := by
  have : IntKind.u64.wrap (n : Int) = (n : Int) % 2 ^ 64 := by simp [IntKind.wrap, IntKind.bits, IntKind.signed]
  rw [this]
  omega
/-- The number and how many bytes it has; nought and nought. -/
def tk (l : List UInt8) : Nat × Nat := match rd l with
  | some (n, r) => (n, l.length - r.length)
  | none => (0, 0)
/-- What is reckoned, from behind. -/
def vt (l : List UInt8) (i m : Nat) : Nat := valB ((l.take (i + 1)).drop m) % 2 ^ 64
theorem vt_step (l : List UInt8) (i q : Nat) (hi : i < l.length) (hq : q ≤ i) : IntKind.u64.wrap (IntKind.u64.wrap ((vt l i (q + 1) : Nat) * 128) + (l[q].toNat : Int) % 128) = (vt l i q : Nat) := by
  have hstep : valB ((l.take (i + 1)).drop q) = l[q].toNat % 128 + 128 * valB ((l.take (i + 1)).drop (q + 1)) := by
    have hq2 : q < (l.take (i + 1)).length := by rw [List.length_take]; omega
    rw [List.drop_eq_getElem_cons hq2, List.getElem_take]
    rfl
  unfold vt
  rw [hstep]
  generalize valB ((l.take (i + 1)).drop (q + 1)) = x
  have e : ∀ y : Nat, ((y : Int) * 128) = ((y * 128 : Nat) : Int) := fun y => by rw [Int.natCast_mul]; rfl
  have e2 : ∀ a b : Nat, ((a : Int) + (b : Int)) = ((a + b : Nat) : Int) := fun a b => by rw [Int.natCast_add]
  have e3 : ∀ c : Nat, ((c : Int) % 128) = ((c % 128 : Nat) : Int) := fun c => by omega
  rw [e, u64_mod, e3, e2, u64_mod]
  congr 1
  have : (2 : Nat) ^ 64 = 18446744073709551616 := by decide
  rw [this]
  omega
theorem vt_top (l : List UInt8) (i : Nat) : vt l i (i + 1) = 0 := by
  unfold vt
  rw [List.drop_of_length_le (by rw [List.length_take]; omega)]
  rfl
theorem take_spec (l : List UInt8) (v : Value) (σ : CSt) (hsl : Sl σ 5 1 encY v l) (hbig : l.length < 2 ^ 36) (Q : Out → CSt → Prop)
    (h : ∀ σ', Grow σ σ' → Q (.ret (.tuple #[.int .u64 (tk l).1, .int .i64 (tk l).2]) false) σ') : W E1 (.fn 47 #[v] none) σ Q := by
  rw [W_fn (fn := Tryz.f47) Tryz.func47 rfl rfl rfl]
  obtain ⟨pv, cv, rfl⟩ := hsl.form
  simp [wops_cons]
  refine W_loop_inv (fun n a s => ∃ tm, ∃ i : Nat, a = ⟨tm, 47, [], false⟩ ∧ tm.get 0 = some (.slice pv l.length cv) ∧ tm.get 4 = some (.int .i64 ((i : Int) + 1)) ∧ (i ≤ l.length ∧ i ≤ 10 ∧ n = 10 - i ∧ Hi (l.take i) ∧ s = σ)) ?_ 10 _ _ ?_
  · rintro n a s ⟨tm, i, rfl, t0, t4, hi, hi10, hn, hhi, rfl⟩
    have hnone : (l.length ≤ i ∨ 10 ≤ i) → tk l = (0, 0) := by
      intro hc
      unfold tk
      rcases hc with hc | hc
      · rw [List.take_of_length_le hc] at hhi
        rw [rd_hi hhi]
      · have : i = 10 := by omega
        subst this
        have e : rd l = none := by
          rw [← List.take_append_drop 10 l]
          exact rd_long hhi (by rw [List.length_take]; omega) _
        rw [e]
    by_cases h1 : i < l.length
    · have h1' : (i : Int) + 1 ≤ (l.length : Int) := by omega
      by_cases h2 : i < 10
      · have h2' : (i : Int) + 1 ≤ 10 := by omega
        have hw1 : IntKind.i64.wrap (i : Int) = (i : Int) := IntWalk.i64_in _ (by omega)
        have hw2 : IntKind.i64.wrap ((i : Int) + 1 + 1) = (i : Int) + 1 + 1 := IntWalk.i64_in _ (by omega)
        obtain ⟨j, off, row, ro, rfl, hgj, hjn, hrow, hle⟩ := hsl.at h1
        have hld := cell_y hrow i h1
        have hl1 := row_le hle i h1
        have hcu := u8_lt l[i]
        by_cases h128 : 128 ≤ l[i].toNat
        · have h128' : (128 : Int) ≤ (l[i].toNat : Int) := by omega
          simp [wops_cons, wops_if', dstOf, t0, t4, h1, h1', h2', hw1, hgj, hld, hl1, h128, h128', hw2]
          refine ⟨10 - (i + 1), by omega, i + 1, by simp, by omega, by omega, rfl, ?_⟩
          rw [List.take_succ_eq_append_getElem h1]
          intro y hy
          rcases List.mem_append.1 hy with hy | hy
          · exact hhi y hy
          · rw [List.mem_singleton.1 hy]; exact h128
        · have h128' : ¬ (128 : Int) ≤ (l[i].toNat : Int) := by omega
          simp [wops_cons, wops_if', dstOf, t0, t4, h1, h1', h2', hw1, hgj, hld, hl1, h128, h128', hw2]
          -- the number, from behind
          refine W_loop_J (fun n a z => ∃ tm, ∃ m : Nat, a = ⟨tm, 47, [], false⟩ ∧ tm.get 0 = some (.slice (some ⟨j, off, none⟩) l.length cv) ∧ tm.get 4 = some (.int .i64 ((i : Int) + 1)) ∧ tm.get 5 = some (.int .u64 (vt l i m : Nat)) ∧ tm.get 6 = some (.int .i64 ((m : Int) - 1)) ∧ (m ≤ i + 1 ∧ n = m ∧ z = s))
            (fun out z => ∃ tm, out = .code (.exit 2) ⟨tm, 47, [], false⟩ ∧ tm.get 0 = some (.slice (some ⟨j, off, none⟩) l.length cv) ∧ tm.get 4 = some (.int .i64 ((i : Int) + 1)) ∧ tm.get 5 = some (.int .u64 (vt l i 0 : Nat)) ∧ z = s) ?_ (i + 1) _ _ ?_ ?_
          · rintro n2 a2 z ⟨tm2, m, rfl, e0, e4, e5, e6, hm, hn2, rfl⟩
            rcases Nat.eq_zero_or_pos m with rfl | hpos
            · simp [wops_cons, e0, e4, e5, e6]
            · obtain ⟨q, rfl⟩ : ∃ q, m = q + 1 := ⟨m - 1, by omega⟩
              have hq : q < l.length := by omega
              have e6' : tm2.get 6 = some (.int .i64 (q : Int)) := by rw [e6]; congr 3; omega
              have hldq := cell_y hrow q hq
              have hlq := row_le hle q hq
              have hcq := u8_lt l[q]
              have htm : (l[q].toNat : Int).tmod 128 = (l[q].toNat : Int) % 128 := Int.tmod_eq_emod_of_nonneg (by omega)
              have hw5 : IntKind.u8.wrap ((l[q].toNat : Int) % 128) = (l[q].toNat : Int) % 128 := IntWalk.u8_in _ (by omega)
              have hw6 : IntKind.u64.wrap ((l[q].toNat : Int) % 128) = (l[q].toNat : Int) % 128 := IntWalk.u64_in _ (by omega)
              have hw3 : IntKind.i64.wrap ((q : Int) - 1) = (q : Int) - 1 := IntWalk.i64_in _ (by omega)
              have hvs := vt_step l i q h1 (by omega)
              have hqn : (0 : Int) ≤ (q : Int) := by omega
              have hql : (q : Int) < (l.length : Int) := by omega
              simp [wops_cons, e0, e4, e5, e6', hgj, hldq, hlq, hq, hqn, hql, hw3, hw5, hw6, htm, hvs]
              exact ⟨q, by omega, q, rfl, rfl, by omega, rfl⟩
          · refine ⟨_, i + 1, rfl, by simp [t0], by simp [t4], ?_, by simp [hw1], Nat.le_refl _, rfl, rfl⟩
            simp [vt_top]
          · rintro out z ⟨tm2, rfl, e0, e4, e5, rfl⟩
            obtain ⟨q, c', d1, d2⟩ := ysl_head hsl (i + 1) (by omega) .i64
            have hlt : (l.take (i + 1)).length = i + 1 := by rw [List.length_take]; omega
            have hti : (l.take i).length = i := by rw [List.length_take]; omega
            have e : l.take (i + 1) = l.take i ++ [l[i]] := List.take_succ_eq_append_getElem h1
            have hv0 : vt l i 0 = valB (l.take i ++ [l[i]]) % 2 ^ 64 := by unfold vt; rw [List.drop_zero, e]
            have hv64 : vt l i 0 < 2 ^ 64 := by rw [hv0]; exact Nat.mod_lt _ (by decide)
            have hl : l = l.take i ++ l[i] :: l.drop (i + 1) := by rw [← List.drop_eq_getElem_cons h1, List.take_append_drop]
            have hrd := rd_app hhi l[i] (by omega) (l.drop (i + 1))
            rw [← hl] at hrd
            have hnm := num_mod hhi l[i] (by omega) (by omega)
            rw [← hv0, ← e] at hnm
            rw [← e] at hrd hv0
            push_cast at d1
            simp [wops_cons, e0, e4, e5]
            refine W_drawn (l := [0, 2, 3, 4, 1, 5, 6]) (b := #[0, 1, 0, 0, 12, 31, 63]) (by kernel_rfl) (by kernel_rfl) (by kernel_rfl) ?_
            simp [dopsR_cons, opAt, isEff, again, befBits, isRead, Nat.add_assoc, e0, e4, e5, d1]
            refine lnum_spec (vt l i 0) z hv64 _ fun q2 c2 z1 h1 g1 => ?_
            have d1' := d1
            rw [← sliceOp_grow hsl g1] at d1'
            simp [dopsR_cons, opAt, isEff, again, befBits, isRead, Nat.add_assoc, e0, e4, e5, d1, d1', Nat.testBit_eq_decide_div_mod_eq]
            refine yeq_spec _ _ (num (vt l i 0)) (l.take (i + 1)) z1 h1.sl (d2.grow g1) (by have := num_len10 hv64; omega) (by omega) _ ?_
            by_cases hc : num (vt l i 0) = l.take (i + 1)
            · have hcc := hnm.1 hc
              rw [if_pos ⟨by omega, hcc⟩] at hrd
              have h0 : (tk l) = (vt l i 0, i + 1) := by
                have e2 : vt l i 0 = valB (l.take (i + 1)) := by rw [← val_num (vt l i 0), hc]
                unfold tk
                rw [hrd, e2]
                simp only [List.length_drop]
                congr 1
                omega
              have hQ := h z1 g1
              rw [h0] at hQ
              simp [wops_cons, dopsR_cons, opAt, isEff, again, befBits, isRead, Nat.add_assoc, e0, e4, e5, hc]
              simpa using hQ
            · have hcc : ¬ ((l[i].toNat ≠ 0 ∨ l.take i = []) ∧ ((l.take i).length = 9 → l[i].toNat ≤ 1)) := fun hh => hc (hnm.2 hh)
              rw [if_neg (fun hh => hcc hh.2)] at hrd
              have h0 : (tk l) = (0, 0) := by
                unfold tk
                rw [hrd]
              have hQ := h z1 g1
              rw [h0] at hQ
              simpa [wops_cons, dopsR_cons, opAt, isEff, again, befBits, isRead, Nat.add_assoc, e0, e4, e5, hc] using hQ
      · have h2' : ¬ (i : Int) + 1 ≤ 10 := by omega
        have hQ := h s (Grow.refl s)
        rw [hnone (.inr (by omega))] at hQ
        simpa [wops_cons, wops_if', dstOf, t0, t4, h1, h1', h2'] using hQ
    · have h1' : ¬ (i : Int) + 1 ≤ (l.length : Int) := by omega
      have hQ := h s (Grow.refl s)
      rw [hnone (.inl (by omega))] at hQ
      simpa [wops_cons, wops_if', dstOf, t0, t4, h1, h1'] using hQ
  · exact ⟨_, 0, rfl, by simp, by simp, by omega, by omega, rfl, (fun _ h => absurd h (by simp)), rfl⟩
end Go.Sm
/- s[lo:hi] of a string. -/
set_option linter.unusedVariables false
set_option linter.unusedSimpArgs false
namespace Go.Sm
open Go
section
variable {P : Program} {σ : CSt} {ev : Operand → Value} {dst : Option Tmp} {ty : TypeId} {pos : String} {after : Array Edge} {g : Option (Nat × Bool)}
variable {t : TypeId} {x : Operand} {lo hi : Option Operand}
/-- The rest of the rule, not looked into. -/
def flatZ (P : Program) (σ : CSt) (ev : Operand → Value) (o : Oper) : OpR := flatOp P σ ev o
def slS (fl : OpR) (ok : Bool) (σ : CSt) : Value → Option Value → Option Value → OpR
  | .string s, lo, hi => match lo, hi with
    | none, none => if ok = true then .val (.string (s.extract 0 s.size)) σ else fl
    | none, some (.int _ b) => if ok = true ∧ 0 ≤ b ∧ b ≤ (s.size : Int) then .val (.string (s.extract 0 b.toNat)) σ else fl
    | some (.int _ a), none => if ok = true ∧ 0 ≤ a ∧ a ≤ (s.size : Int) then .val (.string (s.extract a.toNat s.size)) σ else fl
    | some (.int _ a), some (.int _ b) => if ok = true ∧ 0 ≤ a ∧ a ≤ b ∧ b ≤ (s.size : Int) then .val (.string (s.extract a.toNat b.toNat)) σ else fl
    | _, _ => fl
  | _, _, _ => fl
theorem strT_of (h : strT P t = true) : P.underlying t = some .string := by
  unfold strT at h
  split at h
  · assumption
  · cases h
@[simp] theorem flat_slice : flatOp P σ ev ⟨dst, .slice t x lo hi none, ty, pos, after, g⟩ = slS (flatZ P σ ev ⟨dst, .slice t x lo hi none, ty, pos, after, g⟩) (strT P t) σ (ev x) (lo.map ev) (hi.map ev) := by
  cases hx : ev x with
  | string s =>
    cases lo with
    | none =>
      cases hi with
      | none =>
        simp only [slS, Option.map_none]
        split
        · rename_i hok
          have ht := strT_of hok
          unfold flatOp
          simp [Op.operands, hx, Sm.flat, flat0, execOp, pureRun_bind, Instr.sliceAt, Instr.slice, pureRun_underlying, ht, Instr.sliceBounds]
        · rfl
      | some b =>
        simp only [Option.map_none, Option.map_some]
        cases hb : ev b with
        | int k b' =>
          simp only [slS]
          split
          · rename_i hok
            have ht := strT_of hok.1
            unfold flatOp
            have h1 := hok.2.1
            have h2 := hok.2.2
            simp [Op.operands, hx, hb, Sm.flat, flat0, execOp, pureRun_bind, Instr.sliceAt, Instr.slice, pureRun_underlying, ht, Instr.sliceBounds, Instr.sliceBound, asIntOf, h1, h2]
          · rfl
        | _ => rfl
    | some a =>
      cases hi with
      | none =>
        simp only [Option.map_none, Option.map_some]
        cases ha : ev a with
        | int k a' =>
          simp only [slS]
          split
          · rename_i hok
            have ht := strT_of hok.1
            unfold flatOp
            have h1 := hok.2.1
            have h2 := hok.2.2
            simp [Op.operands, hx, ha, Sm.flat, flat0, execOp, pureRun_bind, Instr.sliceAt, Instr.slice, pureRun_underlying, ht, Instr.sliceBounds, Instr.sliceBound, asIntOf, h1, h2]
          · rfl
        | _ => rfl
      | some b =>
        simp only [Option.map_none, Option.map_some]
        cases ha : ev a with
        | int k a' =>
          cases hb : ev b with
          | int k b' =>
            simp only [slS]
            split
            · rename_i hok
              have ht := strT_of hok.1
              unfold flatOp
              have h1 := hok.2.1
              have h2 := hok.2.2.1
              have h3 := hok.2.2.2
              have h4 : 0 ≤ b' := by omega
              have h5 : a' ≤ max b' 0 := by omega
              simp [Op.operands, hx, ha, hb, Sm.flat, flat0, execOp, pureRun_bind, Instr.sliceAt, Instr.slice, pureRun_underlying, ht, Instr.sliceBounds, Instr.sliceBound, asIntOf, h1, h3, h4, h5]
            · rfl
          | _ => rfl
        | _ => rfl
  | _ => rfl
@[simp] theorem sliceOp_str {s : ByteArray} {a b c : Option Value} : sliceOp P σ t (.string s) a b c = none := by
  unfold sliceOp
  cases elemOf? P t <;> rfl
end
end Go.Sm
/- The law's records: keys, Make; Encode by definition; Same. -/
set_option linter.unusedVariables false
set_option linter.unusedSimpArgs false
namespace Go.Sm
open Go Go.Proofs
set_option maxRecDepth 100000
set_option maxHeartbeats 4000000
theorem u9 : Tryz.prog.underlying 9 = some .string := by kernel_rfl
theorem u21 : Tryz.prog.underlying 21 = some (.int .i32) := by kernel_rfl
theorem cv9 {σ : CSt} (k : IntKind) (n : Int) : convF Tryz.prog σ 21 9 (.int k n) = .val (.string (Utf8.encode n)) σ := convF_str ⟨_, u21⟩ u9 k n
theorem enc_low : ∀ n : Fin 128, Utf8.encode (n.val : Int) = ⟨[UInt8.ofNat n.val].toArray⟩ := by decide
theorem enc_one (n : Nat) (h : n < 128) : Utf8.encode (n : Int) = ⟨[UInt8.ofNat n].toArray⟩ := enc_low ⟨n, h⟩
/-- Keys that rise with their numbers. -/
def key13 (n : Nat) : ByteArray := str (UInt8.ofNat (97 + n / 16) :: List.replicate (n % 16 * 2) 107)
theorem key13_size (n : Nat) : (key13 n).size = n % 16 * 2 + 1 := by rw [key13, size_str]; simp
theorem awake_spec {f : FuncId} (hf : E1.gam f = some awakeG) {σ : CSt} (hn : gnone σ) {Q : Out → CSt → Prop} : W E1 (.fn f #[] none) σ Q = Q (.ret (.bool true) false) σ :=
  W_gam hf rfl (by unfold awakeG; rw [if_pos ⟨rfl, hn⟩])
theorem rep_spec {σ : CSt} {s : ByteArray} {c : Int} {m : Nat} (h0 : c = m) (h1 : m < 2 ^ 62) (h2 : s.size * m ≤ 2 ^ 47) {Q : Out → CSt → Prop} : W E1 (.fn 67 #[.string s, .int .i64 c] none) σ Q = Q (.ret (.string (repS s m)) false) σ := by
  subst h0
  exact W_gam (g := repG) rfl rfl (by unfold repG; simp only [Int.toNat_natCast]; rw [if_pos ⟨by omega, by omega, h2⟩])
theorem repS_one (b : UInt8) (n : Nat) : repS ⟨#[b]⟩ n = str (List.replicate n b) := by
  unfold repS str
  congr 2
  induction n with
  | zero => rfl
  | succ n ih => rw [List.replicate_succ, List.flatten_cons, ih]; rfl
theorem key_spec (n : Nat) (hn : n < 256) (σ : CSt) (Q : Out → CSt → Prop) (h : Q (.ret (.string (key13 n)) false) σ) : W E1 (.fn 49 #[.int .u8 n] none) σ Q := by
  rw [W_fn (fn := Tryz.f49) Tryz.func49 rfl rfl rfl]
  have h1 : ((n : Int) / 16) = ((n / 16 : Nat) : Int) := by omega
  have h2 : IntKind.u8.wrap ((n / 16 : Nat) : Int) = ((n / 16 : Nat) : Int) := IntWalk.u8_in _ (by omega)
  have h3 : IntKind.u8.wrap (97 + ((n / 16 : Nat) : Int)) = ((97 + n / 16 : Nat) : Int) := by rw [IntWalk.u8_in _ (by omega)]; omega
  have h4 : IntKind.i32.wrap ((97 + n / 16 : Nat) : Int) = ((97 + n / 16 : Nat) : Int) := IntWalk.i32_in _ (by omega)
  have h5 : (n : Int).tmod 16 = ((n % 16 : Nat) : Int) := by rw [Int.tmod_eq_emod_of_nonneg (by omega)]; omega
  have h6 : IntKind.i64.wrap (((n % 16 : Nat) : Int)) = ((n % 16 : Nat) : Int) := IntWalk.i64_in _ (by omega)
  have h7 : IntKind.i64.wrap (((n % 16 : Nat) : Int) * 2) = ((n % 16 * 2 : Nat) : Int) := by rw [IntWalk.i64_in _ (by omega)]; omega
  have hk : IntKind.i64.wrap (IntKind.i64.wrap ((n : Int).tmod 16) * 2) = ((n % 16 * 2 : Nat) : Int) := by rw [h5, h6, h7]
  have hc : Utf8.encode (IntKind.i32.wrap (IntKind.u8.wrap (97 + IntKind.u8.wrap ((n : Int) / 16)))) = ⟨[UInt8.ofNat (97 + n / 16)].toArray⟩ := by rw [h1, h2, h3, h4, enc_one _ (by omega)]
  have ht : IntKind.u8.wrap ((n : Int).tmod 16) = (n : Int).tmod 16 := by rw [h5]; exact IntWalk.u8_in _ (by omega)
  simp [wops_cons, cv9, hk, hc, ht]
  have e1 : (⟨#[107]⟩ : ByteArray).size = 1 := rfl
  rw [rep_spec (m := n % 16 * 2) (by omega) (by omega) (by rw [e1]; omega), repS_one]
  have hb := bin_stradd (P := Tryz.prog) (σ := σ) (t := 9) (x := .tmp 7) (y := .tmp 12) [UInt8.ofNat (97 + n / 16)] (List.replicate (n % 16 * 2) 107) (by simp; omega)
  simp at hb
  simp [wops_cons, str, hb]
  simpa [key13, str] using h
end Go.Sm
/- The law's records, plain: which keys, in which order. -/
set_option linter.unusedVariables false
set_option linter.unusedSimpArgs false
namespace Go.Sm
set_option maxRecDepth 100000
theorem klt_str (a b : List UInt8) : klt (str a) (str b) = bl a b := by
  unfold klt str
  rw [ByteArray.toList_eq, ByteArray.toList_eq]
theorem bl_cons (a b : UInt8) (x y : List UInt8) : bl (a :: x) (b :: y) = (decide (a < b) || (a == b && bl x y)) := rfl
theorem bl_rep (c : UInt8) : ∀ {m n : Nat}, m < n → bl (List.replicate m c) (List.replicate n c) = true
  | 0, n + 1, _ => rfl
  | m + 1, n + 1, h => by
    rw [List.replicate_succ, List.replicate_succ, bl_cons, bl_rep c (Nat.lt_of_succ_lt_succ h)]
    simp
theorem key13_lt {j k : Nat} (h : j < k) (hk : k < 256) : klt (key13 j) (key13 k) = true := by
  unfold key13
  rw [klt_str, bl_cons]
  by_cases e : j / 16 = k / 16
  · rw [e, bl_rep _ (by omega)]
    simp
  · have : UInt8.ofNat (97 + j / 16) < UInt8.ofNat (97 + k / 16) := by
      rw [UInt8.lt_iff_toNat_lt, ofNat_toNat (by omega), ofNat_toNat (by omega)]
      omega
    rw [decide_eq_true this]
    rfl
theorem klt_irrefl (a : ByteArray) : klt a a = false := bl_irrefl _
theorem klt_trans {a b c : ByteArray} (h : klt a b = true) (h' : klt b c = true) : klt a c = true := bl_trans h h'
theorem key13_ne {j k : Nat} (h : j < k) (hk : k < 256) : key13 j ≠ key13 k := fun e => by
  have := key13_lt h hk
  rw [e, klt_irrefl] at this
  cases this
/-- A write, by small numbers. -/
structure LW where
  key : Nat
  v : ByteArray
  gone : Bool
  deriving DecidableEq
def cutV (s : ByteArray) : ByteArray := s.extract 0 (min s.size 200)
def mkW (at_ : Nat) (w : LW) : Wri := ⟨key13 w.key, ⟨at_, if w.gone then str [] else cutV w.v, w.gone⟩⟩
/-- What one more does, in the round of a key. -/
def stepM (at_ k : Nat) (acc : List Wri) (w : LW) : List Wri := if w.key = k ∧ ¬ (acc.getLast?.map (·.key) = some (key13 w.key)) then acc ++ [mkW at_ w] else acc
def roundM (at_ : Nat) (l : List LW) (acc : List Wri) (k : Nat) : List Wri := l.foldl (stepM at_ k) acc
def makeM (at_ : Nat) (l : List LW) (n : Nat) : List Wri := (List.range n).foldl (roundM at_ l) []
def makeR (a : Nat) (l : List LW) : Rcd := ⟨1 + a % 2 ^ 40, makeM (1 + a % 2 ^ 40) l 256⟩
/-- All keys so far are below a number. -/
def Upto (at_ k : Nat) (acc : List Wri) : Prop := acc.length ≤ k ∧ Rise acc ∧ ∀ x ∈ acc, GoodW at_ x ∧ ∃ j, j < k ∧ x.key = key13 j
theorem goodW_mk (at_ : Nat) (w : LW) : GoodW at_ (mkW at_ w) := by
  have h1 := key13_size w.key
  refine ⟨by show 1 ≤ (key13 w.key).size; omega, by show (key13 w.key).size ≤ 32; omega, ⟨fun h => ?_, ?_⟩, rfl⟩
  · show (if w.gone then str [] else cutV w.v) = str []
    have : w.gone = true := h
    rw [if_pos this]
  · show (if w.gone then str [] else cutV w.v).size ≤ 200
    split
    · rw [size_str]; simp
    · unfold cutV
      rw [ByteArray.size_extract]
      omega
theorem upto_succ {at_ k : Nat} {acc : List Wri} (h : Upto at_ k acc) : Upto at_ (k + 1) acc :=
  ⟨by have := h.1; omega, h.2.1, fun x hx => ⟨(h.2.2 x hx).1, by obtain ⟨j, h1, h2⟩ := (h.2.2 x hx).2; exact ⟨j, by omega, h2⟩⟩⟩
theorem round_ok {at_ k : Nat} (hk : k < 256) : ∀ (l : List LW) (acc : List Wri), Upto at_ k acc ∨ (Upto at_ (k + 1) acc ∧ acc.getLast?.map (·.key) = some (key13 k)) → Upto at_ (k + 1) (roundM at_ l acc k)
  | [], acc, h => by
    rcases h with h | h
    · exact upto_succ h
    · exact h.1
  | w :: l, acc, h => by
    show Upto at_ (k + 1) (roundM at_ l (stepM at_ k acc w) k)
    refine round_ok hk l _ ?_
    unfold stepM
    split
    · rename_i hc
      obtain ⟨rfl, h2⟩ := hc
      rcases h with h | h
      · refine .inr ⟨⟨by have := h.1; simp; omega, ?_, ?_⟩, by simp [mkW]⟩
        · refine List.pairwise_append.2 ⟨h.2.1, List.pairwise_singleton _ _, fun x hx y hy => ?_⟩
          obtain rfl := List.mem_singleton.1 hy
          obtain ⟨j, h3, h4⟩ := (h.2.2 x hx).2
          rw [h4]
          exact key13_lt h3 hk
        · intro x hx
          rcases List.mem_append.1 hx with hx | hx
          · exact (upto_succ h).2.2 x hx
          · obtain rfl := List.mem_singleton.1 hx
            exact ⟨goodW_mk _ _, _, Nat.lt_succ_self _, rfl⟩
      · exact absurd h.2 h2
    · exact h
theorem makeM_succ (at_ : Nat) (l : List LW) (n : Nat) : makeM at_ l (n + 1) = roundM at_ l (makeM at_ l n) n := by
  unfold makeM
  rw [List.range_succ, List.foldl_append]
  rfl
theorem makeM_ok (at_ : Nat) (l : List LW) : ∀ n, n ≤ 256 → Upto at_ n (makeM at_ l n)
  | 0, _ => ⟨Nat.le_refl _, List.Pairwise.nil, fun _ h => absurd h (by simp [makeM])⟩
  | n + 1, h => by
    rw [makeM_succ]
    exact round_ok (by omega) l _ (.inl (makeM_ok at_ l n (by omega)))
theorem makeR_ok (a : Nat) (l : List LW) : GoodR (makeR a l) := by
  have h := makeM_ok (1 + a % 2 ^ 40) l 256 (Nat.le_refl _)
  refine ⟨by show 1 ≤ 1 + a % 2 ^ 40; omega, by show 1 + a % 2 ^ 40 ≤ 2 ^ 40; omega, fun w hw => (h.2.2 w hw).1, h.2.1⟩
theorem makeR_len (a : Nat) (l : List LW) : (makeR a l).ws.length ≤ 256 := (makeM_ok (1 + a % 2 ^ 40) l 256 (Nat.le_refl _)).1
theorem serText_len (s : ByteArray) (h : s.size < 2 ^ 64) : (serText s).length ≤ s.size + 10 := by
  have := num_len10 h
  rw [serText, List.length_append, len_byt]
  omega
theorem serVer_len (v : Ver) (h : v.val.size < 2 ^ 63) : (serVer v).length ≤ v.val.size + 10 := by
  unfold serVer
  split
  · simp
  · have := num_len10 (n := v.val.size + 1) (by omega)
    rw [List.length_append, len_byt]
    omega
theorem flat_le {α : Type} (f : α → List UInt8) (c : Nat) (l : List α) (h : ∀ x ∈ l, (f x).length ≤ c) : (l.flatMap f).length ≤ c * l.length := by
  induction l with
  | nil => simp
  | cons x l ih =>
    have h1 := h x List.mem_cons_self
    have h2 := ih fun y hy => h y (List.mem_cons_of_mem _ hy)
    rw [List.flatMap_cons, List.length_append, List.length_cons, Nat.mul_succ]
    omega
theorem goodR_len {r : Rcd} (h : GoodR r) (hl : r.ws.length < 2 ^ 64) : (serR r).length ≤ 20 + 252 * r.ws.length := by
  have h1 := h.at2
  have e1 := num_len10 (n := r.at_) (by omega)
  have e2 := num_len10 hl
  have e3 := flat_le serW 252 r.ws fun w hw => by
    obtain ⟨a, b, ⟨c, d⟩, e⟩ := h.ws w hw
    have k1 := serText_len w.key (by omega)
    have k2 := serVer_len w.ver (by omega)
    rw [serW, List.length_append]
    omega
  unfold serR
  simp only [List.length_append]
  omega
end Go.Sm
