/- Part SmChain of the proof. -/
import Derived.Test.YtngpgkbkelcihaaGreatDoorSmFacts
import Derived.Test.YtngpgkbkelcihaaGreatDoorSmC
/- Chains of versions as lists: plain facts. -/
namespace Go.Sm

structure Ver where
  at_ : Int
  val : ByteArray
  gone : Bool
  deriving DecidableEq

/-- The times rise. -/
def Srt (c : List Ver) : Prop := c.Pairwise fun a b => a.at_ < b.at_
/-- The version of a time. -/
def lk (c : List Ver) (t : Int) : Option Ver := c.find? fun v => v.at_ == t

theorem get_mem_drop {α : Type} {l : List α} {k : Nat} (h : k < l.length) : l[k] ∈ l.drop k := by rw [List.drop_eq_getElem_cons h]; exact List.mem_cons_self
theorem lk_none_of {c : List Ver} {t : Int} (h : ∀ v ∈ c, v.at_ ≠ t) : lk c t = none := by
  simp only [lk, List.find?_eq_none]
  intro v hv
  simpa using h v hv
theorem lk_cons (v : Ver) (c : List Ver) (t : Int) : lk (v :: c) t = if v.at_ = t then some v else lk c t := by
  simp only [lk, List.find?_cons]
  by_cases h : v.at_ = t
  · simp [h]
  · have : (v.at_ == t) = false := by simpa using h
    rw [this, if_neg h]
theorem lk_append (c d : List Ver) (t : Int) : lk (c ++ d) t = (lk c t).or (lk d t) := by simp [lk, List.find?_append]
theorem lk_some {c : List Ver} {t : Int} {v : Ver} (h : lk c t = some v) : v ∈ c ∧ v.at_ = t := by
  simp only [lk] at h
  exact ⟨List.mem_of_find?_eq_some h, by simpa using List.find?_some h⟩
theorem Srt.tail {v : Ver} {c : List Ver} (h : Srt (v :: c)) : Srt c := (List.pairwise_cons.1 h).2
theorem Srt.head {v : Ver} {c : List Ver} (h : Srt (v :: c)) : ∀ u ∈ c, v.at_ < u.at_ := (List.pairwise_cons.1 h).1
theorem Srt.lk_mem {c : List Ver} (h : Srt c) {v : Ver} (hv : v ∈ c) : lk c v.at_ = some v := by
  induction c with
  | nil => cases hv
  | cons u c ih =>
    rw [lk_cons]
    rcases List.mem_cons.1 hv with rfl | hv
    · simp
    · have := h.head v hv
      rw [if_neg (by omega)]
      exact ih h.tail hv
theorem Srt.ext : ∀ {c d : List Ver}, Srt c → Srt d → (∀ t, lk c t = lk d t) → c = d
  | [], [], _, _, _ => rfl
  | [], v :: d, _, _, h => by have := h v.at_; rw [lk_cons, if_pos rfl] at this; cases this
  | v :: c, [], _, _, h => by have := h v.at_; rw [lk_cons, if_pos rfl] at this; cases this
  | u :: c, v :: d, hc, hd, h => by
    have h1 := h u.at_
    rw [lk_cons, if_pos rfl, lk_cons] at h1
    have h2 := h v.at_
    rw [lk_cons, lk_cons, if_pos rfl] at h2
    have he : u = v := by
      by_cases e : v.at_ = u.at_
      · rw [if_pos e] at h1; exact Option.some.inj h1
      · rw [if_neg e] at h1
        rw [if_neg (Ne.symm e)] at h2
        have a := hd.head u (lk_some h1.symm).1
        have b := hc.head v (lk_some h2).1
        omega
    subst he
    rw [Srt.ext hc.tail hd.tail fun t => by
      have := h t
      rw [lk_cons, lk_cons] at this
      by_cases e : u.at_ = t
      · rw [lk_none_of fun x hx => by have := hc.head x hx; omega, lk_none_of fun x hx => by have := hd.head x hx; omega]
      · rwa [if_neg e, if_neg e] at this]

/-! ### A version more -/
def putL (c : List Ver) (v : Ver) : List Ver := (c.filter fun u => decide (u.at_ < v.at_)) ++ v :: c.filter fun u => decide (v.at_ < u.at_)
theorem Srt.filter {c : List Ver} (h : Srt c) (p : Ver → Bool) : Srt (c.filter p) := List.Pairwise.filter p h
theorem Srt.put {c : List Ver} (h : Srt c) (v : Ver) : Srt (putL c v) := by
  unfold putL Srt
  rw [List.pairwise_append]
  refine ⟨h.filter _, List.pairwise_cons.2 ⟨fun u hu => by simp at hu; exact hu.2, h.filter _⟩, fun a ha b hb => ?_⟩
  simp at ha hb
  rcases hb with rfl | hb
  · exact ha.2
  · omega
theorem lk_filter {c : List Ver} (p : Ver → Bool) (t : Int) (hp : ∀ v, v.at_ = t → p v = true) : lk (c.filter p) t = lk c t := by
  induction c with
  | nil => rfl
  | cons v c ih =>
    rw [List.filter_cons, lk_cons]
    by_cases e : v.at_ = t
    · rw [if_pos (hp v e), lk_cons, if_pos e, if_pos e]
    · rw [if_neg e]
      split
      · rw [lk_cons, if_neg e, ih]
      · exact ih
theorem lk_filter_none {c : List Ver} (p : Ver → Bool) (t : Int) (hp : ∀ v, v.at_ = t → p v = false) : lk (c.filter p) t = none :=
  lk_none_of fun v hv e => by
    have := (List.mem_filter.1 hv).2
    rw [hp v e] at this
    cases this
theorem lk_put (c : List Ver) (v : Ver) (t : Int) : lk (putL c v) t = if v.at_ = t then some v else lk c t := by
  unfold putL
  rw [lk_append, lk_cons]
  by_cases e : v.at_ = t
  · rw [if_pos e, if_pos e, lk_filter_none _ t fun u hu => by simp; omega]; rfl
  · rw [if_neg e, if_neg e]
    by_cases h : t < v.at_
    · rw [lk_filter _ t fun u hu => by simp; omega, lk_filter_none _ t fun u hu => by simp; omega, Option.or_none]
    · rw [lk_filter_none _ t fun u hu => by simp; omega, lk_filter _ t fun u hu => by simp; omega, Option.none_or]

/-! ### By definition -/
def makeL (l : List Ver) : List Ver := l.foldl putL []
def lastAt (l : List Ver) (t : Int) : Option Ver := (l.filter fun v => v.at_ == t).getLast?
def plainL (l : List Ver) : List Ver := (List.range 256).filterMap fun t : Nat => lastAt l t
theorem lastAt_snoc (l : List Ver) (v : Ver) (t : Int) : lastAt (l ++ [v]) t = if v.at_ = t then some v else lastAt l t := by
  unfold lastAt
  rw [List.filter_append]
  by_cases e : v.at_ = t <;> simp [e]
theorem makeL_snoc (l : List Ver) (v : Ver) : makeL (l ++ [v]) = putL (makeL l) v := by simp [makeL]
theorem lastAt_at {l : List Ver} {t : Int} {v : Ver} (h : lastAt l t = some v) : v ∈ l ∧ v.at_ = t := by
  have := List.mem_of_getLast? h
  simpa using this
theorem rev_ind {α : Type} {P : List α → Prop} (h0 : P []) (h1 : ∀ l a, P l → P (l ++ [a])) (l : List α) : P l := by
  have : ∀ m : List α, P m.reverse := by
    intro m
    induction m with
    | nil => exact h0
    | cons a m ih => rw [List.reverse_cons]; exact h1 _ _ ih
  have := this l.reverse
  rwa [List.reverse_reverse] at this
theorem makeL_srt (l : List Ver) : Srt (makeL l) := rev_ind (P := fun l => Srt (makeL l)) List.Pairwise.nil (fun l v ih => by rw [makeL_snoc]; exact ih.put v) l
theorem lk_makeL (l : List Ver) (t : Int) : lk (makeL l) t = lastAt l t :=
  rev_ind (P := fun l => lk (makeL l) t = lastAt l t) rfl (fun l v ih => by rw [makeL_snoc, lk_put, lastAt_snoc, ih]) l
theorem range_srt (l : List Ver) : ∀ (n : Nat), Srt ((List.range n).filterMap fun t : Nat => lastAt l t) ∧ (∀ v ∈ ((List.range n).filterMap fun t : Nat => lastAt l t), v.at_ < n) ∧
    ∀ t : Int, lk ((List.range n).filterMap fun t : Nat => lastAt l t) t = if 0 ≤ t ∧ t < n then lastAt l t else none
  | 0 => ⟨List.Pairwise.nil, by simp, fun t => by simp [lk]; intro h h'; omega⟩
  | n + 1 => by
    obtain ⟨h1, h2, h3⟩ := range_srt l n
    have hone : ∀ t : Int, lk ([n].filterMap fun t : Nat => lastAt l t) t = if t = n then lastAt l t else none := by
      intro t
      cases hl : lastAt l (n : Int) with
      | none => by_cases e : t = n <;> simp [hl, lk, e]
      | some v =>
        have := (lastAt_at hl).2
        simp only [List.filterMap_cons, hl, List.filterMap_nil, lk_cons, this]
        by_cases e : t = n
        · subst e; simp [hl]
        · rw [if_neg (Ne.symm e), if_neg e]; rfl
    have hmem : ∀ v ∈ ([n].filterMap fun t : Nat => lastAt l t), v.at_ = n := by
      intro v hv
      simp at hv
      exact (lastAt_at hv).2
    simp only [List.range_succ, List.filterMap_append]
    refine ⟨?_, fun v hv => ?_, fun t => ?_⟩
    · unfold Srt
      rw [List.pairwise_append]
      refine ⟨h1, ?_, fun a ha b hb => ?_⟩
      · simp only [List.filterMap_cons, List.filterMap_nil]
        split <;> simp
      · rw [hmem b hb]; exact h2 a ha
    · rcases List.mem_append.1 hv with hv | hv
      · have := h2 v hv; omega
      · have := hmem v hv; omega
    · rw [lk_append, h3, hone]
      by_cases a : 0 ≤ t ∧ t < n
      · rw [if_pos a, if_neg (by omega), if_pos (by omega), Option.or_none]
      · rw [if_neg a, Option.none_or]
        by_cases b : t = n
        · rw [if_pos b, if_pos (by omega)]
        · rw [if_neg b, if_neg (by omega)]
theorem make_plain (l : List Ver) (h : ∀ v ∈ l, 0 ≤ v.at_ ∧ v.at_ < 256) : makeL l = plainL l := by
  obtain ⟨h1, _, h3⟩ := range_srt l 256
  refine Srt.ext (makeL_srt l) h1 fun t => ?_
  unfold plainL
  rw [lk_makeL, h3]
  by_cases a : 0 ≤ t ∧ t < (256 : Nat)
  · rw [if_pos a]
  · rw [if_neg a]
    cases hl : lastAt l t with
    | none => rfl
    | some v =>
      obtain ⟨m, e⟩ := lastAt_at hl
      have := h v m
      omega

/-! ### What a search finds -/
theorem filter_take {α : Type} {l : List α} {k : Nat} (p : α → Bool) (h1 : ∀ x ∈ l.take k, p x = true) (h2 : ∀ x ∈ l.drop k, p x = false) : l.filter p = l.take k := by
  conv => lhs; rw [← List.take_append_drop k l]
  rw [List.filter_append, List.filter_eq_self.2 h1, List.filter_eq_nil_iff.2 fun x hx => by simp [h2 x hx], List.append_nil]
theorem filter_drop {α : Type} {l : List α} {k : Nat} (p : α → Bool) (h1 : ∀ x ∈ l.take k, p x = false) (h2 : ∀ x ∈ l.drop k, p x = true) : l.filter p = l.drop k := by
  conv => lhs; rw [← List.take_append_drop k l]
  rw [List.filter_append, List.filter_eq_self.2 h2, List.filter_eq_nil_iff.2 fun x hx => by simp [h1 x hx], List.nil_append]
/-- What the search tells: how many are below a time. -/
structure Found (c : List Ver) (t : Int) (k : Nat) : Prop where
  le : k ≤ c.length
  lo : ∀ v ∈ c.take k, v.at_ < t
  hi : ∀ v ∈ c.drop k, t ≤ v.at_
theorem Found.lk {c : List Ver} {t : Int} {k : Nat} (hs : Srt c) (h : Found c t k) : Sm.lk c t = if h : k < c.length then (if c[k].at_ = t then some c[k] else none) else none := by
  have e1 : c.take k ++ c.drop k = c := List.take_append_drop k c
  rw [← e1, lk_append, lk_none_of (c := c.take k) fun v hv => by have := h.lo v hv; omega, Option.none_or, e1]
  split
  · rename_i hk
    rw [List.drop_eq_getElem_cons hk, lk_cons]
    split
    · rfl
    · rename_i hne
      have h1 := h.hi c[k] (get_mem_drop hk)
      refine lk_none_of fun v hv => ?_
      have hs2 : Srt (c.drop k) := List.Pairwise.sublist (List.drop_sublist k c) hs
      rw [List.drop_eq_getElem_cons hk] at hs2
      have := hs2.head v hv
      omega
  · rw [List.drop_of_length_le (by omega)]; rfl
theorem Found.put_ins {c : List Ver} {v : Ver} {k : Nat} (hs : Srt c) (h : Found c v.at_ k) (hn : ∀ hk : k < c.length, c[k].at_ ≠ v.at_) : putL c v = c.take k ++ v :: c.drop k := by
  unfold putL
  rw [filter_take (k := k) _ (fun x hx => by simpa using h.lo x hx) fun x hx => by simpa using h.hi x hx]
  rw [filter_drop (k := k) _ (fun x hx => by have := h.lo x hx; simp; omega) fun x hx => ?_]
  have h1 := h.hi x hx
  have hk : k < c.length := by
    by_cases hk : k < c.length
    · exact hk
    · rw [List.drop_of_length_le (by omega)] at hx; cases hx
  have h2 := hn hk
  have hs2 : Srt (c.drop k) := List.Pairwise.sublist (List.drop_sublist k c) hs
  have h3 := h.hi c[k] (get_mem_drop hk)
  rw [List.drop_eq_getElem_cons hk] at hx hs2
  rcases List.mem_cons.1 hx with rfl | hx
  · simp; omega
  · have := hs2.head x hx
    simp; omega
theorem Found.put_set {c : List Ver} {v : Ver} {k : Nat} (hs : Srt c) (h : Found c v.at_ k) (hk : k < c.length) (he : c[k].at_ = v.at_) : putL c v = c.set k v := by
  unfold putL
  rw [filter_take (k := k) _ (fun x hx => by simpa using h.lo x hx) fun x hx => by simpa using h.hi x hx]
  rw [filter_drop (k := k + 1) _ (fun x hx => ?_) fun x hx => ?_]
  · rw [List.set_eq_take_append_cons_drop, if_pos hk]
  · rw [List.take_succ_eq_append_getElem hk] at hx
    simp only [List.mem_append, List.mem_singleton] at hx
    rcases hx with hx | rfl
    · have := h.lo x hx; simp; omega
    · simp; omega
  · have hs2 : Srt (c.drop k) := List.Pairwise.sublist (List.drop_sublist k c) hs
    rw [List.drop_eq_getElem_cons hk] at hs2
    have := hs2.head x hx
    simp; omega

/-! ### The last one up to a time -/
def atL (c : List Ver) (t : Int) : Option Ver := (c.filter fun v => decide (v.at_ ≤ t)).getLast?
/-- How many are at most at a time. -/
theorem Found.upto {c : List Ver} {t : Int} {k : Nat} (hs : Srt c) (h : Found c t k) : (c.filter fun v => decide (v.at_ ≤ t)) = c.take (if (∃ hk : k < c.length, c[k].at_ = t) then k + 1 else k) := by
  have hs2 : Srt (c.drop k) := List.Pairwise.sublist (List.drop_sublist k c) hs
  split
  · rename_i hh
    obtain ⟨hk, he⟩ := hh
    rw [List.drop_eq_getElem_cons hk] at hs2
    refine filter_take _ (fun x hx => ?_) fun x hx => ?_
    · rw [List.take_succ_eq_append_getElem hk] at hx
      simp only [List.mem_append, List.mem_singleton] at hx
      rcases hx with hx | rfl
      · have := h.lo x hx; simp; omega
      · simp; omega
    · have := hs2.head x hx; simp; omega
  · rename_i hh
    refine filter_take _ (fun x hx => by have := h.lo x hx; simp; omega) fun x hx => ?_
    have h1 := h.hi x hx
    by_cases hk : k < c.length
    · have h2 : c[k].at_ ≠ t := fun e => hh ⟨hk, e⟩
      have h3 := h.hi c[k] (get_mem_drop hk)
      rw [List.drop_eq_getElem_cons hk] at hx hs2
      rcases List.mem_cons.1 hx with rfl | hx
      · simp; omega
      · have := hs2.head x hx; simp; omega
    · rw [List.drop_of_length_le (by omega)] at hx; cases hx
theorem take_last {α : Type} {l : List α} {k : Nat} (h : k < l.length) : (l.take (k + 1)).getLast? = some l[k] := by
  rw [List.take_succ_eq_append_getElem h, List.getLast?_append]
  rfl
theorem Found.at_eq {c : List Ver} {t : Int} {k : Nat} (hs : Srt c) (h : Found c t k) (hk : k < c.length) (he : c[k].at_ = t) : atL c t = some c[k] := by
  have := h.upto hs
  rw [if_pos ⟨hk, he⟩] at this
  unfold atL
  rw [this]
  exact take_last hk
theorem Found.at_lt {c : List Ver} {t : Int} {k : Nat} (hs : Srt c) (h : Found c t (k + 1)) (hn : ¬ ∃ hk : k + 1 < c.length, c[k + 1].at_ = t) : atL c t = some (c[k]'(by have := h.le; omega)) := by
  have := h.upto hs
  rw [if_neg hn] at this
  unfold atL
  rw [this]
  exact take_last (by have := h.le; omega)
theorem Found.at_zero {c : List Ver} {t : Int} (hs : Srt c) (h : Found c t 0) (hn : ¬ ∃ hk : 0 < c.length, c[0].at_ = t) : atL c t = none := by
  have := h.upto hs
  rw [if_neg hn] at this
  unfold atL
  rw [this]
  rfl
/-- What stays of a chain. -/
def cutL (c : List Ver) (t : Int) : List Ver :=
  match (c.filter fun v => decide (v.at_ ≤ t)).length with
  | 0 => c
  | n + 1 => if ((c[n]?).map (·.gone)).getD false then c.drop (n + 1) else c.drop n
theorem cut_of {c : List Ver} {t : Int} {k : Nat} (hk : k < c.length) (h : (c.filter fun v => decide (v.at_ ≤ t)) = c.take (k + 1)) : cutL c t = if c[k].gone then c.drop (k + 1) else c.drop k := by
  have : (c.filter fun v => decide (v.at_ ≤ t)).length = k + 1 := by rw [h]; simp; omega
  unfold cutL
  rw [this]
  simp [hk]
theorem Found.cut_eq {c : List Ver} {t : Int} {k : Nat} (hs : Srt c) (h : Found c t k) (hk : k < c.length) (he : c[k].at_ = t) : cutL c t = if c[k].gone then c.drop (k + 1) else c.drop k := by
  have := h.upto hs
  rw [if_pos ⟨hk, he⟩] at this
  exact cut_of hk this
theorem Found.cut_lt {c : List Ver} {t : Int} {k : Nat} (hs : Srt c) (h : Found c t (k + 1)) (hn : ¬ ∃ hk : k + 1 < c.length, c[k + 1].at_ = t) : cutL c t = if (c[k]'(by have := h.le; omega)).gone then c.drop (k + 1) else c.drop k := by
  have := h.upto hs
  rw [if_neg hn] at this
  exact cut_of (by have := h.le; omega) this
theorem Found.cut_zero {c : List Ver} {t : Int} (hs : Srt c) (h : Found c t 0) (hn : ¬ ∃ hk : 0 < c.length, c[0].at_ = t) : cutL c t = c := by
  have := h.upto hs
  rw [if_neg hn] at this
  unfold cutL
  rw [this]
  rfl
end Go.Sm
/- Chains: the comparison, the search. -/
set_option linter.unusedVariables false
set_option linter.unusedSimpArgs false
namespace Go.Sm
open Go Go.Proofs
set_option maxRecDepth 100000
set_option maxHeartbeats 1000000
def encV (v : Ver) : List Value := [.int .u64 v.at_, .string v.val, .bool v.gone]
def ordV (t : Int) (v : Ver) : Int := if v.at_ < t then -1 else if t < v.at_ then 1 else 0
theorem order_spec (t : Int) (v : Ver) (σ : CSt) (Q : Out → CSt → Prop) (h : ∀ σ', Grow σ σ' → Q (.ret (.int .i64 (ordV t v)) false) σ') : W E1 (.fn 46 #[.agg (encV v).toArray, .int .u64 t] none) σ Q := by
  rw [W_fn (fn := Tryz.f46) Tryz.func46 rfl rfl rfl]
  have hg := h _ ((Grow.refl σ).alloc (CObj.cells (encV v) 29 false))
  simp only [encV, ordV] at hg
  simp [wops_cons, encV]
  by_cases h1 : v.at_ < t
  · simpa [h1] using hg
  · by_cases h2 : t < v.at_
    · simpa [h1, h2] using hg
    · simpa [h1, h2] using hg
theorem mid_eq (lo hi : Int) (h1 : 0 ≤ lo) (h2 : lo < hi) (h3 : hi < 2 ^ 62) : IntKind.i64.wrap ((IntKind.u64.wrap (IntKind.i64.wrap (lo + hi))).fdiv (2 ^ min 1 IntKind.u64.bits)) = (lo + hi) / 2 := by
  rw [IntWalk.i64_in (lo + hi) (by omega), IntWalk.u64_in _ (by omega)]
  have : (2 ^ min 1 IntKind.u64.bits : Int) = 2 := by decide
  rw [this, Int.fdiv_eq_ediv_of_nonneg _ (by omega), IntWalk.i64_in _ (by omega)]
theorem search_29 (l : List Ver) (v key : Value) (hkey : flat0 key = true) (ord : Ver → Int) (σ : CSt) (hsl : Sl σ 29 3 encV v l) (hbig : l.length < 2 ^ 40)
    (hcmp : ∀ (x : Ver) (σ : CSt) (Q : Out → CSt → Prop), (∀ σ', Grow σ σ' → Q (.ret (.int .i64 (ord x)) false) σ') → W E1 (.fn 46 #[.agg (encV x).toArray, key] none) σ Q)
    (hmono : ∀ j k (hj : j < l.length) (hk : k < l.length), j < k → ord l[k] < 0 → ord l[j] < 0) (Q : Out → CSt → Prop)
    (h : ∀ (k : Nat) (σ' : CSt), Cut ord l k → Grow σ σ' → Q (.ret (.tuple #[.int .i64 k, .bool (decide (∃ h : k < l.length, ord l[k] = 0))]) false) σ') :
    W E1 (.fn 45 #[v, key, .func (.func 46) #[] #[]] none) σ Q := by
  rw [W_fn (fn := Tryz.f45) Tryz.func45 rfl rfl rfl]
  rcases hsl with ⟨rfl, rfl⟩ | ⟨i, off, cap, row, ro, rfl, hg, hin, hrow, hlen, hcap⟩
  · have := h 0 σ ⟨Nat.le_refl _, by simp, by simp⟩ (Grow.refl σ)
    simp [wops_cons]
    rw [W_loop]
    simp [wops_cons, wops_if', dstOf]
    have e : decide (∃ h : 0 < ([] : List Ver).length, ord ([] : List Ver)[0] = 0) = false := decide_eq_false fun ⟨h, _⟩ => absurd h (by simp)
    rw [e] at this
    exact this
  simp [wops_cons]
  refine W_loop_inv (fun n a σ' => ∃ tm lo hi, a = ⟨tm, 49, [], false⟩ ∧ tm.get 0 = some (.slice (some ⟨i, off, none⟩) l.length cap) ∧ tm.get 1 = some key ∧ tm.get 2 = some (.func (.func 46) #[] #[]) ∧ tm.get 8 = some (.int .i64 l.length) ∧ tm.get 9 = some (.int .i64 lo) ∧ tm.get 10 = some (.int .i64 hi) ∧
      (0 ≤ lo ∧ lo ≤ hi ∧ hi ≤ l.length ∧ n = (hi - lo).toNat ∧ (∀ j (h : j < l.length), (j : Int) < lo → ord l[j] < 0) ∧ (∀ j (h : j < l.length), hi ≤ j → 0 ≤ ord l[j])) ∧ Grow σ σ') ?_ l.length _ _ ?_
  · rintro n a σ' ⟨tm, lo, hi, rfl, h0, h1, h2, h8, h9, h10, ⟨hlo, hlh, hhi, hn, hl, hr⟩, hgr⟩
    have hgi := hgr.get hg hin
    by_cases hlt : lo < hi
    · have hm := mid_eq lo hi hlo hlt (by omega)
      obtain ⟨m, hmm⟩ : ∃ m : Nat, (lo + hi) / 2 = m := ⟨((lo + hi) / 2).toNat, by omega⟩
      have hm1 : m < l.length := by omega
      have hm2 : lo ≤ m ∧ (m : Int) < hi := by omega
      rw [hmm] at hm
      have hld := row_get (enc := encV) (fun _ => rfl) hrow m hm1
      have hle := row_le hlen m hm1
      have hw := i64n1 m (by omega)
      simp [wops_cons, h0, h1, h2, h8, h9, h10, hlt, hm, hm1, hgi, hld, hle, -List.length_flatMap]
      refine hcmp _ _ _ fun σ'' hgr2 => ?_
      by_cases hc : ord l[m] < 0
      · simp [wops_cons, hc, hw]
        refine ⟨_, ?_, h0, h1, h2, h8, hi, h10, ⟨by omega, by omega, hhi, rfl, fun j hjl hj => ?_, hr⟩, hgr.trans hgr2⟩
        · omega
        · by_cases hj' : j = m
          · subst hj'; exact hc
          · exact hmono j m hjl hm1 (by omega) hc
      · simp [wops_cons, hc]
        refine ⟨_, ?_, h0, h1, h2, h8, lo, h9, ⟨hlo, by omega, by omega, rfl, hl, fun j hjl hj => ?_⟩, hgr.trans hgr2⟩
        · omega
        · by_cases hj' : j = m
          · subst hj'; omega
          · have := hmono m j hm1 hjl (by omega)
            omega
    · obtain ⟨k, rfl⟩ := Int.eq_ofNat_of_zero_le hlo
      have hk : hi = k := by omega
      have hcut : Cut ord l k := ⟨by omega, fun j hj h => hl j hj (by omega), fun j hj h => hr j hj (by omega)⟩
      by_cases hkl : k < l.length
      · have hld := row_get (enc := encV) (fun _ => rfl) hrow k hkl
        have hle := row_le hlen k hkl
        simp [wops_cons, wops_if', dstOf, h0, h1, h2, h8, h9, h10, hlt, hkl, hgi, hld, hle, -List.length_flatMap]
        refine hcmp _ _ _ fun σ'' hgr2 => ?_
        have := h k σ'' hcut (hgr.trans hgr2)
        simp [wops_cons, wops_if', dstOf, hkl] at this ⊢
        exact this
      · have := h k σ' hcut hgr
        simp [wops_cons, wops_if', dstOf, h0, h1, h2, h8, h9, h10, hlt, hkl] at this ⊢
        exact this
  · refine ⟨_, 0, l.length, rfl, ?_⟩
    simp
    exact ⟨⟨fun j _ h => by omega, fun j h1 h2 => by omega⟩, Grow.refl σ⟩

end Go.Sm
/- Chains: copies, a version more. -/
set_option linter.unusedVariables false
set_option linter.unusedSimpArgs false
namespace Go.Sm
open Go Go.Proofs
set_option maxRecDepth 100000
set_option maxHeartbeats 1000000
theorem clone_29 (l : List Ver) (v : Value) (σ : CSt) (hsl : Sl σ 29 3 encV v l) (hbig : l.length < 2 ^ 40) (Q : Out → CSt → Prop)
    (h : ∀ (v' : Value) (σ' : CSt), Own σ.n σ' 29 encV v' l → Grow σ σ' → Q (.ret v' false) σ') : W E1 (.fn 18 #[v] none) σ Q := by
  rw [W_fn (fn := Tryz.f18) Tryz.func18 rfl rfl rfl]
  have h0 : (0 : Nat) ≠ openCap := by simp [openCap]
  rcases hsl with ⟨rfl, rfl⟩ | ⟨i, off, cap, row, ro, rfl, hg, hin, hrow, hlen, hcap⟩
  · have := h _ σ Own.nil (Grow.refl σ)
    simpa [wops_cons] using this
  by_cases hl : l.length = 0
  · have hnil : l = [] := List.eq_nil_of_length_eq_zero hl
    subst hnil
    have := h (.slice (some ⟨σ.n, 0, none⟩) 0 0) (σ.alloc (.cells [] 29 false)) (.inr ⟨σ.n, 0, rfl, Nat.le_refl _, by simp, by simp, .inr ⟨rfl, rfl⟩⟩) ((Grow.refl σ).alloc _)
    have hin' : ¬ i = σ.n := by omega
    have hoff : off ≤ row.length := by simp at hlen; omega
    simpa [wops_cons, appendOp_K, appK, appendF, hg, h0, hin', hoff] using this
  · have hn0 : ¬ l = [] := by rintro rfl; simp at hl
    have hb : l.length * 32 ≤ 140737488355328 := by omega
    have hrl : ((l.flatMap encV).length : Nat) = l.length * 3 := enc_length encV (fun _ => rfl) l
    have hck : cokL (l.flatMap encV) = true := cokL_enc (fun _ => rfl) l
    have := h (.slice (some ⟨σ.n + 1, 0, none⟩) l.length openCap) ((σ.alloc (.cells [] 29 false)).alloc (.cells (l.flatMap encV) 29 false))
      (.inr ⟨σ.n + 1, openCap, rfl, by omega, by simp, by simp, .inl rfl⟩) (((Grow.refl σ).alloc _).alloc _)
    have hin' : ¬ i = σ.n := by omega
    simpa [wops_cons, appendOp_K, appK, appendF, hg, h0, hin', hlen, hrow, hrl, hl, hb, hck, hn0, -List.length_flatMap] using this
theorem ins_own_29 (b : Nat) (l : List Ver) (x : Ver) (a : Nat) (ha : a ≤ l.length) (v : Value) (σ : CSt) (hb : b ≤ σ.n) (hown : Own b σ 29 encV v l) (j : Nat) (hj : σ.get j = some (.cells (encV x) 29 false))
    (hji : ∀ i off n c, v = .slice (some ⟨i, off, none⟩) n c → i ≠ j) (hbig : l.length < 2 ^ 40) (Q : Out → CSt → Prop)
    (h : ∀ (v' : Value) (σ' : CSt), Own b σ' 29 encV v' (l.take a ++ x :: l.drop a) → GrowB b σ σ' → Q (.ret v' false) σ') :
    W E1 (.fn 47 #[v, .int .i64 a, .slice (some ⟨j, 0, none⟩) 1 1] none) σ Q := by
  have hxl : (encV x).length = 3 := rfl
  rcases hown with ⟨rfl, rfl⟩ | ⟨i, cap, rfl, hbi, hin, hg, hcap⟩
  · have ha0 : a = 0 := by simpa using ha
    subst ha0
    rw [Int.natCast_zero, W_gam (E := E1) (f := 47) (g := insG 29 3 32) rfl rfl (v := .slice (some ⟨σ.n, 0, none⟩) 1 openCap) (σ' := σ.alloc (.cells (encV x) 29 false)) (insG_nil hj rfl rfl (by omega))]
    exact h _ _ (.inr ⟨σ.n, openCap, rfl, hb, by simp, by simp, .inl rfl⟩) ((GrowB.refl b σ).alloc hb _)
  · have hij := hji i 0 _ _ rfl
    have hrl : (l.flatMap encV).length = l.length * 3 := enc_length encV (fun _ => rfl) l
    have hck : cokL (l.flatMap encV) = true := cokL_enc (fun _ => rfl) l
    rcases hcap with rfl | ⟨rfl, rfl⟩
    · have he := insRow_enc (enc := encV) (l := l) (sz := 3) (fun _ => rfl) a ha x
      rw [W_gam (E := E1) (f := 47) (g := insG 29 3 32) rfl rfl (v := .slice (some ⟨σ.n, 0, none⟩) (l.length + 1) openCap) (σ' := (σ.put i .dead).alloc (.cells ((l.take a ++ x :: l.drop a).flatMap encV) 29 false)) (by
        rw [insG_some (sz := 3) hg hj rfl rfl (by omega) (by omega) hij (by omega) (cokL_take hck _) (by omega) (by omega) hbig, if_pos rfl, ← he]
        rfl)]
      refine h _ _ (.inr ⟨σ.n, openCap, ?_, hb, by simp, by simp, .inl rfl⟩) (((GrowB.refl b σ).put hbi _).alloc hb _)
      have : (l.take a ++ x :: l.drop a).length = l.length + 1 := by simp; omega
      rw [this]
    · have ha0 : a = 0 := by simpa using ha
      subst ha0
      rw [Int.natCast_zero, W_gam (E := E1) (f := 47) (g := insG 29 3 32) rfl rfl (v := .slice (some ⟨σ.n, 0, none⟩) 1 openCap) (σ' := σ.alloc (.cells (encV x) 29 false)) (by
        have hg' : σ.get i = some (.cells [] 29 false) := hg
        exact (insG_some (sz := 3) (n := 0) hg' hj rfl rfl (by omega) (by omega) hij (by simp) (by simp) (by omega) (by omega) (by omega)).trans ((if_neg (by simp [openCap])).trans (if_pos ⟨rfl, rfl⟩)))]
      exact h _ _ (.inr ⟨σ.n, openCap, rfl, hb, by simp, by simp, .inl rfl⟩) ((GrowB.refl b σ).alloc hb _)

end Go.Sm
/- Chains: Put, At, Purge. -/
set_option linter.unusedVariables false
set_option linter.unusedSimpArgs false
namespace Go.Sm
open Go Go.Proofs
set_option maxRecDepth 100000
set_option maxHeartbeats 1000000
theorem ordV_lt (t : Int) (v : Ver) : ordV t v < 0 ↔ v.at_ < t := by
  unfold ordV
  by_cases h1 : v.at_ < t
  · simp [h1]
  · by_cases h2 : t < v.at_ <;> simp [h1, h2]
theorem ordV_eq (t : Int) (v : Ver) : ordV t v = 0 ↔ v.at_ = t := by
  unfold ordV
  by_cases h1 : v.at_ < t
  · simp [h1]; omega
  · by_cases h2 : t < v.at_
    · simp [h1, h2]; omega
    · simp [h1, h2]; omega
theorem Cut.found {c : List Ver} {t : Int} {k : Nat} (h : Cut (ordV t) c k) : Found c t k := by
  refine ⟨h.le, fun v hv => ?_, fun v hv => ?_⟩
  · obtain ⟨j, hj, rfl⟩ := List.mem_iff_getElem.1 hv
    simp only [List.length_take] at hj
    have := h.lo j (by omega) (by omega)
    rw [ordV_lt] at this
    simpa using this
  · obtain ⟨j, hj, rfl⟩ := List.mem_iff_getElem.1 hv
    simp only [List.length_drop] at hj
    have := h.hi (k + j) (by omega) (by omega)
    simp only [List.getElem_drop]
    have h2 := ordV_lt t c[k + j]
    omega
theorem Srt.get_lt {c : List Ver} (h : Srt c) {j k : Nat} (hj : j < c.length) (hk : k < c.length) (hjk : j < k) : c[j].at_ < c[k].at_ := List.pairwise_iff_getElem.1 h j k hj hk hjk
theorem Srt.mono {c : List Ver} (h : Srt c) (t : Int) : ∀ j k (hj : j < c.length) (hk : k < c.length), j < k → ordV t c[k] < 0 → ordV t c[j] < 0 := by
  intro j k hj hk hjk ho
  rw [ordV_lt] at ho ⊢
  have := h.get_lt hj hk hjk
  omega
/-- Where a version of a time stands. -/
theorem find_chain (c : List Ver) (hs : Srt c) (v : Value) (t : Int) (σ : CSt) (hsl : Sl σ 29 3 encV v c) (hbig : c.length < 2 ^ 40) (Q : Out → CSt → Prop)
    (h : ∀ (k : Nat) (σ' : CSt), Found c t k → Grow σ σ' → Q (.ret (.tuple #[.int .i64 k, .bool (decide (∃ h : k < c.length, c[k].at_ = t))]) false) σ') :
    W E1 (.fn 45 #[v, .int .u64 t, .func (.func 46) #[] #[]] none) σ Q := by
  refine search_29 c v _ rfl (ordV t) σ hsl hbig (fun x σ Q h => order_spec t x σ Q h) (hs.mono t) Q fun k σ' hc hg => ?_
  have := h k σ' hc.found hg
  simpa only [ordV_eq] using this
theorem put_spec (c : List Ver) (hs : Srt c) (v : Value) (x : Ver) (σ : CSt) (hsl : Sl σ 29 3 encV v c) (hbig : c.length < 2 ^ 39) (Q : Out → CSt → Prop)
    (h : ∀ (v' : Value) (σ' : CSt), Own σ.n σ' 29 encV v' (putL c x) → Grow σ σ' → Q (.ret v' false) σ') : W E1 (.fn 19 #[v, .agg (encV x).toArray] none) σ Q := by
  rw [W_fn (fn := Tryz.f19) Tryz.func19 rfl rfl rfl]
  simp [wops_cons, encV]
  refine find_chain c hs v x.at_ _ (hsl.grow ((Grow.refl σ).alloc _)) (by omega) _ fun k σ1 hf hg1 => ?_
  have hg1' : Grow σ σ1 := ((Grow.refl σ).alloc _).trans hg1
  have hb1 : σ1.get σ.n = some (.cells (encV x) 29 false) := hg1.get (by simp [encV]) (by simp)
  simp [wops_cons]
  refine clone_29 c v σ1 (hsl.grow hg1') (by omega) _ fun v2 σ2 hown hg2 => ?_
  have hb2 : σ2.get σ.n = some (.cells (encV x) 29 false) := hg2.get hb1 (by have := hg1.n; simp at this; omega)
  have hn1 : σ.n + 1 ≤ σ1.n := by have := hg1.n; simpa using this
  have hg2' := hg1'.trans hg2
  by_cases hfo : ∃ hk : k < c.length, c[k].at_ = x.at_
  · obtain ⟨hk, he⟩ := hfo
    rw [decide_eq_true ⟨hk, he⟩]
    rcases hown with ⟨rfl, rfl⟩ | ⟨i, cap, rfl, hbi, hin, hgi, hcap⟩
    · simp at hk
    · have hki : (k : Int) < c.length := by omega
      have hlen : k * 3 + 3 ≤ (c.flatMap encV).length := by rw [enc_length encV (n := 3) (fun _ => rfl)]; omega
      have hset := enc_set encV (n := 3) (fun _ => rfl) c k x hk
      simp only [encV] at hset hb2
      simp [wops_cons, hgi, hk, hb2, hlen, -List.length_flatMap, -List.append_assoc, -List.cons_append]
      rw [hset]
      rw [hf.put_set hs hk he] at h
      have hl : (c.set k x).length = c.length := by simp
      refine h _ _ (.inr ⟨i, cap, by rw [hl], by omega, by simpa using hin, by simp, ?_⟩) (hg2'.put (by omega) _)
      rcases hcap with rfl | ⟨rfl, rfl⟩
      · exact .inl rfl
      · simp at hk
  · rw [decide_eq_false hfo]
    simp only [encV] at hb2
    simp [wops_cons, hb2]
    rw [hf.put_ins hs (fun hk he => hfo ⟨hk, he⟩)] at h
    have hji : ∀ i off n c, v2 = .slice (some ⟨i, off, none⟩) n c → i ≠ σ2.n := by
      rintro i off n c rfl
      rcases hown with ⟨h0, _⟩ | ⟨i', cap, h0, _, h1, _⟩
      · cases h0
      · cases h0; omega
    refine ins_own_29 σ1.n c x k hf.le v2 _ (by simp; have := hg2.n; omega) (hown.grow ((Grow.refl σ2).alloc _)) σ2.n (by simp [encV]) hji (by omega) _ fun v3 σ3 ho3 hg3 => ?_
    simp [wops_cons]
    refine h _ _ (ho3.weaken (by omega)) (Grow.thenB (hg2'.alloc _) hg3 (by omega))
/-- The last version up to a time; none. -/
def retV2 (o : Option Ver) : Value := match o with
  | some v => .tuple #[.agg (encV v).toArray, .bool true]
  | none => .tuple #[.agg #[.int .u64 0, .string ⟨#[]⟩, .bool false], .bool false]
theorem at_spec (c : List Ver) (hs : Srt c) (v : Value) (t : Int) (σ : CSt) (hsl : Sl σ 29 3 encV v c) (hbig : c.length < 2 ^ 39) (Q : Out → CSt → Prop)
    (h : ∀ (σ' : CSt), Grow σ σ' → Q (.ret (retV2 (atL c t)) false) σ') : W E1 (.fn 22 #[v, .int .u64 t] none) σ Q := by
  rw [W_fn (fn := Tryz.f22) Tryz.func22 rfl rfl rfl]
  simp [wops_cons]
  refine find_chain c hs v t _ (hsl.grow ((Grow.refl σ).alloc _)) (by omega) _ fun k σ1 hf hg1 => ?_
  have hg1' : Grow σ σ1 := ((Grow.refl σ).alloc _).trans hg1
  have hb1 := hg1.get (i := σ.n) (o := .cells [.int .u64 0, .string ⟨#[]⟩, .bool false] 29 false) (by simp) (by simp)
  have hsl1 := hsl.grow hg1'
  have fin := h _ (hg1'.put (Nat.le_refl σ.n) (.cells ((atL c t).elim [.int .u64 0, .string ⟨#[]⟩, .bool false] encV) 29 false))
  by_cases hfo : ∃ hk : k < c.length, c[k].at_ = t
  · rw [decide_eq_true hfo]
    obtain ⟨hk, he⟩ := hfo
    rw [hf.at_eq hs hk he] at fin
    rcases hsl1 with ⟨rfl, rfl⟩ | ⟨i, off, cap, row, ro, rfl, hg, hin, hrow, hlen, hcap⟩
    · simp at hk
    · have hld := row_get (enc := encV) (fun _ => rfl) hrow k hk
      have hle := row_le hlen k hk
      have hk0 : ¬ (k : Int) < 0 := by omega
      simp only [retV2, encV, Option.elim] at fin hld
      simpa [wops_cons, hg, hk, hk0, hld, hle, hb1] using fin
  · rw [decide_eq_false hfo]
    cases k with
    | zero =>
      rw [hf.at_zero hs hfo] at fin
      simp only [retV2, Option.elim] at fin
      have hw : IntKind.i64.wrap (-1) = -1 := by decide
      simpa [wops_cons, hb1, hw] using fin
    | succ k =>
      rw [hf.at_lt hs hfo] at fin
      have hk : k < c.length := by have := hf.le; omega
      rcases hsl1 with ⟨rfl, rfl⟩ | ⟨i, off, cap, row, ro, rfl, hg, hin, hrow, hlen, hcap⟩
      · simp at hk
      · have hld := row_get (enc := encV) (fun _ => rfl) hrow k hk
        have hle := row_le hlen k hk
        have hk0 : ¬ (k : Int) < 0 := by omega
        have hw := i64n k (by omega)
        simp only [retV2, encV, Option.elim] at fin hld
        simpa [wops_cons, hg, hk, hk0, hld, hle, hb1, hw] using fin
theorem purge_spec (c : List Ver) (hs : Srt c) (v : Value) (t : Int) (σ : CSt) (hsl : Sl σ 29 3 encV v c) (hbig : c.length < 2 ^ 39) (Q : Out → CSt → Prop)
    (h : ∀ (v' : Value) (σ' : CSt), Own σ.n σ' 29 encV v' (cutL c t) → Grow σ σ' → Q (.ret v' false) σ') : W E1 (.fn 21 #[v, .int .u64 t] none) σ Q := by
  rw [W_fn (fn := Tryz.f21) Tryz.func21 rfl rfl rfl]
  simp [wops_cons]
  refine find_chain c hs v t _ hsl (by omega) _ fun k σ1 hf hg1 => ?_
  have hsl1 := hsl.grow hg1
  -- behind the place
  have part : ∀ (m : Nat) (v' : Value), Sl σ1 29 3 encV v' (c.drop m) → cutL c t = c.drop m → W E1 (.fn 18 #[v'] none) σ1 (fun o σ' => ∃ v'', o = .ret v'' false ∧ Q (.ret v'' false) σ') := by
    intro m v' hsl' hc
    refine clone_29 (c.drop m) v' σ1 hsl' (by simp; omega) _ fun v2 σ2 hown hg2 => ⟨v2, rfl, ?_⟩
    rw [hc] at h
    exact h _ _ (hown.weaken hg1.n) (hg1.trans hg2)
  have go : ∀ (m : Nat) (v' : Value) (K : Out → CSt → Prop), Sl σ1 29 3 encV v' (c.drop m) → cutL c t = c.drop m → (∀ v'' σ', Q (.ret v'' false) σ' → K (.ret v'' false) σ') → W E1 (.fn 18 #[v'] none) σ1 K :=
    fun m v' K h1 h2 h3 => (part m v' h1 h2).weaken fun o s ⟨v'', e, hq⟩ => e ▸ h3 _ _ hq
  by_cases hfo : ∃ hk : k < c.length, c[k].at_ = t
  · rw [decide_eq_true hfo]
    obtain ⟨hk, he⟩ := hfo
    have hcut := hf.cut_eq hs hk he
    rcases hsl1 with ⟨rfl, rfl⟩ | ⟨i, off, cap, row, ro, rfl, hg, hin, hrow, hlen, hcap⟩
    · simp at hk
    · have hcell := row_cell (enc := encV) (fun _ => rfl) hrow k 2 hk (by omega)
      have hk0 : ¬ (k : Int) < 0 := by omega
      have hw := i64n1 k (by omega)
      have hw0 := i64n k (by omega)
      have hp : (0 : Int) ≤ (k : Int) + 1 ∧ ((k : Int) + 1).toNat = k + 1 := by omega
      have hsub : ∀ m, m ≤ c.length → ∀ cap', (cap' = openCap ∨ (c.length - m ≤ cap' ∧ cap' < openCap)) → ∀ off', (c.length - m = 0 ∨ off' = off + m * 3) → off' ≤ off + m * 3 → Sl σ1 29 3 encV (.slice (some ⟨i, off', none⟩) (c.length - m) cap') (c.drop m) := by
        intro m hm cap' hc' off' ho ho2
        have hml : m * 3 ≤ c.length * 3 := by omega
        refine .inr ⟨i, off', cap', row, ro, by simp, hg, hin, ?_, by simp; omega, by simpa using hc'⟩
        rcases ho with ho | rfl
        · rw [List.drop_of_length_le (by omega)]; simp
        · exact row_drop (enc := encV) (fun _ => rfl) hrow m hm
      simp only [encV] at hcell
      simp at hcell
      cases hgo : c[k].gone with
      | true =>
        rw [if_pos hgo] at hcut
        rw [hgo] at hcell
        rcases hcap with rfl | ⟨hc1, hc2⟩
        · simp [wops_cons, hg, hk, hk0, hcell, hw, hw0, hp, sliceOp_open, sliceO, Nat.succ_le_of_lt hk]
          exact go (k + 1) _ _ (hsub (k + 1) (by omega) _ (.inl rfl) _ (.inr rfl) (Nat.le_refl _)) hcut fun v'' σ' hq => by simpa [wops_cons] using hq
        · have hne : cap ≠ openCap := by omega
          have hq1 : k + 1 ≤ c.length ∧ c.length ≤ cap ∧ cap < openCap := by omega
          simp [wops_cons, hg, hk, hk0, hcell, hw, hw0, hp, sliceOp_cap, sliceC, hne, hq1]
          refine go (k + 1) _ _ (hsub (k + 1) (by omega) _ (.inr ⟨by omega, by omega⟩) _ ?_ ?_) hcut fun v'' σ' hq => by simpa [wops_cons] using hq
          · split
            · left; omega
            · right; rfl
          · split <;> omega
      | false =>
        rw [if_neg (by simp [hgo])] at hcut
        rw [hgo] at hcell
        rcases hcap with rfl | ⟨hc1, hc2⟩
        · simp [wops_cons, hg, hk, hk0, hcell, hw0, sliceOp_open, sliceO, Nat.le_of_lt hk]
          exact go k _ _ (hsub k (by omega) _ (.inl rfl) _ (.inr rfl) (Nat.le_refl _)) hcut fun v'' σ' hq => by simpa [wops_cons] using hq
        · have hne : cap ≠ openCap := by omega
          have hq1 : k ≤ c.length ∧ c.length ≤ cap ∧ cap < openCap := by omega
          simp [wops_cons, hg, hk, hk0, hcell, hw0, sliceOp_cap, sliceC, hne, hq1]
          refine go k _ _ (hsub k (by omega) _ (.inr ⟨by omega, by omega⟩) _ ?_ ?_) hcut fun v'' σ' hq => by simpa [wops_cons] using hq
          · split
            · left; omega
            · right; rfl
          · split <;> omega
  · rw [decide_eq_false hfo]
    cases k with
    | zero =>
      have hcut := hf.cut_zero hs hfo
      have hw : IntKind.i64.wrap (-1) = -1 := by decide
      simp [wops_cons, hw]
      exact go 0 v _ (by simpa using hsl1) (by simpa using hcut) fun v'' σ' hq => by simpa [wops_cons] using hq
    | succ k =>
      have hk : k < c.length := by have := hf.le; omega
      have hcut := hf.cut_lt hs hfo
      rcases hsl1 with ⟨rfl, rfl⟩ | ⟨i, off, cap, row, ro, rfl, hg, hin, hrow, hlen, hcap⟩
      · simp at hk
      · have hcell := row_cell (enc := encV) (fun _ => rfl) hrow k 2 hk (by omega)
        have hk0 : ¬ (k : Int) < 0 := by omega
        have hw := i64n1 k (by omega)
        have hw0 := i64n k (by omega)
        have hp : (0 : Int) ≤ (k : Int) + 1 ∧ ((k : Int) + 1).toNat = k + 1 := by omega
        have hsub : ∀ m, m ≤ c.length → ∀ cap', (cap' = openCap ∨ (c.length - m ≤ cap' ∧ cap' < openCap)) → ∀ off', (c.length - m = 0 ∨ off' = off + m * 3) → off' ≤ off + m * 3 → Sl σ1 29 3 encV (.slice (some ⟨i, off', none⟩) (c.length - m) cap') (c.drop m) := by
          intro m hm cap' hc' off' ho ho2
          have hml : m * 3 ≤ c.length * 3 := by omega
          refine .inr ⟨i, off', cap', row, ro, by simp, hg, hin, ?_, by simp; omega, by simpa using hc'⟩
          rcases ho with ho | rfl
          · rw [List.drop_of_length_le (by omega)]; simp
          · exact row_drop (enc := encV) (fun _ => rfl) hrow m hm
        simp only [encV] at hcell
        simp at hcell
        cases hgo : c[k].gone with
        | true =>
          rw [if_pos hgo] at hcut
          rw [hgo] at hcell
          rcases hcap with rfl | ⟨hc1, hc2⟩
          · simp [wops_cons, hg, hk, hk0, hcell, hw, hw0, hp, sliceOp_open, sliceO, Nat.succ_le_of_lt hk]
            exact go (k + 1) _ _ (hsub (k + 1) (by omega) _ (.inl rfl) _ (.inr rfl) (Nat.le_refl _)) hcut fun v'' σ' hq => by simpa [wops_cons] using hq
          · have hne : cap ≠ openCap := by omega
            have hq1 : k + 1 ≤ c.length ∧ c.length ≤ cap ∧ cap < openCap := by omega
            simp [wops_cons, hg, hk, hk0, hcell, hw, hw0, hp, sliceOp_cap, sliceC, hne, hq1]
            refine go (k + 1) _ _ (hsub (k + 1) (by omega) _ (.inr ⟨by omega, by omega⟩) _ ?_ ?_) hcut fun v'' σ' hq => by simpa [wops_cons] using hq
            · split
              · left; omega
              · right; rfl
            · split <;> omega
        | false =>
          rw [if_neg (by simp [hgo])] at hcut
          rw [hgo] at hcell
          rcases hcap with rfl | ⟨hc1, hc2⟩
          · simp [wops_cons, hg, hk, hk0, hcell, hw0, sliceOp_open, sliceO, Nat.le_of_lt hk]
            exact go k _ _ (hsub k (by omega) _ (.inl rfl) _ (.inr rfl) (Nat.le_refl _)) hcut fun v'' σ' hq => by simpa [wops_cons] using hq
          · have hne : cap ≠ openCap := by omega
            have hq1 : k ≤ c.length ∧ c.length ≤ cap ∧ cap < openCap := by omega
            simp [wops_cons, hg, hk, hk0, hcell, hw0, sliceOp_cap, sliceC, hne, hq1]
            refine go k _ _ (hsub k (by omega) _ (.inr ⟨by omega, by omega⟩) _ ?_ ?_) hcut fun v'' σ' hq => by simpa [wops_cons] using hq
            · split
              · left; omega
              · right; rfl
            · split <;> omega
end Go.Sm
/- Versions by small numbers; chains made of them; rows of versions compared. -/
set_option linter.unusedVariables false
set_option linter.unusedSimpArgs false
namespace Go.Sm
open Go Go.Proofs
set_option maxRecDepth 100000
set_option maxHeartbeats 1000000
structure VV where
  at_ : Int
  v : Int
  gone : Bool
def encU (x : VV) : List Value := [.int .u8 x.at_, .int .u8 x.v, .bool x.gone]
def nameOf : Nat → ByteArray
  | 0 => ⟨#[]⟩
  | 1 => ⟨#[120]⟩
  | 2 => ⟨#[121, 121]⟩
  | _ => ⟨#[118, 97, 108, 117, 101]⟩
def VV.ok (x : VV) : Prop := (0 ≤ x.at_ ∧ x.at_ < 256) ∧ 0 ≤ x.v ∧ x.v < 256
def verOf (x : VV) : Ver := if x.gone then ⟨x.at_, ⟨#[]⟩, true⟩ else ⟨x.at_, nameOf (x.v.tmod 4).toNat, false⟩
theorem verOf_at (x : VV) : (verOf x).at_ = x.at_ := by unfold verOf; split <;> rfl
theorem vmake_spec (x : VV) (hx : x.ok) (σ : CSt) (Q : Out → CSt → Prop) (h : ∀ σ', Grow σ σ' → Q (.ret (.agg (encV (verOf x)).toArray) false) σ') : W E1 (.fn 20 #[.agg (encU x).toArray] none) σ Q := by
  rw [W_fn (fn := Tryz.f20) Tryz.func20 rfl rfl rfl]
  obtain ⟨⟨ha0, ha1⟩, hv0, hv1⟩ := hx
  have hw : IntKind.u64.wrap x.at_ = x.at_ := IntWalk.u64_in _ (by omega)
  have g0 : Grow σ ((σ.alloc (.cells (encU x) 34 false)).alloc (.cells [.int .u64 0, .string ⟨#[]⟩, .bool false] 29 false)) := ((Grow.refl σ).alloc _).alloc _
  simp [wops_cons, encU]
  cases hgo : x.gone
  · simp
    refine W_drawn (l := [0, 1, 2, 4, 5, 6, 3, 7, 8, 9, 10]) (b := #[0, 1, 3, 0, 0, 16, 48, 120, 248, 511, 1023]) (by kernel_rfl) (by kernel_rfl) (by kernel_rfl) ?_
    have h1 : 0 ≤ x.v.tmod 4 := Int.tmod_nonneg 4 hv0
    have h2 : x.v.tmod 4 < 4 := Int.tmod_lt_of_pos x.v (by decide)
    obtain ⟨k, hk⟩ : ∃ k : Nat, x.v.tmod 4 = k := ⟨(x.v.tmod 4).toNat, by omega⟩
    have h4 : k < 4 := by omega
    have fin := fun g => h _ (((g0.alloc (.cells [.string ⟨#[]⟩, .string ⟨#[120]⟩, .string ⟨#[121, 121]⟩, .string ⟨#[118, 97, 108, 117, 101]⟩] 9 false))).put (i := σ.n + 1) (by omega) g)
    simp only [verOf, hgo, hk, Int.toNat_natCast, encV] at fin
    match k, hk, h4 with
    | 0, hk, _ =>
      have := fin (.cells [.int .u64 x.at_, .string ⟨#[]⟩, .bool false] 29 false)
      simpa [dopsR_cons, opAt, isEff, again, befBits, isRead, Nat.add_assoc, hk, hw, encU, nameOf, hgo] using this
    | 1, hk, _ =>
      have := fin (.cells [.int .u64 x.at_, .string ⟨#[120]⟩, .bool false] 29 false)
      simpa [dopsR_cons, opAt, isEff, again, befBits, isRead, Nat.add_assoc, hk, hw, encU, nameOf, hgo] using this
    | 2, hk, _ =>
      have := fin (.cells [.int .u64 x.at_, .string ⟨#[121, 121]⟩, .bool false] 29 false)
      simpa [dopsR_cons, opAt, isEff, again, befBits, isRead, Nat.add_assoc, hk, hw, encU, nameOf, hgo] using this
    | 3, hk, _ =>
      have := fin (.cells [.int .u64 x.at_, .string ⟨#[118, 97, 108, 117, 101]⟩, .bool false] 29 false)
      simpa [dopsR_cons, opAt, isEff, again, befBits, isRead, Nat.add_assoc, hk, hw, encU, nameOf, hgo] using this
  · have := h _ (g0.put (i := σ.n + 1) (by omega) (.cells [.int .u64 x.at_, .string ⟨#[]⟩, .bool true] 29 false))
    simp only [verOf, hgo, encV] at this
    simpa [wops_cons, hgo, hw, encU] using this
theorem kl_ver (v : Ver) : KL [.int .u64, .str, .bool] (encV v) := ⟨⟨_, rfl⟩, ⟨_, rfl⟩, ⟨_, rfl⟩, trivial⟩
theorem encV_inj {a b : Ver} : encV a = encV b ↔ a = b := by
  constructor
  · intro h
    cases a; cases b
    simp [encV] at h
    simp [h]
  · rintro rfl; rfl
theorem cmp_ver (a b : Ver) (σ : CSt) (x y : Operand) : binF Tryz.prog σ .eql 29 x y (.agg (encV a).toArray) (.agg (encV b).toArray) = .val (.bool (decide (a = b))) σ ∧ binF Tryz.prog σ .neq 29 x y (.agg (encV a).toArray) (.agg (encV b).toArray) = .val (.bool (!decide (a = b))) σ := by
  obtain ⟨c, h1, h2, h3⟩ := bin_struct (P := Tryz.prog) (f := 2) (t := 29) (ks := [.int .u64, .str, .bool]) (by kernel_rfl) (by kernel_rfl) (by omega) (by kernel_rfl) (by kernel_rfl) (kl_ver a) (kl_ver b) rfl rfl (σ := σ) (x := x) (y := y)
  have : c = decide (a = b) := by
    rw [encV_inj] at h3
    cases c <;> simp_all
  rw [h1, h2, this]
  exact ⟨rfl, rfl⟩
theorem neq_ver (a b : Ver) (σ : CSt) (x y : Operand) : binF Tryz.prog σ .neq 29 x y (.agg (encV a).toArray) (.agg (encV b).toArray) = .val (.bool (!decide (a = b))) σ := (cmp_ver a b σ x y).2
theorem make_len (l : List Ver) : (makeL l).length ≤ l.length := by
  refine rev_ind (P := fun l => (makeL l).length ≤ l.length) (by simp [makeL]) (fun l v ih => ?_) l
  rw [makeL_snoc]
  have h1 : (putL (makeL l) v).length ≤ (makeL l).length + 1 := by
    unfold putL
    have a := List.length_filter_le (fun u : Ver => decide (u.at_ < v.at_)) (makeL l)
    have : ∀ c : List Ver, (c.filter fun u => decide (u.at_ < v.at_)).length + (c.filter fun u => decide (v.at_ < u.at_)).length ≤ c.length := by
      intro c
      induction c with
      | nil => simp
      | cons x c ih =>
        simp only [List.filter_cons]
        by_cases h1 : x.at_ < v.at_
        · have h2 : ¬ v.at_ < x.at_ := by omega
          simp [h1, h2]; omega
        · by_cases h2 : v.at_ < x.at_
          · simp [h1, h2]; omega
          · simp [h1, h2]; omega
    have := this (makeL l)
    simp
    omega
  simp
  omega
/-- Make: a chain of versions, put one after the other. -/
theorem make_spec (l : List VV) (hok : ∀ x ∈ l, x.ok) (v : Value) (σ : CSt) (hsl : Sl σ 34 3 encU v l) (hbig : l.length < 2 ^ 38) (Q : Out → CSt → Prop)
    (h : ∀ (v' : Value) (σ' : CSt), Sl σ' 29 3 encV v' (makeL (l.map verOf)) → Grow σ σ' → Q (.ret v' false) σ') : W E1 (.fn 16 #[v] none) σ Q := by
  rw [W_fn (fn := Tryz.f16) Tryz.func16 rfl rfl rfl]
  rcases hsl with ⟨rfl, rfl⟩ | ⟨i, off, cap, row, ro, rfl, hg, hin, hrow, hle, hcap⟩
  · have := h _ σ Sl.nil (Grow.refl σ)
    simp [wops_cons]
    rw [W_loop]
    simpa [wops_cons] using this
  simp [wops_cons]
  refine W_loop_inv (fun n a σ' => ∃ tm k v', a = ⟨tm, 18, [], false⟩ ∧ tm.get 6 = some (.slice (some ⟨i, off, none⟩) l.length cap) ∧ tm.get 7 = some (.int .i64 l.length) ∧ tm.get 8 = some (.int .i64 (k : Nat)) ∧ tm.get 3 = some v' ∧ k ≤ l.length ∧ n = l.length - k ∧ Sl σ' 29 3 encV v' (makeL ((l.map verOf).take k)) ∧ Grow σ σ') ?_ l.length _ _ ?_
  · rintro n a σ' ⟨tm, k, v', rfl, h6, h7, h8, h3, hk, hn, hs, hgr⟩
    have hgi := hgr.get hg hin
    by_cases hlt : k < l.length
    · have hld := row_get (enc := encU) (fun _ => rfl) hrow k hlt
      have hl1 := row_le hle k hlt
      have hw := i64n1 k (by omega)
      simp [wops_cons, h6, h7, h8, h3, hlt, hgi, hld, hl1]
      simp [wops_cons, encU, h3]
      have hx := vmake_spec l[k] (hok _ (List.getElem_mem hlt))
      simp only [encU] at hx
      have hg2 : Grow σ' ((σ'.alloc (.cells [.int .u8 0, .int .u8 0, .bool false] 34 false)).put σ'.n (.cells [.int .u8 l[k].at_, .int .u8 l[k].v, .bool l[k].gone] 34 false)) := ((Grow.refl σ').alloc _).put (Nat.le_refl _) _
      refine hx _ _ fun σ2 hg3 => ?_
      have hg4 := hg2.trans hg3
      simp [wops_cons, h3]
      have hml := make_len ((l.map verOf).take k)
      refine put_spec _ (makeL_srt _) v' _ σ2 (hs.grow hg4) (by simp only [List.length_take, List.length_map] at hml; omega) _ fun v2 σ3 hown hg5 => ?_
      simp [wops_cons, h8, hw]
      refine ⟨_, ?_, h6, h7, k + 1, by simp, by omega, rfl, ?_, (hgr.trans hg4).trans hg5⟩
      · omega
      · have : (l.map verOf).take (k + 1) = (l.map verOf).take k ++ [verOf l[k]] := by rw [List.take_succ_eq_append_getElem (by simpa using hlt)]; simp
        rw [this, makeL_snoc]
        exact hown.sl (fun _ => rfl)
    · have hkl : k = l.length := by omega
      have := h v' σ' (by rw [hkl, List.take_of_length_le (by simp)] at hs; exact hs) hgr
      simpa [wops_cons, h7, h8, h3, hlt] using this
  · refine ⟨_, 0, .slice none 0 0, rfl, ?_⟩
    simp
    exact ⟨Sl.nil, Grow.refl σ⟩
/-- slices.Equal of two rows of versions. -/
theorem equal_ch (l m : List Ver) (v u : Value) (σ : CSt) (hsl : Sl σ 29 3 encV v l) (hsm : Sl σ 29 3 encV u m) (hbig : l.length < 2 ^ 40) (Q : Out → CSt → Prop)
    (h : ∀ (σ' : CSt), Grow σ σ' → Q (.ret (.bool (decide (l = m))) false) σ') : W E1 (.fn 15 #[v, u] none) σ Q := by
  rw [W_fn (fn := Tryz.f15) Tryz.func15 rfl rfl rfl]
  by_cases hlen : l.length = m.length
  · rcases hsl with ⟨rfl, rfl⟩ | ⟨i, off, cap, row, ro, rfl, hg, hin, hrow, hle, hcap⟩
    · have hm : m = [] := List.eq_nil_of_length_eq_zero hlen.symm
      subst hm
      have hu : ∃ p c, u = .slice p 0 c := by
        rcases hsm with ⟨rfl, _⟩ | ⟨i2, off2, cap2, row2, ro2, rfl, _⟩
        · exact ⟨_, _, rfl⟩
        · exact ⟨_, _, rfl⟩
      obtain ⟨p, c, rfl⟩ := hu
      have := h σ (Grow.refl σ)
      simp [wops_cons]
      rw [W_loop]
      simpa [wops_cons] using this
    rcases hsm with ⟨rfl, rfl⟩ | ⟨i2, off2, cap2, row2, ro2, rfl, hg2, hin2, hrow2, hle2, hcap2⟩
    · have hl : l = [] := List.eq_nil_of_length_eq_zero hlen
      subst hl
      have := h σ (Grow.refl σ)
      simp [wops_cons]
      rw [W_loop]
      simpa [wops_cons] using this
    simp [wops_cons, hlen]
    refine W_loop_inv (fun n a σ' => ∃ tm k, a = ⟨tm, 26, [], false⟩ ∧ tm.get 0 = some (.slice (some ⟨i, off, none⟩) l.length cap) ∧ tm.get 1 = some (.slice (some ⟨i2, off2, none⟩) m.length cap2) ∧ tm.get 12 = some (.int .i64 l.length) ∧ tm.get 13 = some (.int .i64 (k : Nat)) ∧ tm.get 4 = some (.bool false) ∧ k ≤ l.length ∧ n = l.length - k ∧ l.take k = m.take k ∧ Grow σ σ') ?_ l.length _ _ ?_
    · rintro n a σ' ⟨tm, k, rfl, h0, h1, h12, h13, h4, hk, hn, htk, hgr⟩
      have hgi := hgr.get hg hin
      have hgi2 := hgr.get hg2 hin2
      by_cases hlt : k < l.length
      · have hlt2 : k < m.length := by omega
        have hld := row_get (enc := encV) (fun _ => rfl) hrow k hlt
        have hl1 := row_le hle k hlt
        have hld2 := row_get (enc := encV) (fun _ => rfl) hrow2 k hlt2
        have hl2 := row_le hle2 k hlt2
        have hw := i64n1 k (by omega)
        have hneq := neq_ver l[k] m[k]
        simp [wops_cons, h0, h1, h12, h13, h4, hlt]
        refine W_calm (by kernel_rfl) ?_
        simp [dops_cons, h0, h1, h12, h13, h4, hlt, hlt2, hgi, hgi2, hld, hld2, hl1, hl2, hneq]
        by_cases he : l[k] = m[k]
        · simp [wops_cons, he, h13, hw]
          refine ⟨_, ?_, h0, h1, h12, k + 1, by simp, h4, by omega, rfl, ?_, hgr⟩
          · omega
          · rw [List.take_succ_eq_append_getElem hlt, List.take_succ_eq_append_getElem hlt2, htk, he]
        · have hne : l ≠ m := by rintro rfl; exact he rfl
          have := h σ' hgr
          rw [decide_eq_false hne] at this
          simpa [wops_cons, he] using this
      · have hkl : k = l.length := by omega
        have he : l = m := by
          have := htk
          rwa [List.take_of_length_le (by omega), List.take_of_length_le (by omega)] at this
        have := h σ' hgr
        rw [decide_eq_true he] at this
        simpa [wops_cons, h12, h13, hlt] using this
    · refine ⟨_, 0, rfl, ?_⟩
      simp [hlen]
      exact Grow.refl σ
  · have hu : ∀ {x : Value} {l : List Ver}, Sl σ 29 3 encV x l → ∃ p c, x = .slice p l.length c := by
      rintro x l (⟨rfl, rfl⟩ | ⟨i, off, cap, row, ro, rfl, _⟩)
      · exact ⟨_, _, rfl⟩
      · exact ⟨_, _, rfl⟩
    obtain ⟨p, c, rfl⟩ := hu hsl
    obtain ⟨p', c', rfl⟩ := hu hsm
    have hne : l ≠ m := by rintro rfl; exact hlen rfl
    have := h σ (Grow.refl σ)
    rw [decide_eq_false hne] at this
    have hi : ¬ ((l.length : Int) = m.length) := by omega
    simpa [wops_cons, hi] using this

end Go.Sm
/- Plain: the chain by definition. -/
set_option linter.unusedVariables false
set_option linter.unusedSimpArgs false
namespace Go.Sm
open Go Go.Proofs
set_option maxRecDepth 100000
set_option maxHeartbeats 2000000
def encO (o : Option Ver) : List Value := match o with | some v => encV v | none => [.int .u64 0, .string ⟨#[]⟩, .bool false]
def partL (L : List Ver) (k : Nat) : List Ver := (List.range k).filterMap fun t : Nat => lastAt L t
theorem partL_succ (L : List Ver) (k : Nat) : partL L (k + 1) = partL L k ++ (lastAt L k).toList := by
  simp only [partL, List.range_succ, List.filterMap_append]
  cases h : lastAt L (k : Int) <;> simp [h]
theorem partL_len (L : List Ver) (k : Nat) : (partL L k).length ≤ k := by
  have := List.length_filterMap_le (fun t : Nat => lastAt L t) (List.range k)
  simpa [partL] using this
theorem plain_spec (l : List VV) (hok : ∀ x ∈ l, x.ok) (v : Value) (σ : CSt) (hsl : Sl σ 34 3 encU v l) (hbig : l.length < 2 ^ 38) (Q : Out → CSt → Prop)
    (h : ∀ (v' : Value) (σ' : CSt), Own σ.n σ' 29 encV v' (plainL (l.map verOf)) → Grow σ σ' → Q (.ret v' false) σ') : W E1 (.fn 17 #[v] none) σ Q := by
  rw [W_fn (fn := Tryz.f17) Tryz.func17 rfl rfl rfl]
  obtain ⟨p, c, rfl⟩ := hsl.form
  simp [wops_cons]
  refine W_loop_inv (fun n a σ' => ∃ tm k v', a = ⟨tm, 33, [], false⟩ ∧ tm.get 0 = some (.slice p l.length c) ∧ tm.get 3 = some v' ∧ tm.get 9 = some (.int .i64 (k : Nat)) ∧ k ≤ 256 ∧ n = 256 - k ∧ Own σ.n σ' 29 encV v' (partL (l.map verOf) k) ∧ Grow σ σ') ?_ 256 _ _ ?_
  · rintro n a σ1 ⟨tm, k, v1, rfl, h0, h3, h9, hk, hn, hown, hgr⟩
    by_cases hlt : k < 256
    · have hk2 : (k : Int) < 256 := by omega
      have hw := i64n1 k (by omega)
      simp [wops_cons, h0, h3, h9, hk2]
      refine W_loop_inv (fun n2 a σ2 => ∃ tm j, a = ⟨tm, 33, [], false⟩ ∧ tm.get 0 = some (.slice p l.length c) ∧ tm.get 3 = some v1 ∧ tm.get 9 = some (.int .i64 (k : Nat)) ∧ tm.get 4 = some (.int .i64 (k : Nat)) ∧ tm.get 5 = some (.pointer (some ⟨σ1.n, 0, none⟩)) ∧
        tm.get 6 = some (.bool (lastAt ((l.map verOf).take j) k).isSome) ∧ tm.get 12 = some (.slice p l.length c) ∧ tm.get 13 = some (.int .i64 l.length) ∧ tm.get 14 = some (.int .i64 (j : Nat)) ∧ j ≤ l.length ∧ n2 = l.length - j ∧ σ2.get σ1.n = some (.cells (encO (lastAt ((l.map verOf).take j) k)) 29 false) ∧ σ1.n < σ2.n ∧ Grow σ1 σ2) ?_ l.length _ _ ?_
      · rintro n2 a σ2 ⟨tm, j, rfl, h0, h3, h9, h4, h5, h6, h12, h13, h14, hj, hn2, hlast, hln, hg2⟩
        by_cases hjl : j < l.length
        · obtain ⟨i, off, row, ro, rfl, hg, hin, hrow, hle⟩ := hsl.at hjl
          have hgi := (hgr.trans hg2).get hg hin
          have hld := row_get (enc := encU) (fun _ => rfl) hrow j hjl
          have hl1 := row_le hle j hjl
          have hw2 := i64n1 j (by omega)
          have hx := hok _ (List.getElem_mem hjl)
          have hwc : IntKind.i64.wrap l[j].at_ = l[j].at_ := IntWalk.i64_in _ (by have := hx.1; omega)
          have hne : ¬ (σ1.n = σ2.n) := by omega
          have hsn : (l.map verOf).take (j + 1) = (l.map verOf).take j ++ [verOf l[j]] := by rw [List.take_succ_eq_append_getElem (by simpa using hjl)]; simp
          simp [wops_cons, h0, h3, h9, h4, h5, h6, h12, h13, h14, hjl, hgi, hld, hl1]
          have hgw : Grow σ2 ((σ2.alloc (.cells [.int .u8 0, .int .u8 0, .bool false] 34 false)).put σ2.n (.cells [.int .u8 l[j].at_, .int .u8 l[j].v, .bool l[j].gone] 34 false)) := ((Grow.refl σ2).alloc _).put (Nat.le_refl _) _
          by_cases hat : l[j].at_ = k
          · simp [wops_cons, encU, h0, h3, h9, h4, h5, h6, h12, h13, h14, hwc, hat, i64n k (by omega)]
            have hv := vmake_spec l[j] hx
            simp only [encU, hat] at hv
            simp only [hat] at hgw
            refine hv _ _ fun σ3 hg3 => ?_
            have hg4 := hgw.trans hg3
            have hl3 := hg4.get hlast hln
            have hfin : lastAt ((l.map verOf).take (j + 1)) k = some (verOf l[j]) := by rw [hsn, lastAt_snoc, if_pos (by rw [verOf_at]; exact hat)]
            have hcl : (encO (lastAt ((l.map verOf).take j) k)).length = 3 := by cases lastAt ((l.map verOf).take j) k <;> rfl
            simp [wops_cons, h0, h3, h9, h4, h5, h6, h12, h13, h14, hl3, hw2, encV, hcl]
            refine ⟨_, ?_, j + 1, ?_, rfl, by omega, rfl, ?_, ?_, ?_⟩
            · omega
            · rw [hfin]; rfl
            · rw [hfin, List.drop_of_length_le (by omega)]; rfl
            · have := hg4.n; omega
            · exact (hg2.trans hg4).put (by omega) _
          · have hfin : lastAt ((l.map verOf).take (j + 1)) k = lastAt ((l.map verOf).take j) k := by rw [hsn, lastAt_snoc, if_neg (by rw [verOf_at]; exact hat)]
            simp [wops_cons, encU, h0, h3, h9, h4, h5, h6, h12, h13, h14, hwc, hat, hw2]
            refine ⟨_, ?_, j + 1, by rw [hfin], rfl, by omega, rfl, ?_, by omega, hg2.trans hgw⟩
            · omega
            · simp [hne, hfin, hlast]
        · have hjl' : j = l.length := by omega
          subst hjl'
          have hall : (l.map verOf).take l.length = l.map verOf := List.take_of_length_le (by simp)
          rw [hall] at h6 hlast
          have hpl := partL_succ (l.map verOf) k
          simp [wops_cons, h0, h3, h9, h4, h5, h6, h12, h13, h14]
          cases hla : lastAt (l.map verOf) (k : Int) with
          | none =>
            rw [hla] at hpl hlast h6
            simp [wops_cons, h0, h3, h9, hw]
            refine ⟨_, ?_, k + 1, rfl, by omega, rfl, ?_, hgr.trans hg2⟩
            · omega
            · rw [hpl]; simpa using hown.grow hg2
          | some w =>
            rw [hla] at hpl hlast h6
            simp only [encO, encV] at hlast
            simp [wops_cons, h3, h5, hlast]
            have hb := partL_len (l.map verOf) k
            have hsx : Sl (σ2.alloc (.cells (encV w) 29 false)) 29 3 encV (.slice (some ⟨σ2.n, 0, none⟩) 1 1) [w] := Sl.all (l := [w]) (ro := false) (fun _ => rfl) (by simp) (by simp) (.inr ⟨by simp, by simp [openCap]⟩)
            obtain ⟨v', σ', he, hown', hg'⟩ := append_own (P := Tryz.prog) (ts := #[25, 25]) (e := 29) (sz := 3) (enc := encV) (l := partL (l.map verOf) k) (m := [w]) (b := σ.n) ef25 (by simp) (fun _ => rfl) (fun _ => rfl) rfl (by decide) (by decide) rfl ((hown.grow hg2).grow ((Grow.refl σ2).alloc _)) (by have := hgr.n; have := hg2.n; simp; omega) hsx (by simp; omega) (by omega)
            simp only [encV] at he
            rw [he]
            simp [wops_cons, h0, h9, hw]
            refine ⟨_, ?_, k + 1, rfl, by omega, rfl, ?_, ?_⟩
            · omega
            · rw [hpl]; exact hown'
            · exact Grow.thenB ((hgr.trans hg2).alloc _) hg' (Nat.le_refl _)
      · refine ⟨_, 0, rfl, ?_⟩
        simp [h0, h3, h9]
        have e0 : lastAt ([] : List Ver) (k : Int) = none := rfl
        rw [e0]
        exact ⟨rfl, rfl, (Grow.refl σ1).alloc _⟩
    · have hk256 : k = 256 := by omega
      subst hk256
      have := h v1 σ1 hown hgr
      simpa [wops_cons, h3, h9] using this
  · refine ⟨_, 0, .slice none 0 0, rfl, ?_⟩
    simp
    exact ⟨Own.nil, Grow.refl σ⟩
end Go.Sm
