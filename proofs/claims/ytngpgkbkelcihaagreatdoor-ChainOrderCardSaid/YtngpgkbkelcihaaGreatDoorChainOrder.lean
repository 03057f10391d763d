/- Part ChainOrder of the proof. -/
import Derived.Test.YtngpgkbkelcihaaGreatDoorSmC
import Derived.Test.YtngpgkbkelcihaaGreatDoorLawAt
import Derived.Test.YtngpgkbkelcihaaGreatDoorLawBt
import Derived.Test.YtngpgkbkelcihaaGreatDoorRowB
/- append into room that is there. -/
set_option linter.unusedVariables false
namespace Go.Sm
open Go
section
variable {α : Type} {P : Program} {σ : CSt} {e : TypeId} {sz b : Nat} {enc : α → List Value} {v x : Value} {l m : List α} {f : TF} {ts : Array TypeId}
theorem append_fit (hf : ts[0]?.bind (elemF P) = some (e, f)) (hu : (ts[1]?.bind (elemT P)).isSome = true) (hsz : ∀ x, (enc x).length = sz) (hc : ∀ x, cokL (enc x) = true) (hfs : f.size = sz) (h0 : 0 < sz) (h1 : 0 < f.bytes) (h2 : f.zero.map List.length = some sz)
    {g : Nat} {zs : List Value} (hg : σ.get g = some (.cells (l.flatMap enc ++ zs) e false)) (hx : Sl σ e sz enc x m) (hz : m.length * sz ≤ zs.length) (hl : l.length < 2 ^ 62) :
    ∃ σ', appendOp P σ ts (.slice (some ⟨g, 0, none⟩) l.length openCap) x = some (.slice (some ⟨g, 0, none⟩) (l ++ m).length openCap, σ') ∧ σ'.get g = some (.cells ((l ++ m).flatMap enc ++ zs.drop (m.length * sz)) e false) ∧ σ'.n = σ.n ∧ ∀ j, j ≠ g → σ'.get j = σ.get j := by
  obtain ⟨g1, g2⟩ := first_sl hsz hx
  have hml := enc_length enc hsz m
  have hll := enc_length enc hsz l
  rw [appendOp_K (by rw [hf]; rfl) hu, hf]
  simp only [appK, g1, hfs, g2, Option.bind_some]
  have hcond : (m.flatMap enc).length = m.length * f.size ∧ cokL (m.flatMap enc) = true ∧ 0 < f.size ∧ 0 < f.bytes ∧ f.zero.map List.length = some f.size := by
    rw [hfs]; exact ⟨hml, cokL_enc hc m, h0, h1, h2⟩
  unfold appendF
  rw [if_pos hcond]
  by_cases hm : m.length = 0
  · have : m = [] := List.eq_nil_of_length_eq_zero hm
    subst this
    refine ⟨σ, ?_, by simpa using hg, rfl, fun _ _ => rfl⟩
    simp only [List.length_nil, if_true, List.append_nil]
    rw [if_pos (by simp only [openCap]; omega)]
  · refine ⟨σ.put g (.cells ((l ++ m).flatMap enc ++ zs.drop (m.length * sz)) e false), ?_, by simp, rfl, fun j hj => by rw [CSt.get_put, if_neg hj]⟩
    simp only [hm, if_false, hg, if_true, and_self]
    have hle : 0 + (l.length + m.length) * f.size ≤ (l.flatMap enc ++ zs).length := by
      rw [List.length_append, hll, hfs, Nat.add_mul]; omega
    rw [if_pos hle]
    have hst : st (l.flatMap enc ++ zs) (0 + l.length * f.size) (m.flatMap enc) = some ((l ++ m).flatMap enc ++ zs.drop (m.length * sz)) := by
      unfold st
      rw [if_pos (by rw [List.length_append, hll, hml, hfs]; omega), hfs, Nat.zero_add, ← hll, List.take_left, ← List.drop_drop, List.drop_left, hml, List.flatMap_append]
    rw [hst]
    simp
end
section
variable {P : Program} {σ : CSt} {ev : Operand → Value} {dst : Option Tmp} {ty : TypeId} {pos : String} {after : Array Edge} {g : Option (Nat × Bool)}
@[simp] theorem copE_makeFunc (f : FuncId) (first captured : Array Operand) : cop P σ ev ⟨dst, .makeFunc (.func f) first captured, ty, pos, after, g⟩ = .val (.func (.func f) (first.map ev) (captured.map ev)) σ := (rfl)
end
end Go.Sm
/- ContainsFunc, Concat, Reverse. -/
set_option linter.unusedVariables false
set_option linter.unusedSimpArgs false
namespace Go.Sm
open Go Go.Proofs
set_option maxRecDepth 100000
set_option maxHeartbeats 2000000
def sameF (k : Nat) : Value := .func (.func 24) #[] #[.pointer (some ⟨k, 0, none⟩)]
theorem ext24 (cs args : Array Value) (σ : CSt) : extOf E1 (.func (.func 24) #[] cs) args σ = none := extOf_none rfl
theorem same_spec (k : Nat) (x w : VV) (σ : CSt) (hk : σ.get k = some (.cells (encU x) 34 false)) (hkn : k < σ.n) (Q : Out → CSt → Prop) (h : ∀ σ', Grow σ σ' → Q (.ret (.bool (decide (w.at_ = x.at_))) false) σ') : W E1 (.fn 24 #[.agg (encU w).toArray, .pointer (some ⟨k, 0, none⟩)] none) σ Q := by
  rw [W_fn (fn := Tryz.f24) Tryz.func24 rfl rfl rfl]
  have hne : ¬ k = σ.n := by omega
  have := h _ ((Grow.refl σ).alloc (.cells (encU w) 34 false))
  simp only [encU] at this
  simpa [wops_cons, encU, hk, hne] using this
theorem index_spec (k : Nat) (x : VV) (l : List VV) (v : Value) (σ : CSt) (hk : σ.get k = some (.cells (encU x) 34 false)) (hkn : k < σ.n) (hsl : Sl σ 34 3 encU v l) (hbig : l.length < 2 ^ 40) (Q : Out → CSt → Prop)
    (h : ∀ (r : Int) (σ' : CSt), (0 ≤ r ↔ ∃ w ∈ l, w.at_ = x.at_) → Grow σ σ' → Q (.ret (.int .i64 r) false) σ') : W E1 (.fn 48 #[v, sameF k] none) σ Q := by
  rw [W_fn (fn := Tryz.f48) Tryz.func48 rfl rfl rfl]
  obtain ⟨p, c, rfl⟩ := hsl.form
  simp [wops_cons, sameF]
  refine W_loop_inv (fun n a σ' => ∃ tm j, a = ⟨tm, 19, [], false⟩ ∧ tm.get 0 = some (.slice p l.length c) ∧ tm.get 1 = some (sameF k) ∧ tm.get 7 = some (.int .i64 l.length) ∧ tm.get 8 = some (.int .i64 (j : Nat)) ∧ j ≤ l.length ∧ n = l.length - j ∧ (∀ i (h : i < l.length), i < j → l[i].at_ ≠ x.at_) ∧ Grow σ σ') ?_ l.length _ _ ?_
  · rintro n a σ1 ⟨tm, j, rfl, e0, e1, e7, e8, hj, hn, hno, hgr⟩
    by_cases hjl : j < l.length
    · obtain ⟨i, off, row, ro, rfl, hg, hin, hrow, hle⟩ := (hsl.grow hgr).at hjl
      have hld := row_get (enc := encU) (fun _ => rfl) hrow j hjl
      have hl1 := row_le hle j hjl
      have hw2 := i64n1 j (by omega)
      simp [wops_cons, e0, e1, e7, e8, hjl, hg, hld, hl1, sameF, ext24]
      refine same_spec k x l[j] σ1 (hgr.get hk hkn) (Nat.lt_of_lt_of_le hkn hgr.n) _ fun σ2 g2 => ?_
      by_cases hat : l[j].at_ = x.at_
      · have := h j σ2 ⟨fun _ => ⟨l[j], List.getElem_mem hjl, hat⟩, fun _ => by omega⟩ (hgr.trans g2)
        simpa [wops_cons, hat] using this
      · simp [wops_cons, hat, e0, e1, e7, e8, hw2, sameF]
        refine ⟨_, ?_, j + 1, rfl, by omega, rfl, fun i h hi => ?_, hgr.trans g2⟩
        · omega
        · by_cases e : i = j
          · subst e; exact hat
          · exact hno i h (by omega)
    · have := h (-1) σ1 ⟨fun h => by omega, fun ⟨w, hw, he⟩ => by
        obtain ⟨i, hi, rfl⟩ := List.mem_iff_getElem.1 hw
        exact absurd he (hno i hi (by omega))⟩ hgr
      have hj' : j = l.length := by omega
      subst hj'
      simpa [wops_cons, e0, e1, e7, e8] using this
  · refine ⟨_, 0, rfl, ?_⟩
    simp [sameF]
    exact Grow.refl σ
theorem has_spec (k : Nat) (x : VV) (l : List VV) (v : Value) (σ : CSt) (hk : σ.get k = some (.cells (encU x) 34 false)) (hkn : k < σ.n) (hsl : Sl σ 34 3 encU v l) (hbig : l.length < 2 ^ 40) (Q : Out → CSt → Prop)
    (h : ∀ (σ' : CSt), Grow σ σ' → Q (.ret (.bool (decide (∃ w ∈ l, w.at_ = x.at_))) false) σ') : W E1 (.fn 23 #[v, sameF k] none) σ Q := by
  rw [W_fn (fn := Tryz.f23) Tryz.func23 rfl rfl rfl]
  obtain ⟨p, c, rfl⟩ := hsl.form
  simp [wops_cons]
  refine index_spec k x l _ σ hk hkn hsl hbig _ fun r σ1 hr g1 => ?_
  have := h σ1 g1
  rw [← decide_eq_decide.2 hr] at this
  simpa [wops_cons] using this
theorem lenU (x : VV) : (encU x).length = 3 := rfl
theorem cokU (x : VV) : cokL (encU x) = true := rfl
theorem swap_perm' {α : Type} (m : List α) (j k : Nat) (hj : j < m.length) (hk : k < m.length) : ((m.set j m[k]).set k m[j]).Perm m := by
  have := Array.swap_perm (xs := m.toArray) (i := j) (j := k) (by simpa using hj) (by simpa using hk)
  rw [Array.perm_iff_toList_perm] at this
  simpa [Array.toList_swap] using this
theorem rev_spec (b : Nat) (l : List VV) (v : Value) (σ : CSt) (hown : Own b σ 34 encU v l) (hbig : l.length < 2 ^ 40) (Q : Out → CSt → Prop)
    (h : ∀ (σ' : CSt) (m : List VV), m.Perm l → Own b σ' 34 encU v m → GrowB b σ σ' → Q (.ret (.tuple #[]) false) σ') : W E1 (.fn 26 #[v] none) σ Q := by
  rw [W_fn (fn := Tryz.f26) Tryz.func26 rfl rfl rfl]
  obtain ⟨p, c, rfl⟩ := (hown.sl (sz := 3) (fun _ => rfl)).form
  have hw0 : IntKind.i64.wrap ((l.length : Int) - 1) = (l.length : Int) - 1 := IntWalk.i64_in _ (by omega)
  simp [wops_cons, hw0]
  refine W_loop_inv (fun n a σ' => ∃ tm j k m, a = ⟨tm, 28, [], false⟩ ∧ tm.get 0 = some (.slice p l.length c) ∧ tm.get 2 = some (.int .i64 (j : Nat)) ∧ tm.get 3 = some (.int .i64 k) ∧ (j : Int) + k = (l.length : Int) - 1 ∧ n = l.length - j ∧ j ≤ l.length ∧ List.Perm m l ∧ Own b σ' 34 encU (.slice p l.length c) m ∧ GrowB b σ σ') ?_ l.length _ _ ?_
  · rintro n a σ1 ⟨tm, j, k, m, rfl, e0, e2, e3, hjk, hn, hj, hpm, ho, hgr⟩
    have hml : m.length = l.length := hpm.length_eq
    by_cases hlt : (j : Int) < k
    · obtain ⟨k, rfl⟩ : ∃ k' : Nat, k = k' := ⟨k.toNat, by omega⟩
      have hj1 : j < m.length := by omega
      have hk1 : k < m.length := by omega
      rcases ho with ⟨h1, h2⟩ | ⟨i, cap, h1, hbi, hin, hg, hcap⟩
      · subst h2; simp at hj1
      · rw [hml] at h1; cases h1
        have hrow : ((m.flatMap encU).drop 0).take (m.length * 3) = m.flatMap encU := by rw [List.drop_zero, List.take_of_length_le (by rw [enc_length encU lenU]; omega)]
        have hrl : (m.flatMap encU).length = m.length * 3 := enc_length encU lenU m
        have hldj := row_get (enc := encU) (fun _ => rfl) hrow j hj1
        have hldk := row_get (enc := encU) (fun _ => rfl) hrow k hk1
        rw [Nat.zero_add] at hldj hldk
        have hlj : j * 3 + 3 ≤ m.length * 3 := by omega
        have hlk : k * 3 + 3 ≤ m.length * 3 := by omega
        simp [wops_cons, e0, e2, e3, hlt, -List.length_flatMap]
        refine W_calm (by kernel_rfl) ?_
        have hset1 := enc_set encU (n := 3) (fun _ => rfl) m j m[k] hj1
        have hset2 := enc_set encU (n := 3) (fun _ => rfl) (m.set j m[k]) k m[j] (by simpa using hk1)
        have hrl2 : ((m.set j m[k]).flatMap encU).length = m.length * 3 := by rw [enc_length encU lenU (m.set j m[k]), List.length_set]
        have hw1 := i64n1 j (by omega)
        have hw3 : IntKind.i64.wrap ((k : Int) - 1) = (k : Int) - 1 := IntWalk.i64_in _ (by omega)
        have hjl : j < l.length := by omega
        have hkl : k < l.length := by omega
        simp [dops_cons, e0, e2, e3, hg, hldj, hldk, hrl, hlj, hlk, hj1, hk1, hjl, hkl, lenU, cokU, hset1, hset2, hrl2, hw1, hw3, -List.length_flatMap, -List.append_assoc, -List.cons_append]
        simp [wops_cons, e2, e3, hw1, hw3]
        have hsp := swap_perm' m j k hj1 hk1
        refine ⟨_, ?_, e0, j + 1, rfl, by omega, rfl, by omega, _, hsp.trans hpm, .inr ⟨i, c, by simp [hml], hbi, by simpa using hin, by simp, ?_⟩, (hgr.put hbi _).put hbi _⟩
        · omega
        · rcases hcap with h | ⟨rfl, _⟩
          · exact .inl h
          · simp at hj1
    · simp [wops_cons, e0, e2, e3, hlt]
      exact h σ1 m hpm ho hgr
  · refine ⟨_, 0, (l.length : Int) - 1, l, rfl, ?_⟩
    simp
    exact ⟨hown, GrowB.refl b σ⟩
section
attribute [local simp] sliceOp_open3 sliceOp_cap sliceOp_open sliceOp_nil appendOp_K appendOp_N copyOp_K
theorem grow_spec (n : Nat) (h0 : 0 < n) (hn : n < 2 ^ 30) (σ : CSt) (Q : Out → CSt → Prop) (h : Q (.ret (.slice (some ⟨σ.n, 0, none⟩) 0 openCap) false) (σ.alloc (.cells (List.replicate n [.int .u8 0, .int .u8 0, .bool false]).flatten 34 false))) : W E1 (.fn 49 #[.slice none 0 0, .int .i64 n] none) σ Q := by
  rw [W_fn (fn := Tryz.f49) Tryz.func49 rfl rfl rfl]
  have hw : IntKind.i64.wrap (n : Int) = n := IntWalk.i64_in _ (by omega)
  have hw0 : IntKind.i64.wrap 0 = 0 := by decide
  have h1 : ¬ (n : Int) < 0 := by omega
  have h2 : (0 : Int) < n := by omega
  have h3 : (n : Int) * 3 ≤ 140737488355328 := by omega
  have h4 : n * 3 ≤ 140737488355328 := by omega
  have h5 : ¬ n = 0 := by omega
  simpa [wops_cons, hw, hw0, h1, h2, h0, h3, h4, h5, appNK, appendF, sliceO] using h
end
/-- slices.Concat of two. -/
theorem concat_spec (l m : List VV) (v u : Value) (σ : CSt) (a : Nat) (ha : σ.get a = some (.cells [v, u] 22 false)) (han : a < σ.n) (hv : Sl σ 34 3 encU v l) (hu : Sl σ 34 3 encU u m) (h0 : 0 < l.length + m.length) (hbig : l.length + m.length < 2 ^ 30) (Q : Out → CSt → Prop)
    (h : ∀ (v' : Value) (σ' : CSt), Own σ.n σ' 34 encU v' (l ++ m) → Grow σ σ' → Q (.ret v' false) σ') : W E1 (.fn 25 #[.slice (some ⟨a, 0, none⟩) 2 2] none) σ Q := by
  rw [W_fn (fn := Tryz.f25) Tryz.func25 rfl rfl rfl]
  obtain ⟨p, c, rfl⟩ := hv.form
  obtain ⟨p', c', rfl⟩ := hu.form
  have hw1 : IntKind.i64.wrap (l.length : Int) = l.length := IntWalk.i64_in _ (by omega)
  have hw2 : IntKind.i64.wrap ((l.length : Int) + m.length) = ((l.length + m.length : Nat) : Int) := by rw [IntWalk.i64_in _ (by omega)]; simp
  have hn1 : ¬ (l.length : Int) < 0 := by omega
  have hn2 : ¬ (l.length : Int) + m.length < 0 := by omega
  have hwa : IntKind.i64.wrap 1 = 1 := by decide
  have hwb : IntKind.i64.wrap 2 = 2 := by decide
  have hco : (2 : Nat) ≠ openCap := by simp [openCap]
  simp [wops_cons]
  rw [W_loop]
  simp [wops_cons, ha, hw1, hn1, hwa]
  rw [W_loop]
  simp [wops_cons, ha, hw2, hn2, hwb]
  rw [W_loop]
  simp [wops_cons, ha, hw2, hn2, hwb]
  have hgs := fun Q => grow_spec (l.length + m.length) h0 hbig σ Q
  simp only [Int.natCast_add] at hgs
  refine hgs _ ?_
  have hzl : ((List.replicate (l.length + m.length) [Value.int .u8 0, Value.int .u8 0, Value.bool false]).flatten).length = (l.length + m.length) * 3 := by simp
  generalize (List.replicate (l.length + m.length) [Value.int .u8 0, Value.int .u8 0, Value.bool false]).flatten = zs at hzl ⊢
  have hG : Grow σ (σ.alloc (.cells zs 34 false)) := (Grow.refl σ).alloc _
  obtain ⟨σ1, f1, f2, f3, f4⟩ := append_fit (P := Tryz.prog) (ts := #[22, 22]) (e := 34) (sz := 3) (enc := encU) (l := []) (m := l) ef22 (by simp) lenU cokU rfl (by decide) (by decide) rfl (σ := σ.alloc (.cells zs 34 false)) (g := σ.n) (zs := zs) (by simp) (hv.grow hG) (by rw [hzl]; omega) (by simp)
  have hG1 : Grow σ σ1 := ⟨by rw [f3]; simp, fun i hi => by rw [f4 i (by omega)]; exact hG.old i hi⟩
  obtain ⟨σ2, k1, k2, k3, k4⟩ := append_fit (P := Tryz.prog) (ts := #[22, 22]) (e := 34) (sz := 3) (enc := encU) (l := l) (m := m) ef22 (by simp) lenU cokU rfl (by decide) (by decide) rfl (σ := σ1) (g := σ.n) (zs := zs.drop (l.length * 3)) (by simpa using f2) (hu.grow hG1) (by rw [List.length_drop, hzl]; omega) (by omega)
  have hG2 : Grow σ σ2 := ⟨by rw [k3]; exact hG1.n, fun i hi => by rw [k4 i (by omega)]; exact hG1.old i hi⟩
  simp only [List.nil_append, List.length_nil, List.length_append] at f1 k1
  have ha0 := hG.get ha han
  have ha1 := hG1.get ha han
  have hdr : (zs.drop (l.length * 3)).drop (m.length * 3) = [] := List.drop_of_length_le (by rw [List.length_drop, hzl]; omega)
  rw [hdr, List.append_nil] at k2
  have fin := h (.slice (some ⟨σ.n, 0, none⟩) (l ++ m).length openCap) σ2 (.inr ⟨σ.n, openCap, rfl, Nat.le_refl _, by rw [k3, f3]; simp, k2, .inl rfl⟩) hG2
  rw [List.length_append] at fin
  simp [wops_cons]
  rw [W_loop]
  simp [wops_cons, ha0, hwa, f1]
  rw [W_loop]
  simp [wops_cons, ha1, hwb, k1]
  rw [W_loop]
  simpa [wops_cons] using fin
end Go.Sm
/- Versions of unlike times, in any order: plain facts. -/
set_option linter.unusedSimpArgs false
namespace Go.Sm
def Unlike (l : List Ver) : Prop := l.Pairwise fun a b => a.at_ ≠ b.at_
theorem unlike_one {l : List Ver} (h : Unlike l) (t : Int) : (l.filter fun v => v.at_ == t).length ≤ 1 := by
  induction l with
  | nil => simp
  | cons v l ih =>
    obtain ⟨h1, h2⟩ := List.pairwise_cons.1 h
    rw [List.filter_cons]
    by_cases e : v.at_ = t
    · have : (l.filter fun v => v.at_ == t) = [] := by
        rw [List.filter_eq_nil_iff]
        intro u hu
        have := h1 u hu
        simp; omega
      simp [e, this]
    · simpa [e] using ih h2
theorem perm_short {α : Type} {l m : List α} (h : l.Perm m) (hl : l.length ≤ 1) : l = m := by
  match l, hl with
  | [], _ => exact (List.nil_perm.1 h).symm
  | [a], _ => exact List.singleton_perm.1 h
theorem make_perm {l m : List Ver} (hp : l.Perm m) (h : Unlike l) : makeL l = makeL m := by
  refine Srt.ext (makeL_srt l) (makeL_srt m) fun t => ?_
  rw [lk_makeL, lk_makeL]
  unfold lastAt
  rw [perm_short (hp.filter _) (unlike_one h t)]
theorem put_new (c : List Ver) (x : Ver) (h : ∀ u ∈ c, u.at_ ≠ x.at_) : (putL c x).length = c.length + 1 := by
  unfold putL
  rw [List.length_append, List.length_cons]
  have : ∀ (l : List Ver), (∀ u ∈ l, u.at_ ≠ x.at_) → (l.filter fun u => decide (u.at_ < x.at_)).length + (l.filter fun u => decide (x.at_ < u.at_)).length = l.length := by
    intro l
    induction l with
    | nil => simp
    | cons u l ih =>
      intro hl
      have h0 := hl u (by simp)
      have := ih fun u hu => hl u (by simp [hu])
      by_cases h1 : u.at_ < x.at_
      · have h2 : ¬ x.at_ < u.at_ := by omega
        simp [h1, h2]; omega
      · have h2 : x.at_ < u.at_ := by omega
        simp [h1, h2]; omega
  have := this c h
  omega
theorem mem_make {l : List Ver} {u : Ver} : u ∈ makeL l → u ∈ l := by
  intro h
  have := (makeL_srt l).lk_mem h
  rw [lk_makeL] at this
  exact (lastAt_at this).1
theorem make_all {l : List Ver} : Unlike l → (makeL l).length = l.length := by
  refine rev_ind (P := fun l => Unlike l → (makeL l).length = l.length) (fun _ => rfl) (fun l v ih h => ?_) l
  unfold Unlike at h
  rw [List.pairwise_append] at h
  obtain ⟨h1, _, h3⟩ := h
  rw [makeL_snoc, put_new _ _ fun u hu => h3 u (mem_make hu) v (by simp), ih h1]
  simp
end Go.Sm
/- ChainOrder: the walk. -/
set_option linter.unusedVariables false
set_option linter.unusedSimpArgs false
namespace Go.Sm
open Go Go.Proofs
set_option maxRecDepth 100000
set_option maxHeartbeats 4000000
attribute [local simp] sliceOp_open3 sliceOp_cap sliceOp_open sliceOp_nil
def UnlikeV (l : List VV) : Prop := l.Pairwise fun a b => a.at_ ≠ b.at_
theorem UnlikeV.ver {l : List VV} (h : UnlikeV l) : Unlike (l.map verOf) := by
  unfold Unlike
  rw [List.pairwise_map]
  exact List.Pairwise.imp (fun h => by rw [verOf_at, verOf_at]; exact h) h
theorem unlike_snoc {l : List VV} {x : VV} (h : UnlikeV l) (hx : ¬ ∃ w ∈ l, w.at_ = x.at_) : UnlikeV (l ++ [x]) := by
  unfold UnlikeV
  rw [List.pairwise_append]
  refine ⟨h, by simp, fun a ha b hb => ?_⟩
  rw [List.mem_singleton] at hb
  subst hb
  exact fun e => hx ⟨a, ha, e⟩
theorem law_ChainOrder (l : List VV) (hok : ∀ x ∈ l, x.ok) (t : Int) (ht0 : 0 ≤ t) (ht1 : t < 256) (v : Value) (σ : CSt) (hn : gnone σ) (hsl : Sl σ 34 3 encU v l) : W E1 (.fn 8 #[v, .int .u8 t] none) σ isTrueP := by
  rw [W_fn (fn := Tryz.f8) Tryz.func8 rfl rfl rfl]
  obtain ⟨p, c, rfl⟩ := hsl.form
  simp [wops_cons]
  rw [awake_spec rfl hn]
  simp [wops_cons, wops_if', dstOf]
  by_cases hl : 30 < l.length
  · have hl' : (30 : Int) < l.length := by omega
    have hl3 : ¬ (l.length : Int) ≤ 30 := by omega
    simp [wops_cons, wops_if', dstOf, hl', hl3, isTrueP]
  · have hl' : ¬ (30 : Int) < l.length := by omega
    have hl3 : (l.length : Int) ≤ 30 := by omega
    by_cases hz : l.length = 0
    · have hl0 : l = [] := List.eq_nil_of_length_eq_zero hz
      simp [wops_cons, wops_if', dstOf, hl', hl3, hl0, isTrueP]
    · have hz' : ¬ (l.length : Int) = 0 := by omega
      have hz2 : ¬ l = [] := fun e => hz (by rw [e]; rfl)
      simp [wops_cons, wops_if', dstOf, hl', hl3, hz', hz2]
      refine W_loop_inv (fun n a σ' => ∃ tm j v' X, a = ⟨tm, 63, [], false⟩ ∧ tm.get 1 = some (.int .u8 t) ∧ tm.get 5 = some v' ∧ tm.get 20 = some (.slice p l.length c) ∧ tm.get 21 = some (.int .i64 l.length) ∧ tm.get 22 = some (.int .i64 (j : Nat)) ∧ j ≤ l.length ∧ n = l.length - j ∧
        Own σ.n σ' 34 encU v' X ∧ UnlikeV X ∧ (∀ x ∈ X, x.ok) ∧ X.length ≤ j ∧ (0 < j → 0 < X.length) ∧ Grow σ σ') ?_ l.length _ _ ?_
      · rintro n a σ1 ⟨tm, j, vx, X, rfl, e1, e5, e20, e21, e22, hj, hn, ho, hun, hokX, hXj, hX0, hgr⟩
        by_cases hjl : j < l.length
        · obtain ⟨i, off, row, ro, rfl, hg, hin, hrow, hle⟩ := (hsl.grow hgr).at hjl
          have hld := row_get (enc := encU) (fun _ => rfl) hrow j hjl
          have hl1 := row_le hle j hjl
          have hw2 := i64n1 j (by omega)
          have hgw : Grow σ1 ((σ1.alloc (.cells [.int .u8 0, .int .u8 0, .bool false] 34 false)).put σ1.n (.cells (encU l[j]) 34 false)) := ((Grow.refl σ1).alloc _).put (Nat.le_refl _) _
          simp [wops_cons, e1, e5, e20, e21, e22, hjl, hg, hld, hl1, lenU, cokU]
          refine has_spec σ1.n l[j] X vx _ (by simp) (by simp) ((ho.sl lenU).grow hgw) (by omega) _ fun σ2 g2 => ?_
          have hg2 := hgw.trans g2
          have hc2 : σ2.get σ1.n = some (.cells (encU l[j]) 34 false) := g2.get (by simp) (by simp)
          by_cases hex : ∃ w ∈ X, w.at_ = l[j].at_
          · simp [wops_cons, hex, e1, e5, e20, e21, e22, hw2]
            refine ⟨_, ?_, j + 1, rfl, by omega, rfl, X, ho.grow hg2, hun, hokX, by omega, fun _ => ?_, hgr.trans hg2⟩
            · omega
            · obtain ⟨w, hw, _⟩ := hex
              exact List.length_pos_of_mem hw
          · have happ := append_own (P := Tryz.prog) (ts := #[22, 22]) (e := 34) (sz := 3) (enc := encU) (l := X) (m := [l[j]]) (b := σ.n) ef22 (by simp) lenU cokU rfl (by decide) (by decide) rfl (σ := σ2.alloc (.cells (encU l[j]) 34 false)) ((ho.grow hg2).grow ((Grow.refl σ2).alloc _)) (by have := (hgr.trans hg2).n; simp; omega)
              (Sl.all (l := [l[j]]) (i := σ2.n) (cap := 1) (ro := false) lenU (by simp) (by simp) (.inr ⟨by simp, by simp [openCap]⟩)) (by simp; omega) (by omega)
            obtain ⟨v3, σ3, he3, ho3, hg3⟩ := happ
            simp only [List.length_singleton] at he3
            have ht3 : List.take 3 (encU l[j]) = encU l[j] := rfl
            simp [wops_cons, hex, e1, e5, e20, e21, e22, hw2, hc2, lenU, cokU, ht3]
            rw [he3]
            simp [wops_cons, e1, e5, e20, e21, e22, hw2]
            refine ⟨_, ?_, j + 1, rfl, by omega, rfl, _, ho3, unlike_snoc hun hex, fun y hy => ?_, by simp; omega, by simp, Grow.thenB ((hgr.trans hg2).alloc _) hg3 (Nat.le_refl _)⟩
            · omega
            · rcases List.mem_append.1 hy with h | h
              · exact hokX y h
              · rw [List.mem_singleton] at h; rw [h]; exact hok _ (List.getElem_mem hjl)
        · have hjl' : j = l.length := by omega
          subst hjl'
          have hX1 : 0 < X.length := hX0 (by omega)
          rcases ho with ⟨_, h2⟩ | ⟨i, cap, rfl, hbi, hin, hg, hcap⟩
          · rw [h2] at hX1; simp at hX1
          · have hcap : cap = openCap := by
              rcases hcap with h | ⟨h, _⟩
              · exact h
              · rw [h] at hX1; simp at hX1
            subst hcap
            have hK0 : 0 ≤ t.tmod X.length := Int.tmod_nonneg _ ht0
            have hK1 : t.tmod X.length < X.length := Int.tmod_lt_of_pos t (by omega)
            have hKz : ¬ (X.length : Int) = 0 := by omega
            have hwt : IntKind.i64.wrap t = t := IntWalk.i64_in _ (by omega)
            obtain ⟨k, hk⟩ : ∃ k : Nat, t.tmod X.length = k := ⟨(t.tmod X.length).toNat, by omega⟩
            rw [hk] at hK0 hK1
            have hkx : k < X.length := by omega
            have hkx2 : k ≤ X.length := by omega
            have hX2 : ¬ X = [] := fun e => by rw [e] at hX1; simp at hX1
            simp [wops_cons, e1, e5, e20, e21, e22, hwt, hKz, hk, hX2]
            refine W_calm (by kernel_rfl) ?_
            have hrl : (X.flatMap encU).length = X.length * 3 := enc_length encU lenU X
            have hrow : ((X.flatMap encU).drop 0).take (X.length * 3) = X.flatMap encU := by rw [List.drop_zero, List.take_of_length_le (by omega)]
            have hs1 : Sl σ1 34 3 encU (.slice (some ⟨i, 0 + k * 3, none⟩) (X.drop k).length openCap) (X.drop k) := .inr ⟨i, 0 + k * 3, openCap, _, false, rfl, hg, hin, row_drop lenU hrow k hkx2, by rw [List.length_drop, hrl, Nat.sub_mul]; omega, .inl rfl⟩
            have hs2 : Sl σ1 34 3 encU (.slice (some ⟨i, 0, none⟩) (X.take k).length openCap) (X.take k) := .inr ⟨i, 0, openCap, _, false, rfl, hg, hin, row_take lenU hrow k hkx2, by rw [List.length_take, hrl]; omega, .inl rfl⟩
            rw [List.length_drop, Nat.zero_add] at hs1
            rw [List.length_take, Nat.min_eq_left hkx2] at hs2
            simp [dops_cons, e5, hg, hkx, hkx2, sliceO]
            have hga : Grow σ1 (σ1.alloc (.cells [.slice (some ⟨i, k * 3, none⟩) (X.length - k) openCap, .slice (some ⟨i, 0, none⟩) k openCap] 22 false)) := (Grow.refl σ1).alloc _
            refine concat_spec (X.drop k) (X.take k) _ _ _ σ1.n (by simp) (by simp) (hs1.grow hga) (hs2.grow hga) (by rw [List.length_drop, List.length_take]; omega) (by rw [List.length_drop, List.length_take]; omega) _ fun v2 σ2 h2 g2 => ?_
            have hg2 := hga.trans g2
            have hp2 : (X.drop k ++ X.take k).Perm X := by
              have := List.perm_append_comm (l₁ := X.drop k) (l₂ := X.take k)
              rwa [List.take_append_drop] at this
            simp [dops_cons, e5]
            simp [wops_cons, e5]
            refine rev_spec _ _ v2 σ2 h2 (by rw [List.length_append, List.length_drop, List.length_take]; omega) _ fun σ3 M hpm h3 g3 => ?_
            have hpM := hpm.trans hp2
            have hlM := hpM.length_eq
            have hg3 : Grow σ1 σ3 := Grow.thenB hg2 g3 (by simp)
            have hX3 : Sl σ3 34 3 encU (.slice (some ⟨i, 0, none⟩) X.length openCap) X := Sl.grow (.inr ⟨i, 0, openCap, _, false, rfl, hg, hin, hrow, by omega, .inl rfl⟩) hg3
            have hM3 := h3.sl lenU
            simp [wops_cons, wops_if', dstOf, e5]
            refine make_spec X hokX _ σ3 hX3 (by omega) _ fun v4 σ4 h4 g4 => ?_
            simp [wops_cons, wops_if', dstOf, e5]
            refine make_spec M (fun y hy => hokX y (hpM.mem_iff.1 hy)) _ σ4 (hM3.grow g4) (by omega) _ fun v5 σ5 h5 g5 => ?_
            have hmk : makeL (M.map verOf) = makeL (X.map verOf) := (make_perm (hpM.symm.map verOf) hun.ver).symm
            have hal := make_all hun.ver
            rw [List.length_map] at hal
            rw [hmk] at h5
            simp [wops_cons, wops_if', dstOf, e5]
            refine equal_ch _ _ v4 v5 σ5 (h4.grow g5) h5 (by omega) _ fun σ6 g6 => ?_
            simp [wops_cons, wops_if', dstOf, e5]
            refine make_spec X hokX _ σ6 (hX3.grow ((g4.trans g5).trans g6)) (by omega) _ fun v7 σ7 h7 g7 => ?_
            obtain ⟨p7, c7, rfl⟩ := h7.form
            simp [wops_cons, wops_if', dstOf, e5, hal, isTrueP]
      · refine ⟨_, 0, .slice none 0 0, [], rfl, ?_⟩
        simp
        exact ⟨Own.nil, List.Pairwise.nil, Grow.refl σ⟩
end Go.Sm
/- ChainOrder: the row and the card. -/
set_option linter.unusedVariables false
set_option linter.unusedSimpArgs false
namespace Go.Sm
open Go Go.Proofs Go.Proofs.YtngpgkbkelcihaaGreatDoor Go.ChangeShapes Go.WideShapes Go.RowKit Go.ChangeAt
namespace ChainOrder
set_option maxRecDepth 100000 in
theorem contract (H : Type) (enc : TypeId × Value → H) (W : World) (base : Nat) (args : Array Value) (ds gs : List (DataW H)) (before : List MemPlace)
    (hval : ∀ (j : Nat) t v, Tryz.f8.params[j]? = some t → args[j]? = some v → Value.okWide Tryz.prog W .any base t v)
    (hW : DataW.Whole enc Tryz.prog Tryz.f8.params.toList Rows.chainOrderSpec.vars false W args.toList ds gs before) (hL : laidMetH Tryz.prog Rows.chainOrderRow.laid W) :
    Calls Tryz.prog 8 args W fun e W' => ∃ v, e = .returned v ∧ Rows.chainOrderSpec.post enc Tryz.prog Tryz.f8 false true false false W args v W' := by
  have hW' := hW
  obtain ⟨p, q, hA0, hV, rfl, hfz, hnd⟩ := hW
  have hA : DataW.TrodAll enc Tryz.prog W 0 (fun _ => true) true Tryz.f8.params.toList args.toList ds p := hA0
  rw [Tryz.params8] at hA hval
  obtain ⟨v0, vs0, d0, ds0, p0, q0, hargs, rfl, rfl, h0, r0⟩ := trodAll_cons hA
  obtain ⟨v1, vs1, d1, ds1, p1, q1, rfl, rfl, rfl, h1, r1⟩ := trodAll_cons r0
  obtain ⟨rfl, rfl, rfl⟩ := trodAll_nil r1
  obtain rfl : args = #[v0, v1] := by cases args; simp_all
  obtain ⟨rfl, rfl⟩ := trodVars_none hV
  obtain ⟨ρ0, hR0⟩ := base_R hL
  obtain ⟨fu0, hf0⟩ := h0
  obtain ⟨ρ1, σ1, a0, l0, hR1, hc1, hle1, hv0, hg1, hok0, hsl0⟩ := open_sl (f := 2) (sz := 3) (enc := encU) hR0 calm0 Tryz.underlying22 (by kernel_rfl) (by kernel_rfl) (fun _ => rfl) okU_of (hval 0 22 v0 rfl rfl) hf0
  obtain ⟨fu1, hf1⟩ := h1
  obtain ⟨n1, rfl, hlo1, hhi1⟩ := open_i (k := .u8) Tryz.underlying5 (hval 1 5 v1 rfl rfl) hf1
  have hlo1 : (0 : Int) ≤ n1 := hlo1
  have hhi1 : n1 ≤ 255 := hhi1
  have hn0 := gnone0
  have hz0 : 0 < st0.n := by decide
  have hn1 : gnone σ1 := hg1.get hn0 hz0
  have hz1 : 0 < σ1.n := Nat.lt_of_lt_of_le hz0 hg1.n
  exact law_calls (E := E1) (s := Rows.chainOrderSpec) (aa := #[a0, (.int .u8 n1)]) good (ext_ok rfl rfl) gam1 laidOut0 (by kernel_rfl) (bt := 4) (by kernel_rfl) Tryz.underlying4 rfl hW' rfl hR1 hc1 (LR.cons hv0 (LR.cons (.plain _ rfl) (.nil _))).toArray (law_ChainOrder l0 hok0 n1 hlo1 (by omega) a0 σ1 hn1 hsl0)
theorem laid_met (os : Os) : laidMet Tryz.prog Rows.chainOrderRow.laid ((laidWorld os).forCall (fun _ _ => 0) ⟨#[], #[.slice none 0 0, .int .u8 0], []⟩).memory :=
  laidMet_of_run' 8 (by kernel_rfl) (by kernel_rfl)
theorem reads (os : Os) {H : Type} (enc : TypeId × Value → H) : ∃ places, DataW.whole enc Tryz.prog ((laidWorld os).forCall (fun _ _ => 0) ⟨#[], #[.slice none 0 0, .int .u8 0], []⟩).memory Tryz.f8.params.toList Rows.chainOrderSpec.vars false (#[.slice none 0 0, .int .u8 0] : Array Value).toList 8 = some ([.nil, .lit (.int .u8 0)], [], places) :=
  ⟨[], by kernel_rfl⟩
set_option maxRecDepth 100000 in
theorem lifted (os : Os) (started : os.Started) (H : Type) (enc : TypeId × Value → H) (F : Stop.Interp) :
    ReturnsInHanded {} Tryz.checked os 8 .any ((OpenSpec.ofChange Rows.chainOrderSpec).preRow enc Tryz.prog Tryz.f8 Rows.chainOrderRow.domain false Rows.chainOrderRow.laid) (((OpenSpec.ofChange Rows.chainOrderSpec).at F).post enc Tryz.prog Tryz.f8 false true false false) := by
  obtain ⟨places, hx⟩ := reads os enc
  refine returnsInHanded_of_row (C := Tryz.checked) (s := OpenSpec.ofChange Rows.chainOrderSpec) own0 started (by kernel_rfl) Tryz.func8
    (witness_row_at (enc := enc) (C := Tryz.checked) false (laidWorld os) #[.slice none 0 0, .int .u8 0] rfl (by kernel_rfl) (by kernel_rfl) (by kernel_rfl)
      (OpenSpec.preRow_of_cond 8 hx (by kernel_rfl) (fun k hk => by cases hk) (by kernel_rfl) (laid_met os))) ?_
  intro W base args ds gs before hval hW _ _ _ hL _ _
  exact contract H enc W base args ds gs before hval hW hL
theorem said : Rows.ChainOrderSaid :=
  OpenClaim.holds_of_cond 8 Tryz.f8 rfl rfl rfl rfl rfl rfl rfl ⟨rfl, rfl, rfl, rfl, rfl⟩ rfl rfl rfl rfl rfl (by kernel_rfl) Tryz.func8 (by kernel_rfl)
    (of_decide_eq_true (by kernel_rfl)) (by unfold Func.isWrapper; first | (rw [if_pos (by decide +kernel)]; kernel_rfl) | (rw [if_neg (by decide +kernel)]; exact ⟨rfl, rfl⟩))
    (fun os started H enc _ F => by rw [OpenClaim.pre_eq_preRow]; exact lifted os started H enc F)
theorem plain (f : FuncId) (fn : Func) (hf : Tryz.pinned.checked.prog.funcNamed "selion/selionlaw08.ChainOrder" = some f) (hfn : Tryz.pinned.checked.prog.funcs[f]? = some fn) :
    true = Tryz.pinned.checked.prog.looks [] ∧ ∀ (j : Nat) t, fn.params[j]? = some t → Tryz.pinned.checked.prog.wantsStandIn t = false := by
  obtain rfl : f = 8 := Option.some.inj ((show Tryz.prog.funcNamed "selion/selionlaw08.ChainOrder" = some 8 by kernel_rfl).symm.trans hf) |>.symm
  obtain rfl : fn = Tryz.f8 := (Option.some.inj (Tryz.func8.symm.trans hfn)).symm
  refine ⟨by kernel_rfl, fun j t ht => ?_⟩
  rw [Tryz.params8] at ht
  have hm : t ∈ [22, 5] := by simpa using Array.mem_of_getElem? ht
  have hall : ([22, 5].all fun u => !Tryz.prog.wantsStandIn u) = true := by kernel_rfl
  exact (show Tryz.prog.wantsStandIn t = false by simpa using List.all_eq_true.1 hall t hm)
theorem card : Rows.ChainOrderCardSaid :=
  Claim7.holds_tied_plain_at .later [] _ _ _ _ said (fun _ h => by cases h) (by kernel_rfl) (fun _ h => by cases h) chainOrder_row_tie rfl ⟨rfl, rfl⟩ (by kernel_rfl) rfl plain (by kernel_rfl)
end ChainOrder
end Go.Sm
namespace Go.Proofs.YtngpgkbkelcihaaGreatDoor
theorem chainOrder_proved : Rows.ChainOrderCardSaid := Go.Sm.ChainOrder.card
end Go.Proofs.YtngpgkbkelcihaaGreatDoor
