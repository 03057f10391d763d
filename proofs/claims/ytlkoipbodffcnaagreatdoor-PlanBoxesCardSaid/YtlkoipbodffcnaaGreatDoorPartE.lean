/- Part E of the proof. -/
import Derived.Sort.LotD5
import Derived.Test.YtlkoipbodffcnaaGreatDoorPartC
import Derived.Test.YtlkoipbodffcnaaGreatDoorPartD
/- Tables of locks: made of small ones. -/
set_option linter.unusedVariables false
set_option linter.unusedSimpArgs false
namespace Go.Sm
open Go Go.Proofs
set_option maxRecDepth 100000
set_option maxHeartbeats 4000000
/-- A lock more. -/
theorem app_lk {b : Nat} {s1 : CSt} {l : List Lk} {x : Lk} {v : Value} (ho : Own b s1 33 encK v l) (hb : b ≤ s1.n) (hl : l.length < 2 ^ 36) :
    ∃ p9 c9 s9, appendOp Tryz.prog (s1.alloc (.cells (encK x) 33 false)) #[25, 25] v (.slice (some ⟨s1.n, 0, none⟩) 1 1) = some (.slice p9 (l.length + 1) c9, s9) ∧ Own b s9 33 encK (.slice p9 (l.length + 1) c9) (l ++ [x]) ∧ ButV v s1 s9 ∧ GrowB b s1 s9 ∧ ∃ j, objOf (.slice p9 (l.length + 1) c9) = some j ∧ s1.n ≤ j := by
  have hga : Grow s1 (s1.alloc (.cells (encK x) 33 false)) := (Grow.refl s1).alloc _
  obtain ⟨v9, s9, a1, a2, a3, a4, a5⟩ := append_only (P := Tryz.prog) (ts := #[25, 25]) (e := 33) (sz := 5) (enc := encK) (l := l) (m := [x]) (b := b) ef25 (by simp) lenK cokK rfl (by decide) (by decide) rfl (σ := s1.alloc (.cells (encK x) 33 false))
    (ho.grow hga) (by simp; omega) (Sl.all (l := [x]) (i := s1.n) (cap := 1) (ro := false) lenK (by simp) (by simp) (.inr ⟨by simp, by simp [openCap]⟩)) (by show (_ + 1) * 56 ≤ _; omega) (by omega)
  obtain ⟨n, c, e⟩ := a5 (by simp)
  obtain ⟨p9, c9, rfl⟩ := (a2.sl (sz := 5) lenK).form
  rw [List.length_append] at a1 a2
  refine ⟨p9, c9, s9, a1, a2, ⟨by have := a3.1; simp at this; omega, fun j hj hne => ?_⟩, (hga.toB hb).trans a3, ?_⟩
  · rw [a4 j (by simp; omega) (fun i off n c h => by rintro rfl; exact hne (by rw [h]; rfl)), hga.old j hj]
  · cases e
    exact ⟨_, rfl, by simp⟩
theorem Tb.but {b i : Nat} {v v2 : Value} {s s' : CSt} {L : List Lk} (h : Tb b i v s L) (k : ButV v2 s s') (hi : objOf v2 ≠ some i) (hv : ∀ j, objOf v = some j → objOf v2 ≠ some j) : Tb b i v s' L := by
  obtain ⟨h1, h2, h3, h4⟩ := h
  refine ⟨by rw [k.2 i h3 hi]; exact h1, h2, Nat.lt_of_lt_of_le h3 k.1, ?_⟩
  rcases h4 with h4 | ⟨j, cap, zs, rfl, hb, hj, hg, hc⟩
  · exact .inl h4
  · exact .inr ⟨j, cap, zs, rfl, hb, Nat.lt_of_lt_of_le hj k.1, by rw [k.2 j hj (hv j rfl)]; exact hg, hc⟩
theorem Own.z2 {α : Type} {b : Nat} {σ : CSt} {e : TypeId} {enc : α → List Value} {v : Value} {l : List α} (h : Own b σ e enc v l) {j : Nat} (hj : objOf v = some j) : b ≤ j ∧ j < σ.n ∧ ∃ row, σ.get j = some (.cells row e false) := h.z.ob hj
theorem Tb.ne2 {b b2 i : Nat} {v v2 : Value} {σ : CSt} {L l : List Lk} (h : Tb b i v σ L) (ho : Own b2 σ 33 encK v2 l) : objOf v2 ≠ some i := fun e => by
  obtain ⟨_, _, row, hr⟩ := ho.z2 e
  rw [h.1] at hr
  injection hr with e1
  injection e1 with e2 e3 e4
  cases e3
def madeK (l : List LL) : List Lk := (l.map lkOf).filter goodK
theorem madeK_snoc (l : List LL) (x : LL) : madeK (l ++ [x]) = addK (madeK l) (lkOf x) := by
  unfold madeK addK
  rw [List.map_append, List.filter_append, List.map_cons, List.map_nil, List.filter_cons, List.filter_nil]
  split <;> simp
theorem madeK_le (l : List LL) : (madeK l).length ≤ l.length := by
  unfold madeK
  have := List.length_filter_le goodK (l.map lkOf)
  rw [List.length_map] at this
  exact this
theorem table_spec (l : List LL) (hok : ∀ x ∈ l, x.ok) (v : Value) (σ : CSt) (hsl : Sl σ 46 6 encL v l) (hbig : l.length < 2 ^ 36) (Q : Out → CSt → Prop)
    (h : ∀ (i : Nat) (v1 v2 : Value) (σ' : CSt), Tb σ.n i v1 σ' (madeK l) → Own σ.n σ' 33 encK v2 (madeK l) → (∀ j, objOf v1 = some j → objOf v2 ≠ some j) → Grow σ σ' → Q (.ret (.tuple #[.pointer (some ⟨i, 0, none⟩), v2]) false) σ') : W E1 (.fn 14 #[v] none) σ Q := by
  rw [W_fn (fn := Tryz.f14) Tryz.func14 rfl rfl rfl]
  obtain ⟨p, c, rfl⟩ := hsl.form
  simp [wops_cons]
  refine W_loop_inv (fun n a s => ∃ tm j v1 v2, a = ⟨tm, 31, [], false⟩ ∧ tm.get 4 = some (.pointer (some ⟨σ.n, 0, none⟩)) ∧ tm.get 5 = some v2 ∧ tm.get 10 = some (.slice p l.length c) ∧ tm.get 11 = some (.int .i64 l.length) ∧ tm.get 12 = some (.int .i64 (j : Nat)) ∧ j ≤ l.length ∧ n = l.length - j ∧ Tb σ.n σ.n v1 s (madeK (l.take j)) ∧ Own σ.n s 33 encK v2 (madeK (l.take j)) ∧ (∀ j, objOf v1 = some j → objOf v2 ≠ some j) ∧ Grow σ s) ?_ l.length _ _ ?_
  · rintro n a s ⟨tm, j, v1, v2, rfl, e4, e5, e10, e11, e12, hj, hn, htb, hov, hap, gs⟩
    by_cases hjl : j < l.length
    · obtain ⟨i', off, row, ro, rfl, hg, hin', hrow, hle⟩ := (hsl.grow gs).at hjl
      have hld := row_get (enc := encL) lenL hrow j hjl
      have hl1 := row_le hle j hjl
      have hw2 := i64n1 j (by omega)
      have hjl' : (j : Int) < l.length := by omega
      have hg5 : Grow s ((s.alloc (.cells [.int .u8 0, .int .u8 0, .int .u8 0, .int .u64 0, .int .u64 0, .int .u8 0] 46 false)).put s.n (.cells (encL l[j]) 46 false)) := ((Grow.refl s).alloc _).put (Nat.le_refl _) _
      have hc5 : ((s.alloc (.cells [.int .u8 0, .int .u8 0, .int .u8 0, .int .u64 0, .int .u64 0, .int .u8 0] 46 false)).put s.n (.cells (encL l[j]) 46 false)).get s.n = some (.cells (encL l[j]) 46 false) := by simp
      have hn5 : ((s.alloc (.cells [.int .u8 0, .int .u8 0, .int .u8 0, .int .u64 0, .int .u64 0, .int .u8 0] 46 false)).put s.n (.cells (encL l[j]) 46 false)).n = s.n + 1 := by simp
      simp only [encL] at hg5 hc5 hn5
      simp [wops_cons, e4, e5, e10, e11, e12, hjl, hjl', hg, hld, hl1]
      simp [wops_cons, encL, e4, e5, e10, e11, e12]
      generalize (s.alloc (.cells [.int .u8 0, .int .u8 0, .int .u8 0, .int .u64 0, .int .u64 0, .int .u8 0] 46 false)).put s.n (.cells [.int .u8 l[j].owner, .int .u8 l[j].frm, .int .u8 l[j].to, .int .u64 l[j].s.lo, .int .u64 l[j].s.hi, .int .u8 l[j].s.near] 46 false) = s1 at hg5 hc5 hn5 ⊢
      have hm := lmake_spec l[j] (hok _ (List.getElem_mem hjl))
      simp only [encL] at hm
      refine hm s1 _ fun s2 g2 => ?_
      have hc6 := g2.get hc5 (by omega)
      have g12 := hg5.trans g2
      have gs2 := gs.trans g12
      have hml := madeK_le (l.take j)
      rw [List.length_take_of_le hj] at hml
      simp [wops_cons, e4, e5, e10, e11, e12, hc6]
      refine add_spec σ.n σ.n v1 _ (lkOf l[j]) s2 gs2.n (htb.grow g12) (by omega) _ fun v1' s3 htb3 hv13 hbt3 => ?_
      have hov2 := hov.grow g12
      have hov3 := hov2.apart (htb.grow g12) hbt3 (fun j h1 h2 => hap j h2 h1)
      have hap3 : ∀ j, objOf v1' = some j → objOf v2 ≠ some j := fun q hq hq2 => by
        have h2 := (hov2.z2 hq2).2.1
        rcases hv13 with e | ⟨q', e, hq'⟩
        · exact hap q (by rw [← e]; exact hq) hq2
        · rw [hq] at e; cases e; omega
      have gs3 : Grow σ s3 := (htb.grow g12).growG gs2 (Nat.le_refl _) hbt3
      have gn2 := g2.n
      have hc7 : s3.get s.n = some (.cells (encL l[j]) 46 false) := by
        rw [hbt3.2 s.n (by omega) (by have := htb.2.2.1; omega) (fun e => by have := (htb.2.2.2.ob e).2.1; omega)]
        exact hc6
      have hn3 := hbt3.1
      simp only [encL] at hc7
      simp [wops_cons, e4, e5, e10, e11, e12, hc7]
      refine hm s3 _ fun s4 g4 => ?_
      have hc8 := g4.get hc7 (by omega)
      simp [wops_cons, e4, e5, e10, e11, e12, hc8]
      refine good_spec (lkOf l[j]) s4 _ fun s5 g5 => ?_
      have gn4 := g4.n
      have hc9 := g5.get hc8 (by omega)
      have g45 := g4.trans g5
      have htk : madeK (l.take (j + 1)) = addK (madeK (l.take j)) (lkOf l[j]) := by
        rw [List.take_succ_eq_append_getElem hjl, madeK_snoc]
      cases hgd : goodK (lkOf l[j]) with
      | false =>
        simp [wops_cons, wops_if', dstOf, e4, e5, e10, e11, e12, hc9, hw2]
        refine ⟨l.length - (j + 1), by omega, j + 1, rfl, by omega, rfl, v1', by rw [htk]; exact htb3.grow g45, ?_, hap3, gs3.trans g45⟩
        rw [htk]
        unfold addK
        rw [hgd]
        exact hov3.grow g45
      | true =>
        simp [wops_cons, wops_if', dstOf, e4, e5, e10, e11, e12, hc9, hw2]
        refine hm s5 _ fun s6 g6 => ?_
        have g36 := g45.trans g6
        obtain ⟨p2, c2, rfl⟩ := (hov3.sl (sz := 5) lenK).form
        obtain ⟨p9, c9, s9, a1, a2, a3, a4, a5⟩ := app_lk (x := lkOf l[j]) (hov3.grow g36) (gs3.trans g36).n (by omega)
        simp only [encK] at a1
        simp [wops_cons, wops_if', dstOf, e4, e5, e10, e11, e12, hw2, encK, a1]
        have htb6 := htb3.grow g36
        have htb9 : Tb σ.n σ.n v1' s9 (addK (madeK (l.take j)) (lkOf l[j])) := htb6.but a3 (htb6.ne2 (hov3.grow g36)) hap3
        refine ⟨l.length - (j + 1), by omega, j + 1, rfl, by omega, rfl, v1', by rw [htk]; exact htb9, ?_, ?_, ?_⟩
        · rw [htk]
          unfold addK
          rw [hgd]
          exact a2
        · intro q hq hq2
          obtain ⟨q', h1, h2⟩ := a5
          rw [h1] at hq2
          cases hq2
          have := (htb6.2.2.2.ob hq).2.1
          omega
        · exact (gs3.trans g36).thenB a4 (Nat.le_refl _)
    · have hjl' : j = l.length := by omega
      subst hjl'
      rw [List.take_of_length_le (Nat.le_refl _)] at htb hov
      simp [wops_cons, e4, e5, e10, e11, e12]
      exact h _ v1 v2 s htb hov hap gs
  · refine ⟨_, 0, .slice none 0 0, .slice none 0 0, rfl, ?_⟩
    simp
    exact ⟨⟨by simp, Nat.le_refl _, by simp, OwnZ.nil⟩, Own.nil, (by intro j hj; cases hj), (Grow.refl σ).alloc _⟩
end Go.Sm
/- slices.Equal of spans, of locks. -/
set_option linter.unusedVariables false
set_option linter.unusedSimpArgs false
namespace Go.Sm
open Go Go.Proofs
set_option maxRecDepth 100000
set_option maxHeartbeats 4000000
end Go.Sm
/- LockAgainst: the walk. -/
set_option linter.unusedVariables false
set_option linter.unusedSimpArgs false
namespace Go.Sm
open Go Go.Proofs
set_option maxRecDepth 100000
set_option maxHeartbeats 4000000
theorem awake_spec {f : FuncId} (hf : E1.gam f = some awakeG) {σ : CSt} (hn : gnone σ) {Q : Out → CSt → Prop} : W E1 (.fn f #[] none) σ Q = Q (.ret (.bool true) false) σ :=
  W_gam hf rfl (by unfold awakeG; rw [if_pos ⟨rfl, hn⟩])
theorem madeK_ok {l : List LL} (hok : ∀ x ∈ l, x.ok) : ∀ x ∈ madeK l, x.sp.ok := fun x hx => by
  obtain ⟨y, hy, rfl⟩ := List.mem_map.1 (List.mem_filter.1 hx).1
  exact makeS_ok (hok y hy).2.2.2
end Go.Sm
/- PlanHas: the walk. -/
set_option linter.unusedVariables false
set_option linter.unusedSimpArgs false
namespace Go.Sm
open Go Go.Proofs
set_option maxRecDepth 100000
set_option maxHeartbeats 4000000
/-- How many of the first ones lie in a row. -/
def cl (i lo len : Int) : Int := if i ≤ lo then 0 else if i - lo ≤ len then i - lo else len
/-- Rows gone over, and a part of one more. -/
def cnt (X W Y H i k : Int) : Int := cl i X W * H + (if X ≤ i ∧ i < X + W then cl k Y H else 0)
end Go.Sm
/- PlanCells: the walk. -/
set_option linter.unusedVariables false
set_option linter.unusedSimpArgs false
namespace Go.Sm
open Go Go.Proofs
set_option maxRecDepth 100000
set_option maxHeartbeats 4000000
end Go.Sm
/- PlanSums, plain: the digits of what is drawn sum up to the cells. -/
set_option linter.unusedVariables false
set_option linter.unusedSimpArgs false
namespace Go.Sm
open Go Go.Proofs
set_option maxRecDepth 100000
set_option maxHeartbeats 4000000
end Go.Sm
/- PlanSums: the walk. -/
set_option linter.unusedVariables false
set_option linter.unusedSimpArgs false
namespace Go.Sm
open Go Go.Proofs
set_option maxRecDepth 100000
set_option maxHeartbeats 4000000
/-- A box more. -/
theorem app_bx {b : Nat} {s1 : CSt} {l : List Bx} {x : Bx} {v : Value} (ho : Own b s1 68 encX v l) (hb : b ≤ s1.n) (hl : l.length < 2 ^ 36) :
    ∃ p9 c9 s9, appendOp Tryz.prog (s1.alloc (.cells (encX x) 68 false)) #[75, 75] v (.slice (some ⟨s1.n, 0, none⟩) 1 1) = some (.slice p9 (l.length + 1) c9, s9) ∧ Own b s9 68 encX (.slice p9 (l.length + 1) c9) (l ++ [x]) ∧ ButV v s1 s9 ∧ GrowB b s1 s9 := by
  have hga : Grow s1 (s1.alloc (.cells (encX x) 68 false)) := (Grow.refl s1).alloc _
  obtain ⟨v9, s9, a1, a2, a3, a4, a5⟩ := append_only (P := Tryz.prog) (ts := #[75, 75]) (e := 68) (sz := 2) (enc := encX) (l := l) (m := [x]) (b := b) ef75 (by simp) lenX cokX rfl (by decide) (by decide) rfl (σ := s1.alloc (.cells (encX x) 68 false))
    (ho.grow hga) (by simp; omega) (Sl.all (l := [x]) (i := s1.n) (cap := 1) (ro := false) lenX (by simp) (by simp) (.inr ⟨by simp, by simp [openCap]⟩)) (by show (_ + 1) * 32 ≤ _; omega) (by omega)
  obtain ⟨p9, c9, rfl⟩ := (a2.sl (sz := 2) lenX).form
  rw [List.length_append] at a1 a2
  refine ⟨p9, c9, s9, a1, a2, ⟨by have := a3.1; simp at this; omega, fun j hj hne => ?_⟩, (hga.toB hb).trans a3⟩
  rw [a4 j (by simp; omega) (fun i off n c h => by rintro rfl; exact hne (by rw [h]; rfl)), hga.old j hj]
end Go.Sm
/- Boxes of locks: the same or not; made of locks over keys. -/
set_option linter.unusedVariables false
set_option linter.unusedSimpArgs false
namespace Go.Sm
open Go Go.Proofs
set_option maxRecDepth 100000
set_option maxHeartbeats 4000000
/-- slices.Equal of two rows of versions. -/
theorem equal_bx (l m : List Bx) (v u : Value) (σ : CSt) (hokl : ∀ b ∈ l, b.ok) (hokm : ∀ b ∈ m, b.ok) (hsl : Sl σ 68 2 encX v l) (hsm : Sl σ 68 2 encX u m) (hbig : l.length < 2 ^ 40) (Q : Out → CSt → Prop)
    (h : ∀ (σ' : CSt), Grow σ σ' → Q (.ret (.bool (decide (l = m))) false) σ') : W E1 (.fn 44 #[v, u] none) σ Q := by
  rw [W_fn (fn := Tryz.f44) Tryz.func44 rfl rfl rfl]
  by_cases hlen : l.length = m.length
  · rcases hsl with ⟨rfl, rfl⟩ | ⟨i, off, cap, row, ro, rfl, hg, hin, hrow, hle, hcap⟩
    · have hm : m = [] := List.eq_nil_of_length_eq_zero hlen.symm
      subst hm
      have hu : ∃ p c, u = .slice p 0 c := by
        rcases hsm with ⟨rfl, _⟩ | ⟨i2, off2, cap2, row2, ro2, rfl, _⟩
        · exact ⟨_, _, rfl⟩
        · exact ⟨_, _, rfl⟩
      obtain ⟨p, c, rfl⟩ := hu
      have := h σ (Grow.refl σ)
      simp [wops_cons]
      rw [W_loop]
      simpa [wops_cons] using this
    rcases hsm with ⟨rfl, rfl⟩ | ⟨i2, off2, cap2, row2, ro2, rfl, hg2, hin2, hrow2, hle2, hcap2⟩
    · have hl : l = [] := List.eq_nil_of_length_eq_zero hlen
      subst hl
      have := h σ (Grow.refl σ)
      simp [wops_cons]
      rw [W_loop]
      simpa [wops_cons] using this
    simp [wops_cons, hlen]
    refine W_loop_inv (fun n a σ' => ∃ tm k, a = ⟨tm, 26, [], false⟩ ∧ tm.get 0 = some (.slice (some ⟨i, off, none⟩) l.length cap) ∧ tm.get 1 = some (.slice (some ⟨i2, off2, none⟩) m.length cap2) ∧ tm.get 12 = some (.int .i64 l.length) ∧ tm.get 13 = some (.int .i64 (k : Nat)) ∧ tm.get 4 = some (.bool false) ∧ k ≤ l.length ∧ n = l.length - k ∧ l.take k = m.take k ∧ Grow σ σ') ?_ l.length _ _ ?_
    · rintro n a σ' ⟨tm, k, rfl, h0, h1, h12, h13, h4, hk, hn, htk, hgr⟩
      have hgi := hgr.get hg hin
      have hgi2 := hgr.get hg2 hin2
      by_cases hlt : k < l.length
      · have hlt2 : k < m.length := by omega
        have hld := row_get (enc := encX) (fun _ => rfl) hrow k hlt
        have hl1 := row_le hle k hlt
        have hld2 := row_get (enc := encX) (fun _ => rfl) hrow2 k hlt2
        have hl2 := row_le hle2 k hlt2
        have hw := i64n1 k (by omega)
        have hneq := fun σ x y => (bin_box l[k] m[k] (hokl _ (List.getElem_mem hlt)) (hokm _ (List.getElem_mem hlt2)) σ x y).2
        simp [wops_cons, h0, h1, h12, h13, h4, hlt]
        refine W_calm (by kernel_rfl) ?_
        simp [dops_cons, h0, h1, h12, h13, h4, hlt, hlt2, hgi, hgi2, hld, hld2, hl1, hl2, hneq]
        by_cases he : l[k] = m[k]
        · simp [wops_cons, he, h13, hw]
          refine ⟨_, ?_, h0, h1, h12, k + 1, by simp, h4, by omega, rfl, ?_, hgr⟩
          · omega
          · rw [List.take_succ_eq_append_getElem hlt, List.take_succ_eq_append_getElem hlt2, htk, he]
        · have hne : l ≠ m := by rintro rfl; exact he rfl
          have := h σ' hgr
          rw [decide_eq_false hne] at this
          simpa [wops_cons, he] using this
      · have hkl : k = l.length := by omega
        have he : l = m := by
          have := htk
          rwa [List.take_of_length_le (by omega), List.take_of_length_le (by omega)] at this
        have := h σ' hgr
        rw [decide_eq_true he] at this
        simpa [wops_cons, h12, h13, hlt] using this
    · refine ⟨_, 0, rfl, ?_⟩
      simp [hlen]
      exact Grow.refl σ
  · have hu : ∀ {x : Value} {l : List Bx}, Sl σ 68 2 encX x l → ∃ p c, x = .slice p l.length c := by
      rintro x l (⟨rfl, rfl⟩ | ⟨i, off, cap, row, ro, rfl, _⟩)
      · exact ⟨_, _, rfl⟩
      · exact ⟨_, _, rfl⟩
    obtain ⟨p, c, rfl⟩ := hu hsl
    obtain ⟨p', c', rfl⟩ := hu hsm
    have hne : l ≠ m := by rintro rfl; exact hlen rfl
    have := h σ (Grow.refl σ)
    rw [decide_eq_false hne] at this
    have hi : ¬ ((l.length : Int) = m.length) := by omega
    simpa [wops_cons, hi] using this
theorem box_spec (s : Sn) (f t : Int) (σ : CSt) (Q : Out → CSt → Prop) (h : ∀ σ', Grow σ σ' → Q (.ret (.agg (encX ⟨s.lo, f, s.hi, t⟩).toArray) false) σ') : W E1 (.fn 68 #[.agg (encS s).toArray, .int .i64 f, .int .i64 t] none) σ Q := by
  rw [W_fn (fn := Tryz.f68) Tryz.func68 rfl rfl rfl]
  have g1 : Grow σ ((σ.alloc (.cells (encS s) 31 false)).alloc (.cells [.complex .f64 0 0, .complex .f64 0 0] 68 false)) := ((Grow.refl σ).alloc _).alloc _
  have hc1 : ((σ.alloc (.cells (encS s) 31 false)).alloc (.cells [.complex .f64 0 0, .complex .f64 0 0] 68 false)).get σ.n = some (.cells (encS s) 31 false) := by rw [ga_old (by simp only [CSt.n_alloc]; omega), ga_top (by simp only [CSt.n_alloc])]
  have hc2 : ((σ.alloc (.cells (encS s) 31 false)).alloc (.cells [.complex .f64 0 0, .complex .f64 0 0] 68 false)).get (σ.n + 1) = some (.cells [.complex .f64 0 0, .complex .f64 0 0] 68 false) := by rw [ga_top (by simp only [CSt.n_alloc])]
  simp only [encS] at g1 hc1 hc2
  simp [wops_cons, encS, Nat.add_assoc, -W_region]
  rw [W_region]
  simp [wops_cons, encS, Nat.add_assoc, -W_region]
  generalize (σ.alloc (.cells [.int .u64 s.lo, .int .u64 s.hi] 31 false)).alloc (.cells [.complex .f64 0 0, .complex .f64 0 0] 68 false) = σ1 at g1 hc1 hc2 ⊢
  have hfin := h _ (g1.put (i := σ.n + 1) (by omega) (.cells (encX ⟨s.lo, f, s.hi, t⟩) 68 false))
  simp only [encX] at hfin
  simpa [wops_cons, cv71, cplxK, hc1, hc2] using hfin
/-- How many keys are below one. -/
def kidx (names : List ByteArray) (x : ByteArray) : Nat := (names.filter fun y => klt y x).length
theorem below_idx {l : List ByteArray} {x : ByteArray} {k : Nat} (h : Below l x k) : k = kidx l x := by
  have h1 : (l.take k).filter (fun y => klt y x) = l.take k := by
    rw [List.filter_eq_self]
    intro y hy
    obtain ⟨i, hi, rfl⟩ := List.mem_iff_getElem.1 hy
    rw [List.length_take] at hi
    rw [List.getElem_take]
    exact h.lo i (by omega) (by omega)
  have h2 : (l.drop k).filter (fun y => klt y x) = [] := by
    rw [List.filter_eq_nil_iff]
    intro y hy
    obtain ⟨i, hi, rfl⟩ := List.mem_iff_getElem.1 hy
    rw [List.length_drop] at hi
    rw [List.getElem_drop, h.hi (k + i) (by omega) (by omega)]
    decide
  unfold kidx
  rw [← List.take_append_drop k l, List.filter_append, h1, h2, List.append_nil, List.length_take]
  have := h.le
  omega
open Classical in
noncomputable def toIdx (names : List ByteArray) (x : ByteArray) : Int := (kidx names x : Int) - (if x ∈ names then 0 else 1)
noncomputable def boxF (names : List ByteArray) (x : Lk) : List Bx := if (kidx names x.frm : Int) ≤ toIdx names x.to then [⟨x.sp.lo, kidx names x.frm, x.sp.hi, toIdx names x.to⟩] else []
noncomputable def boxesL (names : List ByteArray) (L : List Lk) : List Bx := L.flatMap (boxF names)
theorem boxesL_snoc (names : List ByteArray) (L : List Lk) (x : Lk) : boxesL names (L ++ [x]) = boxesL names L ++ boxF names x := by
  unfold boxesL
  rw [List.flatMap_append]
  simp
theorem boxesL_le (names : List ByteArray) : ∀ L : List Lk, (boxesL names L).length ≤ L.length
  | [] => by simp [boxesL]
  | x :: L => by
    have ih := boxesL_le names L
    unfold boxesL at ih ⊢
    rw [List.flatMap_cons, List.length_append]
    have : (boxF names x).length ≤ 1 := by unfold boxF; split <;> simp
    simp only [List.length_cons]
    omega
theorem boxes_spec (names : List ByteArray) (hs : names.Pairwise fun a b => klt a b = true) (L : List Lk) (vn vl : Value) (σ : CSt) (hsn : Sl σ 9 1 Str.encS vn names) (hsl : Sl σ 33 5 encK vl L) (hnl : names.length < 2 ^ 30) (hll : L.length < 2 ^ 30) (Q : Out → CSt → Prop)
    (h : ∀ (v' : Value) (σ' : CSt), Own σ.n σ' 68 encX v' (boxesL names L) → Grow σ σ' → Q (.ret v' false) σ') : W E1 (.fn 45 #[vn, vl] none) σ Q := by
  rw [W_fn (fn := Tryz.f45) Tryz.func45 rfl rfl rfl]
  obtain ⟨p, c, rfl⟩ := hsn.form
  obtain ⟨p', c', rfl⟩ := hsl.form
  simp [wops_cons]
  refine W_loop_inv (fun n a s => ∃ tm j vo, a = ⟨tm, 49, [], false⟩ ∧ tm.get 0 = some (.slice p names.length c) ∧ tm.get 5 = some vo ∧ tm.get 12 = some (.slice p' L.length c') ∧ tm.get 13 = some (.int .i64 L.length) ∧ tm.get 14 = some (.int .i64 (j : Nat)) ∧ j ≤ L.length ∧ n = L.length - j ∧ Own σ.n s 68 encX vo (boxesL names (L.take j)) ∧ Grow σ s) ?_ L.length _ _ ?_
  · rintro n a s ⟨tm, j, vo, rfl, e0, e5, e12, e13, e14, hj, hnn, hov, gs⟩
    obtain ⟨po, co, rfl⟩ := (hov.sl (sz := 2) lenX).form
    by_cases hjl : j < L.length
    · obtain ⟨i', off, row, ro, rfl, hg, hin', hrow, hle⟩ := (hsl.grow gs).at hjl
      have hld := row_get (enc := encK) lenK hrow j hjl
      have hl1 := row_le hle j hjl
      have hw2 := i64n1 j (by omega)
      have hjl' : (j : Int) < L.length := by omega
      have htk : boxesL names (L.take (j + 1)) = boxesL names (L.take j) ++ boxF names L[j] := by rw [List.take_succ_eq_append_getElem hjl, boxesL_snoc]
      have hal := Nat.le_trans (boxesL_le names (L.take j)) (List.length_take_le j L)
      generalize L[j] = x at *
      generalize hB : boxesL names (L.take j) = B at *
      have hg5 : Grow s ((s.alloc (.cells [.int .i64 0, .string ⟨#[]⟩, .string ⟨#[]⟩, .int .u64 0, .int .u64 0] 33 false)).put s.n (.cells (encK x) 33 false)) := ((Grow.refl s).alloc _).put (Nat.le_refl _) _
      have hc5 : ((s.alloc (.cells [.int .i64 0, .string ⟨#[]⟩, .string ⟨#[]⟩, .int .u64 0, .int .u64 0] 33 false)).put s.n (.cells (encK x) 33 false)).get s.n = some (.cells (encK x) 33 false) := by simp
      have hn5 : ((s.alloc (.cells [.int .i64 0, .string ⟨#[]⟩, .string ⟨#[]⟩, .int .u64 0, .int .u64 0] 33 false)).put s.n (.cells (encK x) 33 false)).n = s.n + 1 := by simp
      simp only [encK] at hg5 hc5 hn5
      simp [wops_cons, e0, e5, e12, e13, e14, hjl, hjl', hg, hld, hl1]
      simp [wops_cons, encK, e0, e5, e12, e13, e14, -W_region]
      generalize (s.alloc (.cells [.int .i64 0, .string ⟨#[]⟩, .string ⟨#[]⟩, .int .u64 0, .int .u64 0] 33 false)).put s.n (.cells [.int .i64 x.owner, .string x.frm, .string x.to, .int .u64 x.sp.lo, .int .u64 x.sp.hi] 33 false) = s1 at hg5 hc5 hn5 ⊢
      have gs1 := gs.trans hg5
      have hov1 := hov.grow hg5
      have hsn1 := hsn.grow gs1
      simp [wops_cons, e0, e5, e12, e13, e14, hc5]
      refine bsearch_spec names hs x.frm _ s1 hsn1 (by omega) _ fun k1 f1 hb1 hf1 => ?_
      simp [wops_cons, e0, e5, e12, e13, e14, hc5]
      refine bsearch_spec names hs x.to _ s1 hsn1 (by omega) _ fun k2 f2 hb2 hf2 => ?_
      have hi1 := below_idx hb1
      have hi2 := below_idx hb2
      have hk2 := hb2.le
      obtain ⟨t2, ht2⟩ : ∃ t2 : Int, t2 = toIdx names x.to := ⟨_, rfl⟩
      have hbx := box_spec x.sp k1 t2
      simp only [encS] at hbx
      have hfe : boxF names x = if (k1 : Int) ≤ t2 then [⟨x.sp.lo, k1, x.sp.hi, t2⟩] else [] := by
        unfold boxF
        rw [← hi1, ← ht2]
      have hwm : IntKind.i64.wrap ((k2 : Int) - 1) = (k2 : Int) - 1 := IntWalk.i64_in _ (by omega)
      simp [wops_cons, e0, e5, e12, e13, e14, -W_seq]
      rw [W_seq]
      refine W_cut (fun out z => ∃ tm, out = .code .normal ⟨tm, 49, [], false⟩ ∧ tm.get 0 = some (.slice p names.length c) ∧ tm.get 5 = some (.slice po B.length co) ∧ tm.get 7 = some (.pointer (some ⟨s.n, 0, none⟩)) ∧ tm.get 8 = some (.int .i64 (k1 : Nat)) ∧ tm.get 10 = some (.int .i64 t2) ∧ tm.get 12 = some (.slice (some ⟨i', off, none⟩) L.length c') ∧ tm.get 13 = some (.int .i64 L.length) ∧ tm.get 14 = some (.int .i64 (j : Nat)) ∧ z = s1) ?_ ?_
      · cases hff : f2 with
        | true =>
          have hm : x.to ∈ names := hf2.1 hff
          have e : t2 = k2 := by
            rw [ht2]
            unfold toIdx
            rw [if_pos hm, ← hi2]
            omega
          rw [e]
          simp [wops_cons, e0, e5, e12, e13, e14]
        | false =>
          have hm : ¬ x.to ∈ names := fun hc => by rw [hf2.2 hc] at hff; cases hff
          have e : t2 = (k2 : Int) - 1 := by
            rw [ht2]
            unfold toIdx
            rw [if_neg hm, ← hi2]
          rw [e]
          simp [wops_cons, e0, e5, e12, e13, e14, hwm]
      · rintro out z ⟨tm2, rfl, f0, f5, f7, f8, f10, f12, f13, f14, rfl⟩
        by_cases hle2 : (k1 : Int) ≤ t2
        · rw [if_pos hle2] at hfe
          simp [wops_cons, f0, f5, f7, f8, f10, f12, f13, f14, hle2, hc5]
          refine hbx z _ fun s2 g2 => ?_
          obtain ⟨p9, c9, s9, a1, a2, a3, a4⟩ := app_bx (x := ⟨x.sp.lo, k1, x.sp.hi, t2⟩) (hov1.grow g2) (gs1.trans g2).n (by omega)
          simp [encX] at a1
          simp [wops_cons, encX, f0, f5, f7, f8, f10, f12, f13, f14, a1, hw2]
          exact ⟨L.length - (j + 1), by omega, j + 1, rfl, by omega, rfl, by rw [htk, hfe]; exact a2, (gs1.trans g2).thenB a4 (Nat.le_refl _)⟩
        · rw [if_neg hle2, ] at hfe
          simp [wops_cons, f0, f5, f7, f8, f10, f12, f13, f14, hle2, hw2]
          exact ⟨L.length - (j + 1), by omega, j + 1, rfl, by omega, rfl, by rw [htk, hfe, List.append_nil]; exact hov1, gs1⟩
    · have hjl' : j = L.length := by omega
      subst hjl'
      rw [List.take_of_length_le (Nat.le_refl _)] at hov
      simpa [wops_cons, e0, e5, e12, e13, e14] using h _ s hov gs
  · refine ⟨_, 0, .slice none 0 0, rfl, ?_⟩
    simp
    exact ⟨Own.nil, Grow.refl _⟩
end Go.Sm
/- slices.Compact of strings. -/
set_option linter.unusedVariables false
set_option linter.unusedSimpArgs false
namespace Go.Sm
open Go Go.Proofs
set_option maxRecDepth 100000
set_option maxHeartbeats 4000000
def pushU (out : List ByteArray) (x : ByteArray) : List ByteArray := if out.getLast? = some x then out else out ++ [x]
def uniq (l : List ByteArray) : List ByteArray := l.foldl pushU []
theorem uniq_snoc (l : List ByteArray) (x : ByteArray) : uniq (l ++ [x]) = pushU (uniq l) x := by simp [uniq]
theorem snoc_ind {P : List ByteArray → Prop} (h0 : P []) (h1 : ∀ l x, P l → P (l ++ [x])) (l : List ByteArray) : P l := by
  have : ∀ n, ∀ l : List ByteArray, l.length = n → P l := by
    intro n
    induction n with
    | zero => intro l hl; rw [List.eq_nil_of_length_eq_zero hl]; exact h0
    | succ n ih =>
      intro l hl
      have hne : l ≠ [] := by intro e; rw [e] at hl; simp at hl
      rw [← List.dropLast_concat_getLast hne]
      exact h1 _ _ (ih _ (by simp; omega))
  exact this _ l rfl
theorem uniq_last (l : List ByteArray) : (uniq l).getLast? = l.getLast? := by
  refine snoc_ind (P := fun l => (uniq l).getLast? = l.getLast?) rfl (fun l x ih => ?_) l
  show (uniq (l ++ [x])).getLast? = (l ++ [x]).getLast?
  rw [uniq_snoc]
  unfold pushU
  split
  · rename_i h
    rw [h]; simp
  · simp
theorem uniq_le (l : List ByteArray) : (uniq l).length ≤ l.length := by
  refine snoc_ind (P := fun l => (uniq l).length ≤ l.length) (Nat.le_refl _) (fun l x ih => ?_) l
  show (uniq (l ++ [x])).length ≤ (l ++ [x]).length
  rw [uniq_snoc]
  unfold pushU
  split
  · rw [List.length_append]; omega
  · rw [List.length_append, List.length_append]; simp; omega
theorem uniq_mem (l : List ByteArray) : ∀ x, x ∈ uniq l ↔ x ∈ l := by
  refine snoc_ind (P := fun l => ∀ x, x ∈ uniq l ↔ x ∈ l) (fun x => Iff.rfl) (fun l y ih => ?_) l
  intro x
  show x ∈ uniq (l ++ [y]) ↔ x ∈ l ++ [y]
  rw [uniq_snoc]
  unfold pushU
  split
  · rename_i h
    rw [ih, List.mem_append, List.mem_singleton]
    constructor
    · exact .inl
    · rintro (h1 | rfl)
      · exact h1
      · exact (ih x).1 (List.mem_of_getLast? h)
  · rw [List.mem_append, List.mem_append, ih]
/-- Of a row that doesn't fall: it rises. -/
theorem uniq_rise {l : List ByteArray} (h : l.Pairwise fun x y => klt y x = false) : (uniq l).Pairwise fun a b => klt a b = true := by
  revert h
  refine snoc_ind (P := fun l => (l.Pairwise fun x y => klt y x = false) → (uniq l).Pairwise fun a b => klt a b = true) (fun _ => List.Pairwise.nil) (fun l y ih => ?_) l
  intro h
  show (uniq (l ++ [y])).Pairwise fun a b => klt a b = true
  obtain ⟨h1, _, h3⟩ := List.pairwise_append.1 h
  rw [uniq_snoc]
  unfold pushU
  split
  · exact ih h1
  · rename_i hne
    rw [List.pairwise_append]
    refine ⟨ih h1, List.pairwise_singleton _ _, fun a ha b hb => ?_⟩
    rw [List.mem_singleton] at hb
    subst hb
    have ha' := (uniq_mem l a).1 ha
    have hle := h3 a ha' b (by simp)
    cases hc : klt a b with
    | true => rfl
    | false =>
      exfalso
      have hab := klt_tri hc hle
      subst hab
      apply hne
      -- the last one of what rises isn't below any of it
      obtain ⟨z, hz⟩ : ∃ z, (uniq l).getLast? = some z := by
        cases hg : (uniq l).getLast? with
        | none => rw [List.getLast?_eq_none_iff] at hg; rw [hg] at ha; cases ha
        | some z => exact ⟨z, rfl⟩
      have hzl := (uniq_mem l z).1 (List.mem_of_getLast? hz)
      have hz1 := h3 z hzl a (by simp)
      have hnz : ¬ klt a z = true := by rw [hz1]; decide
      by_cases haz : a = z
      · rw [hz, haz]
      · obtain ⟨u, hu⟩ : ∃ u, uniq l = u ++ [z] := by
          have hne2 : uniq l ≠ [] := fun e => by rw [e] at ha; cases ha
          refine ⟨(uniq l).dropLast, ?_⟩
          have := List.dropLast_concat_getLast hne2
          rw [List.getLast?_eq_some_getLast hne2] at hz
          injection hz with hz
          rw [← hz]; exact this.symm
        have hp := ih h1
        rw [hu, List.pairwise_append] at hp
        rw [hu, List.mem_append, List.mem_singleton] at ha
        rcases ha with ha | ha
        · exact absurd (hp.2.2 a ha z (by simp)) hnz
        · exact absurd ha haz
theorem set_s (l : List ByteArray) (k : Nat) (h : k < l.length) (x : ByteArray) : (l.flatMap Str.encS).take k ++ .string x :: (l.flatMap Str.encS).drop (k + 1) = (l.set k x).flatMap Str.encS := by
  have := enc_set Str.encS Str.lenS l k x h
  rw [Nat.mul_one] at this
  rw [← this]
  simp [Str.encS]
theorem get_s (l : List ByteArray) (k : Nat) (h : k < l.length) : (l.flatMap Str.encS)[k]? = some (.string l[k]) := by
  have := cell_s (l := l) (row := l.flatMap Str.encS) (off := 0) (by rw [List.drop_zero, List.take_of_length_le (by rw [enc_length Str.encS Str.lenS]; exact Nat.le_refl _)]) k h
  rw [Nat.zero_add] at this
  exact this
theorem compact_spec (b : Nat) (l : List ByteArray) (v : Value) (σ : CSt) (hown : Own b σ 9 Str.encS v l) (hbig : l.length < 2 ^ 38) (Q : Out → CSt → Prop)
    (h : ∀ (v' : Value) (σ' : CSt), OwnZ b σ' 9 Str.encS v' (uniq l) → ButV v σ σ' → Q (.ret v' false) σ') : W E1 (.fn 43 #[v] none) σ Q := by
  rw [W_fn (fn := Tryz.f43) Tryz.func43 rfl rfl rfl]
  obtain ⟨pp, c, rfl⟩ := (hown.sl (sz := 1) Str.lenS).form
  by_cases hl2 : l.length < 2
  · have hl2' : (l.length : Int) < 2 := by omega
    have hu : uniq l = l := by
      match l, hl2 with
      | [], _ => rfl
      | [a], _ => rfl
    have := h _ σ (by rw [hu]; exact hown.z) (ButV.refl _ _)
    simpa [wops_cons, hl2'] using this
  have hl2' : ¬ (l.length : Int) < 2 := by omega
  have hl2'' : (2 : Int) ≤ l.length := by omega
  rcases hown with ⟨h0, h1⟩ | ⟨i0, cap, h0, hbi, hin, hg0, hcap⟩
  · rw [h1] at hl2; simp at hl2
  injection h0 with h0 _ h00
  subst h0
  subst h00
  have hcap : c = openCap := by
    rcases hcap with hc | ⟨hc, _⟩
    · exact hc
    · rw [hc] at hl2; simp at hl2
  subst hcap
  have hobj : objOf (.slice (some ⟨i0, 0, none⟩) l.length openCap) = some i0 := rfl
  have hrl := enc_length Str.encS Str.lenS l
  rw [Nat.mul_one] at hrl
  simp [wops_cons, hl2', hl2'']
  refine W_loop_inv (fun n a s => ∃ tm, ∃ k : Nat, a = ⟨tm, 61, [], false⟩ ∧ tm.get 0 = some (.slice (some ⟨i0, 0, none⟩) l.length openCap) ∧ tm.get 3 = some (.int .i64 (k : Nat)) ∧ 1 ≤ k ∧ k ≤ l.length ∧ n = l.length - k ∧ uniq (l.take k) = l.take k ∧ s = σ) ?_ (l.length - 1) _ _ ?_
  · rintro n a s ⟨tm, k, rfl, e0, e3, hk1, hkl, hn, hun, rfl⟩
    by_cases hk : k < l.length
    · have hk' : (k : Int) < l.length := by omega
      have hwk := i64n1 k (by omega)
      have hwm : IntKind.i64.wrap ((k : Int) - 1) = ((k - 1 : Nat) : Int) := by rw [IntWalk.i64_in _ (by omega)]; omega
      have hcell := get_s l k hk
      have hcell1 := get_s l (k - 1) (by omega)
      have hk1' : ((k - 1 : Nat) : Int) < l.length := by omega
      have hk1'' : k - 1 < l.length := by omega
      have hlast : (l.take k).getLast? = some (l[k - 1]'(by omega)) := by
        rw [List.getLast?_eq_getElem?, List.length_take, Nat.min_eq_left hkl, List.getElem?_take, if_pos (by omega), List.getElem?_eq_getElem (by omega)]
      have hstep : uniq (l.take (k + 1)) = if l[k - 1]'(by omega) = l[k] then l.take k else l.take (k + 1) := by
        rw [List.take_succ_eq_append_getElem hk, uniq_snoc, hun]
        unfold pushU
        rw [hlast]
        simp
      obtain ⟨row, hrow⟩ : ∃ row, row = l.flatMap Str.encS := ⟨_, rfl⟩
      have hg1 := hg0
      rw [← hrow] at hg1 hrl hcell hcell1
      have hge : ∀ (hh : k < row.length), row[k]'hh = .string l[k] := fun hh => by rw [List.getElem?_eq_getElem hh] at hcell; exact Option.some.inj hcell
      have hge1 : ∀ (hh : k - 1 < row.length), row[k - 1]'hh = .string (l[k - 1]'(by omega)) := fun hh => by rw [List.getElem?_eq_getElem hh] at hcell1; exact Option.some.inj hcell1
      simp [wops_cons, e0, e3, hk, hk', hwm, hg1, hge, hge1, hk1', hk1'', hrl]
      refine W_calm (by kernel_rfl) ?_
      by_cases heq : l[k] = l[k - 1]'(by omega)
      · rw [if_pos heq.symm] at hstep
        have hts : l[k].toList = (l[k - 1]'(by omega)).toList := by rw [heq]
        have hkl2 : k ≤ l.length := by omega
        simp [dops_cons, wops_cons, e0, e3, hk, hk', hwm, hg1, hge, hge1, hk1', hk1'', hrl, hts, sliceOp_open, sliceO, hkl2]
        refine W_loop_J (fun n a s' => ∃ tm, ∃ (w j : Nat) (d : List ByteArray), a = ⟨tm, 61, [], false⟩ ∧ tm.get 0 = some (.slice (some ⟨i0, 0, none⟩) l.length openCap) ∧ tm.get 3 = some (.int .i64 (w : Nat)) ∧ tm.get 4 = some (.slice (some ⟨i0, k, none⟩) (l.length - k) openCap) ∧ tm.get 5 = some (.int .i64 (j : Nat)) ∧ 1 ≤ j ∧ j ≤ l.length - k ∧ n = l.length - k - j ∧ d.length = l.length ∧ d.take w = uniq (l.take (k + j)) ∧ w = (uniq (l.take (k + j))).length ∧ d.drop (k + (j - 1)) = l.drop (k + (j - 1)) ∧ w ≤ k + (j - 1) ∧ s'.get i0 = some (.cells (d.flatMap Str.encS) 9 false) ∧ ButV (.slice (some ⟨i0, 0, none⟩) l.length openCap) s s')
          (fun out s' => ∃ tm, ∃ (w : Nat) (d : List ByteArray), out = .code (.exit 2) ⟨tm, 61, [], false⟩ ∧ tm.get 0 = some (.slice (some ⟨i0, 0, none⟩) l.length openCap) ∧ tm.get 3 = some (.int .i64 (w : Nat)) ∧ d.length = l.length ∧ d.take w = uniq l ∧ w = (uniq l).length ∧ w < l.length ∧ s'.get i0 = some (.cells (d.flatMap Str.encS) 9 false) ∧ ButV (.slice (some ⟨i0, 0, none⟩) l.length openCap) s s') ?_ (l.length - k - 1) _ _ ?_ ?_
        · rintro n2 a2 s' ⟨tm2, w, j, d, rfl, f0, f3, f4, f5, hj1, hjl, hn2, hdl, hdt, hw, hdd, hwk2, hgs, hbs⟩
          by_cases hjj : j < l.length - k
          · have hjj' : (j : Int) < ((l.length - k : Nat) : Int) := by omega
            have hd1 : d.drop (k + j) = l.drop (k + j) := by
              have := congrArg (List.drop 1) hdd
              rw [List.drop_drop, List.drop_drop, show k + (j - 1) + 1 = k + j by omega] at this
              exact this
            have hge2 : ∀ (hh : k + j < (d.flatMap Str.encS).length), (d.flatMap Str.encS)[k + j]'hh = .string (l[k + j]'(by omega)) := fun hh => by
              have h1 := get_s d (k + j) (by omega)
              rw [List.getElem?_eq_getElem hh, drop_get (by omega) hdl hd1] at h1
              exact Option.some.inj h1
            have hge3 : ∀ (hh : k + (j - 1) < (d.flatMap Str.encS).length), (d.flatMap Str.encS)[k + (j - 1)]'hh = .string (l[k + (j - 1)]'(by omega)) := fun hh => by
              have h1 := get_s d (k + (j - 1)) (by omega)
              rw [List.getElem?_eq_getElem hh, drop_get (by omega) hdl hdd] at h1
              exact Option.some.inj h1
            have hrd : (d.flatMap Str.encS).length = l.length := by rw [enc_length Str.encS Str.lenS, Nat.mul_one, hdl]
            have hset := set_s d w (by omega) (l[k + j]'(by omega))
            have hwj := i64n1 j (by omega)
            have hww := i64n1 w (by omega)
            have hwj1 : IntKind.i64.wrap ((j : Int) - 1) = ((j - 1 : Nat) : Int) := by rw [IntWalk.i64_in _ (by omega)]; omega
            have hlst : (l.take (k + j)).getLast? = some (l[k + (j - 1)]'(by omega)) := by
              rw [List.getLast?_eq_getElem?, List.length_take, Nat.min_eq_left (by omega), List.getElem?_take, if_pos (by omega), show k + j - 1 = k + (j - 1) by omega, List.getElem?_eq_getElem (by omega)]
            have hst2 : uniq (l.take (k + (j + 1))) = if l[k + (j - 1)]'(by omega) = l[k + j]'(by omega) then uniq (l.take (k + j)) else uniq (l.take (k + j)) ++ [l[k + j]'(by omega)] := by
              rw [show k + (j + 1) = (k + j) + 1 by omega, List.take_succ_eq_append_getElem (by omega), uniq_snoc]
              unfold pushU
              rw [uniq_last, hlst]
              simp
            obtain ⟨row2, hrow2⟩ : ∃ row2, row2 = d.flatMap Str.encS := ⟨_, rfl⟩
            rw [← hrow2] at hgs hrd hset
            simp only [← hrow2] at hge2 hge3
            have b1 : k + j < l.length := by omega
            have b2 : k + (j - 1) < l.length := by omega
            have b3 : w < l.length := by omega
            have b4 : j - 1 < l.length - k := by omega
            have b5 : ((j - 1 : Nat) : Int) < ((l.length - k : Nat) : Int) := by omega
            have b6 : (w : Int) < l.length := by omega
            have b7 : w + 1 ≤ l.length := by omega
            simp [wops_cons, f0, f3, f4, f5, hjj, hjj', hwj1]
            refine W_calm (by kernel_rfl) ?_
            by_cases heq2 : l[k + j]'(by omega) = l[k + (j - 1)]'(by omega)
            · rw [if_pos heq2.symm] at hst2
              have hts2 : (l[k + j]'(by omega)).toList = (l[k + (j - 1)]'(by omega)).toList := by rw [heq2]
              simp [dops_cons, wops_cons, f0, f3, f4, f5, hjj, hjj', hwj1, hgs, hge2, hge3, hrd, b1, b2, b4, b5, hts2, hwj]
              exact ⟨l.length - k - (j + 1), by omega, w, rfl, j + 1, rfl, by omega, by omega, rfl, d, hdl, by rw [hst2]; exact hdt, by rw [hst2]; exact hw, hd1, by omega, hrow2, hbs⟩
            · rw [if_neg (fun e => heq2 e.symm)] at hst2
              have hts2 : ¬ (l[k + j]'(by omega)).toList = (l[k + (j - 1)]'(by omega)).toList := fun hc => heq2 (ba_list_inj hc)
              simp [dops_cons, wops_cons, f0, f3, f4, f5, hjj, hjj', hwj1, hgs, hge2, hge3, hrd, b1, b2, b3, b4, b5, b6, b7, hts2, hwj, hww, hset]
              refine ⟨l.length - k - (j + 1), by omega, w + 1, by omega, j + 1, rfl, by omega, by omega, rfl, d.set w (l[k + j]'(by omega)), by rw [List.length_set, hdl], ?_, ?_, ?_, by omega, rfl, hbs.putV hobj _⟩
              · rw [hst2, ← hdt, List.take_succ_eq_append_getElem (by rw [List.length_set]; omega), List.take_set_of_le (Nat.le_refl _)]
                simp
              · rw [hst2, List.length_append, ← hw]; rfl
              · show List.drop (k + j) _ = List.drop (k + j) _
                rw [List.drop_set_of_lt (by omega)]
                exact hd1
          · have hje : j = l.length - k := by omega
            have hjj' : ¬ (j : Int) < ((l.length - k : Nat) : Int) := by omega
            rw [show k + j = l.length by omega, List.take_length] at hdt hw
            simp [wops_cons, f0, f3, f4, f5, hjj, hjj']
            exact ⟨w, rfl, d, hdl, hdt, hw, by omega, hgs, hbs⟩
        · refine ⟨_, k, 1, l, rfl, ?_⟩
          simp [e0, e3]
          have hlen : (uniq (l.take (k + 1))).length = k := by rw [hstep, List.length_take]; omega
          exact ⟨by omega, hstep.symm, hlen.symm, hg0, ButV.refl _ _⟩
        · rintro out s' ⟨tm2, w, d, rfl, f0, f3, hdl, hdt, hw, hwl, hgs, hbs⟩
          have hzl : ((List.replicate (l.length - w) ([.string ⟨#[]⟩] : List Value)).flatten).length = l.length - w := by
            rw [List.length_flatten]; simp
          have hzc : cokL ((List.replicate (l.length - w) ([.string ⟨#[]⟩] : List Value)).flatten) = true := rep_cok _ _ rfl
          have hrd : (d.flatMap Str.encS).length = l.length := by rw [enc_length Str.encS Str.lenS, Nat.mul_one, hdl]
          have hcl := clearZ Str.lenS d w (by omega) [] ((List.replicate (l.length - w) ([.string ⟨#[]⟩] : List Value)).flatten) (by rw [hzl, hdl, Nat.mul_one])
          rw [List.append_nil, List.append_nil, Nat.mul_one] at hcl
          have hrf : (List.replicate (l.length - w) ([.string ⟨#[]⟩] : List Value)).flatten = List.replicate (l.length - w) (.string ⟨#[]⟩) := by simp
          rw [hrf] at hzl hzc hcl
          have hst : st (d.flatMap Str.encS) w (List.replicate (l.length - w) (.string ⟨#[]⟩)) = some ((d.take w).flatMap Str.encS ++ List.replicate (l.length - w) (.string ⟨#[]⟩)) := by
            rw [← hcl]
            unfold st
            rw [if_pos (by rw [hzl, hrd]; omega)]
          have hil' : ¬ l.length - w = 0 := by omega
          have hi2 : w ≤ l.length := by omega
          obtain ⟨row2, hrow2⟩ : ∃ row2, row2 = d.flatMap Str.encS := ⟨_, rfl⟩
          rw [← hrow2] at hgs hst hrd
          have hle3 : l.length ≤ row2.length := by omega
          have hle4 : w ≤ row2.length := by omega
          simp [wops_cons, f0, f3, sliceOp_open, sliceO, clearOp_K, clearK, hgs, hi2, hil', hst, hle3, hle4, hrd, -st_eq]
          rw [hdt, hw]
          refine h _ _ (.inr ⟨i0, openCap, _, rfl, hbi, Nat.lt_of_lt_of_le hin hbs.1, by rw [CSt.get_put, if_pos rfl], ?_, .inl rfl⟩) (hbs.putV hobj _)
          rw [← hw]; exact hzc
      · have hne : ¬ l[k].toList = (l[k - 1]'(by omega)).toList := fun hc => heq (ba_list_inj hc)
        rw [if_neg (fun e => heq e.symm)] at hstep
        simp [dops_cons, wops_cons, e0, e3, hk, hk', hwm, hg1, hge, hge1, hk1', hk1'', hrl, hne, hwk]
        exact ⟨l.length - (k + 1), by omega, k + 1, rfl, by omega, by omega, rfl, hstep⟩
    · have hkk : k = l.length := by omega
      have hk' : ¬ (k : Int) < l.length := by omega
      subst hkk
      rw [List.take_length] at hun
      have hown2 : Own b s 9 Str.encS (.slice (some ⟨i0, 0, none⟩) l.length openCap) l := .inr ⟨i0, openCap, rfl, hbi, hin, hg0, .inl rfl⟩
      have := h _ s (by rw [hun]; exact hown2.z) (ButV.refl _ _)
      simpa [wops_cons, e0, e3] using this
  · refine ⟨_, 1, rfl, ?_⟩
    simp
    refine ⟨by omega, ?_⟩
    match l, hl2 with
    | [], h => simp at h
    | a :: _, _ => rfl
end Go.Sm
/- Tables of locks: released, tidied. -/
set_option linter.unusedVariables false
set_option linter.unusedSimpArgs false
namespace Go.Sm
open Go Go.Proofs
set_option maxRecDepth 100000
set_option maxHeartbeats 4000000
end Go.Sm
/- Tables of locks: frozen, purged. -/
set_option linter.unusedVariables false
set_option linter.unusedSimpArgs false
namespace Go.Sm
open Go Go.Proofs
set_option maxRecDepth 100000
set_option maxHeartbeats 4000000
theorem cut_row (d : List Lk) (j : Nat) (h : j < d.length) (zs : List Value) : ∃ A B : List Value, A.length = j * 5 ∧ d.flatMap encK ++ zs = A ++ (encK d[j] ++ B) ∧ ∀ y, (d.set j y).flatMap encK ++ zs = A ++ (encK y ++ B) := by
  refine ⟨(d.take j).flatMap encK, (d.drop (j + 1)).flatMap encK ++ zs, ?_, ?_, fun y => ?_⟩
  · rw [enc_length encK lenK, List.length_take, Nat.min_eq_left (Nat.le_of_lt h)]
  · have e : d = d.take j ++ d[j] :: d.drop (j + 1) := by rw [← List.drop_eq_getElem_cons h, List.take_append_drop]
    have e2 := congrArg (List.flatMap encK) e
    rw [List.flatMap_append, List.flatMap_cons] at e2
    rw [e2]
    simp only [List.append_assoc]
  · rw [List.set_eq_take_append_cons_drop, if_pos h, List.flatMap_append, List.flatMap_cons]
    simp only [List.append_assoc]
theorem row_span (d : List Lk) (j : Nat) (h : j < d.length) (zs : List Value) (s : Sn) : (d.flatMap encK ++ zs).take (j * 5 + 3) ++ (encS s ++ (d.flatMap encK ++ zs).drop (j * 5 + 3 + 2)) = (d.set j ⟨d[j].owner, d[j].frm, d[j].to, s⟩).flatMap encK ++ zs := by
  obtain ⟨A, B, hA, h1, h2⟩ := cut_row d j h zs
  rw [h1, h2, ← hA, List.take_append, List.drop_append, List.take_of_length_le (by omega), List.drop_of_length_le (by omega)]
  simp [encK, encS, show A.length + 3 - A.length = 3 by omega, show A.length + 3 + 2 - A.length = 5 by omega]
/-- So far changed, the rest as it was. -/
def mid (f : Lk → Lk) (L : List Lk) (j : Nat) : List Lk := (L.take j).map f ++ L.drop j
theorem mid_len (f : Lk → Lk) (L : List Lk) (j : Nat) : (mid f L j).length = L.length := by
  unfold mid
  rw [List.length_append, List.length_map, ← List.length_append, List.take_append_drop]
theorem mid_get (f : Lk → Lk) (L : List Lk) (j : Nat) (h : j < L.length) : (mid f L j)[j]'(by rw [mid_len]; exact h) = L[j] := by
  unfold mid
  rw [List.getElem_append_right (by simp; omega)]
  simp [Nat.min_eq_left (Nat.le_of_lt h)]
theorem mid_set (f : Lk → Lk) (L : List Lk) (j : Nat) (h : j < L.length) : (mid f L j).set j (f L[j]) = mid f L (j + 1) := by
  unfold mid
  have hl : ((L.take j).map f).length = j := by simp [Nat.min_eq_left (Nat.le_of_lt h)]
  rw [List.set_append_right _ _ (by omega), hl, Nat.sub_self, List.take_succ_eq_append_getElem h, List.map_append, List.append_assoc]
  congr 1
  rw [List.drop_eq_getElem_cons h]
  rfl
theorem mid_all (f : Lk → Lk) (L : List Lk) : mid f L L.length = L.map f := by
  unfold mid
  rw [List.take_length, List.drop_length, List.append_nil]
theorem Tb.gnone {b i : Nat} {v : Value} {s s' : CSt} {L : List Lk} (h : Tb b i v s L) (hz : 0 < b) (hn : gnone s) (hz2 : 0 < s.n) (k : Bt i v s s') : gnone s' := by
  unfold Sm.gnone at *
  rw [k.2 0 hz2 (by have := h.2.1; omega) (fun e => by have := (h.2.2.2.ob e).1; omega)]
  exact hn
end Go.Sm
/- PlanBoxes, plain: the keys from one to another one are those between two places. -/
set_option linter.unusedVariables false
set_option linter.unusedSimpArgs false
namespace Go.Sm
open Go Go.Proofs
set_option maxRecDepth 100000
set_option maxHeartbeats 4000000
theorem below_kidx : ∀ {l : List ByteArray} {x : ByteArray}, (l.Pairwise fun a b => klt a b = true) → Below l x (kidx l x)
  | [], x, _ => ⟨Nat.le_refl _, fun j h => by simp at h, fun j h => by simp at h⟩
  | a :: l, x, h => by
    obtain ⟨h1, h2⟩ := List.pairwise_cons.1 h
    have ih := below_kidx (x := x) h2
    cases hc : klt a x with
    | true =>
      have hk : kidx (a :: l) x = kidx l x + 1 := by
        unfold kidx
        rw [List.filter_cons, if_pos hc]; rfl
      rw [hk]
      refine ⟨by have := ih.le; simp; omega, fun j hj hjk => ?_, fun j hj hjk => ?_⟩
      · cases j with
        | zero => exact hc
        | succ j => exact ih.lo j (by simpa using hj) (by omega)
      · cases j with
        | zero => omega
        | succ j => exact ih.hi j (by simpa using hj) (by omega)
    | false =>
      have hall : ∀ b ∈ l, klt b x = false := fun b hb => by
        cases hbx : klt b x with
        | false => rfl
        | true =>
          have := klt_trans (h1 b hb) hbx
          rw [hc] at this
          cases this
      have hk : kidx (a :: l) x = 0 := by
        unfold kidx
        rw [List.filter_cons, if_neg (by rw [hc]; decide), List.filter_eq_nil_iff.2 (fun b hb => by rw [hall b hb]; decide)]
        rfl
      rw [hk]
      refine ⟨Nat.zero_le _, fun j hj hjk => by omega, fun j hj hjk => ?_⟩
      cases j with
      | zero => exact hc
      | succ j => exact hall _ (List.getElem_mem _)
theorem klt_asymm {a b : ByteArray} (h : klt a b = true) : klt b a = false := by
  cases hc : klt b a with
  | false => rfl
  | true =>
    have := klt_trans h hc
    rw [klt_irrefl] at this
    cases this
/-- So many are not above. -/
noncomputable def upto (names : List ByteArray) (x : ByteArray) : Nat := (toIdx names x + 1).toNat
theorem toIdx_upto (names : List ByteArray) (x : ByteArray) : toIdx names x = (upto names x : Int) - 1 := by
  unfold upto toIdx
  split <;> omega
theorem upto_iff {l : List ByteArray} {x : ByteArray} (h : l.Pairwise fun a b => klt a b = true) (j : Nat) (hj : j < l.length) : klt x l[j] = false ↔ j < upto l x := by
  have hb := below_kidx (x := x) h
  have hmono : ∀ j k (hj : j < l.length) (hk : k < l.length), j < k → klt l[j] l[k] = true := fun j k hj hk hjk => List.pairwise_iff_getElem.1 h j k hj hk hjk
  unfold upto toIdx
  by_cases hlt : j < kidx l x
  · have h1 := klt_asymm (hb.lo j hj hlt)
    constructor
    · intro _; split <;> omega
    · intro _; exact h1
  · have h2 := hb.hi j hj (by omega)
    by_cases hx : x ∈ l
    · obtain ⟨i, hi, hix⟩ := List.mem_iff_getElem.1 hx
      have hik : i = kidx l x := by
        by_cases h3 : i < kidx l x
        · have := hb.lo i hi h3
          rw [hix, klt_irrefl] at this
          cases this
        · by_cases h4 : i = kidx l x
          · exact h4
          · have h5 := hb.hi (kidx l x) (by omega) (Nat.le_refl _)
            have h6 := hmono (kidx l x) i (by omega) hi (by omega)
            rw [hix, h5] at h6
            cases h6
      rw [if_pos hx]
      constructor
      · intro h3
        by_cases h4 : j = i
        · omega
        · have := hmono i j hi hj (by omega)
          rw [hix, h3] at this
          cases this
      · intro h3
        have : j = i := by omega
        subst this
        rw [hix, klt_irrefl]
    · rw [if_neg hx]
      constructor
      · intro h3
        have := klt_tri h2 h3
        exact absurd (this ▸ List.getElem_mem hj) hx
      · intro h3; omega
theorem kidx_iff {l : List ByteArray} {x : ByteArray} (h : l.Pairwise fun a b => klt a b = true) (j : Nat) (hj : j < l.length) : klt l[j] x = false ↔ kidx l x ≤ j := by
  have hb := below_kidx (x := x) h
  constructor
  · intro h1
    by_cases h2 : j < kidx l x
    · rw [hb.lo j hj h2] at h1; cases h1
    · omega
  · exact hb.hi j hj
theorem upto_le {l : List ByteArray} {x : ByteArray} (h : l.Pairwise fun a b => klt a b = true) : upto l x ≤ l.length := by
  by_cases hc : upto l x ≤ l.length
  · exact hc
  · exfalso
    have hb := (below_kidx (x := x) h).le
    unfold upto toIdx at hc
    split at hc
    · rename_i hx
      obtain ⟨i, hi, hix⟩ := List.mem_iff_getElem.1 hx
      have := (kidx_iff (x := x) h i hi).1 (by rw [hix, klt_irrefl])
      omega
    · omega
/-- The first one, the last one among so many. -/
def fstI (lo up k : Nat) : Int := if lo < min k up then (lo : Int) else -1
def lstI (lo up k : Nat) : Int := if lo < min k up then ((min k up : Nat) : Int) - 1 else -1
theorem fst_step {lo up k : Nat} : fstI lo up (k + 1) = if lo ≤ k ∧ k < up then (if fstI lo up k < 0 then (k : Int) else fstI lo up k) else fstI lo up k := by
  unfold fstI
  by_cases h1 : lo < min k up
  · rw [if_pos h1, if_pos (by omega)]
    split
    · rw [if_neg (by omega)]
    · rfl
  · rw [if_neg h1]
    by_cases h2 : lo ≤ k ∧ k < up
    · rw [if_pos h2, if_pos (show (-1 : Int) < 0 by decide), if_pos (show lo < min (k + 1) up by omega)]; omega
    · rw [if_neg h2, if_neg (by omega)]
theorem lst_step {lo up k : Nat} : lstI lo up (k + 1) = if lo ≤ k ∧ k < up then (k : Int) else lstI lo up k := by
  unfold lstI
  by_cases h2 : lo ≤ k ∧ k < up
  · rw [if_pos h2, if_pos (by omega)]; omega
  · rw [if_neg h2]
    by_cases h1 : lo < min k up
    · rw [if_pos h1, if_pos (by omega)]
      have : min (k + 1) up = min k up := by omega
      rw [this]
    · rw [if_neg h1, if_neg (by omega)]
def nwK (x : Lk) : Lk := ⟨x.owner, x.frm, x.to, ⟨x.sp.lo.tmod 50, x.sp.lo.tmod 50 + x.sp.hi.tmod 9⟩⟩
noncomputable def wantF (names : List ByteArray) (x : Lk) : List Bx := boxF names (nwK x)
theorem want_eq {names : List ByteArray} (h : names.Pairwise fun a b => klt a b = true) (x : Lk) : wantF names x = if 0 ≤ fstI (kidx names x.frm) (upto names x.to) names.length then [⟨(nwK x).sp.lo, fstI (kidx names x.frm) (upto names x.to) names.length, (nwK x).sp.hi, lstI (kidx names x.frm) (upto names x.to) names.length⟩] else [] := by
  have hu := upto_le (x := x.to) h
  have ht := toIdx_upto names x.to
  unfold wantF boxF
  show (if (kidx names x.frm : Int) ≤ toIdx names x.to then [(⟨(nwK x).sp.lo, kidx names x.frm, (nwK x).sp.hi, toIdx names x.to⟩ : Bx)] else []) = _
  rw [ht]
  unfold fstI lstI
  rw [Nat.min_eq_right hu]
  by_cases hc : kidx names x.frm < upto names x.to
  · rw [if_pos (by omega), if_pos hc, if_pos hc, if_pos (by omega)]
  · rw [if_neg (by omega), if_neg hc, if_neg hc, if_neg (by decide)]
theorem boxesL_map (names : List ByteArray) (L : List Lk) : boxesL names (L.map nwK) = L.flatMap (wantF names) := by
  unfold boxesL
  rw [List.flatMap_map]
  rfl
end Go.Sm
/- Sorting strings: the heap. -/
set_option linter.unusedVariables false
set_option linter.unusedSimpArgs false
namespace Go.Sm.Str
open Go Go.Proofs Go.Sm
set_option maxRecDepth 100000
set_option maxHeartbeats 4000000
theorem sift_unf {lt : ByteArray → ByteArray → Bool} {hi first r c ch cc : Nat} {d : Array ByteArray} (hc : c = 2 * r + 1) (hlt : c < hi) (hch : (ch = c ∧ ¬ (c + 1 < hi ∧ lt (aget d (first + c)) (aget d (first + c + 1)) = true)) ∨ (ch = c + 1 ∧ c + 1 < hi ∧ lt (aget d (first + c)) (aget d (first + c + 1)) = true)) (hcc : cc = first + ch) :
    Sort.siftDown lt hi first r d = if lt (aget d (first + r)) (aget d cc) = true then Sort.siftDown lt hi first ch (Sort.swp d (first + r) cc) else d := by
  subst hc; subst hcc
  conv => lhs; rw [Sort.siftDown]
  rw [dif_neg (by omega)]
  unfold aget at hch ⊢
  rcases hch with ⟨rfl, h⟩ | ⟨rfl, h1, h2⟩
  · rw [if_neg (by simpa using h)]
    cases lt d[first + r]! d[first + (2 * r + 1)]! <;> simp
  · have h2' : lt d[first + (2 * r + 1)]! d[first + (2 * r + 1) + 1]! = true := h2
    have e : 2 * r + 1 + 1 = 2 * r + 2 := rfl
    rw [if_pos (by simp [h2']; omega)]
    rw [dif_pos (by omega), e]
    cases lt d[first + r]! d[first + (2 * r + 2)]! <;> simp
theorem sift_s (n0 : Nat) (d : Array ByteArray) (hn0 : d.size = n0) (i cap : Nat) (pre post : List Value) (lo hi first : Nat) (σ : CSt) (hv : SV σ i pre post d) (hb : first + hi ≤ n0) (hbig : n0 < 2 ^ 40) (hlo : lo ≤ n0) (Q : Out → CSt → Prop)
    (h : ∀ σ', SV σ' i pre post (Sort.siftDown klt hi first lo d) → But i σ σ' → Q (.ret (.tuple #[]) false) σ') :
    W E1 (.fn 112 #[.slice (some ⟨i, pre.length, none⟩) n0 cap, .int .i64 lo, .int .i64 hi, .int .i64 first] none) σ Q := by
  rw [W_fn (fn := Tryz.f112) Tryz.func112 rfl rfl rfl]
  simp [wops_cons]
  refine W_loop_inv (fun n A σ' => ∃ tm r d', A = ⟨tm, 76, [], false⟩ ∧ tm.get 0 = some (.slice (some ⟨i, pre.length, none⟩) n0 cap) ∧ tm.get 1 = some (.int .i64 lo) ∧ tm.get 2 = some (.int .i64 hi) ∧ tm.get 3 = some (.int .i64 first) ∧ tm.get 8 = some (.int .i64 (r : Nat)) ∧ r ≤ n0 ∧ n = 2 ^ 40 - r ∧ Sort.siftDown klt hi first r d' = Sort.siftDown klt hi first lo d ∧ d'.size = n0 ∧ SV σ' i pre post d' ∧ But i σ σ') ?_ (2 ^ 40 - lo) _ _ ?_
  · rintro n A σ1 ⟨tm, r, d1, rfl, e0, e1, e2, e3, e8, hr, rfl, hfin, hsz, hv1, hg1⟩
    obtain ⟨c, hc⟩ : ∃ c, c = 2 * r + 1 := ⟨_, rfl⟩
    have hw2 : IntKind.i64.wrap (2 * (r : Int)) = 2 * (r : Int) := IntWalk.i64_in _ (by omega)
    have hwc : IntKind.i64.wrap (2 * (r : Int) + 1) = (c : Int) := by rw [IntWalk.i64_in _ (by omega)]; omega
    by_cases hch : c < hi
    · have hch' : ¬ (hi : Int) ≤ c := by omega
      have hwc1 : IntKind.i64.wrap ((c : Int) + 1) = ((c + 1 : Nat) : Int) := i64n1 c (by omega)
      obtain ⟨c1, hc1⟩ : ∃ c1, c1 = c + 1 := ⟨_, rfl⟩
      rw [← hc1] at hwc1
      obtain ⟨p, hp⟩ : ∃ p, p = first + r := ⟨_, rfl⟩
      obtain ⟨q, hq⟩ : ∃ q, q = first + c := ⟨_, rfl⟩
      obtain ⟨q1, hq1⟩ : ∃ q1, q1 = q + 1 := ⟨_, rfl⟩
      have hwp : IntKind.i64.wrap ((first : Int) + r) = (p : Int) := by rw [IntWalk.i64_in _ (by omega)]; omega
      have hwq : IntKind.i64.wrap ((first : Int) + c) = (q : Int) := by rw [IntWalk.i64_in _ (by omega)]; omega
      have hwqc : IntKind.i64.wrap ((first : Int) + c1) = (q1 : Int) := by rw [IntWalk.i64_in _ (by omega)]; omega
      have hwq1 : IntKind.i64.wrap ((q : Int) + 1) = (q1 : Int) := by rw [IntWalk.i64_in _ (by omega)]; omega
      have hgi := hv1.1
      have hpd : p < n0 := by omega
      have hqd : q < n0 := by omega
      have hunf : ∀ ch cc, cc = first + ch → ((ch = c ∧ ¬ (c + 1 < hi ∧ klt (aget d1 (first + c)) (aget d1 (first + c + 1)) = true)) ∨ (ch = c + 1 ∧ c + 1 < hi ∧ klt (aget d1 (first + c)) (aget d1 (first + c + 1)) = true)) → Sort.siftDown klt hi first r d1 = if klt (aget d1 p) (aget d1 cc) = true then Sort.siftDown klt hi first ch (Sort.swp d1 p cc) else d1 := fun ch cc h1 h2 => by rw [hp]; exact sift_unf hc hch h2 h1
      rw [← hq, ← hq1] at hunf
      by_cases hc1h : c1 < hi
      · have hq1d : q1 < n0 := by omega
        have hc1h' : (c1 : Int) < hi := by omega
        have hrq := rowS_get (pre := pre) (post := post) (d := d1) (j := q) (by omega)
        have hrq1 := rowS_get (pre := pre) (post := post) (d := d1) (j := q1) (by omega)
        simp [wops_cons, dops_cons, dops_if, dstOf, -st_eq, -ld_eq, -Nat.not_lt, e0, e1, e2, e3, e8, hw2, hwc, hch, hch']
        refine W_calm (by kernel_rfl) ?_
        simp [wops_cons, dops_cons, dops_if, dstOf, -st_eq, -ld_eq, -Nat.not_lt, e0, e1, e2, e3, e8, hwc1, hc1h, hc1h', hwq, hwq1, hqd, hq1d, hgi, hrq, hrq1]
        refine less_s _ _ _ _ ?_
        cases hl1 : klt (aget d1 q) (aget d1 q1)
        ·
          have hrp := rowS_get (pre := pre) (post := post) (d := d1) (j := p) (by omega)
          have hrch := rowS_get (pre := pre) (post := post) (d := d1) (j := q) (by omega)
          try simp [wops_cons, dops_cons, dops_if, dstOf, -st_eq, -ld_eq, -Nat.not_lt, e0, e1, e2, e3, e8, hwc1]
          refine W_calm (by kernel_rfl) ?_
          simp [wops_cons, dops_cons, dops_if, dstOf, -st_eq, -ld_eq, -Nat.not_lt, e0, e1, e2, e3, e8, hwp, hwq, hwq1, hpd, hqd, hqd, hgi, hrp, hrch, hwc1]
          refine less_s _ _ _ _ ?_
          cases hl2 : klt (aget d1 p) (aget d1 q)
          · simp [wops_cons, dops_cons, dops_if, dstOf, -st_eq, -ld_eq, -Nat.not_lt, e0, e1, e2, e3, e8, hl2]
            refine h σ1 ?_ hg1
            rw [← hfin, hunf c q hq (.inl ⟨rfl, by simp [hl1]⟩), hl2]
            simpa using hv1
          ·
            have hst1 := rowS_st (pre := pre) (post := post) (d := d1) (j := p) (by first | omega | (simp; omega)) (aget d1 q)
            have hst2 := rowS_st (pre := pre) (post := post) (d := aset d1 p (aget d1 q)) (j := q) (by first | omega | (simp; omega)) (aget d1 p)
            simp [wops_cons, dops_cons, dops_if, dstOf, -st_eq, -ld_eq, -Nat.not_lt, e0, e1, e2, e3, e8, hl2]
            refine W_calm (by kernel_rfl) ?_
            simp [wops_cons, dops_cons, dops_if, dstOf, -st_eq, -ld_eq, -Nat.not_lt, e0, e1, e2, e3, e8, hwp, hwq, hwq1, hpd, hqd, hqd, hgi, hrp, hrch, hst1, hst2, hwc1]
            rw [← swp_aset]
            refine ⟨_, ?_, c, rfl, by omega, rfl, _, ?_, by simpa using hsz, (hv1.put _).put _, (hg1.putL _).putL _⟩
            · omega
            · rw [← hfin, hunf c q hq (.inl ⟨rfl, by simp [hl1]⟩), hl2]
              simp
        ·
          have hrp := rowS_get (pre := pre) (post := post) (d := d1) (j := p) (by omega)
          have hrch := rowS_get (pre := pre) (post := post) (d := d1) (j := q1) (by omega)
          try simp [wops_cons, dops_cons, dops_if, dstOf, -st_eq, -ld_eq, -Nat.not_lt, e0, e1, e2, e3, e8, hwc1]
          refine W_calm (by kernel_rfl) ?_
          simp [wops_cons, dops_cons, dops_if, dstOf, -st_eq, -ld_eq, -Nat.not_lt, e0, e1, e2, e3, e8, hwp, hwq, hwq1, hpd, hqd, hq1d, hwqc, hgi, hrp, hrch, hwc1]
          refine less_s _ _ _ _ ?_
          cases hl2 : klt (aget d1 p) (aget d1 q1)
          · simp [wops_cons, dops_cons, dops_if, dstOf, -st_eq, -ld_eq, -Nat.not_lt, e0, e1, e2, e3, e8, hl2]
            refine h σ1 ?_ hg1
            rw [← hfin, hunf c1 q1 (by omega) (.inr ⟨hc1, by omega, hl1⟩), hl2]
            simpa using hv1
          ·
            have hst1 := rowS_st (pre := pre) (post := post) (d := d1) (j := p) (by first | omega | (simp; omega)) (aget d1 q1)
            have hst2 := rowS_st (pre := pre) (post := post) (d := aset d1 p (aget d1 q1)) (j := q1) (by first | omega | (simp; omega)) (aget d1 p)
            simp [wops_cons, dops_cons, dops_if, dstOf, -st_eq, -ld_eq, -Nat.not_lt, e0, e1, e2, e3, e8, hl2]
            refine W_calm (by kernel_rfl) ?_
            simp [wops_cons, dops_cons, dops_if, dstOf, -st_eq, -ld_eq, -Nat.not_lt, e0, e1, e2, e3, e8, hwp, hwq, hwq1, hpd, hqd, hq1d, hwqc, hgi, hrp, hrch, hst1, hst2, hwc1]
            rw [← swp_aset]
            refine ⟨_, ?_, c1, rfl, by omega, rfl, _, ?_, by simpa using hsz, (hv1.put _).put _, (hg1.putL _).putL _⟩
            · omega
            · rw [← hfin, hunf c1 q1 (by omega) (.inr ⟨hc1, by omega, hl1⟩), hl2]
              simp
      · have hc1h' : ¬ (c1 : Int) < hi := by omega
        simp [wops_cons, dops_cons, dops_if, dstOf, -st_eq, -ld_eq, -Nat.not_lt, e0, e1, e2, e3, e8, hw2, hwc, hch, hch']
        refine W_calm (by kernel_rfl) ?_
        simp [wops_cons, dops_cons, dops_if, dstOf, -st_eq, -ld_eq, -Nat.not_lt, e0, e1, e2, e3, e8, hwc1, hc1h, hc1h', hwq, hwq1, hqd, hgi]
        have hrp := rowS_get (pre := pre) (post := post) (d := d1) (j := p) (by omega)
        have hrch := rowS_get (pre := pre) (post := post) (d := d1) (j := q) (by omega)
        try simp [wops_cons, dops_cons, dops_if, dstOf, -st_eq, -ld_eq, -Nat.not_lt, e0, e1, e2, e3, e8, hwc1]
        refine W_calm (by kernel_rfl) ?_
        simp [wops_cons, dops_cons, dops_if, dstOf, -st_eq, -ld_eq, -Nat.not_lt, e0, e1, e2, e3, e8, hwp, hwq, hwq1, hpd, hqd, hqd, hgi, hrp, hrch, hwc1]
        refine less_s _ _ _ _ ?_
        cases hl2 : klt (aget d1 p) (aget d1 q)
        · simp [wops_cons, dops_cons, dops_if, dstOf, -st_eq, -ld_eq, -Nat.not_lt, e0, e1, e2, e3, e8, hl2]
          refine h σ1 ?_ hg1
          rw [← hfin, hunf c q hq (.inl ⟨rfl, by omega⟩), hl2]
          simpa using hv1
        ·
          have hst1 := rowS_st (pre := pre) (post := post) (d := d1) (j := p) (by first | omega | (simp; omega)) (aget d1 q)
          have hst2 := rowS_st (pre := pre) (post := post) (d := aset d1 p (aget d1 q)) (j := q) (by first | omega | (simp; omega)) (aget d1 p)
          simp [wops_cons, dops_cons, dops_if, dstOf, -st_eq, -ld_eq, -Nat.not_lt, e0, e1, e2, e3, e8, hl2]
          refine W_calm (by kernel_rfl) ?_
          simp [wops_cons, dops_cons, dops_if, dstOf, -st_eq, -ld_eq, -Nat.not_lt, e0, e1, e2, e3, e8, hwp, hwq, hwq1, hpd, hqd, hqd, hgi, hrp, hrch, hst1, hst2, hwc1]
          rw [← swp_aset]
          refine ⟨_, ?_, c, rfl, by omega, rfl, _, ?_, by simpa using hsz, (hv1.put _).put _, (hg1.putL _).putL _⟩
          · omega
          · rw [← hfin, hunf c q hq (.inl ⟨rfl, by omega⟩), hl2]
            simp
    · have hch' : (hi : Int) ≤ c := by omega
      have : Sort.siftDown klt hi first r d1 = d1 := by rw [Sort.siftDown, dif_pos (by omega)]
      rw [this] at hfin
      subst hfin
      simp [wops_cons, dops_cons, dops_if, dstOf, -st_eq, -ld_eq, -Nat.not_lt, e0, e1, e2, e3, e8, hw2, hwc, hch, hch']
      exact h σ1 hv1 hg1
  · refine ⟨_, lo, d, rfl, ?_⟩
    simp
    exact ⟨hlo, hn0, hv, But.refl i σ⟩
end Go.Sm.Str
/- Sorting strings: the heap; the row turned round. -/
set_option linter.unusedVariables false
set_option linter.unusedSimpArgs false
namespace Go.Sm.Str
open Go Go.Proofs Go.Sm
set_option maxRecDepth 100000
set_option maxHeartbeats 4000000
theorem sift_size (lt : ByteArray → ByteArray → Bool) (hi first r : Nat) (d : Array ByteArray) : (Sort.siftDown lt hi first r d).size = d.size := by
  fun_induction Sort.siftDown lt hi first r d <;> simp_all
theorem heap_s (n0 : Nat) (d : Array ByteArray) (hn0 : d.size = n0) (i cap : Nat) (pre post : List Value) (a b : Nat) (σ : CSt) (hv : SV σ i pre post d) (hb : b ≤ n0) (hbig : n0 < 2 ^ 40) (ha : a ≤ b) (Q : Out → CSt → Prop)
    (h : ∀ σ', SV σ' i pre post (Sort.heapSort klt d a b) → But i σ σ' → Q (.ret (.tuple #[]) false) σ') :
    W E1 (.fn 81 #[.slice (some ⟨i, pre.length, none⟩) n0 cap, .int .i64 a, .int .i64 b] none) σ Q := by
  rw [W_fn (fn := Tryz.f81) Tryz.func81 rfl rfl rfl]
  obtain ⟨hi, hhi⟩ : ∃ hi, hi = b - a := ⟨_, rfl⟩
  obtain ⟨K, hK⟩ : ∃ K, K = (hi - 1) / 2 + 1 := ⟨_, rfl⟩
  have hw1 : IntKind.i64.wrap ((b : Int) - a) = (hi : Int) := by rw [IntWalk.i64_in _ (by omega)]; omega
  have hw2 : IntKind.i64.wrap ((hi : Int) - 1) = (hi : Int) - 1 := IntWalk.i64_in _ (by omega)
  have hw3 : IntKind.i64.wrap (((hi : Int) - 1).tdiv 2) = (K : Int) - 1 := by
    rw [IntWalk.i64_quo' _ _ (by omega)]
    by_cases h0 : hi = 0
    · rw [hK, h0]; decide
    · have e : (hi : Int) - 1 = ((hi - 1 : Nat) : Int) := by omega
      rw [e, Int.tdiv_eq_ediv_of_nonneg (by omega)]
      omega
  have hpost : Sort.heapSort klt d a b = Sort.heapPop klt a hi (Sort.heapBuild klt hi a K d) := by rw [Sort.heapSort, hK, hhi]
  simp [wops_cons, dops_cons, dops_if, dstOf, -st_eq, -ld_eq, -Nat.not_lt, hw1, hw2, hw3]
  refine W_loop_inv (fun n A σ' => ∃ tm k d', A = ⟨tm, 56, [], false⟩ ∧ tm.get 0 = some (.slice (some ⟨i, pre.length, none⟩) n0 cap) ∧ tm.get 6 = some (.int .i64 (a : Nat)) ∧ tm.get 7 = some (.int .i64 0) ∧ tm.get 8 = some (.int .i64 (hi : Nat)) ∧ tm.get 9 = some (.int .i64 ((k : Nat) - 1)) ∧ k ≤ K ∧ n = k ∧ Sort.heapBuild klt hi a k d' = Sort.heapBuild klt hi a K d ∧ d'.size = n0 ∧ SV σ' i pre post d' ∧ But i σ σ') ?_ K _ _ ?_
  · rintro n A σ1 ⟨tm, k, d1, rfl, e0, e6, e7, e8, e9, hk, hn, hfin, hsz, hv1, hg1⟩
    cases k with
    | zero =>
      rw [Sort.heapBuild] at hfin
      subst hfin
      have hm : ¬ (0 : Int) ≤ -1 := by omega
      simp [wops_cons, dops_cons, dops_if, dstOf, -st_eq, -ld_eq, -Nat.not_lt, e0, e6, e7, e8, e9, hw2, hm]
      refine W_loop_inv (fun n A σ' => ∃ tm k d', A = ⟨tm, 56, [], false⟩ ∧ tm.get 0 = some (.slice (some ⟨i, pre.length, none⟩) n0 cap) ∧ tm.get 6 = some (.int .i64 (a : Nat)) ∧ tm.get 7 = some (.int .i64 0) ∧ tm.get 10 = some (.int .i64 ((k : Nat) - 1)) ∧ k ≤ hi ∧ n = k ∧ Sort.heapPop klt a k d' = Sort.heapSort klt d a b ∧ d'.size = n0 ∧ SV σ' i pre post d' ∧ But i σ σ') ?_ hi _ _ ?_
      · rintro n A σ2 ⟨tm, k, d2, rfl, e0, e6, e7, e10, hk, hn, hfin2, hsz2, hv2, hg2⟩
        cases k with
        | zero =>
          rw [Sort.heapPop] at hfin2
          subst hfin2
          simp [wops_cons, dops_cons, dops_if, dstOf, -st_eq, -ld_eq, -Nat.not_lt, e0, e6, e7, e10]
          exact h σ2 hv2 hg2
        | succ k =>
          have ek : ((k + 1 : Nat) : Int) - 1 = (k : Int) := by omega
          rw [ek] at e10
          obtain ⟨p, hp⟩ : ∃ p, p = a + k := ⟨_, rfl⟩
          have hwp : IntKind.i64.wrap ((a : Int) + k) = (p : Int) := by rw [IntWalk.i64_in _ (by omega)]; omega
          have hwk : IntKind.i64.wrap ((k : Int) - 1) = (k : Int) - 1 := IntWalk.i64_in _ (by omega)
          have hpd : p < n0 := by omega
          have had : a < n0 := by omega
          have hgi := hv2.1
          have hrp := rowS_get (pre := pre) (post := post) (d := d2) (j := p) (by omega)
          have hra := rowS_get (pre := pre) (post := post) (d := d2) (j := a) (by omega)
          have hst1 := rowS_st (pre := pre) (post := post) (d := d2) (j := a) (by first | omega | (simp; omega)) (aget d2 p)
          have hst2 := rowS_st (pre := pre) (post := post) (d := aset d2 a (aget d2 p)) (j := p) (by first | omega | (simp; omega)) (aget d2 a)
          simp [wops_cons, dops_cons, dops_if, dstOf, -st_eq, -ld_eq, -Nat.not_lt, e0, e6, e7, e10]
          refine W_calm (by kernel_rfl) ?_
          simp [wops_cons, dops_cons, dops_if, dstOf, -st_eq, -ld_eq, -Nat.not_lt, e0, e6, e7, e10, hwp, hpd, had, hgi, hrp, hra, hst1, hst2]
          rw [← swp_aset]
          have hsz3 : (Sort.swp d2 a p).size = n0 := by simp [hsz2]
          refine sift_s n0 (Sort.swp d2 a p) hsz3 i cap pre post 0 k a _ ((hv2.put (aset d2 a (aget d2 p))).put _) (by omega) (by omega) (by omega) _ fun σ3 hv3 hg3 => ?_
          simp [wops_cons, dops_cons, dops_if, dstOf, -st_eq, -ld_eq, -Nat.not_lt, e0, e6, e7, e10, hwk]
          refine ⟨k, by omega, k, rfl, by omega, rfl, _, ?_, ?_, hv3, ((hg2.putL _).putL _).trans hg3⟩
          · rw [← hfin2, Sort.heapPop, hp]
          · rw [sift_size]; exact hsz3
      · refine ⟨_, hi, Sort.heapBuild klt hi a K d, rfl, ?_⟩
        simp [e0, e6, e7]
        exact ⟨hpost.symm, hsz, hv1, hg1⟩
    | succ k =>
      have ek : ((k + 1 : Nat) : Int) - 1 = (k : Int) := by omega
      rw [ek] at e9
      have hwk : IntKind.i64.wrap ((k : Int) - 1) = (k : Int) - 1 := IntWalk.i64_in _ (by omega)
      simp [wops_cons, dops_cons, dops_if, dstOf, -st_eq, -ld_eq, -Nat.not_lt, e0, e6, e7, e8, e9]
      refine sift_s n0 d1 hsz i cap pre post k hi a _ hv1 (by omega) (by omega) (by omega) _ fun σ3 hv3 hg3 => ?_
      simp [wops_cons, dops_cons, dops_if, dstOf, -st_eq, -ld_eq, -Nat.not_lt, e0, e6, e7, e8, e9, hwk]
      refine ⟨k, by omega, k, rfl, by omega, rfl, _, ?_, ?_, hv3, hg1.trans hg3⟩
      · rw [← hfin, Sort.heapBuild]
      · rw [sift_size]; exact hsz
  · refine ⟨_, K, d, rfl, ?_⟩
    simp
    exact ⟨hn0, hv, But.refl i σ⟩
theorem rev_s (n0 : Nat) (d : Array ByteArray) (hn0 : d.size = n0) (i cap : Nat) (pre post : List Value) (a b : Nat) (σ : CSt) (hv : SV σ i pre post d) (hb : b ≤ n0) (hbig : n0 < 2 ^ 40) (ha : a < b) (Q : Out → CSt → Prop)
    (h : ∀ σ', SV σ' i pre post (Sort.reverseRange d a b) → But i σ σ' → Q (.ret (.tuple #[]) false) σ') :
    W E1 (.fn 84 #[.slice (some ⟨i, pre.length, none⟩) n0 cap, .int .i64 a, .int .i64 b] none) σ Q := by
  rw [W_fn (fn := Tryz.f84) Tryz.func84 rfl rfl rfl]
  have hw1 : IntKind.i64.wrap ((b : Int) - 1) = ((b - 1 : Nat) : Int) := i64p b (by omega) (by omega)
  simp [wops_cons, dops_cons, dops_if, dstOf, -st_eq, -ld_eq, -Nat.not_lt, hw1]
  refine W_loop_inv (fun n A σ' => ∃ tm x y d', A = ⟨tm, 32, [], false⟩ ∧ tm.get 0 = some (.slice (some ⟨i, pre.length, none⟩) n0 cap) ∧ tm.get 6 = some (.int .i64 (x : Nat)) ∧ tm.get 7 = some (.int .i64 (y : Nat)) ∧ y < b ∧ x ≤ b ∧ n = y ∧ Sort.reverseLoop x y d' = Sort.reverseRange d a b ∧ d'.size = n0 ∧ SV σ' i pre post d' ∧ But i σ σ') ?_ (b - 1) _ _ ?_
  · rintro n A σ1 ⟨tm, x, y, d1, rfl, e0, e6, e7, hy, hx, hn, hfin, hsz, hv1, hg1⟩
    by_cases hxy : x < y
    · have hxy' : (x : Int) < y := by omega
      have hxd : x < n0 := by omega
      have hyd : y < n0 := by omega
      have hw2 := i64n1 x (by omega)
      have hw3 := i64p y (by omega) (by omega)
      have hgi := hv1.1
      have hrx := rowS_get (pre := pre) (post := post) (d := d1) (j := x) (by omega)
      have hry := rowS_get (pre := pre) (post := post) (d := d1) (j := y) (by omega)
      have hst1 := rowS_st (pre := pre) (post := post) (d := d1) (j := x) (by first | omega | (simp; omega)) (aget d1 y)
      have hst2 := rowS_st (pre := pre) (post := post) (d := aset d1 x (aget d1 y)) (j := y) (by first | omega | (simp; omega)) (aget d1 x)
      simp [wops_cons, dops_cons, dops_if, dstOf, -st_eq, -ld_eq, -Nat.not_lt, e0, e6, e7, hxy, hxy']
      refine W_calm (by kernel_rfl) ?_
      simp [wops_cons, dops_cons, dops_if, dstOf, -st_eq, -ld_eq, -Nat.not_lt, e0, e6, e7, hxd, hyd, hgi, hrx, hry, hst1, hst2, hw2, hw3]
      rw [← swp_aset]
      refine ⟨y - 1, by omega, x + 1, rfl, y - 1, rfl, by omega, by omega, rfl, _, ?_, by simp [hsz], (hv1.put _).put _, (hg1.putL _).putL _⟩
      rw [← hfin]
      conv => rhs; rw [Sort.reverseLoop]
      rw [if_pos hxy]
    · have hxy' : ¬ (x : Int) < y := by omega
      rw [Sort.reverseLoop, if_neg hxy] at hfin
      subst hfin
      simp [wops_cons, dops_cons, dops_if, dstOf, -st_eq, -ld_eq, -Nat.not_lt, e0, e6, e7, hxy, hxy']
      exact h σ1 hv1 hg1
  · refine ⟨_, a, b - 1, d, rfl, ?_⟩
    simp
    exact ⟨by omega, by omega, rfl, hn0, hv, But.refl i σ⟩
end Go.Sm.Str
/- Sorting: the patterns broken. -/
set_option linter.unusedVariables false
set_option linter.unusedSimpArgs false
namespace Go.Sm.Str
open Go Go.Proofs Go.Sm
set_option maxRecDepth 100000
set_option maxHeartbeats 4000000
theorem swp_permS {d : Array ByteArray} {a b i j : Nat} (h1 : a ≤ i) (h2 : i < b) (h3 : a ≤ j) (h4 : j < b) (h5 : b ≤ d.size) : Sort.PermIn a b d (Sort.swp d i j) := Sort.swp_permIn d a b i j h1 h2 h3 h4 h5
theorem break_s (n0 : Nat) (d : Array ByteArray) (hn0 : d.size = n0) (i cap : Nat) (pre post : List Value) (a b : Nat) (σ : CSt) (hv : SV σ i pre post d) (hb : b ≤ n0) (hbig : n0 < 2 ^ 40) (ha : a ≤ b) (Q : Out → CSt → Prop)
    (h : ∀ σ' d', Sort.PermIn a b d d' → SV σ' i pre post d' → But i σ σ' → Q (.ret (.tuple #[]) false) σ') :
    W E1 (.fn 82 #[.slice (some ⟨i, pre.length, none⟩) n0 cap, .int .i64 a, .int .i64 b] none) σ Q := by
  rw [W_fn (fn := Tryz.f82) Tryz.func82 rfl rfl rfl]
  obtain ⟨len, hlen⟩ : ∃ len, len = b - a := ⟨_, rfl⟩
  have hw1 : IntKind.i64.wrap ((b : Int) - a) = (len : Int) := by rw [IntWalk.i64_in _ (by omega)]; omega
  by_cases h8 : 8 ≤ len
  · have h8' : (8 : Int) ≤ len := by omega
    obtain ⟨q, hq⟩ : ∃ q, q = len / 4 := ⟨_, rfl⟩
    have hw2 : IntKind.u64.wrap (len : Int) = len := IntWalk.u64_in _ (by omega)
    have hw3 : IntKind.i64.wrap ((len : Int).tdiv 4) = (q : Int) := by rw [IntWalk.i64_quo _ _ (by omega)]; omega
    have hw3' : IntKind.i64.wrap ((len : Int) / 4) = (q : Int) := by rw [IntWalk.i64_in _ (by omega)]; omega
    have hw4 : IntKind.i64.wrap ((q : Int) * 2) = (q : Int) * 2 := IntWalk.i64_in _ (by omega)
    have hw5 : IntKind.i64.wrap ((a : Int) + (q : Int) * 2) = ((a + q * 2 : Nat) : Int) := by rw [IntWalk.i64_in _ (by omega)]; omega
    obtain ⟨m0, hm0⟩ : ∃ m0, m0 = a + q * 2 := ⟨_, rfl⟩
    rw [← hm0] at hw5
    have hw6 : IntKind.i64.wrap ((m0 : Int) - 1) = ((m0 - 1 : Nat) : Int) := i64p m0 (by omega) (by omega)
    have hw7 : IntKind.i64.wrap ((m0 : Int) + 1) = ((m0 + 1 : Nat) : Int) := i64n1 m0 (by omega)
    simp [wops_cons, dops_cons, dops_if, dstOf, -Nat.not_lt, hw1, h8, h8', hw2]
    have hga : But i σ ((σ.alloc (.cells [.int .u64 0] 166 false)).put σ.n (.cells [.int .u64 len] 166 false)) := ((But.refl i σ).alloc _).put (Nat.le_refl _) _
    have hin := hv.2
    refine nextPow_spec len (by omega) (by omega) _ _ fun m hm hm2 => ?_
    simp [wops_cons, dops_cons, dops_if, dstOf, -st_eq, -ld_eq, -Nat.not_lt, hw1, hw3, hw3', hw4, hw5, hw6]
    refine W_loop_inv (fun n A σ' => ∃ tm k d' r, A = ⟨tm, 65, [], false⟩ ∧ tm.get 0 = some (.slice (some ⟨i, pre.length, none⟩) n0 cap) ∧ tm.get 1 = some (.int .i64 (a : Nat)) ∧ tm.get 6 = some (.int .i64 (len : Nat)) ∧ tm.get 7 = some (.pointer (some ⟨σ.n, 0, none⟩)) ∧ tm.get 8 = some (.int .u64 (m : Nat)) ∧ tm.get 9 = some (.int .i64 (k : Nat)) ∧ m0 - 1 ≤ k ∧ n = m0 + 2 - k ∧ k ≤ m0 + 2 ∧ Sort.PermIn a b d d' ∧ d'.size = n0 ∧ σ'.get σ.n = some (.cells [.int .u64 r] 166 false) ∧ SV σ' i pre post d' ∧ But i σ σ') ?_ 3 _ _ ?_
    · rintro n A σ1 ⟨tm, k, d1, r, rfl, e0, e1, e6, e7, e8, e9, hk, hn, hk2, hpm, hsz, hx, hv1, hg1⟩
      by_cases hkm : k ≤ m0 + 1
      · have hkm' : (k : Int) ≤ ((m0 + 1 : Nat) : Int) := by omega
        have hkm2 : (k : Int) ≤ (m0 : Int) + 1 := by omega
        simp [wops_cons, dops_cons, dops_if, dstOf, -st_eq, -ld_eq, -Nat.not_lt, e0, e1, e6, e7, e8, e9, hw3, hw3', hw4, hw5, hw7, hkm, hkm', hkm2]
        refine next_spec σ.n r σ1 hx _ fun r' σ2 hr0 hr1 hx2 hn2 hoth => ?_
        have hm1 : IntKind.u64.wrap ((m : Int) - 1) = ((m - 1 : Nat) : Int) := by rw [IntWalk.u64_in _ (by omega)]; omega
        obtain ⟨o, ho, hom⟩ := andI_lt r' m hr0 hr1 hm (by omega)
        have hwo : IntKind.i64.wrap (o : Int) = (o : Int) := IntWalk.i64_in _ (by omega)
        have hv2 : SV σ2 i pre post d1 := ⟨by rw [hoth i (by omega)]; exact hv1.1, by rw [hn2]; exact hv1.2⟩
        have hg2 : But i σ σ2 := ⟨by rw [hn2]; exact hg1.1, fun j hj hne => by rw [hoth j (by omega)]; exact hg1.2 j hj hne⟩
        have hgi := hv2.1
        have hwk := i64n1 k (by omega)
        by_cases hol : len ≤ o
        · have hol' : (len : Int) ≤ o := by omega
          obtain ⟨o2, ho2⟩ : ∃ o2, o2 = o - len := ⟨_, rfl⟩
          have hwo2 : IntKind.i64.wrap ((o : Int) - len) = (o2 : Int) := by rw [IntWalk.i64_in _ (by omega)]; omega
          simp [wops_cons, dops_cons, dops_if, dstOf, -st_eq, -ld_eq, -Nat.not_lt, e0, e1, e6, e7, e8, e9, hm1, ho, hwo, hol, hol', hwo2]
          refine W_calm (by kernel_rfl) ?_
          obtain ⟨p, hp⟩ : ∃ p, p = a + o2 := ⟨_, rfl⟩
          have hwp : IntKind.i64.wrap ((a : Int) + (o2 : Nat)) = (p : Int) := by rw [IntWalk.i64_in _ (by omega)]; omega
          have hpd : p < n0 := by omega
          have hkd : k < n0 := by omega
          have hrp := rowS_get (pre := pre) (post := post) (d := d1) (j := p) (by omega)
          have hrk := rowS_get (pre := pre) (post := post) (d := d1) (j := k) (by omega)
          have hst1 := rowS_st (pre := pre) (post := post) (d := d1) (j := k) (by first | omega | (simp; omega)) (aget d1 p)
          have hst2 := rowS_st (pre := pre) (post := post) (d := aset d1 k (aget d1 p)) (j := p) (by first | omega | (simp; omega)) (aget d1 k)
          simp [wops_cons, dops_cons, dops_if, dstOf, -st_eq, -ld_eq, -Nat.not_lt, e0, e1, e6, e7, e8, e9, hwp, hpd, hkd, hgi, hrp, hrk, hst1, hst2, hwk]
          rw [← swp_aset]
          refine ⟨m0 + 2 - (k + 1), by omega, k + 1, rfl, by omega, rfl, by omega, _, Sort.permIn_trans _ _ _ _ _ hpm (swp_permS (by omega) (by omega) (by omega) (by omega) (by omega)), by simp [hsz], ⟨r', ?_⟩, (hv2.put _).put _, (hg2.putL _).putL _⟩
          rw [if_neg (by omega), if_neg (by omega)]
          exact hx2
        · have hol' : ¬ (len : Int) ≤ o := by omega
          simp [wops_cons, dops_cons, dops_if, dstOf, -st_eq, -ld_eq, -Nat.not_lt, e0, e1, e6, e7, e8, e9, hm1, ho, hwo, hol, hol']
          refine W_calm (by kernel_rfl) ?_
          obtain ⟨p, hp⟩ : ∃ p, p = a + o := ⟨_, rfl⟩
          have hwp : IntKind.i64.wrap ((a : Int) + (o : Nat)) = (p : Int) := by rw [IntWalk.i64_in _ (by omega)]; omega
          have hpd : p < n0 := by omega
          have hkd : k < n0 := by omega
          have hrp := rowS_get (pre := pre) (post := post) (d := d1) (j := p) (by omega)
          have hrk := rowS_get (pre := pre) (post := post) (d := d1) (j := k) (by omega)
          have hst1 := rowS_st (pre := pre) (post := post) (d := d1) (j := k) (by first | omega | (simp; omega)) (aget d1 p)
          have hst2 := rowS_st (pre := pre) (post := post) (d := aset d1 k (aget d1 p)) (j := p) (by first | omega | (simp; omega)) (aget d1 k)
          simp [wops_cons, dops_cons, dops_if, dstOf, -st_eq, -ld_eq, -Nat.not_lt, e0, e1, e6, e7, e8, e9, hwp, hpd, hkd, hgi, hrp, hrk, hst1, hst2, hwk]
          rw [← swp_aset]
          refine ⟨m0 + 2 - (k + 1), by omega, k + 1, rfl, by omega, rfl, by omega, _, Sort.permIn_trans _ _ _ _ _ hpm (swp_permS (by omega) (by omega) (by omega) (by omega) (by omega)), by simp [hsz], ⟨r', ?_⟩, (hv2.put _).put _, (hg2.putL _).putL _⟩
          rw [if_neg (by omega), if_neg (by omega)]
          exact hx2
      · have hkm' : ¬ (k : Int) ≤ ((m0 + 1 : Nat) : Int) := by omega
        have hkm2 : ¬ (k : Int) ≤ (m0 : Int) + 1 := by omega
        simp [wops_cons, dops_cons, dops_if, dstOf, -st_eq, -ld_eq, -Nat.not_lt, e0, e1, e6, e7, e8, e9, hw3, hw3', hw4, hw5, hw7, hkm, hkm', hkm2]
        exact h σ1 d1 hpm hv1 hg1
    · refine ⟨_, m0 - 1, d, len, rfl, ?_⟩
      simp
      exact ⟨by omega, by omega, Sort.permIn_refl d a b, hn0, ⟨by rw [CSt.get_put, if_neg (by omega), CSt.get_alloc, if_neg (by omega)]; exact hv.1, by simp; omega⟩, hga⟩
  · have h8' : ¬ (8 : Int) ≤ len := by omega
    simp [wops_cons, dops_cons, dops_if, dstOf, -st_eq, -ld_eq, -Nat.not_lt, hw1, h8, h8']
    exact h σ d (Sort.permIn_refl d a b) hv (But.refl i σ)
end Go.Sm.Str
/- Sorting strings: the pivot. -/
set_option linter.unusedVariables false
set_option linter.unusedSimpArgs false
namespace Go.Sm.Str
open Go Go.Proofs Go.Sm
set_option maxRecDepth 100000
set_option maxHeartbeats 4000000
/-- But for a counter. -/
def Cnt (p : Nat) (σ σ' : CSt) : Prop := σ'.n = σ.n ∧ (∀ j, j ≠ p → σ'.get j = σ.get j) ∧ ∃ s : Int, σ'.get p = some (.cells [.int .i64 s] 3 false)
theorem Cnt.trans {p : Nat} {a b c : CSt} (h : Cnt p a b) (h' : Cnt p b c) : Cnt p a c := ⟨by rw [h'.1, h.1], fun j hj => by rw [h'.2.1 j hj, h.2.1 j hj], h'.2.2⟩
theorem SV.cnt {p i : Nat} {pre post : List Value} {d : Array ByteArray} {σ σ' : CSt} (h : SV σ i pre post d) (hs : Cnt p σ σ') (hne : i ≠ p) : SV σ' i pre post d := ⟨by rw [hs.2.1 i hne]; exact h.1, by rw [hs.1]; exact h.2⟩
theorem order2_s (n0 : Nat) (d : Array ByteArray) (hn0 : d.size = n0) (i cap : Nat) (pre post : List Value) (a b p : Nat) (σ : CSt) (hv : SV σ i pre post d) (ha : a < n0) (hb : b < n0) (hip : i ≠ p) (s : Int) (hp : σ.get p = some (.cells [.int .i64 s] 3 false)) (Q : Out → CSt → Prop)
    (h : ∀ (x y : Nat) σ', (x = a ∧ y = b) ∨ (x = b ∧ y = a) → Cnt p σ σ' → Q (.ret (.tuple #[.int .i64 x, .int .i64 y]) false) σ') :
    W E1 (.fn 130 #[.slice (some ⟨i, pre.length, none⟩) n0 cap, .int .i64 a, .int .i64 b, .pointer (some ⟨p, 0, none⟩)] none) σ Q := by
  rw [W_fn (fn := Tryz.f130) Tryz.func130 rfl rfl rfl]
  have hgi := hv.1
  have hra := rowS_get (pre := pre) (post := post) (d := d) (j := a) (by omega)
  have hrb := rowS_get (pre := pre) (post := post) (d := d) (j := b) (by omega)
  simp [wops_cons, dops_cons, dops_if, dstOf, -st_eq, -ld_eq, -Nat.not_lt]
  refine W_calm (by kernel_rfl) ?_
  simp [wops_cons, dops_cons, dops_if, dstOf, -st_eq, -ld_eq, -Nat.not_lt, ha, hb, hgi, hra, hrb]
  refine less_s _ _ _ _ ?_
  cases hl : klt (aget d b) (aget d a)
  · simp [wops_cons, dops_cons, dops_if, dstOf, -st_eq, -ld_eq, -Nat.not_lt]
    exact h a b σ (.inl ⟨rfl, rfl⟩) ⟨rfl, fun _ _ => rfl, s, hp⟩
  · simp [wops_cons, dops_cons, dops_if, dstOf, -Nat.not_lt, hp]
    refine h b a _ (.inr ⟨rfl, rfl⟩) ⟨by simp, fun j hj => by simp [CSt.get_put, hj], ?_⟩
    exact ⟨_, by rw [CSt.get_put, if_pos rfl]⟩
theorem median_s (n0 : Nat) (d : Array ByteArray) (hn0 : d.size = n0) (i cap : Nat) (pre post : List Value) (a b c p : Nat) (σ : CSt) (hv : SV σ i pre post d) (ha : a < n0) (hb : b < n0) (hc : c < n0) (hip : i ≠ p) (s : Int) (hp : σ.get p = some (.cells [.int .i64 s] 3 false)) (Q : Out → CSt → Prop)
    (h : ∀ (x : Nat) σ', x = a ∨ x = b ∨ x = c → Cnt p σ σ' → Q (.ret (.int .i64 x) false) σ') :
    W E1 (.fn 116 #[.slice (some ⟨i, pre.length, none⟩) n0 cap, .int .i64 a, .int .i64 b, .int .i64 c, .pointer (some ⟨p, 0, none⟩)] none) σ Q := by
  rw [W_fn (fn := Tryz.f116) Tryz.func116 rfl rfl rfl]
  simp [wops_cons, dops_cons, dops_if, dstOf, -st_eq, -ld_eq, -Nat.not_lt]
  refine order2_s n0 d hn0 i cap pre post a b p σ hv ha hb hip s hp _ fun x y σ1 hxy h1 => ?_
  obtain ⟨s1, hs1⟩ := h1.2.2
  simp [wops_cons, dops_cons, dops_if, dstOf, -st_eq, -ld_eq, -Nat.not_lt]
  refine order2_s n0 d hn0 i cap pre post y c p σ1 (hv.cnt h1 hip) (by omega) hc hip s1 hs1 _ fun z w σ2 hzw h2 => ?_
  obtain ⟨s2, hs2⟩ := h2.2.2
  simp [wops_cons, dops_cons, dops_if, dstOf, -st_eq, -ld_eq, -Nat.not_lt]
  refine order2_s n0 d hn0 i cap pre post x z p σ2 (hv.cnt (h1.trans h2) hip) (by omega) (by omega) hip s2 hs2 _ fun u v σ3 huv h3 => ?_
  simp [wops_cons, dops_cons, dops_if, dstOf, -st_eq, -ld_eq, -Nat.not_lt]
  exact h v σ3 (by omega) ((h1.trans h2).trans h3)
theorem medadj_s (n0 : Nat) (d : Array ByteArray) (hn0 : d.size = n0) (i cap : Nat) (pre post : List Value) (a p : Nat) (σ : CSt) (hv : SV σ i pre post d) (ha0 : 0 < a) (ha : a + 1 < n0) (hbig : n0 < 2 ^ 40) (hip : i ≠ p) (s : Int) (hp : σ.get p = some (.cells [.int .i64 s] 3 false)) (Q : Out → CSt → Prop)
    (h : ∀ (x : Nat) σ', a - 1 ≤ x → x ≤ a + 1 → Cnt p σ σ' → Q (.ret (.int .i64 x) false) σ') :
    W E1 (.fn 115 #[.slice (some ⟨i, pre.length, none⟩) n0 cap, .int .i64 a, .pointer (some ⟨p, 0, none⟩)] none) σ Q := by
  rw [W_fn (fn := Tryz.f115) Tryz.func115 rfl rfl rfl]
  have hw1 := i64p a (by omega) (by omega)
  obtain ⟨a1, ha1⟩ : ∃ a1, a1 = a + 1 := ⟨_, rfl⟩
  have hw2 : IntKind.i64.wrap ((a : Int) + 1) = (a1 : Int) := by rw [i64n1 a (by omega), ha1]
  simp [wops_cons, dops_cons, dops_if, dstOf, -st_eq, -ld_eq, -Nat.not_lt, hw1, hw2]
  refine median_s n0 d hn0 i cap pre post (a - 1) a a1 p σ hv (by omega) (by omega) (by omega) hip s hp _ fun x σ1 hx h1 => ?_
  simp [wops_cons, dops_cons, dops_if, dstOf, -st_eq, -ld_eq, -Nat.not_lt]
  exact h x σ1 (by omega) (by omega) h1
theorem piv_ar {n0 a b len q x y z : Nat} (hb : b ≤ n0) (hlen : len = b - a) (hq : q = len / 4) (hx : x = a + q) (hy : y = a + q * 2) (hz : z = a + q * 3) (hab : a < b) : a ≤ x ∧ a ≤ y ∧ a ≤ z ∧ x < b ∧ y < b ∧ z < b ∧ x < n0 ∧ y < n0 ∧ z < n0 ∧ (8 ≤ len → a < x ∧ a < y ∧ a < z ∧ 0 < x ∧ 0 < y ∧ 0 < z ∧ x + 1 < b ∧ y + 1 < b ∧ z + 1 < b ∧ x + 1 < n0 ∧ y + 1 < n0 ∧ z + 1 < n0) := by omega
theorem piv_in {n0 a b x x' : Nat} (hb : b ≤ n0) (h1 : a < x) (h2 : x + 1 < b) (h3 : x - 1 ≤ x') (h4 : x' ≤ x + 1) : a ≤ x' ∧ x' < b ∧ x' < n0 := by omega
theorem piv_or {a b x y z u : Nat} (hu : u = x ∨ u = y ∨ u = z) (hx : a ≤ x ∧ x < b) (hy : a ≤ y ∧ y < b) (hz : a ≤ z ∧ z < b) : a ≤ u ∧ u < b := by omega
theorem pivot_s (n0 : Nat) (d : Array ByteArray) (hn0 : d.size = n0) (i cap : Nat) (pre post : List Value) (a b : Nat) (σ : CSt) (hv : SV σ i pre post d) (hb : b ≤ n0) (hbig : n0 < 2 ^ 40) (hab : a < b) (Q : Out → CSt → Prop)
    (h : ∀ (x : Nat) (hint : Int) σ', a ≤ x → x < b → (hint = 0 ∨ hint = 1 ∨ hint = 2) → SV σ' i pre post d → But i σ σ' → Q (.ret (.tuple #[.int .i64 x, .int .i64 hint]) false) σ') :
    W E1 (.fn 83 #[.slice (some ⟨i, pre.length, none⟩) n0 cap, .int .i64 a, .int .i64 b] none) σ Q := by
  rw [W_fn (fn := Tryz.f83) Tryz.func83 rfl rfl rfl]
  obtain ⟨len, hlen⟩ : ∃ len, len = b - a := ⟨_, rfl⟩
  have hw1 : IntKind.i64.wrap ((b : Int) - a) = (len : Int) := by rw [IntWalk.i64_in _ (by omega)]; omega
  obtain ⟨q, hq⟩ : ∃ q, q = len / 4 := ⟨_, rfl⟩
  have hw3 : IntKind.i64.wrap ((len : Int).tdiv 4) = (q : Int) := by rw [IntWalk.i64_quo _ _ (by omega)]; omega
  have hw3' : IntKind.i64.wrap ((len : Int) / 4) = (q : Int) := by rw [IntWalk.i64_in _ (by omega)]; omega
  obtain ⟨x, hx⟩ : ∃ x, x = a + q := ⟨_, rfl⟩
  obtain ⟨y, hy⟩ : ∃ y, y = a + q * 2 := ⟨_, rfl⟩
  obtain ⟨z, hz⟩ : ∃ z, z = a + q * 3 := ⟨_, rfl⟩
  have hm1 : IntKind.i64.wrap (q : Int) = (q : Int) := IntWalk.i64_in _ (by omega)
  have hm1' : IntKind.i64.wrap ((q : Int) * 1) = (q : Int) := by rw [IntWalk.i64_in _ (by omega)]; omega
  have hm2 : IntKind.i64.wrap ((q : Int) * 2) = (q : Int) * 2 := IntWalk.i64_in _ (by omega)
  have hm3 : IntKind.i64.wrap ((q : Int) * 3) = (q : Int) * 3 := IntWalk.i64_in _ (by omega)
  have hwx : IntKind.i64.wrap ((a : Int) + q) = (x : Int) := by rw [IntWalk.i64_in _ (by omega)]; omega
  have hwy : IntKind.i64.wrap ((a : Int) + (q : Int) * 2) = (y : Int) := by rw [IntWalk.i64_in _ (by omega)]; omega
  have hwz : IntKind.i64.wrap ((a : Int) + (q : Int) * 3) = (z : Int) := by rw [IntWalk.i64_in _ (by omega)]; omega
  obtain ⟨ax, ay, az, xb, yb, zb, xn, yn, zn, hA⟩ := piv_ar hb hlen hq hx hy hz hab
  have hin := hv.2
  have hip : i ≠ σ.n := Nat.ne_of_lt hin
  have hga : But i σ (σ.alloc (.cells [.int .i64 0] 3 false)) := (But.refl i σ).alloc _
  have hva : SV (σ.alloc (.cells [.int .i64 0] 3 false)) i pre post d := ⟨by rw [CSt.get_alloc, if_neg hip]; exact hv.1, by simp; omega⟩
  have hpa : (σ.alloc (.cells [.int .i64 0] 3 false)).get σ.n = some (.cells [.int .i64 0] 3 false) := by simp
  have hsw : ∀ {s : CSt}, Cnt σ.n (σ.alloc (.cells [.int .i64 0] 3 false)) s → But i σ s := fun hs => ⟨by rw [hs.1]; exact hga.1, fun j hj hne => by rw [hs.2.1 j (by omega)]; exact hga.2 j hj hne⟩
  have hend : ∀ (u : Nat) (s1 : CSt) (s : Int), a ≤ u → u < b → Cnt σ.n (σ.alloc (.cells [.int .i64 0] 3 false)) s1 → (s = 0 ∨ s = 1 ∨ s = 2) → Q (.ret (.tuple #[.int .i64 u, .int .i64 s]) false) s1 := fun u s1 s h1 h2 h3 h4 => h u s s1 h1 h2 h4 (hva.cnt h3 hip) (hsw h3)
  by_cases h8 : 8 ≤ len
  · have h8' : (8 : Int) ≤ len := by omega
    obtain ⟨lax, lay, laz, x0, y0, z0, x1b, y1b, z1b, x1n, y1n, z1n⟩ := hA h8
    by_cases h50 : 50 ≤ len
    · have h50' : (50 : Int) ≤ len := by omega
      simp [wops_cons, dops_cons, dops_if, dstOf, -st_eq, -ld_eq, -Nat.not_lt, hw1, hw3, hw3', hm1, hm1', hm2, hm3, hwx, hwy, hwz, h8, h8', h50, h50']
      refine medadj_s n0 d hn0 i cap pre post x σ.n _ hva x0 x1n hbig hip 0 hpa _ fun x' σ1 hx1 hx2 h1 => ?_
      obtain ⟨s1, hs1⟩ := h1.2.2
      simp [wops_cons, dops_cons, dops_if, dstOf, -st_eq, -ld_eq, -Nat.not_lt]
      refine medadj_s n0 d hn0 i cap pre post y σ.n _ (hva.cnt h1 hip) y0 y1n hbig hip s1 hs1 _ fun y' σ2 hy1 hy2 h2 => ?_
      obtain ⟨s2, hs2⟩ := h2.2.2
      have h12 := h1.trans h2
      simp [wops_cons, dops_cons, dops_if, dstOf, -st_eq, -ld_eq, -Nat.not_lt]
      refine medadj_s n0 d hn0 i cap pre post z σ.n _ (hva.cnt h12 hip) z0 z1n hbig hip s2 hs2 _ fun z' σ3 hz1 hz2 h3 => ?_
      obtain ⟨s3, hs3⟩ := h3.2.2
      have h13 := h12.trans h3
      simp [wops_cons, dops_cons, dops_if, dstOf, -st_eq, -ld_eq, -Nat.not_lt]
      obtain ⟨k1, k2, k3⟩ := piv_in hb lax x1b hx1 hx2
      obtain ⟨k4, k5, k6⟩ := piv_in hb lay y1b hy1 hy2
      obtain ⟨k7, k8, k9⟩ := piv_in hb laz z1b hz1 hz2
      have hpb := fun u hu => piv_or (u := u) hu ⟨k1, k2⟩ ⟨k4, k5⟩ ⟨k7, k8⟩
      refine median_s n0 d hn0 i cap pre post x' y' z' σ.n _ (hva.cnt h13 hip) k3 k6 k9 hip s3 hs3 _ fun u σ4 hu h4 => ?_
      obtain ⟨s4, hs4⟩ := ((h13.trans h4)).2.2
      replace hpb := hpb u hu
      by_cases h0 : s4 = 0
      · simp [wops_cons, dops_cons, dops_if, dstOf, -Nat.not_lt, hs4, h0]
        exact hend u σ4 1 hpb.1 hpb.2 (h13.trans h4) (.inr (.inl rfl))
      · by_cases h12' : s4 = 12
        · simp [wops_cons, dops_cons, dops_if, dstOf, -Nat.not_lt, hs4, h0, h12']
          exact hend u σ4 2 hpb.1 hpb.2 (h13.trans h4) (.inr (.inr rfl))
        · simp [wops_cons, dops_cons, dops_if, dstOf, -Nat.not_lt, hs4, h0, h12']
          exact hend u σ4 0 hpb.1 hpb.2 (h13.trans h4) (.inl rfl)
    · have h50' : ¬ (50 : Int) ≤ len := by omega
      simp [wops_cons, dops_cons, dops_if, dstOf, -st_eq, -ld_eq, -Nat.not_lt, hw1, hw3, hw3', hm1, hm1', hm2, hm3, hwx, hwy, hwz, h8, h8', h50, h50']
      have hpb := fun u hu => piv_or (u := u) hu ⟨ax, xb⟩ ⟨ay, yb⟩ ⟨az, zb⟩
      refine median_s n0 d hn0 i cap pre post x y z σ.n _ hva xn yn zn hip 0 hpa _ fun u σ4 hu h4 => ?_
      obtain ⟨s4, hs4⟩ := (h4).2.2
      replace hpb := hpb u hu
      by_cases h0 : s4 = 0
      · simp [wops_cons, dops_cons, dops_if, dstOf, -Nat.not_lt, hs4, h0]
        exact hend u σ4 1 hpb.1 hpb.2 h4 (.inr (.inl rfl))
      · by_cases h12' : s4 = 12
        · simp [wops_cons, dops_cons, dops_if, dstOf, -Nat.not_lt, hs4, h0, h12']
          exact hend u σ4 2 hpb.1 hpb.2 h4 (.inr (.inr rfl))
        · simp [wops_cons, dops_cons, dops_if, dstOf, -Nat.not_lt, hs4, h0, h12']
          exact hend u σ4 0 hpb.1 hpb.2 h4 (.inl rfl)
  · have h8' : ¬ (8 : Int) ≤ len := by omega
    simp [wops_cons, dops_cons, dops_if, dstOf, -st_eq, -ld_eq, -Nat.not_lt, hw1, hw3, hw3', hm1, hm1', hm2, hm3, hwx, hwy, hwz, h8, h8']
    exact hend y _ 1 ay yb ⟨rfl, fun _ _ => rfl, 0, hpa⟩ (.inr (.inl rfl))
end Go.Sm.Str
/- Sorting strings: partial insertion sort. -/
set_option linter.unusedVariables false
set_option linter.unusedSimpArgs false
namespace Go.Sm.Str
open Go Go.Proofs Go.Sm
set_option maxRecDepth 100000
set_option maxHeartbeats 4000000
section
variable {lt : ByteArray → ByteArray → Bool}
theorem shiftDown_size : ∀ (j : Nat) (d : Array ByteArray), (Sort.shiftDown lt j d).size = d.size
  | 0, d => rfl
  | j + 1, d => by
    rw [Sort.shiftDown]
    split
    · rfl
    · rw [shiftDown_size j]; simp
theorem shiftUp_size (b j : Nat) (d : Array ByteArray) : (Sort.shiftUp lt b j d).size = d.size := by
  fun_induction Sort.shiftUp lt b j d <;> simp_all
theorem scanSorted_rng (d : Array ByteArray) (b i : Nat) : i ≤ b → i ≤ Sort.scanSorted lt d b i ∧ Sort.scanSorted lt d b i ≤ b := by
  fun_induction Sort.scanSorted lt d b i with
  | case1 i h ih => intro h1; simp at h; have := ih (by omega); omega
  | case2 i h => intro h1; omega
end
theorem pins_ar {a b n0 k s2 : Nat} (h1 : a + 1 ≤ k) (h2 : k < b) (h3 : b ≤ n0) : 0 < k ∧ k < n0 ∧ k - 1 < n0 ∧ k ≤ n0 := by omega
theorem partIns_s (n0 : Nat) (d : Array ByteArray) (hn0 : d.size = n0) (i cap : Nat) (pre post : List Value) (a b : Nat) (σ : CSt) (hv : SV σ i pre post d) (hb : b ≤ n0) (hbig : n0 < 2 ^ 40) (hab : a < b) (Q : Out → CSt → Prop)
    (h : ∀ σ', SV σ' i pre post (Sort.partialInsertionSort klt d a b).1 → But i σ σ' → Q (.ret (.bool (Sort.partialInsertionSort klt d a b).2) false) σ') :
    W E1 (.fn 85 #[.slice (some ⟨i, pre.length, none⟩) n0 cap, .int .i64 a, .int .i64 b] none) σ Q := by
  rw [W_fn (fn := Tryz.f85) Tryz.func85 rfl rfl rfl]
  unfold Sort.partialInsertionSort at h
  have hwa := i64n1 a (by omega)
  simp [wops_cons, dops_cons, dops_if, dstOf, -st_eq, -ld_eq, -Nat.not_lt, hwa]
  refine W_loop_inv (fun n A σ' => ∃ tm k s d', A = ⟨tm, 133, [], false⟩ ∧ tm.get 0 = some (.slice (some ⟨i, pre.length, none⟩) n0 cap) ∧ tm.get 1 = some (.int .i64 a) ∧ tm.get 2 = some (.int .i64 b) ∧ tm.get 6 = some (.bool false) ∧ tm.get 7 = some (.int .i64 (k : Nat)) ∧ tm.get 8 = some (.int .i64 (s : Nat)) ∧ a + 1 ≤ k ∧ k ≤ b ∧ s ≤ 5 ∧ n = 5 - s ∧ d'.size = n0 ∧ Sort.partialIns klt a b (5 - s) k d' = Sort.partialIns klt a b 5 (a + 1) d ∧ SV σ' i pre post d' ∧ But i σ σ') ?_ 5 _ _ ?_
  · rintro n A σ1 ⟨tm, k, s, d1, rfl, e0, e1, e2, e6, e7, e8, hak, hkb, hs5, hn, hsz, hfin, hv1, hg1⟩
    by_cases hs : s < 5
    · have hs' : (s : Int) < 5 := by omega
      obtain ⟨s', hs'5⟩ : ∃ s', 5 - s = s' + 1 := ⟨4 - s, by omega⟩
      rw [hs'5, Sort.partialIns] at hfin
      have hsc := scanSorted_rng (lt := klt) d1 b k hkb
      simp [wops_cons, dops_cons, dops_if, dstOf, -st_eq, -ld_eq, -Nat.not_lt, e0, e1, e2, e6, e7, e8, hs, hs']
      refine W_loop_J (fun n' A σ' => ∃ tm k', A = ⟨tm, 133, [], false⟩ ∧ tm.get 0 = some (.slice (some ⟨i, pre.length, none⟩) n0 cap) ∧ tm.get 1 = some (.int .i64 a) ∧ tm.get 2 = some (.int .i64 b) ∧ tm.get 6 = some (.bool false) ∧ tm.get 7 = some (.int .i64 (k' : Nat)) ∧ tm.get 8 = some (.int .i64 (s : Nat)) ∧ a + 1 ≤ k' ∧ k' ≤ b ∧ n' = b - k' ∧ Sort.scanSorted klt d1 b k' = Sort.scanSorted klt d1 b k ∧ σ' = σ1)
        (fun o σ' => ∃ tm, o = .code (.exit 2) ⟨tm, 133, [], false⟩ ∧ tm.get 0 = some (.slice (some ⟨i, pre.length, none⟩) n0 cap) ∧ tm.get 1 = some (.int .i64 a) ∧ tm.get 2 = some (.int .i64 b) ∧ tm.get 6 = some (.bool false) ∧ tm.get 7 = some (.int .i64 (Sort.scanSorted klt d1 b k : Nat)) ∧ tm.get 8 = some (.int .i64 (s : Nat)) ∧ σ' = σ1) ?_ (b - k) _ _ ?_ ?_
      · rintro n' A σ2 ⟨tm, k', rfl, e0, e1, e2, e6, e7, e8, hak', hkb', hn', hsc', rfl⟩
        have hgi := hv1.1
        by_cases hkb2 : k' < b
        · have hkb2' : (k' : Int) < b := by omega
          obtain ⟨r0, r1, r2, r3⟩ := pins_ar (s2 := 0) hak' hkb2 hb
          have hwk := i64p k' (by omega) (by omega)
          have hwk1 := i64n1 k' (by omega)
          have hr1 := rowS_get (pre := pre) (post := post) (d := d1) (j := k') (by omega)
          have hr0 := rowS_get (pre := pre) (post := post) (d := d1) (j := k' - 1) (by omega)
          simp [wops_cons, dops_cons, dops_if, dstOf, -st_eq, -ld_eq, -Nat.not_lt, e0, e1, e2, e6, e7, e8, hkb2, hkb2']
          refine W_calm (by kernel_rfl) ?_
          simp [wops_cons, dops_cons, dops_if, dstOf, -st_eq, -ld_eq, -Nat.not_lt, e0, e1, e2, e6, e7, e8, hkb2, hkb2', hwk, r1, r2, hgi, hr1, hr0]
          refine less_s _ _ _ _ ?_
          cases hl : klt (aget d1 k') (aget d1 (k' - 1))
          · simp [wops_cons, dops_cons, dops_if, dstOf, -st_eq, -ld_eq, -Nat.not_lt, e0, e1, e2, e6, e7, e8, hl, hwk1]
            refine ⟨_, ?_, k' + 1, rfl, by omega, by omega, rfl, ?_⟩
            · omega
            · rw [← hsc']
              conv => rhs; rw [Sort.scanSorted]
              unfold aget at hl
              rw [if_pos (by simp [hl, hkb2])]
          · simp [wops_cons, dops_cons, dops_if, dstOf, -st_eq, -ld_eq, -Nat.not_lt, e0, e1, e2, e6, e7, e8, hl]
            rw [← hsc', Sort.scanSorted, if_neg]
            unfold aget at hl
            simp [hl]
        · have hkb2' : ¬ (k' : Int) < b := by omega
          simp [wops_cons, dops_cons, dops_if, dstOf, -st_eq, -ld_eq, -Nat.not_lt, e0, e1, e2, e6, e7, e8, hkb2, hkb2']
          refine W_calm (by kernel_rfl) ?_
          simp [wops_cons, dops_cons, dops_if, dstOf, -st_eq, -ld_eq, -Nat.not_lt, e0, e1, e2, e6, e7, e8, hkb2, hkb2']
          rw [← hsc', Sort.scanSorted, if_neg]
          simp [hkb2]
      · refine ⟨_, k, rfl, ?_⟩
        simp [e0, e1, e2, e6, e7, e8]
        exact ⟨hak, hkb⟩
      · rintro o σ2 ⟨tm, rfl, e0, e1, e2, e6, e7, e8, rfl⟩
        generalize hsk : Sort.scanSorted klt d1 b k = m at hsc hfin e7
        obtain ⟨hm0, hm1⟩ := hsc
        by_cases hmb : m = b
        · rw [if_pos hmb] at hfin
          rw [← hfin] at h
          simp only at h
          simp [wops_cons, dops_cons, dops_if, dstOf, -st_eq, -ld_eq, -Nat.not_lt, e0, e1, e2, e6, e7, e8, hmb]
          exact h σ2 hv1 hg1
        · have hmb' : ¬ (m : Int) = b := by omega
          have hmb2 : m < b := by omega
          rw [if_neg hmb] at hfin
          have hwba : IntKind.i64.wrap ((b : Int) - a) = ((b - a : Nat) : Int) := by rw [IntWalk.i64_in _ (by omega)]; omega
          by_cases h50 : b - a < 50
          · rw [if_pos h50] at hfin
            rw [← hfin] at h
            simp only at h
            have h50' : ((b - a : Nat) : Int) < 50 := by omega
            simp [wops_cons, dops_cons, dops_if, dstOf, -st_eq, -ld_eq, -Nat.not_lt, e0, e1, e2, e6, e7, e8, hmb, hmb', hwba, h50']
            exact h σ2 hv1 hg1
          · rw [if_neg h50] at hfin
            have h50' : ¬ ((b - a : Nat) : Int) < 50 := by omega
            obtain ⟨r0, r1, r2, r3⟩ := pins_ar (s2 := 0) (show a + 1 ≤ m by omega) hmb2 hb
            have hwm := i64p m (by omega) (by omega)
            have hwm1 := i64n1 m (by omega)
            have hws := i64n1 s (by omega)
            have hwma : IntKind.i64.wrap ((m : Int) - a) = ((m - a : Nat) : Int) := by rw [IntWalk.i64_in _ (by omega)]; omega
            have hwbm : IntKind.i64.wrap ((b : Int) - m) = ((b - m : Nat) : Int) := by rw [IntWalk.i64_in _ (by omega)]; omega
            have hgi := hv1.1
            have hr1 := rowS_get (pre := pre) (post := post) (d := d1) (j := m) (by omega)
            have hr0 := rowS_get (pre := pre) (post := post) (d := d1) (j := m - 1) (by omega)
            have hst1 := rowS_st (pre := pre) (post := post) (d := d1) (j := m) (by first | omega | (simp; omega)) (aget d1 (m - 1))
            have hst2 := rowS_st (pre := pre) (post := post) (d := aset d1 m (aget d1 (m - 1))) (j := (m - 1)) (by first | omega | (simp; omega)) (aget d1 m)
            simp [wops_cons, dops_cons, dops_if, dstOf, -st_eq, -ld_eq, -Nat.not_lt, e0, e1, e2, e6, e7, e8, hmb, hmb', hwba, h50']
            refine W_calm (by kernel_rfl) ?_
            simp [wops_cons, dops_cons, dops_if, dstOf, -st_eq, -ld_eq, -Nat.not_lt, e0, e1, e2, e6, e7, e8, hwm, r1, r2, hgi, hr1, hr0, hst1, hst2, hwma]
            rw [← swp_aset]
            have hv3 : SV ((σ2.put i (.cells (rowD encS pre post (aset d1 m (aget d1 (m - 1)))) 9 false)).put i (.cells (rowD encS pre post (Sort.swp d1 m (m - 1))) 9 false)) i pre post (Sort.swp d1 m (m - 1)) := (hv1.put _).put _
            have hg3 : But i σ ((σ2.put i (.cells (rowD encS pre post (aset d1 m (aget d1 (m - 1)))) 9 false)).put i (.cells (rowD encS pre post (Sort.swp d1 m (m - 1))) 9 false)) := (hg1.putL _).putL _
            generalize ((σ2.put i (.cells (rowD encS pre post (aset d1 m (aget d1 (m - 1)))) 9 false)).put i (.cells (rowD encS pre post (Sort.swp d1 m (m - 1))) 9 false)) = σ3 at hv3 hg3 ⊢
            have hsz3 : (Sort.swp d1 m (m - 1)).size = n0 := by simp [hsz]
            generalize Sort.swp d1 m (m - 1) = d3 at hv3 hsz3 hfin
            simp only [ge_iff_le] at hfin
            by_cases hma : 2 ≤ m - a
            · have hma' : (2 : Int) ≤ ((m - a : Nat) : Int) := by omega
              rw [if_pos hma] at hfin
              simp [wops_cons, dops_cons, dops_if, dstOf, -st_eq, -ld_eq, -Nat.not_lt, e0, e1, e2, e6, e7, e8, hma, hma', hwm]
              refine W_loop_J (fun n' A σ' => ∃ tm j d', A = ⟨tm, 133, [], false⟩ ∧ tm.get 0 = some (.slice (some ⟨i, pre.length, none⟩) n0 cap) ∧ tm.get 1 = some (.int .i64 a) ∧ tm.get 2 = some (.int .i64 b) ∧ tm.get 6 = some (.bool false) ∧ tm.get 7 = some (.int .i64 (m : Nat)) ∧ tm.get 8 = some (.int .i64 (s : Nat)) ∧ tm.get 9 = some (.int .i64 (j : Nat)) ∧ j ≤ m - 1 ∧ n' = j ∧ d'.size = n0 ∧ Sort.shiftDown klt j d' = Sort.shiftDown klt (m - 1) d3 ∧ SV σ' i pre post d' ∧ But i σ σ')
                (fun o σ' => ∃ tm, o = .code (.exit 4) ⟨tm, 133, [], false⟩ ∧ tm.get 0 = some (.slice (some ⟨i, pre.length, none⟩) n0 cap) ∧ tm.get 1 = some (.int .i64 a) ∧ tm.get 2 = some (.int .i64 b) ∧ tm.get 6 = some (.bool false) ∧ tm.get 7 = some (.int .i64 (m : Nat)) ∧ tm.get 8 = some (.int .i64 (s : Nat)) ∧ SV σ' i pre post (Sort.shiftDown klt (m - 1) d3) ∧ But i σ σ') ?_ (m - 1) _ _ ?_ ?_
              · rintro n' A σ4 ⟨tm, j, d4, rfl, e0, e1, e2, e6, e7, e8, e9, hj, hn', hsz4, hfin4, hv4, hg4⟩
                cases j with
                | zero =>
                  rw [Sort.shiftDown] at hfin4
                  rw [hfin4] at hv4
                  simp [wops_cons, dops_cons, dops_if, dstOf, -st_eq, -ld_eq, -Nat.not_lt, e0, e1, e2, e6, e7, e8, e9]
                  exact ⟨hv4, hg4⟩
                | succ j =>
                  have hj1 : j + 1 < n0 := by omega
                  have hj0 : j < n0 := by omega
                  have hwj := i64n j (by omega)
                  have hi1 : (j : Int) + 1 < n0 := by omega
                  have hi0 : (0 : Int) ≤ (j : Int) + 1 := by omega
                  have hi2 : (1 : Int) ≤ (j : Int) + 1 := by omega
                  have hgi := hv4.1
                  have hr1 := rowS_get (pre := pre) (post := post) (d := d4) (j := j + 1) (by omega)
                  have hr0 := rowS_get (pre := pre) (post := post) (d := d4) (j := j) (by omega)
                  have hst1 := rowS_st (pre := pre) (post := post) (d := d4) (j := (j + 1)) (by first | omega | (simp; omega)) (aget d4 j)
                  have hst2 := rowS_st (pre := pre) (post := post) (d := aset d4 (j + 1) (aget d4 j)) (j := j) (by first | omega | (simp; omega)) (aget d4 (j + 1))
                  simp [wops_cons, dops_cons, dops_if, dstOf, -st_eq, -ld_eq, -Nat.not_lt, e0, e1, e2, e6, e7, e8, e9, hi2]
                  refine W_calm (by kernel_rfl) ?_
                  simp [wops_cons, dops_cons, dops_if, dstOf, -st_eq, -ld_eq, -Nat.not_lt, e0, e1, e2, e6, e7, e8, e9, hj1, hj0, hwj, hi1, hi0, hgi, hr1, hr0]
                  refine less_s _ _ _ _ ?_
                  rw [Sort.shiftDown] at hfin4
                  cases hl : klt (aget d4 (j + 1)) (aget d4 j)
                  · unfold aget at hl
                    rw [if_pos (by simp [hl])] at hfin4
                    rw [hfin4] at hv4
                    simp [wops_cons, dops_cons, dops_if, dstOf, -st_eq, -ld_eq, -Nat.not_lt, e0, e1, e2, e6, e7, e8, e9]
                    exact ⟨hv4, hg4⟩
                  · have hl2 := hl
                    unfold aget at hl2
                    rw [if_neg (by simp [hl2])] at hfin4
                    simp [wops_cons, dops_cons, dops_if, dstOf, -st_eq, -ld_eq, -Nat.not_lt, e0, e1, e2, e6, e7, e8, e9, hl]
                    refine W_calm (by kernel_rfl) ?_
                    simp [wops_cons, dops_cons, dops_if, dstOf, -st_eq, -ld_eq, -Nat.not_lt, e0, e1, e2, e6, e7, e8, e9, hj1, hj0, hwj, hi1, hi0, hgi, hr1, hr0, hst1, hst2]
                    rw [← swp_aset]
                    exact ⟨j, by omega, j, rfl, by omega, rfl, _, by simp [hsz4], hfin4, (hv4.put _).put _, (hg4.putL _).putL _⟩
              · refine ⟨_, m - 1, d3, rfl, ?_⟩
                simp [e0, e1, e2, e6, e7, e8]
                exact ⟨hsz3, hv3, hg3⟩
              · rintro o σ4 ⟨tm, rfl, e0, e1, e2, e6, e7, e8, hv4, hg4⟩
                have hsz4 : (Sort.shiftDown klt (m - 1) d3).size = n0 := by rw [shiftDown_size]; exact hsz3
                generalize Sort.shiftDown klt (m - 1) d3 = d4 at hv4 hsz4 hfin
                by_cases hbm : 2 ≤ b - m
                · have hbm' : (2 : Int) ≤ ((b - m : Nat) : Int) := by omega
                  rw [if_pos hbm] at hfin
                  simp [wops_cons, dops_cons, dops_if, dstOf, -st_eq, -ld_eq, -Nat.not_lt, e0, e1, e2, e6, e7, e8, hwbm, hbm, hbm', hwm1]
                  refine W_loop_J (fun n' A σ' => ∃ tm j d', A = ⟨tm, 133, [], false⟩ ∧ tm.get 0 = some (.slice (some ⟨i, pre.length, none⟩) n0 cap) ∧ tm.get 1 = some (.int .i64 a) ∧ tm.get 2 = some (.int .i64 b) ∧ tm.get 6 = some (.bool false) ∧ tm.get 7 = some (.int .i64 (m : Nat)) ∧ tm.get 8 = some (.int .i64 (s : Nat)) ∧ tm.get 10 = some (.int .i64 (j : Nat)) ∧ m + 1 ≤ j ∧ j ≤ b ∧ n' = b - j ∧ d'.size = n0 ∧ Sort.shiftUp klt b j d' = Sort.shiftUp klt b (m + 1) d4 ∧ SV σ' i pre post d' ∧ But i σ σ')
                    (fun o σ' => ∃ tm, o = .code (.exit 6) ⟨tm, 133, [], false⟩ ∧ tm.get 0 = some (.slice (some ⟨i, pre.length, none⟩) n0 cap) ∧ tm.get 1 = some (.int .i64 a) ∧ tm.get 2 = some (.int .i64 b) ∧ tm.get 6 = some (.bool false) ∧ tm.get 7 = some (.int .i64 (m : Nat)) ∧ tm.get 8 = some (.int .i64 (s : Nat)) ∧ SV σ' i pre post (Sort.shiftUp klt b (m + 1) d4) ∧ But i σ σ') ?_ (b - (m + 1)) _ _ ?_ ?_
                  · rintro n' A σ5 ⟨tm, j, d5, rfl, e0, e1, e2, e6, e7, e8, e10, hj, hjb, hn', hsz5, hfin5, hv5, hg5⟩
                    by_cases hjlt : j < b
                    · have hjlt' : (j : Int) < b := by omega
                      have hj1 : j < n0 := by omega
                      have hj0 : j - 1 < n0 := by omega
                      have hwj := i64p j (by omega) (by omega)
                      have hwj1 := i64n1 j (by omega)
                      have hgi := hv5.1
                      have hr1 := rowS_get (pre := pre) (post := post) (d := d5) (j := j) (by omega)
                      have hr0 := rowS_get (pre := pre) (post := post) (d := d5) (j := j - 1) (by omega)
                      have hst1 := rowS_st (pre := pre) (post := post) (d := d5) (j := j) (by first | omega | (simp; omega)) (aget d5 (j - 1))
                      have hst2 := rowS_st (pre := pre) (post := post) (d := aset d5 j (aget d5 (j - 1))) (j := (j - 1)) (by first | omega | (simp; omega)) (aget d5 j)
                      simp [wops_cons, dops_cons, dops_if, dstOf, -st_eq, -ld_eq, -Nat.not_lt, e0, e1, e2, e6, e7, e8, e10, hjlt, hjlt']
                      refine W_calm (by kernel_rfl) ?_
                      simp [wops_cons, dops_cons, dops_if, dstOf, -st_eq, -ld_eq, -Nat.not_lt, e0, e1, e2, e6, e7, e8, e10, hj1, hj0, hwj, hgi, hr1, hr0]
                      refine less_s _ _ _ _ ?_
                      rw [Sort.shiftUp, if_pos hjlt] at hfin5
                      cases hl : klt (aget d5 j) (aget d5 (j - 1))
                      · unfold aget at hl
                        rw [if_pos (by simp [hl])] at hfin5
                        rw [hfin5] at hv5
                        simp [wops_cons, dops_cons, dops_if, dstOf, -st_eq, -ld_eq, -Nat.not_lt, e0, e1, e2, e6, e7, e8, e10]
                        exact ⟨hv5, hg5⟩
                      · have hl2 := hl
                        unfold aget at hl2
                        rw [if_neg (by simp [hl2])] at hfin5
                        simp [wops_cons, dops_cons, dops_if, dstOf, -st_eq, -ld_eq, -Nat.not_lt, e0, e1, e2, e6, e7, e8, e10, hl]
                        refine W_calm (by kernel_rfl) ?_
                        simp [wops_cons, dops_cons, dops_if, dstOf, -st_eq, -ld_eq, -Nat.not_lt, e0, e1, e2, e6, e7, e8, e10, hj1, hj0, hwj, hwj1, hgi, hr1, hr0, hst1, hst2]
                        rw [← swp_aset]
                        exact ⟨b - (j + 1), by omega, j + 1, rfl, by omega, by omega, rfl, _, by simp [hsz5], hfin5, (hv5.put _).put _, (hg5.putL _).putL _⟩
                    · have hjlt' : ¬ (j : Int) < b := by omega
                      rw [Sort.shiftUp, if_neg hjlt] at hfin5
                      rw [hfin5] at hv5
                      simp [wops_cons, dops_cons, dops_if, dstOf, -st_eq, -ld_eq, -Nat.not_lt, e0, e1, e2, e6, e7, e8, e10, hjlt, hjlt']
                      exact ⟨hv5, hg5⟩
                  · refine ⟨_, m + 1, d4, rfl, ?_⟩
                    simp [e0, e1, e2, e6, e7, e8]
                    exact ⟨by omega, hsz4, hv4, hg4⟩
                  · rintro o σ5 ⟨tm, rfl, e0, e1, e2, e6, e7, e8, hv5, hg5⟩
                    have hsz5 : (Sort.shiftUp klt b (m + 1) d4).size = n0 := by rw [shiftUp_size]; exact hsz4
                    simp [wops_cons, dops_cons, dops_if, dstOf, -st_eq, -ld_eq, -Nat.not_lt, e0, e1, e2, e6, e7, e8, hws]
                    exact ⟨n - 1, by omega, m, rfl, s + 1, rfl, by omega, by omega, by omega, by omega, _, hsz5, by rw [← hfin]; congr 1; omega, hv5, hg5⟩
                · have hbm' : ¬ (2 : Int) ≤ ((b - m : Nat) : Int) := by omega
                  rw [if_neg hbm] at hfin
                  simp [wops_cons, dops_cons, dops_if, dstOf, -st_eq, -ld_eq, -Nat.not_lt, e0, e1, e2, e6, e7, e8, hwbm, hbm, hbm', hws]
                  exact ⟨n - 1, by omega, m, rfl, s + 1, rfl, by omega, by omega, by omega, by omega, _, hsz4, by rw [← hfin]; congr 1; omega, hv4, hg4⟩
            · have hma' : ¬ (2 : Int) ≤ ((m - a : Nat) : Int) := by omega
              rw [if_neg hma] at hfin
              simp [wops_cons, dops_cons, dops_if, dstOf, -st_eq, -ld_eq, -Nat.not_lt, e0, e1, e2, e6, e7, e8, hma, hma']
              have hv4 := hv3
              have hg4 := hg3
              have hsz4 := hsz3
              generalize d3 = d4 at hv4 hsz4 hfin
              generalize σ3 = σ4 at hv4 hg4 ⊢
              by_cases hbm : 2 ≤ b - m
              · have hbm' : (2 : Int) ≤ ((b - m : Nat) : Int) := by omega
                rw [if_pos hbm] at hfin
                simp [wops_cons, dops_cons, dops_if, dstOf, -st_eq, -ld_eq, -Nat.not_lt, e0, e1, e2, e6, e7, e8, hwbm, hbm, hbm', hwm1]
                refine W_loop_J (fun n' A σ' => ∃ tm j d', A = ⟨tm, 133, [], false⟩ ∧ tm.get 0 = some (.slice (some ⟨i, pre.length, none⟩) n0 cap) ∧ tm.get 1 = some (.int .i64 a) ∧ tm.get 2 = some (.int .i64 b) ∧ tm.get 6 = some (.bool false) ∧ tm.get 7 = some (.int .i64 (m : Nat)) ∧ tm.get 8 = some (.int .i64 (s : Nat)) ∧ tm.get 10 = some (.int .i64 (j : Nat)) ∧ m + 1 ≤ j ∧ j ≤ b ∧ n' = b - j ∧ d'.size = n0 ∧ Sort.shiftUp klt b j d' = Sort.shiftUp klt b (m + 1) d4 ∧ SV σ' i pre post d' ∧ But i σ σ')
                  (fun o σ' => ∃ tm, o = .code (.exit 6) ⟨tm, 133, [], false⟩ ∧ tm.get 0 = some (.slice (some ⟨i, pre.length, none⟩) n0 cap) ∧ tm.get 1 = some (.int .i64 a) ∧ tm.get 2 = some (.int .i64 b) ∧ tm.get 6 = some (.bool false) ∧ tm.get 7 = some (.int .i64 (m : Nat)) ∧ tm.get 8 = some (.int .i64 (s : Nat)) ∧ SV σ' i pre post (Sort.shiftUp klt b (m + 1) d4) ∧ But i σ σ') ?_ (b - (m + 1)) _ _ ?_ ?_
                · rintro n' A σ5 ⟨tm, j, d5, rfl, e0, e1, e2, e6, e7, e8, e10, hj, hjb, hn', hsz5, hfin5, hv5, hg5⟩
                  by_cases hjlt : j < b
                  · have hjlt' : (j : Int) < b := by omega
                    have hj1 : j < n0 := by omega
                    have hj0 : j - 1 < n0 := by omega
                    have hwj := i64p j (by omega) (by omega)
                    have hwj1 := i64n1 j (by omega)
                    have hgi := hv5.1
                    have hr1 := rowS_get (pre := pre) (post := post) (d := d5) (j := j) (by omega)
                    have hr0 := rowS_get (pre := pre) (post := post) (d := d5) (j := j - 1) (by omega)
                    have hst1 := rowS_st (pre := pre) (post := post) (d := d5) (j := j) (by first | omega | (simp; omega)) (aget d5 (j - 1))
                    have hst2 := rowS_st (pre := pre) (post := post) (d := aset d5 j (aget d5 (j - 1))) (j := (j - 1)) (by first | omega | (simp; omega)) (aget d5 j)
                    simp [wops_cons, dops_cons, dops_if, dstOf, -st_eq, -ld_eq, -Nat.not_lt, e0, e1, e2, e6, e7, e8, e10, hjlt, hjlt']
                    refine W_calm (by kernel_rfl) ?_
                    simp [wops_cons, dops_cons, dops_if, dstOf, -st_eq, -ld_eq, -Nat.not_lt, e0, e1, e2, e6, e7, e8, e10, hj1, hj0, hwj, hgi, hr1, hr0]
                    refine less_s _ _ _ _ ?_
                    rw [Sort.shiftUp, if_pos hjlt] at hfin5
                    cases hl : klt (aget d5 j) (aget d5 (j - 1))
                    · unfold aget at hl
                      rw [if_pos (by simp [hl])] at hfin5
                      rw [hfin5] at hv5
                      simp [wops_cons, dops_cons, dops_if, dstOf, -st_eq, -ld_eq, -Nat.not_lt, e0, e1, e2, e6, e7, e8, e10]
                      exact ⟨hv5, hg5⟩
                    · have hl2 := hl
                      unfold aget at hl2
                      rw [if_neg (by simp [hl2])] at hfin5
                      simp [wops_cons, dops_cons, dops_if, dstOf, -st_eq, -ld_eq, -Nat.not_lt, e0, e1, e2, e6, e7, e8, e10, hl]
                      refine W_calm (by kernel_rfl) ?_
                      simp [wops_cons, dops_cons, dops_if, dstOf, -st_eq, -ld_eq, -Nat.not_lt, e0, e1, e2, e6, e7, e8, e10, hj1, hj0, hwj, hwj1, hgi, hr1, hr0, hst1, hst2]
                      rw [← swp_aset]
                      exact ⟨b - (j + 1), by omega, j + 1, rfl, by omega, by omega, rfl, _, by simp [hsz5], hfin5, (hv5.put _).put _, (hg5.putL _).putL _⟩
                  · have hjlt' : ¬ (j : Int) < b := by omega
                    rw [Sort.shiftUp, if_neg hjlt] at hfin5
                    rw [hfin5] at hv5
                    simp [wops_cons, dops_cons, dops_if, dstOf, -st_eq, -ld_eq, -Nat.not_lt, e0, e1, e2, e6, e7, e8, e10, hjlt, hjlt']
                    exact ⟨hv5, hg5⟩
                · refine ⟨_, m + 1, d4, rfl, ?_⟩
                  simp [e0, e1, e2, e6, e7, e8]
                  exact ⟨by omega, hsz4, hv4, hg4⟩
                · rintro o σ5 ⟨tm, rfl, e0, e1, e2, e6, e7, e8, hv5, hg5⟩
                  have hsz5 : (Sort.shiftUp klt b (m + 1) d4).size = n0 := by rw [shiftUp_size]; exact hsz4
                  simp [wops_cons, dops_cons, dops_if, dstOf, -st_eq, -ld_eq, -Nat.not_lt, e0, e1, e2, e6, e7, e8, hws]
                  exact ⟨n - 1, by omega, m, rfl, s + 1, rfl, by omega, by omega, by omega, by omega, _, hsz5, by rw [← hfin]; congr 1; omega, hv5, hg5⟩
              · have hbm' : ¬ (2 : Int) ≤ ((b - m : Nat) : Int) := by omega
                rw [if_neg hbm] at hfin
                simp [wops_cons, dops_cons, dops_if, dstOf, -st_eq, -ld_eq, -Nat.not_lt, e0, e1, e2, e6, e7, e8, hwbm, hbm, hbm', hws]
                exact ⟨n - 1, by omega, m, rfl, s + 1, rfl, by omega, by omega, by omega, by omega, _, hsz4, by rw [← hfin]; congr 1; omega, hv4, hg4⟩
    · have hs' : ¬ (s : Int) < 5 := by omega
      have hs0 : 5 - s = 0 := by omega
      rw [hs0, Sort.partialIns] at hfin
      rw [← hfin] at h
      simp only at h
      simp [wops_cons, dops_cons, dops_if, dstOf, -st_eq, -ld_eq, -Nat.not_lt, e0, e1, e2, e6, e7, e8, hs, hs']
      exact h σ1 hv1 hg1
  · refine ⟨_, a + 1, 0, d, rfl, ?_⟩
    simp
    exact ⟨by omega, hn0, hv, But.refl i σ⟩
end Go.Sm.Str
/- Sorting strings: the partitions. -/
set_option linter.unusedVariables false
set_option linter.unusedSimpArgs false
namespace Go.Sm.Str
open Go Go.Proofs Go.Sm
set_option maxRecDepth 100000
set_option maxHeartbeats 4000000
theorem guard_ar {i j i2 j2 : Nat} (h1 : i ≤ i2) (h2 : j2 ≤ j) (h : ¬ j2 < i2) : (j2 - 1) + 1 - (i2 + 1) < j + 1 - i := by omega
theorem part_s (n0 : Nat) (d : Array ByteArray) (hn0 : d.size = n0) (i cap : Nat) (pre post : List Value) (a b pv : Nat) (σ : CSt) (hv : SV σ i pre post d) (hb : b ≤ n0) (hbig : n0 < 2 ^ 40) (hab : a < b) (hpv : pv < b) (Q : Out → CSt → Prop)
    (h : ∀ σ', SV σ' i pre post (Sort.partition klt d a b pv).2.2 → But i σ σ' → Q (.ret (.tuple #[.int .i64 (Sort.partition klt d a b pv).1, .bool (Sort.partition klt d a b pv).2.1]) false) σ') :
    W E1 (.fn 88 #[.slice (some ⟨i, pre.length, none⟩) n0 cap, .int .i64 a, .int .i64 b, .int .i64 pv] none) σ Q := by
  rw [W_fn (fn := Tryz.f88) Tryz.func88 rfl rfl rfl]
  have had : a < n0 := by omega
  have hpd : pv < n0 := by omega
  have hwb := i64p b (by omega) (by omega)
  obtain ⟨a1, ha1⟩ : ∃ a1, a1 = a + 1 := ⟨_, rfl⟩
  have hwa : IntKind.i64.wrap ((a : Int) + 1) = (a1 : Int) := by rw [i64n1 a (by omega), ha1]
  obtain ⟨b1, hb1⟩ : ∃ b1, b1 = b - 1 := ⟨_, rfl⟩
  rw [← hb1] at hwb
  have hb1n : b1 < n0 := by omega
  have h1a : 1 ≤ a1 := by omega
  have hgi := hv.1
  have hra := rowS_get (pre := pre) (post := post) (d := d) (j := a) (by omega)
  have hrp := rowS_get (pre := pre) (post := post) (d := d) (j := pv) (by omega)
  have hst1 := rowS_st (pre := pre) (post := post) (d := d) (j := a) (by first | omega | (simp; omega)) (aget d pv)
  have hst2 := rowS_st (pre := pre) (post := post) (d := aset d a (aget d pv)) (j := pv) (by first | omega | (simp; omega)) (aget d a)
  unfold Sort.partition at h
  rw [← ha1, ← hb1] at h
  simp [wops_cons, dops_cons, dops_if, dstOf, -st_eq, -ld_eq, -Nat.not_lt]
  refine W_calm (by kernel_rfl) ?_
  simp [wops_cons, dops_cons, dops_if, dstOf, -st_eq, -ld_eq, -Nat.not_lt, had, hpd, hgi, hra, hrp, hst1, hst2, hwa, hwb]
  rw [← swp_aset]
  have hv1 : SV ((σ.put i (.cells (rowD encS pre post (aset d a (aget d pv))) 9 false)).put i (.cells (rowD encS pre post (Sort.swp d a pv)) 9 false)) i pre post (Sort.swp d a pv) := (hv.put _).put _
  have hg1 : But i σ ((σ.put i (.cells (rowD encS pre post (aset d a (aget d pv))) 9 false)).put i (.cells (rowD encS pre post (Sort.swp d a pv)) 9 false)) := (((But.refl i σ)).putL _).putL _
  have hsz1 : (Sort.swp d a pv).size = n0 := by simp [hn0]
  generalize ((σ.put i (.cells (rowD encS pre post (aset d a (aget d pv))) 9 false)).put i (.cells (rowD encS pre post (Sort.swp d a pv)) 9 false)) = σ1 at hv1 hg1 ⊢
  generalize Sort.swp d a pv = d1 at hv1 hsz1 h
  clear hst1 hst2
  have e0 := True.intro
  have e1 := True.intro
  have eI := True.intro
  have eJ := True.intro
  refine W_loop_J (fun n A s => ∃ tm k, A = ⟨tm, 168, [], false⟩ ∧ tm.get 0 = some (.slice (some ⟨i, pre.length, none⟩) n0 cap) ∧ tm.get 1 = some (.int .i64 a) ∧ tm.get 10 = some (.int .i64 (k : Nat)) ∧ tm.get 11 = some (.int .i64 (b1 : Nat)) ∧ a1 ≤ k ∧ k ≤ max a1 (b1 + 1) ∧ n = b1 + 1 - k ∧ Sort.scanUp (fun x => klt x d1[a]!) d1 b1 k = Sort.scanUp (fun x => klt x d1[a]!) d1 b1 a1 ∧ s = σ1)
    (fun o s => ∃ tm x, o = .code (.exit 0) ⟨tm, 168, [], false⟩ ∧ tm.get 0 = some (.slice (some ⟨i, pre.length, none⟩) n0 cap) ∧ tm.get 1 = some (.int .i64 a) ∧ tm.get 10 = some (.int .i64 (x : Nat)) ∧ tm.get 11 = some (.int .i64 (b1 : Nat)) ∧ x = Sort.scanUp (fun x => klt x d1[a]!) d1 b1 a1 ∧ a1 ≤ x ∧ x ≤ max a1 (b1 + 1) ∧ s = σ1) ?_ (b1 + 1 - a1) _ _ ?_ ?_
  · rintro n A s ⟨tm, k, rfl, e0, e1, eI, eJ, hk0, hk1, hn, hsc, hs⟩
    rw [hs]
    have hgi := hv1.1
    by_cases hkj : k ≤ b1
    · have hkj' : (k : Int) ≤ (b1 : Nat) := by omega
      have hkd : k < n0 := by omega
      have hwk := i64n1 k (by omega)
      have hrk := rowS_get (pre := pre) (post := post) (d := d1) (j := k) (by omega)
      have hra := rowS_get (pre := pre) (post := post) (d := d1) (j := a) (by omega)
      simp [wops_cons, dops_cons, dops_if, dstOf, -st_eq, -ld_eq, -Nat.not_lt, e0, e1, eI, eJ, hkj, hkj']
      refine W_calm (by kernel_rfl) ?_
      simp [wops_cons, dops_cons, dops_if, dstOf, -st_eq, -ld_eq, -Nat.not_lt, e0, e1, eI, eJ, hkj, hkj', hkd, had, hgi, hrk, hra]
      refine less_s _ _ _ _ ?_
      cases hl : klt (aget d1 k) (aget d1 a)
      ·
        unfold aget at hl
        have hend : k = Sort.scanUp (fun x => klt x d1[a]!) d1 b1 a1 := by rw [← hsc, Sort.scanUp, if_neg (by simp [hl])]
        simp [wops_cons, dops_cons, dops_if, dstOf, -st_eq, -ld_eq, -Nat.not_lt, e0, e1, eI, eJ]
        exact ⟨k, rfl, hend, hk0, by omega⟩
      ·
        have hl2 := hl
        unfold aget at hl2
        have hgo : Sort.scanUp (fun x => klt x d1[a]!) d1 b1 (k + 1) = Sort.scanUp (fun x => klt x d1[a]!) d1 b1 a1 := by
          rw [← hsc]
          conv => rhs; rw [Sort.scanUp]
          rw [if_pos (by simp [hl2, hkj])]
        simp [wops_cons, dops_cons, dops_if, dstOf, -st_eq, -ld_eq, -Nat.not_lt, e0, e1, eI, eJ, hl, hwk]
        exact ⟨_, by omega, k + 1, rfl, by omega, by omega, rfl, hgo⟩
    · have hkj' : ¬ (k : Int) ≤ (b1 : Nat) := by omega
      have hend : k = Sort.scanUp (fun x => klt x d1[a]!) d1 b1 a1 := by rw [← hsc, Sort.scanUp, if_neg (by simp [hkj])]
      simp [wops_cons, dops_cons, dops_if, dstOf, -st_eq, -ld_eq, -Nat.not_lt, e0, e1, eI, eJ, hkj, hkj']
      refine W_calm (by kernel_rfl) ?_
      simp [wops_cons, dops_cons, dops_if, dstOf, -st_eq, -ld_eq, -Nat.not_lt, e0, e1, eI, eJ, hkj, hkj']
      exact ⟨k, rfl, hend, hk0, by omega⟩
  · refine ⟨_, a1, rfl, ?_⟩
    simp [e0, e1, eI, eJ]
    try omega
  rintro o s ⟨tm, x, rfl, e0, e1, eI, eJ, hx, hx0, hx1, hs⟩
  rw [hs]
  simp [wops_cons, dops_cons, dops_if, dstOf, -st_eq, -ld_eq, -Nat.not_lt]
  refine W_loop_J (fun n A s => ∃ tm k, A = ⟨tm, 168, [], false⟩ ∧ tm.get 0 = some (.slice (some ⟨i, pre.length, none⟩) n0 cap) ∧ tm.get 1 = some (.int .i64 a) ∧ tm.get 10 = some (.int .i64 (x : Nat)) ∧ tm.get 11 = some (.int .i64 (k : Nat)) ∧ k ≤ b1 ∧ n = k ∧ Sort.scanDown (fun x => !klt x d1[a]!) d1 x k = Sort.scanDown (fun x => !klt x d1[a]!) d1 x b1 ∧ s = σ1)
    (fun o s => ∃ tm y, o = .code (.exit 2) ⟨tm, 168, [], false⟩ ∧ tm.get 0 = some (.slice (some ⟨i, pre.length, none⟩) n0 cap) ∧ tm.get 1 = some (.int .i64 a) ∧ tm.get 10 = some (.int .i64 (x : Nat)) ∧ tm.get 11 = some (.int .i64 (y : Nat)) ∧ y = Sort.scanDown (fun x => !klt x d1[a]!) d1 x b1 ∧ y ≤ b1 ∧ s = σ1) ?_ (b1) _ _ ?_ ?_
  · rintro n A s ⟨tm, k, rfl, e0, e1, eI, eJ, hk0, hn, hsc, hs⟩
    rw [hs]
    have hgi := hv1.1
    by_cases hkj : x ≤ k
    · obtain ⟨k2, hk2⟩ : ∃ k2, k = k2 + 1 := ⟨k - 1, by omega⟩
      have hkj' : (x : Int) ≤ (k : Nat) := by omega
      have hkd : k < n0 := by omega
      have hwk := i64p k (by omega) (by omega)
      have hrk := rowS_get (pre := pre) (post := post) (d := d1) (j := k) (by omega)
      have hra := rowS_get (pre := pre) (post := post) (d := d1) (j := a) (by omega)
      simp [wops_cons, dops_cons, dops_if, dstOf, -st_eq, -ld_eq, -Nat.not_lt, e0, e1, eI, eJ, hkj, hkj']
      refine W_calm (by kernel_rfl) ?_
      simp [wops_cons, dops_cons, dops_if, dstOf, -st_eq, -ld_eq, -Nat.not_lt, e0, e1, eI, eJ, hkj, hkj', hkd, had, hgi, hrk, hra]
      refine less_s _ _ _ _ ?_
      cases hl : klt (aget d1 k) (aget d1 a)
      ·
        have hl2 := hl
        unfold aget at hl2
        have hgo : Sort.scanDown (fun x => !klt x d1[a]!) d1 x (k - 1) = Sort.scanDown (fun x => !klt x d1[a]!) d1 x b1 := by
          rw [← hsc, hk2]
          conv => rhs; rw [Sort.scanDown]
          rw [if_pos (by rw [← hk2]; simp [hl2, hkj])]
          rfl
        simp [wops_cons, dops_cons, dops_if, dstOf, -st_eq, -ld_eq, -Nat.not_lt, e0, e1, eI, eJ, hl, hwk]
        exact ⟨_, by omega, k - 1, rfl, by omega, rfl, hgo⟩
      ·
        unfold aget at hl
        have hend : k = Sort.scanDown (fun x => !klt x d1[a]!) d1 x b1 := by rw [← hsc, hk2, Sort.scanDown, if_neg (by rw [← hk2]; simp [hl])]
        simp [wops_cons, dops_cons, dops_if, dstOf, -st_eq, -ld_eq, -Nat.not_lt, e0, e1, eI, eJ]
        exact ⟨k, rfl, hend, hk0⟩
    · have hkj' : ¬ (x : Int) ≤ (k : Nat) := by omega
      have hend : k = Sort.scanDown (fun x => !klt x d1[a]!) d1 x b1 := by
        rw [← hsc]
        cases k with
        | zero => rfl
        | succ k => rw [Sort.scanDown, if_neg (by simp; omega)]
      simp [wops_cons, dops_cons, dops_if, dstOf, -st_eq, -ld_eq, -Nat.not_lt, e0, e1, eI, eJ, hkj, hkj']
      refine W_calm (by kernel_rfl) ?_
      simp [wops_cons, dops_cons, dops_if, dstOf, -st_eq, -ld_eq, -Nat.not_lt, e0, e1, eI, eJ, hkj, hkj']
      exact ⟨k, rfl, hend, hk0⟩
  · refine ⟨_, b1, rfl, ?_⟩
    simp [e0, e1, eI, eJ]
  rintro o s ⟨tm, y, rfl, e0, e1, eI, eJ, hy, hy1, hs⟩
  rw [hs]
  simp only [gt_iff_lt] at h
  rw [← hx, ← hy] at h
  by_cases hxy : y < x
  · have hxy' : (y : Int) < x := by omega
    rw [if_pos hxy] at h
    simp only at h
    have hyd : y < n0 := by omega
    have hgi := hv1.1
    have hra := rowS_get (pre := pre) (post := post) (d := d1) (j := a) (by omega)
    have hry := rowS_get (pre := pre) (post := post) (d := d1) (j := y) (by omega)
    have hst1 := rowS_st (pre := pre) (post := post) (d := d1) (j := y) (by first | omega | (simp; omega)) (aget d1 a)
    have hst2 := rowS_st (pre := pre) (post := post) (d := aset d1 y (aget d1 a)) (j := a) (by first | omega | (simp; omega)) (aget d1 y)
    simp [wops_cons, dops_cons, dops_if, dstOf, -st_eq, -ld_eq, -Nat.not_lt, e0, e1, eI, eJ, hxy, hxy']
    refine W_calm (by kernel_rfl) ?_
    simp [wops_cons, dops_cons, dops_if, dstOf, -st_eq, -ld_eq, -Nat.not_lt, e0, e1, eI, eJ, had, hyd, hgi, hra, hry, hst1, hst2]
    rw [← swp_aset]
    exact h _ ((hv1.put _).put _) ((hg1.putL _).putL _)
  · have hxy' : ¬ (y : Int) < x := by omega
    rw [if_neg hxy] at h
    simp only at h
    have hyd : y < n0 := by omega
    have hxd : x < n0 := by omega
    have hwx := i64n1 x (by omega)
    have hwy := i64p y (by omega) (by omega)
    have hgi := hv1.1
    have hrx := rowS_get (pre := pre) (post := post) (d := d1) (j := x) (by omega)
    have hry := rowS_get (pre := pre) (post := post) (d := d1) (j := y) (by omega)
    have hst1 := rowS_st (pre := pre) (post := post) (d := d1) (j := x) (by first | omega | (simp; omega)) (aget d1 y)
    have hst2 := rowS_st (pre := pre) (post := post) (d := aset d1 x (aget d1 y)) (j := y) (by first | omega | (simp; omega)) (aget d1 x)
    simp [wops_cons, dops_cons, dops_if, dstOf, -st_eq, -ld_eq, -Nat.not_lt, e0, e1, eI, eJ, hxy, hxy']
    refine W_calm (by kernel_rfl) ?_
    simp [wops_cons, dops_cons, dops_if, dstOf, -st_eq, -ld_eq, -Nat.not_lt, e0, e1, eI, eJ, hxd, hyd, hgi, hrx, hry, hst1, hst2, hwx, hwy]
    rw [← swp_aset]
    have hv2 : SV ((σ1.put i (.cells (rowD encS pre post (aset d1 x (aget d1 y))) 9 false)).put i (.cells (rowD encS pre post (Sort.swp d1 x y)) 9 false)) i pre post (Sort.swp d1 x y) := (hv1.put _).put _
    have hg2 : But i σ ((σ1.put i (.cells (rowD encS pre post (aset d1 x (aget d1 y))) 9 false)).put i (.cells (rowD encS pre post (Sort.swp d1 x y)) 9 false)) := ((hg1).putL _).putL _
    have hsz2 : (Sort.swp d1 x y).size = n0 := by simp [hsz1]
    generalize ((σ1.put i (.cells (rowD encS pre post (aset d1 x (aget d1 y))) 9 false)).put i (.cells (rowD encS pre post (Sort.swp d1 x y)) 9 false)) = σ2 at hv2 hg2 ⊢
    generalize Sort.swp d1 x y = d2 at hv2 hsz2 h
    clear hst1 hst2
    refine W_loop_J (fun n A s => ∃ tm u v d', A = ⟨tm, 168, [], false⟩ ∧ tm.get 0 = some (.slice (some ⟨i, pre.length, none⟩) n0 cap) ∧ tm.get 1 = some (.int .i64 a) ∧ tm.get 10 = some (.int .i64 (u : Nat)) ∧ tm.get 11 = some (.int .i64 (v : Nat)) ∧ 1 ≤ u ∧ v < n0 ∧ n = v + 1 - u ∧ d'.size = n0 ∧ Sort.partLoop klt a u v d' = Sort.partLoop klt a (x + 1) (y - 1) d2 ∧ SV s i pre post d' ∧ But i σ s)
      (fun o s => ∃ tm, o = .code (.exit 4) ⟨tm, 168, [], false⟩ ∧ tm.get 0 = some (.slice (some ⟨i, pre.length, none⟩) n0 cap) ∧ tm.get 1 = some (.int .i64 a) ∧ tm.get 11 = some (.int .i64 ((Sort.partLoop klt a (x + 1) (y - 1) d2).1 : Nat)) ∧ (Sort.partLoop klt a (x + 1) (y - 1) d2).1 < n0 ∧ (Sort.partLoop klt a (x + 1) (y - 1) d2).2.size = n0 ∧ SV s i pre post (Sort.partLoop klt a (x + 1) (y - 1) d2).2 ∧ But i σ s) ?_ (y - 1 + 1 - (x + 1)) _ _ ?_ ?_
    · rintro n A σ3 ⟨tm, u, v, d3, rfl, e0, e1, eI, eJ, hu, hvn, hn, hsz3, hfin, hv3, hg3⟩
      rw [Sort.partLoop_eq] at hfin
      simp [wops_cons, dops_cons, dops_if, dstOf, -st_eq, -ld_eq, -Nat.not_lt]
      refine W_loop_J (fun n A s => ∃ tm k, A = ⟨tm, 168, [], false⟩ ∧ tm.get 0 = some (.slice (some ⟨i, pre.length, none⟩) n0 cap) ∧ tm.get 1 = some (.int .i64 a) ∧ tm.get 10 = some (.int .i64 (k : Nat)) ∧ tm.get 11 = some (.int .i64 (v : Nat)) ∧ u ≤ k ∧ k ≤ max u (v + 1) ∧ n = v + 1 - k ∧ Sort.scanUp (fun x => klt x d3[a]!) d3 v k = Sort.scanUp (fun x => klt x d3[a]!) d3 v u ∧ s = σ3)
        (fun o s => ∃ tm x, o = .code (.exit 6) ⟨tm, 168, [], false⟩ ∧ tm.get 0 = some (.slice (some ⟨i, pre.length, none⟩) n0 cap) ∧ tm.get 1 = some (.int .i64 a) ∧ tm.get 10 = some (.int .i64 (x : Nat)) ∧ tm.get 11 = some (.int .i64 (v : Nat)) ∧ x = Sort.scanUp (fun x => klt x d3[a]!) d3 v u ∧ u ≤ x ∧ x ≤ max u (v + 1) ∧ s = σ3) ?_ (v + 1 - u) _ _ ?_ ?_
      · rintro n A s ⟨tm, k, rfl, e0, e1, eI, eJ, hk0, hk1, hn, hsc, hs⟩
        rw [hs]
        have hgi := hv3.1
        by_cases hkj : k ≤ v
        · have hkj' : (k : Int) ≤ (v : Nat) := by omega
          have hkd : k < n0 := by omega
          have hwk := i64n1 k (by omega)
          have hrk := rowS_get (pre := pre) (post := post) (d := d3) (j := k) (by omega)
          have hra := rowS_get (pre := pre) (post := post) (d := d3) (j := a) (by omega)
          simp [wops_cons, dops_cons, dops_if, dstOf, -st_eq, -ld_eq, -Nat.not_lt, e0, e1, eI, eJ, hkj, hkj']
          refine W_calm (by kernel_rfl) ?_
          simp [wops_cons, dops_cons, dops_if, dstOf, -st_eq, -ld_eq, -Nat.not_lt, e0, e1, eI, eJ, hkj, hkj', hkd, had, hgi, hrk, hra]
          refine less_s _ _ _ _ ?_
          cases hl : klt (aget d3 k) (aget d3 a)
          ·
            unfold aget at hl
            have hend : k = Sort.scanUp (fun x => klt x d3[a]!) d3 v u := by rw [← hsc, Sort.scanUp, if_neg (by simp [hl])]
            simp [wops_cons, dops_cons, dops_if, dstOf, -st_eq, -ld_eq, -Nat.not_lt, e0, e1, eI, eJ]
            exact ⟨k, rfl, hend, hk0, by omega⟩
          ·
            have hl2 := hl
            unfold aget at hl2
            have hgo : Sort.scanUp (fun x => klt x d3[a]!) d3 v (k + 1) = Sort.scanUp (fun x => klt x d3[a]!) d3 v u := by
              rw [← hsc]
              conv => rhs; rw [Sort.scanUp]
              rw [if_pos (by simp [hl2, hkj])]
            simp [wops_cons, dops_cons, dops_if, dstOf, -st_eq, -ld_eq, -Nat.not_lt, e0, e1, eI, eJ, hl, hwk]
            exact ⟨_, by omega, k + 1, rfl, by omega, by omega, rfl, hgo⟩
        · have hkj' : ¬ (k : Int) ≤ (v : Nat) := by omega
          have hend : k = Sort.scanUp (fun x => klt x d3[a]!) d3 v u := by rw [← hsc, Sort.scanUp, if_neg (by simp [hkj])]
          simp [wops_cons, dops_cons, dops_if, dstOf, -st_eq, -ld_eq, -Nat.not_lt, e0, e1, eI, eJ, hkj, hkj']
          refine W_calm (by kernel_rfl) ?_
          simp [wops_cons, dops_cons, dops_if, dstOf, -st_eq, -ld_eq, -Nat.not_lt, e0, e1, eI, eJ, hkj, hkj']
          exact ⟨k, rfl, hend, hk0, by omega⟩
      · refine ⟨_, u, rfl, ?_⟩
        simp [e0, e1, eI, eJ]
        try omega
      rintro o s ⟨tm, p, rfl, e0, e1, eI, eJ, hp, hp0, hp1, hs⟩
      rw [hs]
      simp [wops_cons, dops_cons, dops_if, dstOf, -st_eq, -ld_eq, -Nat.not_lt]
      refine W_loop_J (fun n A s => ∃ tm k, A = ⟨tm, 168, [], false⟩ ∧ tm.get 0 = some (.slice (some ⟨i, pre.length, none⟩) n0 cap) ∧ tm.get 1 = some (.int .i64 a) ∧ tm.get 10 = some (.int .i64 (p : Nat)) ∧ tm.get 11 = some (.int .i64 (k : Nat)) ∧ k ≤ v ∧ n = k ∧ Sort.scanDown (fun x => !klt x d3[a]!) d3 p k = Sort.scanDown (fun x => !klt x d3[a]!) d3 p v ∧ s = σ3)
        (fun o s => ∃ tm y, o = .code (.exit 8) ⟨tm, 168, [], false⟩ ∧ tm.get 0 = some (.slice (some ⟨i, pre.length, none⟩) n0 cap) ∧ tm.get 1 = some (.int .i64 a) ∧ tm.get 10 = some (.int .i64 (p : Nat)) ∧ tm.get 11 = some (.int .i64 (y : Nat)) ∧ y = Sort.scanDown (fun x => !klt x d3[a]!) d3 p v ∧ y ≤ v ∧ s = σ3) ?_ (v) _ _ ?_ ?_
      · rintro n A s ⟨tm, k, rfl, e0, e1, eI, eJ, hk0, hn, hsc, hs⟩
        rw [hs]
        have hgi := hv3.1
        by_cases hkj : p ≤ k
        · obtain ⟨k2, hk2⟩ : ∃ k2, k = k2 + 1 := ⟨k - 1, by omega⟩
          have hkj' : (p : Int) ≤ (k : Nat) := by omega
          have hkd : k < n0 := by omega
          have hwk := i64p k (by omega) (by omega)
          have hrk := rowS_get (pre := pre) (post := post) (d := d3) (j := k) (by omega)
          have hra := rowS_get (pre := pre) (post := post) (d := d3) (j := a) (by omega)
          simp [wops_cons, dops_cons, dops_if, dstOf, -st_eq, -ld_eq, -Nat.not_lt, e0, e1, eI, eJ, hkj, hkj']
          refine W_calm (by kernel_rfl) ?_
          simp [wops_cons, dops_cons, dops_if, dstOf, -st_eq, -ld_eq, -Nat.not_lt, e0, e1, eI, eJ, hkj, hkj', hkd, had, hgi, hrk, hra]
          refine less_s _ _ _ _ ?_
          cases hl : klt (aget d3 k) (aget d3 a)
          ·
            have hl2 := hl
            unfold aget at hl2
            have hgo : Sort.scanDown (fun x => !klt x d3[a]!) d3 p (k - 1) = Sort.scanDown (fun x => !klt x d3[a]!) d3 p v := by
              rw [← hsc, hk2]
              conv => rhs; rw [Sort.scanDown]
              rw [if_pos (by rw [← hk2]; simp [hl2, hkj])]
              rfl
            simp [wops_cons, dops_cons, dops_if, dstOf, -st_eq, -ld_eq, -Nat.not_lt, e0, e1, eI, eJ, hl, hwk]
            exact ⟨_, by omega, k - 1, rfl, by omega, rfl, hgo⟩
          ·
            unfold aget at hl
            have hend : k = Sort.scanDown (fun x => !klt x d3[a]!) d3 p v := by rw [← hsc, hk2, Sort.scanDown, if_neg (by rw [← hk2]; simp [hl])]
            simp [wops_cons, dops_cons, dops_if, dstOf, -st_eq, -ld_eq, -Nat.not_lt, e0, e1, eI, eJ]
            exact ⟨k, rfl, hend, hk0⟩
        · have hkj' : ¬ (p : Int) ≤ (k : Nat) := by omega
          have hend : k = Sort.scanDown (fun x => !klt x d3[a]!) d3 p v := by
            rw [← hsc]
            cases k with
            | zero => rfl
            | succ k => rw [Sort.scanDown, if_neg (by simp; omega)]
          simp [wops_cons, dops_cons, dops_if, dstOf, -st_eq, -ld_eq, -Nat.not_lt, e0, e1, eI, eJ, hkj, hkj']
          refine W_calm (by kernel_rfl) ?_
          simp [wops_cons, dops_cons, dops_if, dstOf, -st_eq, -ld_eq, -Nat.not_lt, e0, e1, eI, eJ, hkj, hkj']
          exact ⟨k, rfl, hend, hk0⟩
      · refine ⟨_, v, rfl, ?_⟩
        simp [e0, e1, eI, eJ]
      rintro o s ⟨tm, q, rfl, e0, e1, eI, eJ, hq, hq1, hs⟩
      rw [hs]
      rw [← hp, ← hq] at hfin
      by_cases hpq : q < p
      · have hpq' : (q : Int) < p := by omega
        rw [if_pos hpq] at hfin
        have hf1 : q = (Sort.partLoop klt a (x + 1) (y - 1) d2).1 := by rw [← hfin]
        have hf2 : d3 = (Sort.partLoop klt a (x + 1) (y - 1) d2).2 := by rw [← hfin]
        simp [wops_cons, dops_cons, dops_if, dstOf, -st_eq, -ld_eq, -Nat.not_lt, e0, e1, eI, eJ, hpq, hpq']
        rw [← hf1, ← hf2]
        exact ⟨rfl, by omega, hsz3, hv3, hg3⟩
      · have hpq' : ¬ (q : Int) < p := by omega
        rw [if_neg hpq] at hfin
        have hpd : p < n0 := by omega
        have hqd : q < n0 := by omega
        have hwp := i64n1 p (by omega)
        have hwq := i64p q (by omega) (by omega)
        have hgi := hv3.1
        have hrp := rowS_get (pre := pre) (post := post) (d := d3) (j := p) (by omega)
        have hrq := rowS_get (pre := pre) (post := post) (d := d3) (j := q) (by omega)
        have hst1 := rowS_st (pre := pre) (post := post) (d := d3) (j := p) (by first | omega | (simp; omega)) (aget d3 q)
        have hst2 := rowS_st (pre := pre) (post := post) (d := aset d3 p (aget d3 q)) (j := q) (by first | omega | (simp; omega)) (aget d3 p)
        simp [wops_cons, dops_cons, dops_if, dstOf, -st_eq, -ld_eq, -Nat.not_lt, e0, e1, eI, eJ, hpq, hpq']
        refine W_calm (by kernel_rfl) ?_
        simp [wops_cons, dops_cons, dops_if, dstOf, -st_eq, -ld_eq, -Nat.not_lt, e0, e1, eI, eJ, hpd, hqd, hgi, hrp, hrq, hst1, hst2, hwp, hwq]
        rw [← swp_aset]
        refine ⟨_, ?_, p + 1, rfl, q - 1, rfl, by omega, by omega, rfl, _, by simp [hsz3], hfin, (hv3.put _).put _, (hg3.putL _).putL _⟩
        rw [hn]
        exact guard_ar hp0 hq1 hpq
    · refine ⟨_, x + 1, y - 1, d2, rfl, ?_⟩
      simp [e0, e1]
      exact ⟨by omega, hsz2, hv2, hg2⟩
    · rintro o σ4 ⟨tm, rfl, e0, e1, eJ, hjn, hsz4, hv4, hg4⟩
      generalize (Sort.partLoop klt a (x + 1) (y - 1) d2).1 = w at hjn eJ h
      generalize (Sort.partLoop klt a (x + 1) (y - 1) d2).2 = d4 at hsz4 hv4 h
      have hgi := hv4.1
      have hra := rowS_get (pre := pre) (post := post) (d := d4) (j := a) (by omega)
      have hrw := rowS_get (pre := pre) (post := post) (d := d4) (j := w) (by omega)
      have hst1 := rowS_st (pre := pre) (post := post) (d := d4) (j := w) (by first | omega | (simp; omega)) (aget d4 a)
      have hst2 := rowS_st (pre := pre) (post := post) (d := aset d4 w (aget d4 a)) (j := a) (by first | omega | (simp; omega)) (aget d4 w)
      simp [wops_cons, dops_cons, dops_if, dstOf, -st_eq, -ld_eq, -Nat.not_lt, e0, e1, eJ]
      refine W_calm (by kernel_rfl) ?_
      simp [wops_cons, dops_cons, dops_if, dstOf, -st_eq, -ld_eq, -Nat.not_lt, e0, e1, eJ, had, hjn, hgi, hra, hrw, hst1, hst2]
      rw [← swp_aset]
      exact h _ ((hv4.put _).put _) ((hg4.putL _).putL _)
theorem partEq_s (n0 : Nat) (d : Array ByteArray) (hn0 : d.size = n0) (i cap : Nat) (pre post : List Value) (a b pv : Nat) (σ : CSt) (hv : SV σ i pre post d) (hb : b ≤ n0) (hbig : n0 < 2 ^ 40) (hab : a < b) (hpv : pv < b) (Q : Out → CSt → Prop)
    (h : ∀ σ', SV σ' i pre post (Sort.partitionEqual klt d a b pv).2 → But i σ σ' → Q (.ret (.int .i64 (Sort.partitionEqual klt d a b pv).1) false) σ') :
    W E1 (.fn 87 #[.slice (some ⟨i, pre.length, none⟩) n0 cap, .int .i64 a, .int .i64 b, .int .i64 pv] none) σ Q := by
  rw [W_fn (fn := Tryz.f87) Tryz.func87 rfl rfl rfl]
  have had : a < n0 := by omega
  have hpd : pv < n0 := by omega
  have hwb := i64p b (by omega) (by omega)
  obtain ⟨a1, ha1⟩ : ∃ a1, a1 = a + 1 := ⟨_, rfl⟩
  have hwa : IntKind.i64.wrap ((a : Int) + 1) = (a1 : Int) := by rw [i64n1 a (by omega), ha1]
  obtain ⟨b1, hb1⟩ : ∃ b1, b1 = b - 1 := ⟨_, rfl⟩
  rw [← hb1] at hwb
  have hb1n : b1 < n0 := by omega
  have h1a : 1 ≤ a1 := by omega
  have hgi := hv.1
  have hra := rowS_get (pre := pre) (post := post) (d := d) (j := a) (by omega)
  have hrp := rowS_get (pre := pre) (post := post) (d := d) (j := pv) (by omega)
  have hst1 := rowS_st (pre := pre) (post := post) (d := d) (j := a) (by first | omega | (simp; omega)) (aget d pv)
  have hst2 := rowS_st (pre := pre) (post := post) (d := aset d a (aget d pv)) (j := pv) (by first | omega | (simp; omega)) (aget d a)
  unfold Sort.partitionEqual at h
  rw [← ha1, ← hb1] at h
  simp [wops_cons, dops_cons, dops_if, dstOf, -st_eq, -ld_eq, -Nat.not_lt]
  refine W_calm (by kernel_rfl) ?_
  simp [wops_cons, dops_cons, dops_if, dstOf, -st_eq, -ld_eq, -Nat.not_lt, had, hpd, hgi, hra, hrp, hst1, hst2, hwa, hwb]
  rw [← swp_aset]
  have hv1 : SV ((σ.put i (.cells (rowD encS pre post (aset d a (aget d pv))) 9 false)).put i (.cells (rowD encS pre post (Sort.swp d a pv)) 9 false)) i pre post (Sort.swp d a pv) := (hv.put _).put _
  have hg1 : But i σ ((σ.put i (.cells (rowD encS pre post (aset d a (aget d pv))) 9 false)).put i (.cells (rowD encS pre post (Sort.swp d a pv)) 9 false)) := (((But.refl i σ)).putL _).putL _
  have hsz1 : (Sort.swp d a pv).size = n0 := by simp [hn0]
  generalize ((σ.put i (.cells (rowD encS pre post (aset d a (aget d pv))) 9 false)).put i (.cells (rowD encS pre post (Sort.swp d a pv)) 9 false)) = σ1 at hv1 hg1 ⊢
  generalize Sort.swp d a pv = d1 at hv1 hsz1 h
  clear hst1 hst2
  refine W_loop_J (fun n A s => ∃ tm u v d', A = ⟨tm, 84, [], false⟩ ∧ tm.get 0 = some (.slice (some ⟨i, pre.length, none⟩) n0 cap) ∧ tm.get 1 = some (.int .i64 a) ∧ tm.get 9 = some (.int .i64 (u : Nat)) ∧ tm.get 10 = some (.int .i64 (v : Nat)) ∧ 1 ≤ u ∧ v < n0 ∧ n = v + 1 - u ∧ d'.size = n0 ∧ Sort.partEqLoop klt a u v d' = Sort.partEqLoop klt a a1 b1 d1 ∧ SV s i pre post d' ∧ But i σ s)
    (fun o s => ∃ tm, o = .code (.exit 0) ⟨tm, 84, [], false⟩ ∧ tm.get 9 = some (.int .i64 ((Sort.partEqLoop klt a a1 b1 d1).1 : Nat)) ∧ SV s i pre post (Sort.partEqLoop klt a a1 b1 d1).2 ∧ But i σ s) ?_ (b1 + 1 - a1) _ _ ?_ ?_
  · rintro n A σ3 ⟨tm, u, v, d3, rfl, e0, e1, eI, eJ, hu, hvn, hn, hsz3, hfin, hv3, hg3⟩
    rw [Sort.partEqLoop_eq] at hfin
    simp [wops_cons, dops_cons, dops_if, dstOf, -st_eq, -ld_eq, -Nat.not_lt]
    refine W_loop_J (fun n A s => ∃ tm k, A = ⟨tm, 84, [], false⟩ ∧ tm.get 0 = some (.slice (some ⟨i, pre.length, none⟩) n0 cap) ∧ tm.get 1 = some (.int .i64 a) ∧ tm.get 9 = some (.int .i64 (k : Nat)) ∧ tm.get 10 = some (.int .i64 (v : Nat)) ∧ u ≤ k ∧ k ≤ max u (v + 1) ∧ n = v + 1 - k ∧ Sort.scanUp (fun x => !klt d3[a]! x) d3 v k = Sort.scanUp (fun x => !klt d3[a]! x) d3 v u ∧ s = σ3)
      (fun o s => ∃ tm x, o = .code (.exit 2) ⟨tm, 84, [], false⟩ ∧ tm.get 0 = some (.slice (some ⟨i, pre.length, none⟩) n0 cap) ∧ tm.get 1 = some (.int .i64 a) ∧ tm.get 9 = some (.int .i64 (x : Nat)) ∧ tm.get 10 = some (.int .i64 (v : Nat)) ∧ x = Sort.scanUp (fun x => !klt d3[a]! x) d3 v u ∧ u ≤ x ∧ x ≤ max u (v + 1) ∧ s = σ3) ?_ (v + 1 - u) _ _ ?_ ?_
    · rintro n A s ⟨tm, k, rfl, e0, e1, eI, eJ, hk0, hk1, hn, hsc, hs⟩
      rw [hs]
      have hgi := hv3.1
      by_cases hkj : k ≤ v
      · have hkj' : (k : Int) ≤ (v : Nat) := by omega
        have hkd : k < n0 := by omega
        have hwk := i64n1 k (by omega)
        have hrk := rowS_get (pre := pre) (post := post) (d := d3) (j := k) (by omega)
        have hra := rowS_get (pre := pre) (post := post) (d := d3) (j := a) (by omega)
        simp [wops_cons, dops_cons, dops_if, dstOf, -st_eq, -ld_eq, -Nat.not_lt, e0, e1, eI, eJ, hkj, hkj']
        refine W_calm (by kernel_rfl) ?_
        simp [wops_cons, dops_cons, dops_if, dstOf, -st_eq, -ld_eq, -Nat.not_lt, e0, e1, eI, eJ, hkj, hkj', hkd, had, hgi, hrk, hra]
        refine less_s _ _ _ _ ?_
        cases hl : klt (aget d3 a) (aget d3 k)
        ·
          have hl2 := hl
          unfold aget at hl2
          have hgo : Sort.scanUp (fun x => !klt d3[a]! x) d3 v (k + 1) = Sort.scanUp (fun x => !klt d3[a]! x) d3 v u := by
            rw [← hsc]
            conv => rhs; rw [Sort.scanUp]
            rw [if_pos (by simp [hl2, hkj])]
          simp [wops_cons, dops_cons, dops_if, dstOf, -st_eq, -ld_eq, -Nat.not_lt, e0, e1, eI, eJ, hl, hwk]
          exact ⟨_, by omega, k + 1, rfl, by omega, by omega, rfl, hgo⟩
        ·
          unfold aget at hl
          have hend : k = Sort.scanUp (fun x => !klt d3[a]! x) d3 v u := by rw [← hsc, Sort.scanUp, if_neg (by simp [hl])]
          simp [wops_cons, dops_cons, dops_if, dstOf, -st_eq, -ld_eq, -Nat.not_lt, e0, e1, eI, eJ]
          exact ⟨k, rfl, hend, hk0, by omega⟩
      · have hkj' : ¬ (k : Int) ≤ (v : Nat) := by omega
        have hend : k = Sort.scanUp (fun x => !klt d3[a]! x) d3 v u := by rw [← hsc, Sort.scanUp, if_neg (by simp [hkj])]
        simp [wops_cons, dops_cons, dops_if, dstOf, -st_eq, -ld_eq, -Nat.not_lt, e0, e1, eI, eJ, hkj, hkj']
        refine W_calm (by kernel_rfl) ?_
        simp [wops_cons, dops_cons, dops_if, dstOf, -st_eq, -ld_eq, -Nat.not_lt, e0, e1, eI, eJ, hkj, hkj']
        exact ⟨k, rfl, hend, hk0, by omega⟩
    · refine ⟨_, u, rfl, ?_⟩
      simp [e0, e1, eI, eJ]
      try omega
    rintro o s ⟨tm, p, rfl, e0, e1, eI, eJ, hp, hp0, hp1, hs⟩
    rw [hs]
    simp [wops_cons, dops_cons, dops_if, dstOf, -st_eq, -ld_eq, -Nat.not_lt]
    refine W_loop_J (fun n A s => ∃ tm k, A = ⟨tm, 84, [], false⟩ ∧ tm.get 0 = some (.slice (some ⟨i, pre.length, none⟩) n0 cap) ∧ tm.get 1 = some (.int .i64 a) ∧ tm.get 9 = some (.int .i64 (p : Nat)) ∧ tm.get 10 = some (.int .i64 (k : Nat)) ∧ k ≤ v ∧ n = k ∧ Sort.scanDown (fun x => klt d3[a]! x) d3 p k = Sort.scanDown (fun x => klt d3[a]! x) d3 p v ∧ s = σ3)
      (fun o s => ∃ tm y, o = .code (.exit 4) ⟨tm, 84, [], false⟩ ∧ tm.get 0 = some (.slice (some ⟨i, pre.length, none⟩) n0 cap) ∧ tm.get 1 = some (.int .i64 a) ∧ tm.get 9 = some (.int .i64 (p : Nat)) ∧ tm.get 10 = some (.int .i64 (y : Nat)) ∧ y = Sort.scanDown (fun x => klt d3[a]! x) d3 p v ∧ y ≤ v ∧ s = σ3) ?_ (v) _ _ ?_ ?_
    · rintro n A s ⟨tm, k, rfl, e0, e1, eI, eJ, hk0, hn, hsc, hs⟩
      rw [hs]
      have hgi := hv3.1
      by_cases hkj : p ≤ k
      · obtain ⟨k2, hk2⟩ : ∃ k2, k = k2 + 1 := ⟨k - 1, by omega⟩
        have hkj' : (p : Int) ≤ (k : Nat) := by omega
        have hkd : k < n0 := by omega
        have hwk := i64p k (by omega) (by omega)
        have hrk := rowS_get (pre := pre) (post := post) (d := d3) (j := k) (by omega)
        have hra := rowS_get (pre := pre) (post := post) (d := d3) (j := a) (by omega)
        simp [wops_cons, dops_cons, dops_if, dstOf, -st_eq, -ld_eq, -Nat.not_lt, e0, e1, eI, eJ, hkj, hkj']
        refine W_calm (by kernel_rfl) ?_
        simp [wops_cons, dops_cons, dops_if, dstOf, -st_eq, -ld_eq, -Nat.not_lt, e0, e1, eI, eJ, hkj, hkj', hkd, had, hgi, hrk, hra]
        refine less_s _ _ _ _ ?_
        cases hl : klt (aget d3 a) (aget d3 k)
        ·
          unfold aget at hl
          have hend : k = Sort.scanDown (fun x => klt d3[a]! x) d3 p v := by rw [← hsc, hk2, Sort.scanDown, if_neg (by rw [← hk2]; simp [hl])]
          simp [wops_cons, dops_cons, dops_if, dstOf, -st_eq, -ld_eq, -Nat.not_lt, e0, e1, eI, eJ]
          exact ⟨k, rfl, hend, hk0⟩
        ·
          have hl2 := hl
          unfold aget at hl2
          have hgo : Sort.scanDown (fun x => klt d3[a]! x) d3 p (k - 1) = Sort.scanDown (fun x => klt d3[a]! x) d3 p v := by
            rw [← hsc, hk2]
            conv => rhs; rw [Sort.scanDown]
            rw [if_pos (by rw [← hk2]; simp [hl2, hkj])]
            rfl
          simp [wops_cons, dops_cons, dops_if, dstOf, -st_eq, -ld_eq, -Nat.not_lt, e0, e1, eI, eJ, hl, hwk]
          exact ⟨_, by omega, k - 1, rfl, by omega, rfl, hgo⟩
      · have hkj' : ¬ (p : Int) ≤ (k : Nat) := by omega
        have hend : k = Sort.scanDown (fun x => klt d3[a]! x) d3 p v := by
          rw [← hsc]
          cases k with
          | zero => rfl
          | succ k => rw [Sort.scanDown, if_neg (by simp; omega)]
        simp [wops_cons, dops_cons, dops_if, dstOf, -st_eq, -ld_eq, -Nat.not_lt, e0, e1, eI, eJ, hkj, hkj']
        refine W_calm (by kernel_rfl) ?_
        simp [wops_cons, dops_cons, dops_if, dstOf, -st_eq, -ld_eq, -Nat.not_lt, e0, e1, eI, eJ, hkj, hkj']
        exact ⟨k, rfl, hend, hk0⟩
    · refine ⟨_, v, rfl, ?_⟩
      simp [e0, e1, eI, eJ]
    rintro o s ⟨tm, q, rfl, e0, e1, eI, eJ, hq, hq1, hs⟩
    rw [hs]
    rw [← hp, ← hq] at hfin
    by_cases hpq : q < p
    · have hpq' : (q : Int) < p := by omega
      rw [if_pos hpq] at hfin
      have hf1 : p = (Sort.partEqLoop klt a a1 b1 d1).1 := by rw [← hfin]
      have hf2 : d3 = (Sort.partEqLoop klt a a1 b1 d1).2 := by rw [← hfin]
      simp [wops_cons, dops_cons, dops_if, dstOf, -st_eq, -ld_eq, -Nat.not_lt, e0, e1, eI, eJ, hpq, hpq']
      rw [← hf1, ← hf2]
      exact ⟨rfl, hv3, hg3⟩
    · have hpq' : ¬ (q : Int) < p := by omega
      rw [if_neg hpq] at hfin
      have hpd : p < n0 := by omega
      have hqd : q < n0 := by omega
      have hwp := i64n1 p (by omega)
      have hwq := i64p q (by omega) (by omega)
      have hgi := hv3.1
      have hrp := rowS_get (pre := pre) (post := post) (d := d3) (j := p) (by omega)
      have hrq := rowS_get (pre := pre) (post := post) (d := d3) (j := q) (by omega)
      have hst1 := rowS_st (pre := pre) (post := post) (d := d3) (j := p) (by first | omega | (simp; omega)) (aget d3 q)
      have hst2 := rowS_st (pre := pre) (post := post) (d := aset d3 p (aget d3 q)) (j := q) (by first | omega | (simp; omega)) (aget d3 p)
      simp [wops_cons, dops_cons, dops_if, dstOf, -st_eq, -ld_eq, -Nat.not_lt, e0, e1, eI, eJ, hpq, hpq']
      refine W_calm (by kernel_rfl) ?_
      simp [wops_cons, dops_cons, dops_if, dstOf, -st_eq, -ld_eq, -Nat.not_lt, e0, e1, eI, eJ, hpd, hqd, hgi, hrp, hrq, hst1, hst2, hwp, hwq]
      rw [← swp_aset]
      refine ⟨_, ?_, p + 1, rfl, q - 1, rfl, by omega, by omega, rfl, _, by simp [hsz3], hfin, (hv3.put _).put _, (hg3.putL _).putL _⟩
      rw [hn]
      exact guard_ar hp0 hq1 hpq
  · refine ⟨_, a1, b1, d1, rfl, ?_⟩
    simp
    exact ⟨h1a, hb1n, hsz1, hv1, hg1⟩
  · rintro o σ4 ⟨tm, rfl, eI, hv4, hg4⟩
    simp [wops_cons, dops_cons, dops_if, dstOf, -st_eq, -ld_eq, -Nat.not_lt, eI]
    exact h σ4 hv4 hg4
end Go.Sm.Str
/- Sorting strings: pdqsort. -/
set_option linter.unusedVariables false
set_option linter.unusedSimpArgs false
namespace Go.Sm.Str
open Go Go.Proofs Go.Sm
set_option maxRecDepth 100000
set_option maxHeartbeats 4000000
theorem swo_klt : Sort.SWO klt where
  irrefl x := bl_irrefl _
  trans x y z h h' := bl_trans h h'
  ntrans x y z h h' := by
    cases hc : klt x z with
    | false => rfl
    | true =>
      exfalso
      cases hyx : klt y x with
      | true => exact absurd (bl_trans hyx hc) (by unfold klt at h'; rw [h']; simp)
      | false =>
        have e : x = y := ba_list_inj (bl_tri h hyx)
        rw [e, h'] at hc; cases hc
theorem pdq_ar {a b x : Nat} (h1 : a ≤ x) (h2 : x < b) : ((b - 1) - (x - a) : Nat) = b - 1 - (x - a) ∧ a ≤ b - 1 - (x - a) ∧ b - 1 - (x - a) < b := by omega
/-- What is left to be done. -/
structure Left (a b : Nat) (d : Array ByteArray) (n0 a' b' : Nat) (d' : Array ByteArray) : Prop where
  le : a' ≤ b'
  hi : b' ≤ n0
  sz : d'.size = n0
  bel : Sort.Below klt a' b' d'
  fin : ∀ R, Sort.PermIn a' b' d' R → Sort.SortedIn klt a' b' R → Sort.PermIn a b d R ∧ Sort.SortedIn klt a b R
theorem Left.perm {a b n0 a' b' : Nat} {d d' d2 : Array ByteArray} (h : Left a b d n0 a' b' d') (hp : Sort.PermIn a' b' d' d2) : Left a b d n0 a' b' d2 :=
  ⟨h.le, h.hi, by rw [hp.1]; exact h.sz, h.bel.perm (by rw [h.sz]; exact h.hi) hp, fun R h1 h2 => h.fin R (Sort.permIn_trans _ _ _ _ _ hp h1) h2⟩
theorem pdq_s (n0 i cap : Nat) (pre post : List Value) (hbig : n0 < 2 ^ 40) : ∀ (m a b l : Nat) (d : Array ByteArray) (σ : CSt) (Q : Out → CSt → Prop), b - a ≤ m → d.size = n0 → SV σ i pre post d → a ≤ b → b ≤ n0 → l < 2 ^ 40 → Sort.Below klt a b d →
    (∀ σ' d', Sort.PermIn a b d d' → Sort.SortedIn klt a b d' → SV σ' i pre post d' → But i σ σ' → Q (.ret (.tuple #[]) false) σ') →
    W E1 (.fn 65 #[.slice (some ⟨i, pre.length, none⟩) n0 cap, .int .i64 a, .int .i64 b, .int .i64 l] none) σ Q := by
  intro m
  induction m using Nat.strongRecOn with
  | _ m IH =>
  intro a b l d σ Q hm hn0 hv hab hb hl40 hbel h
  rw [W_fn (fn := Tryz.f65) Tryz.func65 rfl rfl rfl]
  simp [wops_cons, dops_cons, dops_if, dstOf, -st_eq, -ld_eq, -Nat.not_lt]
  refine W_loop_inv (fun n A s => ∃ tm a' b' l' wb wp d', A = ⟨tm, 134, [], false⟩ ∧ tm.get 0 = some (.slice (some ⟨i, pre.length, none⟩) n0 cap) ∧ tm.get 1 = some (.int .i64 (a' : Nat)) ∧ tm.get 2 = some (.int .i64 (b' : Nat)) ∧ tm.get 3 = some (.int .i64 (l' : Nat)) ∧ tm.get 8 = some (.bool wb) ∧ tm.get 9 = some (.bool wp) ∧ b' - a' ≤ m ∧ n = b' - a' ∧ l' < 2 ^ 40 ∧ Left a b d n0 a' b' d' ∧ SV s i pre post d' ∧ But i σ s) ?_ (b - a) _ _ ?_
  · rintro n A σ1 ⟨tm, a', b', l', wb, wp, d1, rfl, e0, e1, e2, e3, e8, e9, hsub, hn, hl', hL, hv1, hg1⟩
    have hab' := hL.le
    have hbn := hL.hi
    have hw1 : IntKind.i64.wrap ((b' : Int) - a') = ((b' - a' : Nat) : Int) := by rw [IntWalk.i64_in _ (by omega)]; omega
    obtain ⟨len, hlen⟩ : ∃ len, len = b' - a' := ⟨_, rfl⟩
    rw [← hlen] at hw1 hsub hn
    by_cases h12 : len ≤ 12
    · have h12' : (len : Int) ≤ 12 := by omega
      simp [wops_cons, dops_cons, dops_if, dstOf, -st_eq, -ld_eq, -Nat.not_lt, e0, e1, e2, e3, hw1, h12, h12']
      refine insSort_n n0 d1 hL.sz i cap pre post a' b' σ1 hv1 hbn hbig hab' _ fun σ2 hv2 hg2 => ?_
      have hi := Sort.insertionSort_holds (lt := klt) swo_klt d1 a' b' hab' (by rw [hL.sz]; exact hbn)
      obtain ⟨f1, f2⟩ := hL.fin _ hi.1 hi.2
      simp [wops_cons, dops_cons, dops_if, dstOf, -st_eq, -ld_eq, -Nat.not_lt]
      exact h σ2 _ f1 f2 hv2 (hg1.trans hg2)
    · have h12' : ¬ (len : Int) ≤ 12 := by omega
      by_cases hl0 : l' = 0
      · have hl0' : (l' : Int) = 0 := by omega
        simp [wops_cons, dops_cons, dops_if, dstOf, -st_eq, -ld_eq, -Nat.not_lt, e0, e1, e2, e3, hw1, h12, h12', hl0, hl0']
        refine heap_s n0 d1 hL.sz i cap pre post a' b' σ1 hv1 hbn hbig hab' _ fun σ2 hv2 hg2 => ?_
        have hi := Sort.heapSort_holds (lt := klt) swo_klt d1 a' b' hab' (by rw [hL.sz]; exact hbn)
        obtain ⟨f1, f2⟩ := hL.fin _ hi.1 hi.2
        simp [wops_cons, dops_cons, dops_if, dstOf, -st_eq, -ld_eq, -Nat.not_lt]
        exact h σ2 _ f1 f2 hv2 (hg1.trans hg2)
      · have hl0' : ¬ (l' : Int) = 0 := by omega
        have hwl := i64p l' (by omega) (by omega)
        simp [wops_cons, dops_cons, dops_if, dstOf, -st_eq, -ld_eq, -Nat.not_lt, -W_condK, W_cond_t, W_cond_f, e0, e1, e2, e3, e8, hw1, h12, h12', hl0, hl0']
        refine W_cut (fun o s => ∃ tm l'' d', o = .code .normal ⟨tm, 134, [], false⟩ ∧ tm.get 0 = some (.slice (some ⟨i, pre.length, none⟩) n0 cap) ∧ tm.get 1 = some (.int .i64 (a' : Nat)) ∧ tm.get 2 = some (.int .i64 (b' : Nat)) ∧ tm.get 3 = some (.int .i64 (l'' : Nat)) ∧ tm.get 8 = some (.bool wb) ∧ tm.get 9 = some (.bool wp) ∧ tm.get 10 = some (.int .i64 (len : Nat)) ∧ l'' < 2 ^ 40 ∧ Left a b d n0 a' b' d' ∧ SV s i pre post d' ∧ But i σ s) ?_ ?_
        · cases wb with
          | true =>
            simp [wops_cons, dops_cons, dops_if, dstOf, -st_eq, -ld_eq, -Nat.not_lt, e0, e1, e2, e3, e8, e9]
            exact ⟨l', rfl, hl', d1, hL, hv1, hg1⟩
          | false =>
            simp [wops_cons, dops_cons, dops_if, dstOf, -st_eq, -ld_eq, -Nat.not_lt, e0, e1, e2, e3, e8, e9]
            refine break_s n0 d1 hL.sz i cap pre post a' b' σ1 hv1 hbn hbig hab' _ fun σ2 d2 hp2 hv2 hg2 => ?_
            simp [wops_cons, dops_cons, dops_if, dstOf, -st_eq, -ld_eq, -Nat.not_lt, e0, e1, e2, e3, e8, e9, hwl]
            exact ⟨l' - 1, rfl, by omega, d2, hL.perm hp2, hv2, hg1.trans hg2⟩
        · clear e0 e1 e2 e3 e8 e9 hl' hL hv1 hg1 hwl hl0 hl0'
          rintro o σ2 ⟨tm, l2, d2, rfl, e0, e1, e2, e3, e8, e9, e10, hl2, hL, hv2, hg2⟩
          have hab2 : a' < b' := by omega
          simp [wops_cons, dops_cons, dops_if, dstOf, -st_eq, -ld_eq, -Nat.not_lt, -W_condK, W_cond_t, W_cond_f, e0, e1, e2]
          refine pivot_s n0 d2 hL.sz i cap pre post a' b' σ2 hv2 hbn hbig hab2 _ fun p hint σ3 hp0 hp1 hhint hv3 hg3' => ?_
          have hg3 := hg2.trans hg3'
          simp [wops_cons, dops_cons, dops_if, dstOf, -st_eq, -ld_eq, -Nat.not_lt, -W_condK, W_cond_t, W_cond_f]
          refine W_cut (fun o s => ∃ tm p' hint' d', o = .code .normal ⟨tm, 134, [], false⟩ ∧ tm.get 0 = some (.slice (some ⟨i, pre.length, none⟩) n0 cap) ∧ tm.get 1 = some (.int .i64 (a' : Nat)) ∧ tm.get 2 = some (.int .i64 (b' : Nat)) ∧ tm.get 3 = some (.int .i64 (l2 : Nat)) ∧ tm.get 8 = some (.bool wb) ∧ tm.get 9 = some (.bool wp) ∧ tm.get 10 = some (.int .i64 (len : Nat)) ∧ tm.get 11 = some (.int .i64 (p' : Nat)) ∧ tm.get 12 = some (.int .i64 hint') ∧ a' ≤ p' ∧ p' < b' ∧ Left a b d n0 a' b' d' ∧ SV s i pre post d' ∧ But i σ s) ?_ ?_
          · by_cases hh2 : hint = 2
            · subst hh2
              simp [wops_cons, dops_cons, dops_if, dstOf, -st_eq, -ld_eq, -Nat.not_lt, e0, e1, e2, e3, e8, e9, e10]
              refine rev_s n0 d2 hL.sz i cap pre post a' b' σ3 hv3 hbn hbig hab2 _ fun σ4 hv4 hg4 => ?_
              have hr := Sort.reverseRange_holds (α := ByteArray) d2 a' b' hab' (by rw [hL.sz]; exact hbn)
              obtain ⟨q0, q1, q2⟩ := pdq_ar hp0 hp1
              have hwb1 := i64p b' (by omega) (by omega)
              have hwpa : IntKind.i64.wrap ((p : Int) - a') = ((p - a' : Nat) : Int) := by rw [IntWalk.i64_in _ (by omega)]; omega
              have hwpb : IntKind.i64.wrap (((b' - 1 : Nat) : Int) - ((p - a' : Nat) : Int)) = ((b' - 1 - (p - a') : Nat) : Int) := by rw [IntWalk.i64_in _ (by omega)]; omega
              simp [wops_cons, dops_cons, dops_if, dstOf, -st_eq, -ld_eq, -Nat.not_lt, e0, e1, e2, e3, e8, e9, e10, hwb1, hwpa, hwpb]
              exact ⟨_, rfl, q1, q2, _, hL.perm hr, hv4, hg3.trans hg4⟩
            · simp [wops_cons, dops_cons, dops_if, dstOf, -st_eq, -ld_eq, -Nat.not_lt, e0, e1, e2, e3, e8, e9, e10, hh2]
              exact ⟨p, rfl, hp0, hp1, d2, hL, hv3, hg3⟩
          · clear e0 e1 e2 e3 e8 e9 e10 hL hv2 hg2 hv3 hg3 hg3' hp0 hp1 hhint
            rintro o σ4 ⟨tm, p, hint, d4, rfl, e0, e1, e2, e3, e8, e9, e10, e11, e12, hp0, hp1, hL, hv4, hg4⟩
            simp [wops_cons, dops_cons, dops_if, dstOf, -st_eq, -ld_eq, -Nat.not_lt, -W_condK, W_cond_t, W_cond_f, -W_region]
            refine W_cut (fun o s => ∃ tm g, o = .code .normal ⟨tm, 134, [], false⟩ ∧ tm.get 0 = some (.slice (some ⟨i, pre.length, none⟩) n0 cap) ∧ tm.get 1 = some (.int .i64 (a' : Nat)) ∧ tm.get 2 = some (.int .i64 (b' : Nat)) ∧ tm.get 3 = some (.int .i64 (l2 : Nat)) ∧ tm.get 8 = some (.bool wb) ∧ tm.get 9 = some (.bool wp) ∧ tm.get 10 = some (.int .i64 (len : Nat)) ∧ tm.get 11 = some (.int .i64 (p : Nat)) ∧ tm.get 68 = some (.bool g) ∧ s = σ4) ?_ ?_
            · cases wb with
              | false =>
                simp [wops_cons, dops_cons, dops_if, dstOf, -st_eq, -ld_eq, -Nat.not_lt, wops_if', e0, e1, e2, e3, e8, e9, e10, e11, e12]
              | true =>
                cases wp with
                | false => simp [wops_cons, dops_cons, dops_if, dstOf, -st_eq, -ld_eq, -Nat.not_lt, wops_if', e0, e1, e2, e3, e8, e9, e10, e11, e12]
                | true => simp [wops_cons, dops_cons, dops_if, dstOf, -st_eq, -ld_eq, -Nat.not_lt, wops_if', e0, e1, e2, e3, e8, e9, e10, e11, e12]; omega
            · clear e0 e1 e2 e3 e8 e9 e10 e11 e12
              rintro o s ⟨tm, g, rfl, e0, e1, e2, e3, e8, e9, e10, e11, e68, hs⟩
              rw [hs]
              clear hs s
              simp [wops_cons, dops_cons, dops_if, dstOf, -st_eq, -ld_eq, -Nat.not_lt, -W_condK, W_cond_t, W_cond_f, -W_region]
              refine W_cut (fun o s => (o = .code .ret ⟨.nil, 134, [], false⟩ ∧ False) ∨ (∃ tm, o = .code .ret ⟨tm, 134, [], false⟩ ∧ Q (.ret (.tuple #[]) false) s) ∨ ∃ tm d', o = .code .normal ⟨tm, 134, [], false⟩ ∧ tm.get 0 = some (.slice (some ⟨i, pre.length, none⟩) n0 cap) ∧ tm.get 1 = some (.int .i64 (a' : Nat)) ∧ tm.get 2 = some (.int .i64 (b' : Nat)) ∧ tm.get 3 = some (.int .i64 (l2 : Nat)) ∧ tm.get 8 = some (.bool wb) ∧ tm.get 9 = some (.bool wp) ∧ tm.get 10 = some (.int .i64 (len : Nat)) ∧ tm.get 11 = some (.int .i64 (p : Nat)) ∧ Left a b d n0 a' b' d' ∧ SV s i pre post d' ∧ But i σ s) ?_ ?_
              · cases g with
                | false =>
                  simp [wops_cons, dops_cons, dops_if, dstOf, -st_eq, -ld_eq, -Nat.not_lt, e0, e1, e2, e3, e8, e9, e10, e11, e68]
                  exact ⟨d4, hL, hv4, hg4⟩
                | true =>
                  simp [wops_cons, dops_cons, dops_if, dstOf, -st_eq, -ld_eq, -Nat.not_lt, e0, e1, e2, e3, e8, e9, e10, e11, e68]
                  refine partIns_s n0 d4 hL.sz i cap pre post a' b' σ4 hv4 hbn hbig hab2 _ fun σ5 hv5 hg5 => ?_
                  obtain ⟨f1, f2⟩ := Sort.partialInsertionSort_holds (lt := klt) swo_klt d4 a' b' hab2 (by rw [hL.sz]; exact hbn) hL.bel
                  generalize (Sort.partialInsertionSort klt d4 a' b').1 = d5 at f1 f2 hv5
                  generalize (Sort.partialInsertionSort klt d4 a' b').2 = r5 at f2
                  cases r5 with
                  | true =>
                    obtain ⟨f3, f4⟩ := hL.fin _ f1 (f2 rfl)
                    simp [wops_cons, dops_cons, dops_if, dstOf, -st_eq, -ld_eq, -Nat.not_lt, e0, e1, e2, e3, e8, e9, e10, e11, e68]
                    exact h σ5 d5 f3 f4 hv5 (hg4.trans hg5)
                  | false =>
                    simp [wops_cons, dops_cons, dops_if, dstOf, -st_eq, -ld_eq, -Nat.not_lt, e0, e1, e2, e3, e8, e9, e10, e11, e68]
                    exact ⟨d5, hL.perm f1, hv5, hg4.trans hg5⟩
              · clear e0 e1 e2 e3 e8 e9 e10 e11 e68 hL hv4 hg4
                rintro o σ5 (⟨rfl, h0⟩ | ⟨tm, rfl, hq⟩ | ⟨tm, d5, rfl, e0, e1, e2, e3, e8, e9, e10, e11, hL, hv5, hg5⟩)
                · exact h0.elim
                · simp [wops_cons, dops_cons, dops_if, dstOf, -st_eq, -ld_eq, -Nat.not_lt]
                  exact hq
                have hpn : p < n0 := by omega
                simp [wops_cons, dops_cons, dops_if, dstOf, -st_eq, -ld_eq, -Nat.not_lt, -W_condK, W_cond_t, W_cond_f, -W_region]
                refine W_cut (fun o s => ∃ tm g, o = .code .normal ⟨tm, 134, [], false⟩ ∧ tm.get 0 = some (.slice (some ⟨i, pre.length, none⟩) n0 cap) ∧ tm.get 1 = some (.int .i64 (a' : Nat)) ∧ tm.get 2 = some (.int .i64 (b' : Nat)) ∧ tm.get 3 = some (.int .i64 (l2 : Nat)) ∧ tm.get 8 = some (.bool wb) ∧ tm.get 9 = some (.bool wp) ∧ tm.get 10 = some (.int .i64 (len : Nat)) ∧ tm.get 11 = some (.int .i64 (p : Nat)) ∧ tm.get 87 = some (.bool g) ∧ (g = true → 0 < a' ∧ klt (aget d5 (a' - 1)) (aget d5 p) = false) ∧ s = σ5) ?_ ?_
                · refine W_calm (by kernel_rfl) ?_
                  have hgi := hv5.1
                  have hsz5 := hL.sz
                  by_cases ha0 : 0 < a'
                  · have ha0' : (0 : Int) < a' := by omega
                    have han : a' - 1 < n0 := by omega
                    have hwa := i64p a' ha0 (by omega)
                    have hra := rowS_get (pre := pre) (post := post) (d := d5) (j := a' - 1) (by omega)
                    have hrp := rowS_get (pre := pre) (post := post) (d := d5) (j := p) (by omega)
                    simp [wops_cons, dops_cons, dops_if, dstOf, -st_eq, -ld_eq, -Nat.not_lt, e0, e1, e2, e3, e8, e9, e10, e11, ha0, ha0', hwa, han, hpn, hgi, hra, hrp]
                    refine less_s _ _ _ _ ?_
                    cases hl : klt (aget d5 (a' - 1)) (aget d5 p)
                    · simp [wops_cons, dops_cons, dops_if, dstOf, -st_eq, -ld_eq, -Nat.not_lt, e0, e1, e2, e3, e8, e9, e10, e11, hl, ha0]
                    · simp [wops_cons, dops_cons, dops_if, dstOf, -st_eq, -ld_eq, -Nat.not_lt, e0, e1, e2, e3, e8, e9, e10, e11, hl, ha0]
                  · have ha0' : ¬ (0 : Int) < a' := by omega
                    simp [wops_cons, dops_cons, dops_if, dstOf, -st_eq, -ld_eq, -Nat.not_lt, e0, e1, e2, e3, e8, e9, e10, e11, ha0, ha0']
                · clear e0 e1 e2 e3 e8 e9 e10 e11
                  rintro o s ⟨tm, g, rfl, e0, e1, e2, e3, e8, e9, e10, e11, e87, hg, hs⟩
                  rw [hs]
                  clear hs s
                  cases g with
                  | true =>
                    obtain ⟨ha0, hnl⟩ := hg rfl
                    simp [wops_cons, dops_cons, dops_if, dstOf, -st_eq, -ld_eq, -Nat.not_lt, e0, e1, e2, e3, e8, e9, e10, e11, e87]
                    refine partEq_s n0 d5 hL.sz i cap pre post a' b' p σ5 hv5 hbn hbig hab2 hp1 _ fun σ6 hv6 hg6 => ?_
                    have hre := Sort.round_eq (lt := klt) (d4 := (Sort.partitionEqual klt d5 a' b' p).2) (mid := (Sort.partitionEqual klt d5 a' b' p).1) swo_klt (Sort.partitionEqual_holds klt) ha0 hp0 hp1 (by rw [hL.sz]; exact hbn) hL.bel hnl rfl
                    generalize (Sort.partitionEqual klt d5 a' b' p).2 = d6 at hre hv6
                    generalize (Sort.partitionEqual klt d5 a' b' p).1 = mid at hre
                    obtain ⟨k1, k2, k3, k4, k5⟩ := hre
                    simp [wops_cons, dops_cons, dops_if, dstOf, -st_eq, -ld_eq, -Nat.not_lt, e0, e1, e2, e3, e8, e9, e10, e11]
                    exact ⟨b' - mid, by omega, mid, rfl, b', rfl, l2, rfl, by omega, rfl, hl2, d6, ⟨k2, hbn, by rw [k3]; exact hL.sz, k4, fun R r1 r2 => hL.fin R (k5 R r1 r2).1 (k5 R r1 r2).2⟩, hv6, hg5.trans hg6⟩
                  | false =>
                    simp [wops_cons, dops_cons, dops_if, dstOf, -st_eq, -ld_eq, -Nat.not_lt, e0, e1, e2, e3, e8, e9, e10, e11, e87]
                    refine part_s n0 d5 hL.sz i cap pre post a' b' p σ5 hv5 hbn hbig hab2 hp1 _ fun σ6 hv6 hg6 => ?_
                    have hre := Sort.round_part (lt := klt) (d4 := (Sort.partition klt d5 a' b' p).2.2) (mid := (Sort.partition klt d5 a' b' p).1) (ap := (Sort.partition klt d5 a' b' p).2.1) swo_klt (Sort.partition_holds klt) hp0 hp1 (by rw [hL.sz]; exact hbn) hL.bel rfl
                    generalize (Sort.partition klt d5 a' b' p).2.2 = d6 at hre hv6
                    generalize (Sort.partition klt d5 a' b' p).2.1 = al at hre ⊢
                    generalize (Sort.partition klt d5 a' b' p).1 = mid at hre
                    obtain ⟨k1, k2, k3, k4, k5, k6, k7⟩ := hre
                    have hw5 : IntKind.i64.wrap ((mid : Int) - a') = ((mid - a' : Nat) : Int) := by rw [IntWalk.i64_in _ (by omega)]; omega
                    have hw6 : IntKind.i64.wrap ((b' : Int) - mid) = ((b' - mid : Nat) : Int) := by rw [IntWalk.i64_in _ (by omega)]; omega
                    have hw7 : IntKind.i64.wrap ((len : Int) / 8) = ((len / 8 : Nat) : Int) := by rw [IntWalk.i64_in _ (by omega)]; omega
                    obtain ⟨mid1, hm1⟩ : ∃ mid1, mid1 = mid + 1 := ⟨_, rfl⟩
                    have hw8 : IntKind.i64.wrap ((mid : Int) + 1) = (mid1 : Int) := by rw [i64n1 mid (by omega), hm1]
                    have hsz6 : d6.size = n0 := by rw [k3]; exact hL.sz
                    rw [← hm1] at k5 k6 k7
                    obtain ⟨th, hth⟩ : ∃ th, th = len / 8 := ⟨_, rfl⟩
                    rw [← hth] at hw7
                    by_cases hlr : mid - a' < b' - mid
                    · have hlr' : ((mid - a' : Nat) : Int) < ((b' - mid : Nat) : Int) := by omega
                      simp [wops_cons, dops_cons, dops_if, dstOf, -st_eq, -ld_eq, -Nat.not_lt, e0, e1, e2, e3, e8, e9, e10, e11, hw5, hw6, hw7, hlr, hlr']
                      refine IH (mid - a') (by omega) a' mid l2 d6 σ6 _ (Nat.le_refl _) hsz6 hv6 k1 (by omega) hl2 k4 fun σ7 d7 hp7 hs7 hv7 hg7 => ?_
                      obtain ⟨j1, j2⟩ := k6 d7 hp7 hs7
                      simp [wops_cons, dops_cons, dops_if, dstOf, -st_eq, -ld_eq, -Nat.not_lt, e0, e1, e2, e3, e8, e9, e10, e11, hw8]
                      exact ⟨b' - mid1, by omega, mid1, rfl, b', rfl, l2, rfl, by omega, by omega, rfl, hl2, d7, ⟨by omega, hbn, by rw [hp7.1]; exact hsz6, j1, fun R r1 r2 => hL.fin R (j2 R r1 r2).1 (j2 R r1 r2).2⟩, hv7, (hg5.trans hg6).trans hg7⟩
                    · have hlr' : ¬ ((mid - a' : Nat) : Int) < ((b' - mid : Nat) : Int) := by omega
                      simp [wops_cons, dops_cons, dops_if, dstOf, -st_eq, -ld_eq, -Nat.not_lt, e0, e1, e2, e3, e8, e9, e10, e11, hw5, hw6, hw7, hlr, hlr', hw8]
                      refine IH (b' - mid1) (by omega) mid1 b' l2 d6 σ6 _ (Nat.le_refl _) hsz6 hv6 (by omega) hbn hl2 k5 fun σ7 d7 hp7 hs7 hv7 hg7 => ?_
                      obtain ⟨j1, j2⟩ := k7 d7 hp7 hs7
                      simp [wops_cons, dops_cons, dops_if, dstOf, -st_eq, -ld_eq, -Nat.not_lt, e0, e1, e2, e3, e8, e9, e10, e11]
                      exact ⟨mid - a', by omega, a', rfl, mid, rfl, l2, rfl, by omega, by omega, rfl, hl2, d7, ⟨k1, by omega, by rw [hp7.1]; exact hsz6, j1, fun R r1 r2 => hL.fin R (j2 R r1 r2).1 (j2 R r1 r2).2⟩, hv7, (hg5.trans hg6).trans hg7⟩
  · refine ⟨_, a, b, l, true, true, d, rfl, ?_⟩
    simp
    exact ⟨by omega, hl40, ⟨hab, hb, hn0, hbel, fun R h1 h2 => ⟨h1, h2⟩⟩, hv, But.refl i σ⟩
end Go.Sm.Str
/- Sorting strings: slices.Sort. -/
set_option linter.unusedVariables false
set_option linter.unusedSimpArgs false
namespace Go.Sm.Str
open Go Go.Proofs Go.Sm
set_option maxRecDepth 100000
set_option maxHeartbeats 4000000
theorem permIn_all_list {d d' : Array ByteArray} (h : Sort.PermIn 0 d.size d d') : d'.toList.Perm d.toList := by
  have h1 := h.2.2
  have e1 : d.extract 0 d.size = d := by simp
  have e2 : d'.extract 0 d.size = d' := by rw [← h.1]; simp
  rwa [e1, e2] at h1
theorem sortedIn_all {d' : Array ByteArray} (h : Sort.SortedIn klt 0 d'.size d') : d'.toList.Pairwise fun x y => klt y x = false := by
  rw [List.pairwise_iff_getElem]
  intro i j hi hj hij
  have := h i j (Nat.zero_le _) hij (by simpa using hj)
  rw [getElem!_pos d' i (by simpa using hi), getElem!_pos d' j (by simpa using hj)] at this
  simpa using this
theorem But.growB {b i : Nat} {σ σ' : CSt} (h : But i σ σ') (hi : b ≤ i) (hb : b ≤ σ.n) : GrowB b σ σ' := ⟨h.1, fun j hj => h.2 j (by omega) (by omega)⟩
theorem sort_own (b : Nat) (l : List ByteArray) (v : Value) (σ : CSt) (hb : b ≤ σ.n) (hown : Own b σ 9 encS v l) (hbig : l.length < 2 ^ 38) (Q : Out → CSt → Prop)
    (h : ∀ (l' : List ByteArray) (σ' : CSt), l'.Perm l → (l'.Pairwise fun x y => klt y x = false) → Own b σ' 9 encS v l' → GrowB b σ σ' → Q (.ret (.tuple #[]) false) σ') :
    W E1 (.fn 42 #[v] none) σ Q := by
  rw [W_fn (fn := Tryz.f42) Tryz.func42 rfl rfl rfl]
  rcases hown with ⟨rfl, rfl⟩ | ⟨i, cap, rfl, hbi, hin, hg, hcap⟩
  · have fin := h [] σ (List.Perm.refl _) List.Pairwise.nil Own.nil (GrowB.refl b σ)
    have hw : IntKind.u64.wrap 0 = 0 := by decide
    have hl : Sort.bitsLen 0 = 0 := rfl
    have hw0 : IntKind.i64.wrap 0 = 0 := by decide
    have hwo : IntKind.i64.wrap 1 = 1 := by decide
    simp [wops_cons, hw]
    refine len_spec 0 (by omega) _ _ ?_
    simp [wops_cons, hl]
    rw [W_fn (fn := Tryz.f65) Tryz.func65 rfl rfl rfl]
    simp [wops_cons]
    rw [W_loop]
    simp [wops_cons, hw0]
    rw [W_fn (fn := Tryz.f80) Tryz.func80 rfl rfl rfl]
    simp [wops_cons]
    rw [W_loop]
    simpa [wops_cons, hwo] using fin
  · have hw : IntKind.u64.wrap (l.length : Int) = l.length := IntWalk.u64_in _ (by omega)
    have hbl : Sort.bitsLen l.length < 2 ^ 40 := by
      have := (Sort.bitsLen_le_iff l.length 40).2 (by omega)
      omega
    have hd : l.toArray.size = l.length := by simp
    have hv : SV σ i [] [] l.toArray := ⟨by simpa [rowD] using hg, hin⟩
    simp [wops_cons, hw]
    refine len_spec l.length (by omega) _ _ ?_
    simp [wops_cons]
    refine pdq_s l.length i cap [] [] (by omega) l.length 0 l.length _ l.toArray σ _ (by omega) hd hv (by omega) (Nat.le_refl _) hbl (.inl rfl) fun σ' d' hp hs hv' hg' => ?_
    simp [wops_cons]
    rw [← hd] at hp hs
    have hsz := hp.1
    rw [← hsz] at hs
    have hlen : d'.toList.length = l.length := by simp [hsz]
    refine h d'.toList σ' (by simpa using permIn_all_list hp) (sortedIn_all hs) (.inr ⟨i, cap, by rw [hlen], hbi, hv'.2, by simpa [rowD] using hv'.1, ?_⟩) (Str.But.growB hg' hbi hb)
    rcases hcap with h1 | ⟨h1, h2⟩
    · exact .inl h1
    · exact .inr ⟨List.eq_nil_of_length_eq_zero (by rw [hlen, h1]; rfl), h2⟩
end Go.Sm.Str
/- PlanBoxes: the walk. -/
set_option linter.unusedVariables false
set_option linter.unusedSimpArgs false
namespace Go.Sm
open Go Go.Proofs
set_option maxRecDepth 100000
set_option maxHeartbeats 4000000
def encN (n : Int) : List Value := [.int .u8 n]
theorem lenN (n : Int) : (encN n).length = 1 := rfl
theorem cell_n {l : List Int} {row : List Value} {off : Nat} (h : (row.drop off).take (l.length * 1) = l.flatMap encN) (k : Nat) (hk : k < l.length) : row[off + k]? = some (.int .u8 l[k]) := by
  have := row_cell (enc := encN) lenN h k 0 hk (by decide)
  rw [Nat.mul_one, Nat.add_zero] at this
  rw [this]
  rfl
/-- A key more. -/
theorem app_s {b : Nat} {s1 : CSt} {l : List ByteArray} {x : ByteArray} {v : Value} (ho : Own b s1 9 Str.encS v l) (hb : b ≤ s1.n) (hl : l.length < 2 ^ 36) :
    ∃ p9 c9 s9, appendOp Tryz.prog (s1.alloc (.cells [.string x] 9 false)) #[82, 82] v (.slice (some ⟨s1.n, 0, none⟩) 1 1) = some (.slice p9 (l.length + 1) c9, s9) ∧ Own b s9 9 Str.encS (.slice p9 (l.length + 1) c9) (l ++ [x]) ∧ GrowB b s1 s9 := by
  have hga : Grow s1 (s1.alloc (.cells (Str.encS x) 9 false)) := (Grow.refl s1).alloc _
  obtain ⟨v9, s9, a1, a2, a3, a4, a5⟩ := append_only (P := Tryz.prog) (ts := #[82, 82]) (e := 9) (sz := 1) (enc := Str.encS) (l := l) (m := [x]) (b := b) ef82 (by simp) Str.lenS Str.cokS rfl (by decide) (by decide) rfl (σ := s1.alloc (.cells (Str.encS x) 9 false))
    (ho.grow hga) (by simp; omega) (Sl.all (l := [x]) (i := s1.n) (cap := 1) (ro := false) Str.lenS (by simp) (by simp) (.inr ⟨by simp, by simp [openCap]⟩)) (by show (_ + 1) * 16 ≤ _; omega) (by omega)
  obtain ⟨p9, c9, rfl⟩ := (a2.sl (sz := 1) Str.lenS).form
  rw [List.length_append] at a1 a2
  exact ⟨p9, c9, s9, a1, a2, (hga.toB hb).trans a3⟩
theorem want_ok {names : List ByteArray} (hs : names.Pairwise fun a b => klt a b = true) (hn : names.length < 100) {L : List Lk} (hk : ∀ x ∈ L, x.sp.ok) : ∀ b ∈ L.flatMap (wantF names), b.ok := by
  intro b hb
  obtain ⟨x, hx, hb⟩ := List.mem_flatMap.1 hb
  have h1 := (below_kidx (x := x.frm) hs).le
  have h2 := upto_le (x := x.to) hs
  have h3 := toIdx_upto names x.to
  obtain ⟨⟨o1, o2⟩, o3, o4⟩ := hk x hx
  have q1 := Int.tmod_nonneg 50 o1
  have q2 := Int.tmod_lt_of_pos x.sp.lo (show (0 : Int) < 50 by decide)
  have q3 := Int.tmod_nonneg 9 o3
  have q4 := Int.tmod_lt_of_pos x.sp.hi (show (0 : Int) < 9 by decide)
  unfold wantF boxF at hb
  split at hb
  · rw [List.mem_singleton] at hb
    subst hb
    show (-1000 < x.sp.lo.tmod 50 ∧ x.sp.lo.tmod 50 < 1000) ∧ (-1000 < (kidx names x.frm : Int) ∧ (kidx names x.frm : Int) < 1000) ∧ (-1000 < x.sp.lo.tmod 50 + x.sp.hi.tmod 9 ∧ x.sp.lo.tmod 50 + x.sp.hi.tmod 9 < 1000) ∧ -1000 < toIdx names x.to ∧ toIdx names x.to < 1000
    omega
  · cases hb
theorem want_le (names : List ByteArray) : ∀ L : List Lk, (L.flatMap (wantF names)).length ≤ L.length
  | [] => by simp
  | x :: L => by
    have ih := want_le names L
    rw [List.flatMap_cons, List.length_append]
    have : (wantF names x).length ≤ 1 := by unfold wantF boxF; split <;> simp
    simp only [List.length_cons]
    omega
def namesOf (ks : List Int) : List ByteArray := ks.map fun k => keyOf (k.tmod 8)
theorem law_PlanBoxes (l : List LL) (ks : List Int) (hok : ∀ x ∈ l, x.ok) (hokn : ∀ k ∈ ks, 0 ≤ k ∧ k < 256) (v u : Value) (σ : CSt) (hn : gnone σ) (hz : 0 < σ.n) (hsl : Sl σ 46 6 encL v l) (hsk : Sl σ 5 1 encN u ks) : W E1 (.fn 12 #[v, u] none) σ isTrueP := by
  rw [W_fn (fn := Tryz.f12) Tryz.func12 rfl rfl rfl]
  obtain ⟨p, c, rfl⟩ := hsl.form
  obtain ⟨p', c', rfl⟩ := hsk.form
  simp [wops_cons]
  rw [awake_spec rfl hn]
  simp [wops_cons]
  by_cases hl : 20 < l.length
  · have hl' : (20 : Int) < l.length := by omega
    have hl3 : ¬ (l.length : Int) ≤ 20 := by omega
    simp [wops_cons, wops_if', dstOf, hl', hl3, isTrueP]
  have hl' : ¬ (20 : Int) < l.length := by omega
  have hl3 : (l.length : Int) ≤ 20 := by omega
  by_cases hm : 20 < ks.length
  · have hm' : (20 : Int) < ks.length := by omega
    have hm3 : ¬ (ks.length : Int) ≤ 20 := by omega
    simp [wops_cons, wops_if', dstOf, hl', hl3, hm', hm3, isTrueP]
  have hm' : ¬ (20 : Int) < ks.length := by omega
  have hm3 : (ks.length : Int) ≤ 20 := by omega
  simp [wops_cons, wops_if', dstOf, hl', hl3, hm', hm3]
  refine W_loop_J (fun n a s => ∃ tm j vo, a = ⟨tm, 139, [], false⟩ ∧ tm.get 0 = some (.slice p l.length c) ∧ tm.get 5 = some vo ∧ tm.get 26 = some (.slice p' ks.length c') ∧ tm.get 27 = some (.int .i64 ks.length) ∧ tm.get 28 = some (.int .i64 (j : Nat)) ∧ j ≤ ks.length ∧ n = ks.length - j ∧ Own σ.n s 9 Str.encS vo (namesOf (ks.take j)) ∧ Grow σ s)
    (fun out s => ∃ tm vo, out = .code (.exit 0) ⟨tm, 139, [], false⟩ ∧ tm.get 0 = some (.slice p l.length c) ∧ tm.get 5 = some vo ∧ Own σ.n s 9 Str.encS vo (namesOf ks) ∧ Grow σ s) ?_ ks.length _ _ ?_ ?_
  · rintro n a s ⟨tm, j, vo, rfl, e0, e5, e26, e27, e28, hj, hnn, hov, gs⟩
    obtain ⟨po, co, rfl⟩ := (hov.sl (sz := 1) Str.lenS).form
    by_cases hjl : j < ks.length
    · obtain ⟨i', off, row, ro, rfl, hg, hin', hrow, hle⟩ := (hsk.grow gs).at hjl
      have hcell := cell_n hrow j hjl
      have hl1 := row_le hle j hjl
      have hw2 := i64n1 j (by omega)
      have hjl' : (j : Int) < ks.length := by omega
      have hkj := hokn _ (List.getElem_mem hjl)
      have htk : namesOf (ks.take (j + 1)) = namesOf (ks.take j) ++ [keyOf ((ks[j]).tmod 8)] := by
        unfold namesOf
        rw [List.take_succ_eq_append_getElem hjl, List.map_append]; rfl
      have hnl : (namesOf (ks.take j)).length = j := by unfold namesOf; rw [List.length_map, List.length_take]; omega
      generalize ks[j] = kj at *
      generalize hB : namesOf (ks.take j) = B at *
      have hge : ∀ (hh : off + j < row.length), row[off + j]'hh = .int .u8 kj := fun hh => by rw [List.getElem?_eq_getElem hh] at hcell; exact Option.some.inj hcell
      simp [wops_cons, e0, e5, e26, e27, e28, hjl, hjl', hg, hge, hcell, hl1]
      refine key_spec kj hkj.1 hkj.2 s _ fun s1 g1 => ?_
      obtain ⟨p9, c9, s9, a1, a2, a3⟩ := app_s (x := keyOf (kj.tmod 8)) (hov.grow g1) (gs.trans g1).n (by omega)
      simp [wops_cons, e0, e5, e26, e27, e28, a1, hw2]
      exact ⟨ks.length - (j + 1), by omega, j + 1, rfl, by omega, rfl, by rw [htk]; exact a2, (gs.trans g1).thenB a3 (Nat.le_refl _)⟩
    · have hjl' : j = ks.length := by omega
      subst hjl'
      rw [List.take_of_length_le (Nat.le_refl _)] at hov
      simp [wops_cons, e0, e5, e26, e27, e28]
      exact ⟨hov, gs⟩
  · refine ⟨_, 0, .slice none 0 0, rfl, ?_⟩
    simp
    exact ⟨Own.nil, Grow.refl _⟩
  · rintro out s ⟨tm, vo, rfl, e0, e5, hov, gs⟩
    obtain ⟨po, co, rfl⟩ := (hov.sl (sz := 1) Str.lenS).form
    have hnl : (namesOf ks).length = ks.length := by unfold namesOf; rw [List.length_map]
    simp [wops_cons, e0, e5]
    refine Str.sort_own σ.n (namesOf ks) _ s gs.n hov (by omega) _ fun l2 s2 hp2 hs2 ho2 g2 => ?_
    have hl2 : l2.length = ks.length := by rw [hp2.length_eq, hnl]
    have gs2 := gs.thenB g2 (Nat.le_refl _)
    simp [wops_cons, e0, e5]
    refine compact_spec σ.n l2 _ s2 ho2 (by omega) _ fun v3 s3 ho3 hb3 => ?_
    have gs3 : Grow σ s3 := ⟨by have := gs2.n; have := hb3.1; omega, fun j hj => by
      rw [hb3.2 j (by have := gs2.n; omega) (fun e => by have := (ho2.z2 e).1; omega)]
      exact gs2.old j hj⟩
    have hul := uniq_le l2
    have hns := uniq_rise hs2
    have hsn3 := ho3.sl (sz := 1) Str.lenS
    generalize uniq l2 = names at *
    obtain ⟨pn, cn, rfl⟩ := hsn3.form
    simp [wops_cons, e0, e5]
    refine table_spec l hok _ s3 (hsl.grow gs3) (by omega) _ fun i v1 v2 s4 htb hoL hap g4 => ?_
    have hml := madeK_le l
    have hmk := madeK_ok hok
    have hsn4 := hsn3.grow g4
    generalize madeK l = L at *
    obtain ⟨pL, cL, rfl⟩ := (hoL.sl (sz := 5) lenK).form
    clear ho3 hb3 ho2 g2 hp2 hs2 hov htb hap
    simp [wops_cons, e0, e5]
    refine W_cut (fun out s' => ∃ tm vw, out = .code (.exit 2) ⟨tm, 139, [], false⟩ ∧ tm.get 5 = some (.slice pn names.length cn) ∧ tm.get 9 = some (.slice pL L.length cL) ∧ tm.get 10 = some vw ∧ Sl s' 33 5 encK (.slice pL L.length cL) (L.map nwK) ∧ Own s4.n s' 68 encX vw (L.flatMap (wantF names)) ∧ Sl s' 9 1 Str.encS (.slice pn names.length cn) names) ?_ ?_
    · rcases hoL with ⟨hL1, hL2⟩ | ⟨i0, capL, hL1, hbL, hinL, hgL, hcapL⟩
      · subst hL2
        rw [W_loop]
        simp [wops_cons, e5]
        cases hL1
        exact ⟨.inl ⟨rfl, rfl⟩, Own.nil, hsn4⟩
      cases hL1
      refine W_loop_J (fun n a s => ∃ tm j vw, a = ⟨tm, 139, [], false⟩ ∧ tm.get 5 = some (.slice pn names.length cn) ∧ tm.get 9 = some (.slice (some ⟨i0, 0, none⟩) L.length cL) ∧ tm.get 10 = some vw ∧ tm.get 47 = some (.slice (some ⟨i0, 0, none⟩) L.length cL) ∧ tm.get 48 = some (.int .i64 L.length) ∧ tm.get 49 = some (.int .i64 (j : Nat)) ∧ j ≤ L.length ∧ n = L.length - j ∧ s.get i0 = some (.cells ((mid nwK L j).flatMap encK) 33 false) ∧ Own s4.n s 68 encX vw ((L.take j).flatMap (wantF names)) ∧ But i0 s4 s)
        (fun out s => ∃ tm vw, out = .code (.exit 2) ⟨tm, 139, [], false⟩ ∧ tm.get 5 = some (.slice pn names.length cn) ∧ tm.get 9 = some (.slice (some ⟨i0, 0, none⟩) L.length cL) ∧ tm.get 10 = some vw ∧ s.get i0 = some (.cells ((L.map nwK).flatMap encK) 33 false) ∧ Own s4.n s 68 encX vw (L.flatMap (wantF names)) ∧ But i0 s4 s) ?_ L.length _ _ ?_ ?_
      · rintro n a s' ⟨tm, j, vw, rfl, e5, e9, e10, e47, e48, e49, hj, hnn, hgi, how, hbt⟩
        by_cases hjl : j < L.length
        · have hwj := i64n1 j (by omega)
          have hjl' : (j : Int) < L.length := by omega
          have hml2 := mid_len nwK L j
          have hjm : j < (mid nwK L j).length := by omega
          have hxj := hmk _ (List.getElem_mem hjl)
          have hmg := mid_get nwK L j hjl
          have hms := mid_set nwK L j hjl
          have hsnN : Sl s' 9 1 Str.encS (.slice pn names.length cn) names := hsn3.grow (But.from_ g4 hbt hbL)
          have htk : (L.take (j + 1)).flatMap (wantF names) = (L.take j).flatMap (wantF names) ++ wantF names L[j] := by
            rw [List.take_succ_eq_append_getElem hjl, List.flatMap_append]; simp
          have hwl := Nat.le_trans (want_le names (L.take j)) (List.length_take_le j L)
          have hwe := want_eq hns L[j]
          have hrl : ((mid nwK L j).flatMap encK).length = L.length * 5 := by rw [enc_length encK lenK, hml2]
          have hrowm : (((mid nwK L j).flatMap encK).drop 0).take ((mid nwK L j).length * 5) = (mid nwK L j).flatMap encK := by rw [List.drop_zero, List.take_of_length_le (by omega)]
          have hcl := fun q hq => row_cell (enc := encK) lenK hrowm j q hjm hq
          simp only [hmg, Nat.zero_add] at hcl
          have hrs := row_span (mid nwK L j) j hjm [] (nwK L[j]).sp
          rw [hmg, show (⟨L[j].owner, L[j].frm, L[j].to, (nwK L[j]).sp⟩ : Lk) = nwK L[j] from rfl, hms, List.append_nil, List.append_nil] at hrs
          have hrowm2 : (((mid nwK L (j + 1)).flatMap encK).drop 0).take ((mid nwK L (j + 1)).length * 5) = (mid nwK L (j + 1)).flatMap encK := by rw [List.drop_zero, List.take_of_length_le (by rw [enc_length encK lenK]; exact Nat.le_refl _)]
          have hrl2 : ((mid nwK L (j + 1)).flatMap encK).length = L.length * 5 := by rw [enc_length encK lenK, mid_len]
          have hjm2 : j < (mid nwK L (j + 1)).length := by rw [mid_len]; exact hjl
          have hcl2 := fun q hq => row_cell (enc := encK) lenK hrowm2 j q hjm2 hq
          have hm2j : (mid nwK L (j + 1))[j] = nwK L[j] := by
            have : (mid nwK L (j + 1))[j]? = some (nwK L[j]) := by
              rw [← hms, List.getElem?_set_self (by omega)]
            rw [List.getElem?_eq_getElem hjm2] at this
            exact Option.some.inj this
          simp only [hm2j, Nat.zero_add] at hcl2
          generalize hx : L[j] = x at *
          obtain ⟨⟨o1, o2⟩, o3, o4⟩ := hxj
          have q1 := Int.tmod_nonneg 50 o1
          have q2 := Int.tmod_lt_of_pos x.sp.lo (show (0 : Int) < 50 by decide)
          have q3 := Int.tmod_nonneg 9 o3
          have q4 := Int.tmod_lt_of_pos x.sp.hi (show (0 : Int) < 9 by decide)
          have hwu : IntKind.u64.wrap (x.sp.lo.tmod 50 + x.sp.hi.tmod 9) = x.sp.lo.tmod 50 + x.sp.hi.tmod 9 := IntWalk.u64_in _ (by omega)
          obtain ⟨row, hrow⟩ : ∃ row, row = (mid nwK L j).flatMap encK := ⟨_, rfl⟩
          obtain ⟨row2, hrow2⟩ : ∃ row2, row2 = (mid nwK L (j + 1)).flatMap encK := ⟨_, rfl⟩
          rw [← hrow] at hgi hrl hrs
          rw [← hrow2] at hrl2 hrs
          simp only [← hrow] at hcl
          simp only [← hrow2] at hcl2
          have r3 : ∀ (hh : j * 5 + 3 < row.length), row[j * 5 + 3]'hh = .int .u64 x.sp.lo := fun hh => by
            have h1 := hcl 3 (by decide)
            rw [List.getElem?_eq_getElem hh] at h1
            exact Option.some.inj h1
          have r4 : ∀ (hh : j * 5 + 4 < row.length), row[j * 5 + 4]'hh = .int .u64 x.sp.hi := fun hh => by
            have h1 := hcl 4 (by decide)
            rw [List.getElem?_eq_getElem hh] at h1
            exact Option.some.inj h1
          have b1 : j * 5 + 3 < row.length := by omega
          have b2 : j * 5 + 4 < row.length := by omega
          have b3 : j * 5 + 5 ≤ row.length := by omega
          have hrs' : row.take (j * 5 + 3) ++ .int .u64 (x.sp.lo.tmod 50) :: .int .u64 (x.sp.lo.tmod 50 + x.sp.hi.tmod 9) :: row.drop (j * 5 + 5) = row2 := hrs
          simp [wops_cons, e5, e9, e10, e47, e48, e49, hjl, hjl', -W_region]
          rw [W_region]
          simp [wops_cons, e5, e9, e10, e47, e48, e49, hjl, hjl', -W_region]
          rw [W_region]
          simp [wops_cons, e5, e9, e10, e47, e48, e49, hjl, hjl', -W_region]
          refine W_calm (by kernel_rfl) ?_
          simp [dops_cons, wops_cons, e5, e9, e10, e47, e48, e49, hjl, hjl', hgi, r3, r4, b1, b2, b3, hwu, hrs', -W_region]
          have hin1 : i0 < s'.n := Nat.lt_of_lt_of_le hinL hbt.1
          have hb1 : But i0 s4 (s'.put i0 (.cells row2 33 false)) := hbt.putL _
          have hg1 : (s'.put i0 (.cells row2 33 false)).get i0 = some (.cells row2 33 false) := by simp
          have how1 : Own s4.n (s'.put i0 (.cells row2 33 false)) 68 encX vw ((L.take j).flatMap (wantF names)) := how.put hinL _
          have hsn1 : Sl (s'.put i0 (.cells row2 33 false)) 9 1 Str.encS (.slice pn names.length cn) names := hsn3.grow (But.from_ g4 hb1 hbL)
          generalize s'.put i0 (.cells row2 33 false) = s1 at hb1 hg1 how1 hsn1 ⊢
          have r1 : ∀ (hh : j * 5 + 1 < row2.length), row2[j * 5 + 1]'hh = .string x.frm := fun hh => by
            have h1 := hcl2 1 (by decide)
            rw [List.getElem?_eq_getElem hh] at h1
            exact Option.some.inj h1
          have r2 : ∀ (hh : j * 5 + 2 < row2.length), row2[j * 5 + 2]'hh = .string x.to := fun hh => by
            have h1 := hcl2 2 (by decide)
            rw [List.getElem?_eq_getElem hh] at h1
            exact Option.some.inj h1
          have r3' : ∀ (hh : j * 5 + 3 < row2.length), row2[j * 5 + 3]'hh = .int .u64 (nwK x).sp.lo := fun hh => by
            have h1 := hcl2 3 (by decide)
            rw [List.getElem?_eq_getElem hh] at h1
            exact Option.some.inj h1
          have r4' : ∀ (hh : j * 5 + 4 < row2.length), row2[j * 5 + 4]'hh = .int .u64 (nwK x).sp.hi := fun hh => by
            have h1 := hcl2 4 (by decide)
            rw [List.getElem?_eq_getElem hh] at h1
            exact Option.some.inj h1
          have d1 : j * 5 + 1 < row2.length := by omega
          have d2 : j * 5 + 2 < row2.length := by omega
          have d3 : j * 5 + 3 < row2.length := by omega
          have d4 : j * 5 + 4 < row2.length := by omega
          obtain ⟨lo, hlo⟩ : ∃ lo, lo = kidx names x.frm := ⟨_, rfl⟩
          obtain ⟨up, hup⟩ : ∃ up, up = upto names x.to := ⟨_, rfl⟩
          rw [← hlo, ← hup] at hwe
          rw [W_region]
          simp [wops_cons, e5, e9, e10, e47, e48, e49]
          refine W_loop_J (fun n a z => ∃ tm, ∃ k : Nat, a = ⟨tm, 139, [], false⟩ ∧ tm.get 5 = some (.slice pn names.length cn) ∧ tm.get 9 = some (.slice (some ⟨i0, 0, none⟩) L.length cL) ∧ tm.get 10 = some vw ∧ tm.get 11 = some (.int .i64 (j : Nat)) ∧ tm.get 12 = some (.int .i64 (fstI lo up k)) ∧ tm.get 13 = some (.int .i64 (lstI lo up k)) ∧ tm.get 47 = some (.slice (some ⟨i0, 0, none⟩) L.length cL) ∧ tm.get 48 = some (.int .i64 L.length) ∧ tm.get 49 = some (.int .i64 (j : Nat)) ∧ tm.get 79 = some (.slice pn names.length cn) ∧ tm.get 80 = some (.int .i64 names.length) ∧ tm.get 81 = some (.int .i64 (k : Nat)) ∧ k ≤ names.length ∧ n = names.length - k ∧ z = s1)
            (fun out z => ∃ tm, out = .code (.exit 4) ⟨tm, 139, [], false⟩ ∧ tm.get 5 = some (.slice pn names.length cn) ∧ tm.get 9 = some (.slice (some ⟨i0, 0, none⟩) L.length cL) ∧ tm.get 10 = some vw ∧ tm.get 11 = some (.int .i64 (j : Nat)) ∧ tm.get 12 = some (.int .i64 (fstI lo up names.length)) ∧ tm.get 13 = some (.int .i64 (lstI lo up names.length)) ∧ tm.get 47 = some (.slice (some ⟨i0, 0, none⟩) L.length cL) ∧ tm.get 48 = some (.int .i64 L.length) ∧ tm.get 49 = some (.int .i64 (j : Nat)) ∧ z = s1) ?_ names.length _ _ ?_ ?_
          · rintro n3 a3 z ⟨tm3, k, rfl, f5, f9, f10, f11, f12, f13, f47, f48, f49, f79, f80, f81, hk, hnn3, rfl⟩
            by_cases hkl : k < names.length
            · obtain ⟨ix, offx, rowx, rox, rfl, hgx, hinx, hrowx, hlex⟩ := hsn1.at hkl
              have hcx := cell_s hrowx k hkl
              have hlx := row_le hlex k hkl
              have hwk := i64n1 k (by omega)
              have hkl' : (k : Int) < names.length := by omega
              have i1 := kidx_iff (x := x.frm) hns k hkl
              have i2 := upto_iff (x := x.to) hns k hkl
              rw [← hlo] at i1
              rw [← hup] at i2
              have hfs := fst_step (lo := lo) (up := up) (k := k)
              have hls := lst_step (lo := lo) (up := up) (k := k)
              generalize names[k] = y at *
              have hkb : (klt y x.to || y.toList == x.to.toList) = !klt x.to y := kle_eq _ _
              have hgx2 : ∀ (hh : offx + k < rowx.length), rowx[offx + k]'hh = .string y := fun hh => by rw [List.getElem?_eq_getElem hh] at hcx; exact Option.some.inj hcx
              have hlx2 : offx + k < rowx.length := by omega
              cases hA : klt y x.frm with
              | true =>
                have hn1 : ¬ (lo ≤ k ∧ k < up) := fun h => by rw [i1.2 h.1] at hA; cases hA
                rw [if_neg hn1] at hfs hls
                simp [wops_cons, wops_if', dstOf, f5, f9, f10, f11, f12, f13, f47, f48, f49, f79, f80, f81, hkl, hkl', hgx, hgx2, hcx, hlx, hlx2, hg1, hjl, hjl', r1, d1, hA, hwk]
                exact ⟨names.length - (k + 1), by omega, k + 1, hfs.symm, hls.symm, by omega, by omega, rfl⟩
              | false =>
                cases hB : klt x.to y with
                | true =>
                  have hn1 : ¬ (lo ≤ k ∧ k < up) := fun h => by rw [i2.2 h.2] at hB; cases hB
                  rw [if_neg hn1] at hfs hls
                  rw [hB] at hkb
                  simp [wops_cons, wops_if', dstOf, f5, f9, f10, f11, f12, f13, f47, f48, f49, f79, f80, f81, hkl, hkl', hgx, hgx2, hcx, hlx, hlx2, hg1, hjl, hjl', r1, r2, d1, d2, hA, hkb, hwk]
                  exact ⟨names.length - (k + 1), by omega, k + 1, hfs.symm, hls.symm, by omega, by omega, rfl⟩
                | false =>
                  have hn1 : lo ≤ k ∧ k < up := ⟨i1.1 hA, i2.1 hB⟩
                  rw [if_pos hn1] at hfs hls
                  rw [hB] at hkb
                  by_cases hF : fstI lo up k < 0
                  · rw [if_pos hF] at hfs
                    simp [wops_cons, wops_if', dstOf, f5, f9, f10, f11, f12, f13, f47, f48, f49, f79, f80, f81, hkl, hkl', hgx, hgx2, hcx, hlx, hlx2, hg1, hjl, hjl', r1, r2, d1, d2, hA, hkb, hwk, hF]
                    exact ⟨names.length - (k + 1), by omega, k + 1, hfs.symm, hls.symm, by omega, by omega, rfl⟩
                  · rw [if_neg hF] at hfs
                    simp [wops_cons, wops_if', dstOf, f5, f9, f10, f11, f12, f13, f47, f48, f49, f79, f80, f81, hkl, hkl', hgx, hgx2, hcx, hlx, hlx2, hg1, hjl, hjl', r1, r2, d1, d2, hA, hkb, hwk, hF]
                    exact ⟨names.length - (k + 1), by omega, k + 1, hfs.symm, hls.symm, by omega, by omega, rfl⟩
            · have hkl' : k = names.length := by omega
              subst hkl'
              simp [wops_cons, f5, f9, f10, f11, f12, f13, f47, f48, f49, f79, f80, f81]
          · refine ⟨_, 0, rfl, ?_⟩
            simp [e5, e9, e10, e47, e48, e49]
            exact ⟨by unfold fstI; rw [if_neg (by omega)], by unfold lstI; rw [if_neg (by omega)]⟩
          · rintro out z ⟨tm3, rfl, f5, f9, f10, f11, f12, f13, f47, f48, f49, rfl⟩
            obtain ⟨pw, cw, rfl⟩ := (how1.sl (sz := 2) lenX).form
            by_cases hF : 0 ≤ fstI lo up names.length
            · rw [if_pos hF] at hwe
              obtain ⟨p9, c9, s9, a1, a2, a3, a4⟩ := app_bx (x := ⟨(nwK x).sp.lo, fstI lo up names.length, (nwK x).sp.hi, lstI lo up names.length⟩) how1 hb1.1 (by omega)
              simp [encX, -List.length_flatMap] at a1
              have hi9 : s9.get i0 = some (.cells row2 33 false) := by
                rw [a4.2 i0 hinL]
                exact hg1
              simp [wops_cons, f5, f9, f10, f11, f12, f13, f47, f48, f49, hF, -List.length_flatMap]
              refine W_calm (by kernel_rfl) ?_
              simp [dops_cons, wops_cons, f5, f9, f10, f11, f12, f13, f47, f48, f49, hg1, hjl, hjl', r3', r4', d3, d4, cv71, cplxK, a1, hwj, -List.length_flatMap]
              exact ⟨L.length - (j + 1), by omega, j + 1, rfl, by omega, rfl, by rw [hi9, hrow2], by rw [htk, hwe]; exact a2, ⟨Nat.le_trans hb1.1 a4.1, fun q hq hne => by rw [a4.2 q hq]; exact hb1.2 q hq hne⟩⟩
            · rw [if_neg hF] at hwe
              simp [wops_cons, f5, f9, f10, f11, f12, f13, f47, f48, f49, hF, hwj, -List.length_flatMap]
              exact ⟨L.length - (j + 1), by omega, j + 1, rfl, by omega, rfl, by rw [hg1, hrow2], by rw [htk, hwe, List.append_nil]; exact how1, hb1⟩
        · have hjl' : j = L.length := by omega
          subst hjl'
          rw [mid_all] at hgi
          rw [List.take_of_length_le (Nat.le_refl _)] at how
          simp [wops_cons, e5, e9, e10, e47, e48, e49]
          exact ⟨hgi, how, hbt⟩
      · refine ⟨_, 0, .slice none 0 0, rfl, ?_⟩
        simp [e5]
        exact ⟨hgL, Own.nil, But.refl _ _⟩
      · rintro out s' ⟨tm, vw, rfl, e5, e9, e10, hgi, how, hbt⟩
        simp [e5, e9, e10]
        have hin' : i0 < s'.n := Nat.lt_of_lt_of_le hinL hbt.1
        have hsLw : Sl s' 33 5 encK (.slice (some ⟨i0, 0, none⟩) (L.map nwK).length cL) (L.map nwK) := Sl.all lenK hgi hin' (by
          rcases hcapL with h | ⟨h, h'⟩
          · exact .inl h
          · exact .inr ⟨by rw [h, h']; simp, by rw [h']; simp [openCap]⟩)
        rw [List.length_map] at hsLw
        exact ⟨hsLw, how, hsn3.grow (But.from_ g4 hbt hbL)⟩
    · rintro out s' ⟨tm2, vw, rfl, f5, f9, f10, hsL, how, hsN⟩
      have hwo := want_ok hns (by omega) hmk
      have hwl := want_le names L
      simp [wops_cons, f5, f9, f10]
      refine boxes_spec names hns (L.map nwK) _ _ s' hsN hsL (by omega) (by rw [List.length_map]; omega) _ fun vb s5 hob g5 => ?_
      rw [boxesL_map] at hob
      obtain ⟨pb, cb, rfl⟩ := (hob.sl (sz := 2) lenX).form
      obtain ⟨pw, cw, rfl⟩ := (how.sl (sz := 2) lenX).form
      simp [wops_cons, f5, f9, f10]
      refine equal_bx (L.flatMap (wantF names)) (L.flatMap (wantF names)) _ _ s5 hwo hwo (by simpa using hob.sl lenX) (by simpa using (how.grow g5).sl lenX) (by omega) _ fun s6 g6 => ?_
      simp [wops_cons, isTrueP]
end Go.Sm
/- Single plain arguments. -/
set_option linter.unusedVariables false
set_option linter.unusedSimpArgs false
namespace Go.Sm
open Go Go.WideShapes Go.ChangeShapes
end Go.Sm
/- A byte, as a row of cells. -/
set_option linter.unusedVariables false
set_option linter.unusedSimpArgs false
namespace Go.Sm
open Go Go.Proofs Go.ChangeShapes Go.WideShapes Go.RowKit Go.ChangeAt
theorem okN_of (r : List Value) (h : OkL [.int .u8] r) : ∃ x : Int, (0 ≤ x ∧ x < 256) ∧ r = encN x := by
  match r, h with
  | [a], ⟨⟨n1, ha, h1⟩, _⟩ =>
    subst ha
    simp only [Lit.wf, Bool.and_eq_true, decide_eq_true_eq] at h1
    have e1 : IntKind.u8.min = 0 := rfl
    have e2 : IntKind.u8.max = 255 := rfl
    rw [e1, e2] at h1
    exact ⟨n1, by omega, rfl⟩
end Go.Sm
