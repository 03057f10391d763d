/- ChainApart: the walk. -/
import Derived.Test.YtngpgkbkelcihaaGreatDoorLawBt
set_option linter.unusedVariables false
set_option linter.unusedSimpArgs false
namespace Go.Sm
open Go Go.Proofs
set_option maxRecDepth 100000
set_option maxHeartbeats 4000000
/-- A slice of one's own, whatever lies in it. -/
def Mine (b : Nat) (σ : CSt) (e : TypeId) (sz : Nat) (v : Value) (n : Nat) : Prop :=
  (v = .slice none 0 0 ∧ n = 0) ∨ ∃ i cap row, v = .slice (some ⟨i, 0, none⟩) n cap ∧ b ≤ i ∧ i < σ.n ∧ σ.get i = some (.cells row e false) ∧ row.length = n * sz
theorem Own.mine {α : Type} {b : Nat} {σ : CSt} {e : TypeId} {sz : Nat} {enc : α → List Value} {v : Value} {l : List α} (hsz : ∀ x, (enc x).length = sz) (h : Own b σ e enc v l) : Mine b σ e sz v l.length := by
  rcases h with ⟨h, rfl⟩ | ⟨i, cap, h1, h2, h3, h4, h5⟩
  · exact .inl ⟨h, rfl⟩
  · exact .inr ⟨i, cap, _, h1, h2, h3, h4, enc_length enc hsz l⟩
theorem Mine.form {b : Nat} {σ : CSt} {e : TypeId} {sz : Nat} {v : Value} {n : Nat} (h : Mine b σ e sz v n) : ∃ p c, v = .slice p n c := by
  rcases h with ⟨rfl, rfl⟩ | ⟨i, cap, row, rfl, _⟩
  · exact ⟨_, _, rfl⟩
  · exact ⟨_, _, rfl⟩
theorem Mine.at {b : Nat} {σ : CSt} {e : TypeId} {sz : Nat} {p : Option Addr} {n c : Nat} (h : Mine b σ e sz (.slice p n c) n) (hn : 0 < n) : ∃ i row, p = some ⟨i, 0, none⟩ ∧ b ≤ i ∧ i < σ.n ∧ σ.get i = some (.cells row e false) ∧ row.length = n * sz := by
  rcases h with ⟨h, rfl⟩ | ⟨i, cap, row, h, h1, h2, h3, h4⟩
  · omega
  · cases h; exact ⟨i, row, rfl, h1, h2, h3, h4⟩
theorem Mine.keep {b : Nat} {σ σ' : CSt} {e : TypeId} {sz : Nat} {v : Value} {n : Nat} (h : Mine b σ e sz v n) (hg : Grow σ σ') : Mine b σ' e sz v n := by
  rcases h with h | ⟨i, cap, row, h0, h1, h2, h3, h4⟩
  · exact .inl h
  · exact .inr ⟨i, cap, row, h0, h1, Nat.lt_of_lt_of_le h2 hg.n, hg.get h3 h2, h4⟩
theorem Mine.put {b : Nat} {σ : CSt} {e : TypeId} {sz n c i : Nat} {row : List Value} (h : Mine b σ e sz (.slice (some ⟨i, 0, none⟩) n c) n) (hl : row.length = n * sz) : Mine b (σ.put i (.cells row e false)) e sz (.slice (some ⟨i, 0, none⟩) n c) n := by
  rcases h with ⟨h, _⟩ | ⟨k, cap, row', h0, h1, h2, h3, h4⟩
  · cases h
  · cases h0
    exact .inr ⟨_, _, row, rfl, h1, h2, by simp, hl⟩
theorem Mine.other {b : Nat} {σ : CSt} {e : TypeId} {sz n c i : Nat} {p : Option Addr} (h : Mine b σ e sz (.slice p n c) n) (hi : ∀ k, b ≤ k → p = some ⟨k, 0, none⟩ → k ≠ i) (o : CObj) : Mine b (σ.put i o) e sz (.slice p n c) n := by
  rcases h with h | ⟨k, cap, row', h0, h1, h2, h3, h4⟩
  · exact .inl h
  · cases h0
    have := hi k h1 rfl
    exact .inr ⟨_, _, row', rfl, h1, h2, by rw [CSt.get_put, if_neg this]; exact h3, h4⟩
theorem Sl.growB {α : Type} {k : Nat} {σ σ' : CSt} {e : TypeId} {sz : Nat} {enc : α → List Value} {v : Value} {l : List α} {σ0 : CSt} (h : Sl σ0 e sz enc v l) (h0 : Grow σ0 σ) (hk : σ0.n ≤ k) (hg : GrowB k σ σ') : Sl σ' e sz enc v l :=
  h.grow (h0.thenB hg hk)
theorem law_ChainApart (l : List VV) (hok : ∀ x ∈ l, x.ok) (x : VV) (hx : x.ok) (t : Int) (ht0 : 0 ≤ t) (ht1 : t < 256) (v : Value) (σ : CSt) (hn : gnone σ) (hz : 0 < σ.n) (hsl : Sl σ 34 3 encU v l) : W E1 (.fn 4 #[v, .agg (encU x).toArray, .int .u8 t] none) σ isTrueP := by
  rw [W_fn (fn := Tryz.f4) Tryz.func4 rfl rfl rfl]
  obtain ⟨p, c, rfl⟩ := hsl.form
  have hgr0 : Grow σ (σ.alloc (.cells (encU x) 34 false)) := (Grow.refl σ).alloc _
  have hn0 : gnone (σ.alloc (.cells (encU x) 34 false)) := hgr0.get hn hz
  simp only [encU] at hgr0 hn0
  simp [wops_cons, encU]
  rw [awake_spec rfl hn0]
  simp [wops_cons]
  by_cases hl : 30 < l.length
  · have hl' : (30 : Int) < l.length := by omega
    simp [wops_cons, hl', isTrueP]
  · have hl' : ¬ (30 : Int) < l.length := by omega
    have hwt : IntKind.u64.wrap t = t := IntWalk.u64_in _ (by omega)
    have hml := make_len (l.map verOf)
    rw [List.length_map] at hml
    have hCs := makeL_srt (l.map verOf)
    have hvm := vmake_spec x hx
    simp only [encU] at hvm
    simp [wops_cons, hl']
    refine make_spec l hok _ _ (hsl.grow hgr0) (by omega) _ fun v1 σ1 h1 g1 => ?_
    generalize hC : makeL (l.map verOf) = C at h1 hml hCs
    have hb1 : σ1.get σ.n = some (.cells [.int .u8 x.at_, .int .u8 x.v, .bool x.gone] 34 false) := g1.get (by simp) (by simp)
    have hn1 : σ.n < σ1.n := by have := g1.n; simp at this; omega
    generalize hX : verOf x = X at hvm
    simp [wops_cons]
    refine clone_29 C v1 σ1 h1 (by omega) _ fun v2 σ2 h2 g2 => ?_
    have h2' := h2.sl (sz := 3) (fun _ => rfl)
    have hb2 := g2.get hb1 hn1
    simp [wops_cons, hb2]
    refine hvm σ2 _ fun σ3 g3 => ?_
    simp [wops_cons]
    refine put_spec C hCs v1 X σ3 (h1.grow (g2.trans g3)) (by omega) _ fun v4 σ4 h4 g4 => ?_
    have hdl := put_len C X
    simp [wops_cons, hwt]
    refine purge_spec C hCs v1 t σ4 (h1.grow ((g2.trans g3).trans g4)) (by omega) _ fun v5 σ5 h5 g5 => ?_
    have hcl : (cutL C t).length ≤ C.length := by rw [← want_eq hCs t]; exact want_len C t C.length
    have m4' := h4.mine (sz := 3) (fun _ => rfl)
    have m4 := (h4.mine (sz := 3) (fun _ => rfl)).keep g5
    have m5 := h5.mine (sz := 3) (fun _ => rfl)
    generalize hNa : (putL C X).length = na at m4 m4' hdl
    generalize hNb : (cutL C t).length = nb at m5 hcl
    obtain ⟨p4, c4, rfl⟩ := m4.form
    obtain ⟨p5, c5, rfl⟩ := m5.form
    have hA4 : ∀ i, p4 = some ⟨i, 0, none⟩ → i < σ4.n := by
      rintro i rfl
      rcases m4' with ⟨h, _⟩ | ⟨i', cap, row, h, _, h2, _⟩
      · cases h
      · cases h; exact h2
    have h1A := h1.grow (g2.trans g3)
    have h2A := h2'.grow g3
    have g35 := g4.trans g5
    simp [wops_cons]
    refine W_loop_inv (fun n a σ' => ∃ tm j, a = ⟨tm, 53, [], false⟩ ∧ tm.get 7 = some v1 ∧ tm.get 8 = some v2 ∧ tm.get 9 = some (.slice p4 na c4) ∧ tm.get 10 = some (.slice p5 nb c5) ∧
      tm.get 31 = some (.int .i64 na) ∧ tm.get 32 = some (.int .i64 (j : Nat)) ∧ j ≤ na ∧ n = na - j ∧ Mine σ3.n σ' 29 3 (.slice p4 na c4) na ∧ Mine σ4.n σ' 29 3 (.slice p5 nb c5) nb ∧ GrowB σ3.n σ3 σ') ?_ na _ _ ?_
    · rintro n a σ6 ⟨tm, j, rfl, e7, e8, e9, e10, e31, e32, hj, hn, mA, mB, hgr⟩
      by_cases hjl : j < na
      · obtain ⟨i, row, rfl, hbi, hin, hg, hrl⟩ := mA.at (by omega)
        have hw2 := i64n1 j (by omega)
        have hle : j * 3 + 1 + 1 ≤ row.length := by omega
        simp [wops_cons, e7, e8, e9, e10, e31, e32, hjl, hg, hle, hw2]
        have hi4 := hA4 i rfl
        refine ⟨_, ?_, j + 1, rfl, by omega, rfl, mA.put (by simp; omega), mB.other (fun k hk _ => by omega) _, hgr.put hbi _⟩
        omega
      · have hja : j = na := by omega
        subst hja
        simp [wops_cons, e7, e8, e9, e10, e31, e32]
        refine W_loop_inv (fun n a σ' => ∃ tm j, a = ⟨tm, 53, [], false⟩ ∧ tm.get 7 = some v1 ∧ tm.get 8 = some v2 ∧ tm.get 10 = some (.slice p5 nb c5) ∧
          tm.get 41 = some (.int .i64 nb) ∧ tm.get 42 = some (.int .i64 (j : Nat)) ∧ j ≤ nb ∧ n = nb - j ∧ Mine σ4.n σ' 29 3 (.slice p5 nb c5) nb ∧ GrowB σ3.n σ3 σ') ?_ nb _ _ ?_
        · rintro n a σ7 ⟨tm, j, rfl, e7, e8, e10, e31, e32, hj, hn, mB, hgr⟩
          by_cases hjl : j < nb
          · obtain ⟨i, row, rfl, hbi, hin, hg, hrl⟩ := mB.at (by omega)
            have hw2 := i64n1 j (by omega)
            have hle : j * 3 + 1 + 1 ≤ row.length := by omega
            simp [wops_cons, e7, e8, e10, e31, e32, hjl, hg, hle, hw2]
            have hg4 := g4.n
            refine ⟨_, ?_, j + 1, rfl, by omega, rfl, mB.put (by simp; omega), hgr.put (by omega) _⟩
            omega
          · have hjb : j = nb := by omega
            subst hjb
            have hGr : Grow σ3 σ7 := hgr.toGrow
            simp [wops_cons, e7, e8, e10, e31, e32]
            refine equal_ch C C v1 v2 σ7 (h1A.grow hGr) (h2A.grow hGr) (by omega) _ fun σ8 g8 => ?_
            simp [wops_cons, isTrueP]
        · refine ⟨_, 0, rfl, ?_⟩
          simp [e7, e8, e10]
          exact ⟨mB, hgr⟩
    · refine ⟨_, 0, rfl, ?_⟩
      simp
      exact ⟨m4, m5, g35.toB (Nat.le_refl _)⟩
end Go.Sm
