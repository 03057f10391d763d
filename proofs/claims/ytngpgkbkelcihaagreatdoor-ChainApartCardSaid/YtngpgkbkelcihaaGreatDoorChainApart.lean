/- Part ChainApart of the proof. -/
import Derived.Test.YtngpgkbkelcihaaGreatDoorLawBt
import Derived.Test.YtngpgkbkelcihaaGreatDoorRowB
/- ChainApart: the walk. -/
set_option linter.unusedVariables false
set_option linter.unusedSimpArgs false
namespace Go.Sm
open Go Go.Proofs
set_option maxRecDepth 100000
set_option maxHeartbeats 4000000
/-- A slice of one's own, whatever lies in it. -/
def Mine (b : Nat) (σ : CSt) (e : TypeId) (sz : Nat) (v : Value) (n : Nat) : Prop :=
  (v = .slice none 0 0 ∧ n = 0) ∨ ∃ i cap row, v = .slice (some ⟨i, 0, none⟩) n cap ∧ b ≤ i ∧ i < σ.n ∧ σ.get i = some (.cells row e false) ∧ row.length = n * sz
theorem Own.mine {α : Type} {b : Nat} {σ : CSt} {e : TypeId} {sz : Nat} {enc : α → List Value} {v : Value} {l : List α} (hsz : ∀ x, (enc x).length = sz) (h : Own b σ e enc v l) : Mine b σ e sz v l.length := by
  rcases h with ⟨h, rfl⟩ | ⟨i, cap, h1, h2, h3, h4, h5⟩
  · exact .inl ⟨h, rfl⟩
  · exact .inr ⟨i, cap, _, h1, h2, h3, h4, enc_length enc hsz l⟩
theorem Mine.form {b : Nat} {σ : CSt} {e : TypeId} {sz : Nat} {v : Value} {n : Nat} (h : Mine b σ e sz v n) : ∃ p c, v = .slice p n c := by
  rcases h with ⟨rfl, rfl⟩ | ⟨i, cap, row, rfl, _⟩
  · exact ⟨_, _, rfl⟩
  · exact ⟨_, _, rfl⟩
theorem Mine.at {b : Nat} {σ : CSt} {e : TypeId} {sz : Nat} {p : Option Addr} {n c : Nat} (h : Mine b σ e sz (.slice p n c) n) (hn : 0 < n) : ∃ i row, p = some ⟨i, 0, none⟩ ∧ b ≤ i ∧ i < σ.n ∧ σ.get i = some (.cells row e false) ∧ row.length = n * sz := by
  rcases h with ⟨h, rfl⟩ | ⟨i, cap, row, h, h1, h2, h3, h4⟩
  · omega
  · cases h; exact ⟨i, row, rfl, h1, h2, h3, h4⟩
theorem Mine.keep {b : Nat} {σ σ' : CSt} {e : TypeId} {sz : Nat} {v : Value} {n : Nat} (h : Mine b σ e sz v n) (hg : Grow σ σ') : Mine b σ' e sz v n := by
  rcases h with h | ⟨i, cap, row, h0, h1, h2, h3, h4⟩
  · exact .inl h
  · exact .inr ⟨i, cap, row, h0, h1, Nat.lt_of_lt_of_le h2 hg.n, hg.get h3 h2, h4⟩
theorem Mine.put {b : Nat} {σ : CSt} {e : TypeId} {sz n c i : Nat} {row : List Value} (h : Mine b σ e sz (.slice (some ⟨i, 0, none⟩) n c) n) (hl : row.length = n * sz) : Mine b (σ.put i (.cells row e false)) e sz (.slice (some ⟨i, 0, none⟩) n c) n := by
  rcases h with ⟨h, _⟩ | ⟨k, cap, row', h0, h1, h2, h3, h4⟩
  · cases h
  · cases h0
    exact .inr ⟨_, _, row, rfl, h1, h2, by simp, hl⟩
theorem Mine.other {b : Nat} {σ : CSt} {e : TypeId} {sz n c i : Nat} {p : Option Addr} (h : Mine b σ e sz (.slice p n c) n) (hi : ∀ k, b ≤ k → p = some ⟨k, 0, none⟩ → k ≠ i) (o : CObj) : Mine b (σ.put i o) e sz (.slice p n c) n := by
  rcases h with h | ⟨k, cap, row', h0, h1, h2, h3, h4⟩
  · exact .inl h
  · cases h0
    have := hi k h1 rfl
    exact .inr ⟨_, _, row', rfl, h1, h2, by rw [CSt.get_put, if_neg this]; exact h3, h4⟩
theorem Sl.growB {α : Type} {k : Nat} {σ σ' : CSt} {e : TypeId} {sz : Nat} {enc : α → List Value} {v : Value} {l : List α} {σ0 : CSt} (h : Sl σ0 e sz enc v l) (h0 : Grow σ0 σ) (hk : σ0.n ≤ k) (hg : GrowB k σ σ') : Sl σ' e sz enc v l :=
  h.grow (h0.thenB hg hk)
theorem law_ChainApart (l : List VV) (hok : ∀ x ∈ l, x.ok) (x : VV) (hx : x.ok) (t : Int) (ht0 : 0 ≤ t) (ht1 : t < 256) (v : Value) (σ : CSt) (hn : gnone σ) (hz : 0 < σ.n) (hsl : Sl σ 34 3 encU v l) : W E1 (.fn 4 #[v, .agg (encU x).toArray, .int .u8 t] none) σ isTrueP := by
  rw [W_fn (fn := Tryz.f4) Tryz.func4 rfl rfl rfl]
  obtain ⟨p, c, rfl⟩ := hsl.form
  have hgr0 : Grow σ (σ.alloc (.cells (encU x) 34 false)) := (Grow.refl σ).alloc _
  have hn0 : gnone (σ.alloc (.cells (encU x) 34 false)) := hgr0.get hn hz
  simp only [encU] at hgr0 hn0
  simp [wops_cons, encU]
  rw [awake_spec rfl hn0]
  simp [wops_cons]
  by_cases hl : 30 < l.length
  · have hl' : (30 : Int) < l.length := by omega
    simp [wops_cons, hl', isTrueP]
  · have hl' : ¬ (30 : Int) < l.length := by omega
    have hwt : IntKind.u64.wrap t = t := IntWalk.u64_in _ (by omega)
    have hml := make_len (l.map verOf)
    rw [List.length_map] at hml
    have hCs := makeL_srt (l.map verOf)
    have hvm := vmake_spec x hx
    simp only [encU] at hvm
    simp [wops_cons, hl']
    refine make_spec l hok _ _ (hsl.grow hgr0) (by omega) _ fun v1 σ1 h1 g1 => ?_
    generalize hC : makeL (l.map verOf) = C at h1 hml hCs
    have hb1 : σ1.get σ.n = some (.cells [.int .u8 x.at_, .int .u8 x.v, .bool x.gone] 34 false) := g1.get (by simp) (by simp)
    have hn1 : σ.n < σ1.n := by have := g1.n; simp at this; omega
    generalize hX : verOf x = X at hvm
    simp [wops_cons]
    refine clone_29 C v1 σ1 h1 (by omega) _ fun v2 σ2 h2 g2 => ?_
    have h2' := h2.sl (sz := 3) (fun _ => rfl)
    have hb2 := g2.get hb1 hn1
    simp [wops_cons, hb2]
    refine hvm σ2 _ fun σ3 g3 => ?_
    simp [wops_cons]
    refine put_spec C hCs v1 X σ3 (h1.grow (g2.trans g3)) (by omega) _ fun v4 σ4 h4 g4 => ?_
    have hdl := put_len C X
    simp [wops_cons, hwt]
    refine purge_spec C hCs v1 t σ4 (h1.grow ((g2.trans g3).trans g4)) (by omega) _ fun v5 σ5 h5 g5 => ?_
    have hcl : (cutL C t).length ≤ C.length := by rw [← want_eq hCs t]; exact want_len C t C.length
    have m4' := h4.mine (sz := 3) (fun _ => rfl)
    have m4 := (h4.mine (sz := 3) (fun _ => rfl)).keep g5
    have m5 := h5.mine (sz := 3) (fun _ => rfl)
    generalize hNa : (putL C X).length = na at m4 m4' hdl
    generalize hNb : (cutL C t).length = nb at m5 hcl
    obtain ⟨p4, c4, rfl⟩ := m4.form
    obtain ⟨p5, c5, rfl⟩ := m5.form
    have hA4 : ∀ i, p4 = some ⟨i, 0, none⟩ → i < σ4.n := by
      rintro i rfl
      rcases m4' with ⟨h, _⟩ | ⟨i', cap, row, h, _, h2, _⟩
      · cases h
      · cases h; exact h2
    have h1A := h1.grow (g2.trans g3)
    have h2A := h2'.grow g3
    have g35 := g4.trans g5
    simp [wops_cons]
    refine W_loop_inv (fun n a σ' => ∃ tm j, a = ⟨tm, 53, [], false⟩ ∧ tm.get 7 = some v1 ∧ tm.get 8 = some v2 ∧ tm.get 9 = some (.slice p4 na c4) ∧ tm.get 10 = some (.slice p5 nb c5) ∧
      tm.get 31 = some (.int .i64 na) ∧ tm.get 32 = some (.int .i64 (j : Nat)) ∧ j ≤ na ∧ n = na - j ∧ Mine σ3.n σ' 29 3 (.slice p4 na c4) na ∧ Mine σ4.n σ' 29 3 (.slice p5 nb c5) nb ∧ GrowB σ3.n σ3 σ') ?_ na _ _ ?_
    · rintro n a σ6 ⟨tm, j, rfl, e7, e8, e9, e10, e31, e32, hj, hn, mA, mB, hgr⟩
      by_cases hjl : j < na
      · obtain ⟨i, row, rfl, hbi, hin, hg, hrl⟩ := mA.at (by omega)
        have hw2 := i64n1 j (by omega)
        have hle : j * 3 + 1 + 1 ≤ row.length := by omega
        simp [wops_cons, e7, e8, e9, e10, e31, e32, hjl, hg, hle, hw2]
        have hi4 := hA4 i rfl
        refine ⟨_, ?_, j + 1, rfl, by omega, rfl, mA.put (by simp; omega), mB.other (fun k hk _ => by omega) _, hgr.put hbi _⟩
        omega
      · have hja : j = na := by omega
        subst hja
        simp [wops_cons, e7, e8, e9, e10, e31, e32]
        refine W_loop_inv (fun n a σ' => ∃ tm j, a = ⟨tm, 53, [], false⟩ ∧ tm.get 7 = some v1 ∧ tm.get 8 = some v2 ∧ tm.get 10 = some (.slice p5 nb c5) ∧
          tm.get 41 = some (.int .i64 nb) ∧ tm.get 42 = some (.int .i64 (j : Nat)) ∧ j ≤ nb ∧ n = nb - j ∧ Mine σ4.n σ' 29 3 (.slice p5 nb c5) nb ∧ GrowB σ3.n σ3 σ') ?_ nb _ _ ?_
        · rintro n a σ7 ⟨tm, j, rfl, e7, e8, e10, e31, e32, hj, hn, mB, hgr⟩
          by_cases hjl : j < nb
          · obtain ⟨i, row, rfl, hbi, hin, hg, hrl⟩ := mB.at (by omega)
            have hw2 := i64n1 j (by omega)
            have hle : j * 3 + 1 + 1 ≤ row.length := by omega
            simp [wops_cons, e7, e8, e10, e31, e32, hjl, hg, hle, hw2]
            have hg4 := g4.n
            refine ⟨_, ?_, j + 1, rfl, by omega, rfl, mB.put (by simp; omega), hgr.put (by omega) _⟩
            omega
          · have hjb : j = nb := by omega
            subst hjb
            have hGr : Grow σ3 σ7 := hgr.toGrow
            simp [wops_cons, e7, e8, e10, e31, e32]
            refine equal_ch C C v1 v2 σ7 (h1A.grow hGr) (h2A.grow hGr) (by omega) _ fun σ8 g8 => ?_
            simp [wops_cons, isTrueP]
        · refine ⟨_, 0, rfl, ?_⟩
          simp [e7, e8, e10]
          exact ⟨mB, hgr⟩
    · refine ⟨_, 0, rfl, ?_⟩
      simp
      exact ⟨m4, m5, g35.toB (Nat.le_refl _)⟩
end Go.Sm
/- ChainApart: the row and the card. -/
set_option linter.unusedVariables false
set_option linter.unusedSimpArgs false
namespace Go.Sm
open Go Go.Proofs Go.Proofs.YtngpgkbkelcihaaGreatDoor Go.ChangeShapes Go.WideShapes Go.RowKit Go.ChangeAt
namespace ChainApart
set_option maxRecDepth 100000 in
theorem contract (H : Type) (enc : TypeId × Value → H) (W : World) (base : Nat) (args : Array Value) (ds gs : List (DataW H)) (before : List MemPlace)
    (hval : ∀ (j : Nat) t v, Tryz.f4.params[j]? = some t → args[j]? = some v → Value.okWide Tryz.prog W .any base t v)
    (hW : DataW.Whole enc Tryz.prog Tryz.f4.params.toList Rows.chainApartSpec.vars false W args.toList ds gs before) (hL : laidMetH Tryz.prog Rows.chainApartRow.laid W) :
    Calls Tryz.prog 4 args W fun e W' => ∃ v, e = .returned v ∧ Rows.chainApartSpec.post enc Tryz.prog Tryz.f4 false true false false W args v W' := by
  have hW' := hW
  obtain ⟨p, q, hA0, hV, rfl, hfz, hnd⟩ := hW
  have hA : DataW.TrodAll enc Tryz.prog W 0 (fun _ => true) true Tryz.f4.params.toList args.toList ds p := hA0
  rw [Tryz.params4] at hA hval
  obtain ⟨v0, vs0, d0, ds0, p0, q0, hargs, rfl, rfl, h0, r0⟩ := trodAll_cons hA
  obtain ⟨v1, vs1, d1, ds1, p1, q1, rfl, rfl, rfl, h1, r1⟩ := trodAll_cons r0
  obtain ⟨v2, vs2, d2, ds2, p2, q2, rfl, rfl, rfl, h2, r2⟩ := trodAll_cons r1
  obtain ⟨rfl, rfl, rfl⟩ := trodAll_nil r2
  obtain rfl : args = #[v0, v1, v2] := by cases args; simp_all
  obtain ⟨rfl, rfl⟩ := trodVars_none hV
  obtain ⟨ρ0, hR0⟩ := base_R hL
  obtain ⟨fu0, hf0⟩ := h0
  obtain ⟨ρ1, σ1, a0, l0, hR1, hc1, hle1, hv0, hg1, hok0, hsl0⟩ := open_sl (f := 2) (sz := 3) (enc := encU) hR0 calm0 Tryz.underlying22 (by kernel_rfl) (by kernel_rfl) (fun _ => rfl) okU_of (hval 0 22 v0 rfl rfl) hf0
  obtain ⟨fu1, hf1⟩ := h1
  obtain ⟨x1, hx1, rfl, hfl1⟩ := open_st (f := 2) (enc := encU) (by kernel_rfl) (by kernel_rfl) okU_of (hval 1 34 v1 rfl rfl) hf1
  obtain ⟨fu2, hf2⟩ := h2
  obtain ⟨n2, rfl, hlo2, hhi2⟩ := open_i (k := .u8) Tryz.underlying5 (hval 2 5 v2 rfl rfl) hf2
  have hlo2 : (0 : Int) ≤ n2 := hlo2
  have hhi2 : n2 ≤ 255 := hhi2
  have hn0 := gnone0
  have hz0 : 0 < st0.n := by decide
  have hn1 : gnone σ1 := hg1.get hn0 hz0
  have hz1 : 0 < σ1.n := Nat.lt_of_lt_of_le hz0 hg1.n
  exact law_calls (E := E1) (s := Rows.chainApartSpec) (aa := #[a0, (.agg (encU x1).toArray), (.int .u8 n2)]) good (ext_ok rfl rfl) gam1 laidOut0 (by kernel_rfl) (bt := 4) (by kernel_rfl) Tryz.underlying4 rfl hW' rfl hR1 hc1 (LR.cons hv0 (LR.cons (VR.of_flat hfl1) (LR.cons (.plain _ rfl) (.nil _)))).toArray (law_ChainApart l0 hok0 x1 hx1 n2 hlo2 (by omega) a0 σ1 hn1 hz1 hsl0)
theorem laid_met (os : Os) : laidMet Tryz.prog Rows.chainApartRow.laid ((laidWorld os).forCall (fun _ _ => 0) ⟨#[], #[.slice none 0 0, .agg #[.int .u8 0, .int .u8 0, .bool false], .int .u8 0], []⟩).memory :=
  laidMet_of_run' 8 (by kernel_rfl) (by kernel_rfl)
theorem reads (os : Os) {H : Type} (enc : TypeId × Value → H) : ∃ places, DataW.whole enc Tryz.prog ((laidWorld os).forCall (fun _ _ => 0) ⟨#[], #[.slice none 0 0, .agg #[.int .u8 0, .int .u8 0, .bool false], .int .u8 0], []⟩).memory Tryz.f4.params.toList Rows.chainApartSpec.vars false (#[.slice none 0 0, .agg #[.int .u8 0, .int .u8 0, .bool false], .int .u8 0] : Array Value).toList 8 = some ([.nil, .agg [.lit (.int .u8 0), .lit (.int .u8 0), .lit (.bool false)], .lit (.int .u8 0)], [], places) :=
  ⟨[], by kernel_rfl⟩
set_option maxRecDepth 100000 in
theorem lifted (os : Os) (started : os.Started) (H : Type) (enc : TypeId × Value → H) (F : Stop.Interp) :
    ReturnsInHanded {} Tryz.checked os 4 .any ((OpenSpec.ofChange Rows.chainApartSpec).preRow enc Tryz.prog Tryz.f4 Rows.chainApartRow.domain false Rows.chainApartRow.laid) (((OpenSpec.ofChange Rows.chainApartSpec).at F).post enc Tryz.prog Tryz.f4 false true false false) := by
  obtain ⟨places, hx⟩ := reads os enc
  refine returnsInHanded_of_row (C := Tryz.checked) (s := OpenSpec.ofChange Rows.chainApartSpec) own0 started (by kernel_rfl) Tryz.func4
    (witness_row_at (enc := enc) (C := Tryz.checked) false (laidWorld os) #[.slice none 0 0, .agg #[.int .u8 0, .int .u8 0, .bool false], .int .u8 0] rfl (by kernel_rfl) (by kernel_rfl) (by kernel_rfl)
      (OpenSpec.preRow_of_cond 8 hx (by kernel_rfl) (fun k hk => by cases hk) (by kernel_rfl) (laid_met os))) ?_
  intro W base args ds gs before hval hW _ _ _ hL _ _
  exact contract H enc W base args ds gs before hval hW hL
theorem said : Rows.ChainApartSaid :=
  OpenClaim.holds_of_cond 4 Tryz.f4 rfl rfl rfl rfl rfl rfl rfl ⟨rfl, rfl, rfl, rfl, rfl⟩ rfl rfl rfl rfl rfl (by kernel_rfl) Tryz.func4 (by kernel_rfl)
    (of_decide_eq_true (by kernel_rfl)) (by unfold Func.isWrapper; first | (rw [if_pos (by decide +kernel)]; kernel_rfl) | (rw [if_neg (by decide +kernel)]; exact ⟨rfl, rfl⟩))
    (fun os started H enc _ F => by rw [OpenClaim.pre_eq_preRow]; exact lifted os started H enc F)
theorem plain (f : FuncId) (fn : Func) (hf : Tryz.pinned.checked.prog.funcNamed "selion/selionlaw08.ChainApart" = some f) (hfn : Tryz.pinned.checked.prog.funcs[f]? = some fn) :
    true = Tryz.pinned.checked.prog.looks [] ∧ ∀ (j : Nat) t, fn.params[j]? = some t → Tryz.pinned.checked.prog.wantsStandIn t = false := by
  obtain rfl : f = 4 := Option.some.inj ((show Tryz.prog.funcNamed "selion/selionlaw08.ChainApart" = some 4 by kernel_rfl).symm.trans hf) |>.symm
  obtain rfl : fn = Tryz.f4 := (Option.some.inj (Tryz.func4.symm.trans hfn)).symm
  refine ⟨by kernel_rfl, fun j t ht => ?_⟩
  rw [Tryz.params4] at ht
  have hm : t ∈ [22, 34, 5] := by simpa using Array.mem_of_getElem? ht
  have hall : ([22, 34, 5].all fun u => !Tryz.prog.wantsStandIn u) = true := by kernel_rfl
  exact (show Tryz.prog.wantsStandIn t = false by simpa using List.all_eq_true.1 hall t hm)
theorem card : Rows.ChainApartCardSaid :=
  Claim7.holds_tied_plain_at .later [] _ _ _ _ said (fun _ h => by cases h) (by kernel_rfl) (fun _ h => by cases h) chainApart_row_tie rfl ⟨rfl, rfl⟩ (by kernel_rfl) rfl plain (by kernel_rfl)
end ChainApart
end Go.Sm
namespace Go.Proofs.YtngpgkbkelcihaaGreatDoor
theorem chainApart_proved : Rows.ChainApartCardSaid := Go.Sm.ChainApart.card
end Go.Proofs.YtngpgkbkelcihaaGreatDoor
