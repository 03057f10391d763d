/- Part ChainAt of the proof. -/
import Derived.Test.YtngpgkbkelcihaaGreatDoorLawPuts
import Derived.Test.YtngpgkbkelcihaaGreatDoorRowB
/- ChainAt: the walk. -/
set_option linter.unusedVariables false
set_option linter.unusedSimpArgs false
namespace Go.Sm
open Go Go.Proofs
set_option maxRecDepth 100000
set_option maxHeartbeats 2000000
def zeroV : Ver := ⟨0, ⟨#[]⟩, false⟩
theorem encO_eq (o : Option Ver) : encO o = encV (o.getD zeroV) := by cases o <;> rfl
theorem retV2_eq (o : Option Ver) : retV2 o = .tuple #[.agg (encV (o.getD zeroV)).toArray, .bool o.isSome] := by cases o <;> rfl
theorem atL_snoc (c : List Ver) (v : Ver) (t : Int) : atL (c ++ [v]) t = if v.at_ ≤ t then some v else atL c t := by
  unfold atL
  rw [List.filter_append]
  by_cases h : v.at_ ≤ t <;> simp [h]
theorem take_snoc {α : Type} {l : List α} {k : Nat} (h : k < l.length) : l.take (k + 1) = l.take k ++ [l[k]] := List.take_succ_eq_append_getElem h
theorem plain_len (l : List Ver) (h : ∀ v ∈ l, 0 ≤ v.at_ ∧ v.at_ < 256) : (plainL l).length ≤ l.length := by rw [← make_plain l h]; exact make_len l
theorem plain_srt (l : List Ver) (h : ∀ v ∈ l, 0 ≤ v.at_ ∧ v.at_ < 256) : Srt (plainL l) := by rw [← make_plain l h]; exact makeL_srt l
theorem law_ChainAt (l : List VV) (hok : ∀ x ∈ l, x.ok) (t : Int) (ht0 : 0 ≤ t) (ht1 : t < 65536) (v : Value) (σ : CSt) (hn : gnone σ) (hsl : Sl σ 34 3 encU v l) : W E1 (.fn 5 #[v, .int .u16 t] none) σ isTrueP := by
  rw [W_fn (fn := Tryz.f5) Tryz.func5 rfl rfl rfl]
  obtain ⟨p, c, rfl⟩ := hsl.form
  simp [wops_cons]
  rw [awake_spec rfl hn]
  simp [wops_cons]
  by_cases hl : 40 < l.length
  · have hl' : (40 : Int) < l.length := by omega
    simp [wops_cons, hl', isTrueP]
  · have hl' : ¬ (40 : Int) < l.length := by omega
    have hT0 : 0 ≤ t.tmod 300 := Int.tmod_nonneg 300 ht0
    have hT1 : t.tmod 300 < 300 := Int.tmod_lt_of_pos t (by decide)
    have hwT : IntKind.u64.wrap (t.tmod 300) = t.tmod 300 := IntWalk.u64_in _ (by omega)
    have hsl0 := hsl.grow ((Grow.refl σ).alloc (.cells [.int .u64 0, .string ⟨#[]⟩, .bool false] 29 false))
    simp [wops_cons, hl']
    refine plain_spec l hok _ _ hsl0 (by omega) _ fun v1 σ1 h1 g1 => ?_
    have hpl := plain_len _ (at_ok l hok)
    rw [List.length_map] at hpl
    generalize hC : plainL (l.map verOf) = C at h1 hpl
    have hs1 := h1.sl (sz := 3) (fun _ => rfl)
    obtain ⟨p1, c1, rfl⟩ := hs1.form
    have hw0 := g1.get (i := σ.n) (o := .cells [.int .u64 0, .string ⟨#[]⟩, .bool false] 29 false) (by simp) (by simp)
    have hn1 : σ.n < σ1.n := by have := g1.n; simp at this; omega
    have hgr0 : Grow σ σ1 := ((Grow.refl σ).alloc _).trans g1
    simp [wops_cons]
    refine W_loop_inv (fun n a σ' => ∃ tm j, a = ⟨tm, 48, [], false⟩ ∧ tm.get 0 = some (.slice p l.length c) ∧ tm.get 1 = some (.int .u16 t) ∧ tm.get 5 = some (.pointer (some ⟨σ.n, 0, none⟩)) ∧ tm.get 6 = some (.bool (atL (C.take j) (t.tmod 300)).isSome) ∧ tm.get 17 = some (.slice p1 C.length c1) ∧
      tm.get 18 = some (.int .i64 C.length) ∧ tm.get 19 = some (.int .i64 (j : Nat)) ∧ j ≤ C.length ∧ n = C.length - j ∧ σ'.get σ.n = some (.cells (encO (atL (C.take j) (t.tmod 300))) 29 false) ∧ Own (σ.n + 1) σ' 29 encV (.slice p1 C.length c1) C ∧ Grow σ σ' ∧ σ.n < σ'.n) ?_ C.length _ _ ?_
    · rintro n a σ2 ⟨tm, j, rfl, h0, h1', h5, h6, h17, h18, h19, hj, hn, hlast, hs, hgr, hnn⟩
      by_cases hjl : j < C.length
      · obtain ⟨i, off, row, ro, rfl, hg, hin, hrow, hle⟩ := (hs.sl (sz := 3) (fun _ => rfl)).at hjl
        have hld := row_get (enc := encV) (fun _ => rfl) hrow j hjl
        have hl1 := row_le hle j hjl
        have hw2 := i64n1 j (by omega)
        have hgw : Grow σ2 ((σ2.alloc (.cells [.int .u64 0, .string ⟨#[]⟩, .bool false] 29 false)).put σ2.n (.cells [.int .u64 C[j].at_, .string C[j].val, .bool C[j].gone] 29 false)) := ((Grow.refl σ2).alloc _).put (Nat.le_refl _) _
        have hne : ¬ (σ.n = σ2.n) := by omega
        have hsn := take_snoc hjl
        have hcl : (encO (atL (C.take j) (t.tmod 300))).length = 3 := by rw [encO_eq]; rfl
        simp [wops_cons, h0, h1', h5, h6, h17, h18, h19, hjl, hg, hld, hl1]
        by_cases hat : C[j].at_ ≤ t.tmod 300
        · have hfin : atL (C.take (j + 1)) (t.tmod 300) = some C[j] := by rw [hsn, atL_snoc, if_pos hat]
          simp [wops_cons, encV, h0, h1', h5, h6, h17, h18, h19, hwT, hat, hlast, hne, hw2, hcl]
          refine ⟨_, ?_, j + 1, ?_, rfl, by omega, rfl, ?_, (hs.grow hgw).put (by omega) _, (hgr.trans hgw).put (Nat.le_refl _) _, by omega⟩
          · omega
          · rw [hfin]; rfl
          · rw [hfin, List.drop_of_length_le (by rw [hcl]; exact Nat.le_refl 3)]; rfl
        · have hfin : atL (C.take (j + 1)) (t.tmod 300) = atL (C.take j) (t.tmod 300) := by rw [hsn, atL_snoc, if_neg hat]
          simp [wops_cons, encV, h0, h1', h5, h6, h17, h18, h19, hwT, hat, hw2]
          refine ⟨_, ?_, j + 1, by rw [hfin], rfl, by omega, rfl, ?_, hs.grow hgw, hgr.trans hgw, by omega⟩
          · omega
          · simp [hne, hfin, hlast]
      · have hjl' : j = C.length := by omega
        subst hjl'
        rw [List.take_of_length_le (Nat.le_refl _)] at h6 hlast
        simp [wops_cons, h0, h1', h5, h6, h17, h18, h19]
        refine make_spec l hok _ σ2 (hsl.grow hgr) (by omega) _ fun v3 σ3 h3 g3 => ?_
        rw [make_plain _ (at_ok l hok), hC] at h3
        simp [wops_cons, h1', hwT]
        have hCs : Srt C := by rw [← hC]; exact plain_srt _ (at_ok l hok)
        refine at_spec C hCs v3 (t.tmod 300) σ3 h3 (by omega) _ fun σ4 g4 => ?_
        have hl4 := (g3.trans g4).get hlast hnn
        have hne : ¬ (σ.n = σ4.n) := by have := (g3.trans g4).n; omega
        rw [retV2_eq]
        rw [encO_eq] at hl4
        have hcmp := fun σ x y => (cmp_ver ((atL C (t.tmod 300)).getD zeroV) ((atL C (t.tmod 300)).getD zeroV) σ x y).1
        generalize (atL C (t.tmod 300)).getD zeroV = w at hl4 hcmp
        simp only [encV, decide_true] at hl4 hcmp
        simp [wops_cons, wops_if', dstOf, encV, h5, h6, hl4, hne, hcmp, bin_booleq Tryz.underlying4, isTrueP]
    · refine ⟨_, 0, rfl, ?_⟩
      simp
      exact ⟨rfl, hw0, h1, hgr0, hn1⟩
end Go.Sm
/- ChainAt: the row and the card. -/
set_option linter.unusedVariables false
set_option linter.unusedSimpArgs false
namespace Go.Sm
open Go Go.Proofs Go.Proofs.YtngpgkbkelcihaaGreatDoor Go.ChangeShapes Go.WideShapes Go.RowKit Go.ChangeAt
namespace ChainAt
set_option maxRecDepth 100000 in
theorem contract (H : Type) (enc : TypeId × Value → H) (W : World) (base : Nat) (args : Array Value) (ds gs : List (DataW H)) (before : List MemPlace)
    (hval : ∀ (j : Nat) t v, Tryz.f5.params[j]? = some t → args[j]? = some v → Value.okWide Tryz.prog W .any base t v)
    (hW : DataW.Whole enc Tryz.prog Tryz.f5.params.toList Rows.chainAtSpec.vars false W args.toList ds gs before) (hL : laidMetH Tryz.prog Rows.chainAtRow.laid W) :
    Calls Tryz.prog 5 args W fun e W' => ∃ v, e = .returned v ∧ Rows.chainAtSpec.post enc Tryz.prog Tryz.f5 false true false false W args v W' := by
  have hW' := hW
  obtain ⟨p, q, hA0, hV, rfl, hfz, hnd⟩ := hW
  have hA : DataW.TrodAll enc Tryz.prog W 0 (fun _ => true) true Tryz.f5.params.toList args.toList ds p := hA0
  rw [Tryz.params5] at hA hval
  obtain ⟨v0, vs0, d0, ds0, p0, q0, hargs, rfl, rfl, h0, r0⟩ := trodAll_cons hA
  obtain ⟨v1, vs1, d1, ds1, p1, q1, rfl, rfl, rfl, h1, r1⟩ := trodAll_cons r0
  obtain ⟨rfl, rfl, rfl⟩ := trodAll_nil r1
  obtain rfl : args = #[v0, v1] := by cases args; simp_all
  obtain ⟨rfl, rfl⟩ := trodVars_none hV
  obtain ⟨ρ0, hR0⟩ := base_R hL
  obtain ⟨fu0, hf0⟩ := h0
  obtain ⟨ρ1, σ1, a0, l0, hR1, hc1, hle1, hv0, hg1, hok0, hsl0⟩ := open_sl (f := 2) (sz := 3) (enc := encU) hR0 calm0 Tryz.underlying22 (by kernel_rfl) (by kernel_rfl) (fun _ => rfl) okU_of (hval 0 22 v0 rfl rfl) hf0
  obtain ⟨fu1, hf1⟩ := h1
  obtain ⟨n1, rfl, hlo1, hhi1⟩ := open_i (k := .u16) Tryz.underlying40 (hval 1 40 v1 rfl rfl) hf1
  have hlo1 : (0 : Int) ≤ n1 := hlo1
  have hhi1 : n1 ≤ 65535 := hhi1
  have hn0 := gnone0
  have hn1 : gnone σ1 := hg1.get hn0 (by decide)
  exact law_calls (E := E1) (s := Rows.chainAtSpec) (aa := #[a0, (.int .u16 n1)]) good (ext_ok rfl rfl) gam1 laidOut0 (by kernel_rfl) (bt := 4) (by kernel_rfl) Tryz.underlying4 rfl hW' rfl hR1 hc1 (LR.cons hv0 (LR.cons (.plain _ rfl) (.nil _))).toArray (law_ChainAt l0 hok0 n1 hlo1 (by omega) a0 σ1 hn1 hsl0)
theorem laid_met (os : Os) : laidMet Tryz.prog Rows.chainAtRow.laid ((laidWorld os).forCall (fun _ _ => 0) ⟨#[], #[.slice none 0 0, .int .u16 0], []⟩).memory :=
  laidMet_of_run' 8 (by kernel_rfl) (by kernel_rfl)
theorem reads (os : Os) {H : Type} (enc : TypeId × Value → H) : ∃ places, DataW.whole enc Tryz.prog ((laidWorld os).forCall (fun _ _ => 0) ⟨#[], #[.slice none 0 0, .int .u16 0], []⟩).memory Tryz.f5.params.toList Rows.chainAtSpec.vars false (#[.slice none 0 0, .int .u16 0] : Array Value).toList 8 = some ([.nil, .lit (.int .u16 0)], [], places) :=
  ⟨[], by kernel_rfl⟩
set_option maxRecDepth 100000 in
theorem lifted (os : Os) (started : os.Started) (H : Type) (enc : TypeId × Value → H) (F : Stop.Interp) :
    ReturnsInHanded {} Tryz.checked os 5 .any ((OpenSpec.ofChange Rows.chainAtSpec).preRow enc Tryz.prog Tryz.f5 Rows.chainAtRow.domain false Rows.chainAtRow.laid) (((OpenSpec.ofChange Rows.chainAtSpec).at F).post enc Tryz.prog Tryz.f5 false true false false) := by
  obtain ⟨places, hx⟩ := reads os enc
  refine returnsInHanded_of_row (C := Tryz.checked) (s := OpenSpec.ofChange Rows.chainAtSpec) own0 started (by kernel_rfl) Tryz.func5
    (witness_row_at (enc := enc) (C := Tryz.checked) false (laidWorld os) #[.slice none 0 0, .int .u16 0] rfl (by kernel_rfl) (by kernel_rfl) (by kernel_rfl)
      (OpenSpec.preRow_of_cond 8 hx (by kernel_rfl) (fun k hk => by cases hk) (by kernel_rfl) (laid_met os))) ?_
  intro W base args ds gs before hval hW _ _ _ hL _ _
  exact contract H enc W base args ds gs before hval hW hL
theorem said : Rows.ChainAtSaid :=
  OpenClaim.holds_of_cond 5 Tryz.f5 rfl rfl rfl rfl rfl rfl rfl ⟨rfl, rfl, rfl, rfl, rfl⟩ rfl rfl rfl rfl rfl (by kernel_rfl) Tryz.func5 (by kernel_rfl)
    (of_decide_eq_true (by kernel_rfl)) (by unfold Func.isWrapper; first | (rw [if_pos (by decide +kernel)]; kernel_rfl) | (rw [if_neg (by decide +kernel)]; exact ⟨rfl, rfl⟩))
    (fun os started H enc _ F => by rw [OpenClaim.pre_eq_preRow]; exact lifted os started H enc F)
theorem plain (f : FuncId) (fn : Func) (hf : Tryz.pinned.checked.prog.funcNamed "selion/selionlaw08.ChainAt" = some f) (hfn : Tryz.pinned.checked.prog.funcs[f]? = some fn) :
    true = Tryz.pinned.checked.prog.looks [] ∧ ∀ (j : Nat) t, fn.params[j]? = some t → Tryz.pinned.checked.prog.wantsStandIn t = false := by
  obtain rfl : f = 5 := Option.some.inj ((show Tryz.prog.funcNamed "selion/selionlaw08.ChainAt" = some 5 by kernel_rfl).symm.trans hf) |>.symm
  obtain rfl : fn = Tryz.f5 := (Option.some.inj (Tryz.func5.symm.trans hfn)).symm
  refine ⟨by kernel_rfl, fun j t ht => ?_⟩
  rw [Tryz.params5] at ht
  have hm : t ∈ [22, 40] := by simpa using Array.mem_of_getElem? ht
  have hall : ([22, 40].all fun u => !Tryz.prog.wantsStandIn u) = true := by kernel_rfl
  exact (show Tryz.prog.wantsStandIn t = false by simpa using List.all_eq_true.1 hall t hm)
theorem card : Rows.ChainAtCardSaid :=
  Claim7.holds_tied_plain_at .later [] _ _ _ _ said (fun _ h => by cases h) (by kernel_rfl) (fun _ h => by cases h) chainAt_row_tie rfl ⟨rfl, rfl⟩ (by kernel_rfl) rfl plain (by kernel_rfl)
end ChainAt
end Go.Sm
namespace Go.Proofs.YtngpgkbkelcihaaGreatDoor
theorem chainAt_proved : Rows.ChainAtCardSaid := Go.Sm.ChainAt.card
end Go.Proofs.YtngpgkbkelcihaaGreatDoor
