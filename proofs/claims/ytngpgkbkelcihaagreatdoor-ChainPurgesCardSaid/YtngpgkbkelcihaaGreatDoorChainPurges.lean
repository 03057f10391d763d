/- Part ChainPurges of the proof. -/
import Derived.Test.YtngpgkbkelcihaaGreatDoorLawAt
import Derived.Test.YtngpgkbkelcihaaGreatDoorRowB
/- ChainPurges: the walk. -/
set_option linter.unusedVariables false
set_option linter.unusedSimpArgs false
namespace Go.Sm
open Go Go.Proofs
set_option maxRecDepth 100000
set_option maxHeartbeats 4000000
theorem law_ChainPurges (l : List VV) (hok : ∀ x ∈ l, x.ok) (t : Int) (ht0 : 0 ≤ t) (ht1 : t < 65536) (k : Int) (hk0 : 0 ≤ k) (hk1 : k < 256) (v : Value) (σ : CSt) (hn : gnone σ) (hsl : Sl σ 34 3 encU v l) : W E1 (.fn 6 #[v, .int .u16 t, .int .u8 k] none) σ isTrueP := by
  rw [W_fn (fn := Tryz.f6) Tryz.func6 rfl rfl rfl]
  obtain ⟨p, c, rfl⟩ := hsl.form
  simp [wops_cons]
  rw [awake_spec rfl hn]
  simp [wops_cons]
  by_cases hl : 40 < l.length
  · have hl' : (40 : Int) < l.length := by omega
    simp [wops_cons, hl', isTrueP]
  · have hl' : ¬ (40 : Int) < l.length := by omega
    have hT0 : 0 ≤ t.tmod 300 := Int.tmod_nonneg 300 ht0
    have hT1 : t.tmod 300 < 300 := Int.tmod_lt_of_pos t (by decide)
    have hwT : IntKind.u64.wrap (t.tmod 300) = t.tmod 300 := IntWalk.u64_in _ (by omega)
    generalize hTT : t.tmod 300 = T at hT0 hT1 hwT
    have hwU : IntKind.u64.wrap (T + k) = T + k := IntWalk.u64_in _ (by omega)
    have hwk : IntKind.u64.wrap k = k := IntWalk.u64_in _ (by omega)
    have hpl := plain_len _ (at_ok l hok)
    have hmk := make_plain _ (at_ok l hok)
    have hCs := plain_srt _ (at_ok l hok)
    rw [List.length_map] at hpl
    simp [wops_cons, hl', hTT, hwT]
    refine make_spec l hok _ σ hsl (by omega) _ fun v1 σ1 h1 g1 => ?_
    rw [hmk] at h1
    have hps := fun v σ h => plain_spec l hok v σ h (by omega)
    generalize hC : plainL (l.map verOf) = C at h1 hpl hCs hps
    simp [wops_cons]
    refine purge_spec C hCs v1 T σ1 h1 (by omega) _ fun v2 σ2 h2 g2 => ?_
    have h2' := h2.sl (sz := 3) (fun _ => rfl)
    simp [wops_cons]
    refine hps _ _ (hsl.grow (g1.trans g2)) _ fun v3 σ3 h3 g3 => ?_
    have h3' := h3.sl (sz := 3) (fun _ => rfl)
    obtain ⟨p3, c3, rfl⟩ := h3'.form
    have hg03 : Grow σ σ3 := (g1.trans g2).trans g3
    simp [wops_cons]
    refine W_loop_inv (fun n a σ' => ∃ tm j v', a = ⟨tm, 128, [], false⟩ ∧ tm.get 0 = some (.slice p l.length c) ∧ tm.get 2 = some (.int .u8 k) ∧ tm.get 7 = some (.int .u64 T) ∧ tm.get 8 = some v1 ∧ tm.get 9 = some v2 ∧ tm.get 10 = some v' ∧ tm.get 33 = some (.slice p3 C.length c3) ∧
      tm.get 34 = some (.int .i64 C.length) ∧ tm.get 35 = some (.int .i64 (j : Nat)) ∧ j ≤ C.length ∧ n = C.length - j ∧ Own σ3.n σ' 29 encV v' (wantL C T j) ∧ Grow σ3 σ') ?_ C.length _ _ ?_
    · rintro n a σ4 ⟨tm, j, v4, rfl, e0, e2, e7, e8, e9, e10, e33, e34, e35, hj, hn, hown, hgr⟩
      have hslA := hsl.grow (hg03.trans hgr)
      have h3A := h3'.grow hgr
      by_cases hjl : j < C.length
      · obtain ⟨i, off, row, ro, rfl, hg, hin, hrow, hle⟩ := h3A.at hjl
        have hld := row_get (enc := encV) (fun _ => rfl) hrow j hjl
        have hl1 := row_le hle j hjl
        have hw2 := i64n1 j (by omega)
        have hgw : Grow σ4 ((σ4.alloc (.cells [.int .u64 0, .string ⟨#[]⟩, .bool false] 29 false)).put σ4.n (.cells [.int .u64 C[j].at_, .string C[j].val, .bool C[j].gone] 29 false)) := ((Grow.refl σ4).alloc _).put (Nat.le_refl _) _
        simp [wops_cons, e0, e2, e7, e8, e9, e10, e33, e34, e35, hjl, hg, hld, hl1]
        simp [wops_cons, encV, e0]
        refine hps _ _ (hslA.grow hgw) _ fun v5 σ5 h5 g5 => ?_
        have h5' := h5.sl (sz := 3) (fun _ => rfl)
        have hcell : σ5.get σ4.n = some (.cells [.int .u64 C[j].at_, .string C[j].val, .bool C[j].gone] 29 false) := g5.get (by simp) (by simp)
        have hg45 := hgw.trans g5
        have hn45 : σ4.n < σ5.n := by have := g5.n; simp at this; omega
        obtain ⟨p5, c5, rfl⟩ := h5'.form
        have hsucc := want_succ C T j hjl
        have hcov : ∃ tm' : Nat, tm' = 0 := ⟨0, rfl⟩
        have hkeep : keepB C T j = (decide (T < C[j].at_) || (!((C[j + 1]?.map fun u => decide (u.at_ ≤ T)).getD false) && !C[j].gone)) := by unfold keepB; rw [List.getElem?_eq_getElem hjl]
        have hownA : Own σ3.n σ5 29 encV v4 (wantL C T j) := hown.grow hg45
        have hwl := want_len C T j
        have happ : ∃ v' σ', appendOp Tryz.prog (σ5.alloc (.cells (encV C[j]) 29 false)) #[25, 25] v4 (.slice (some ⟨σ5.n, 0, none⟩) 1 1) = some (v', σ') ∧ Own σ3.n σ' 29 encV v' (wantL C T j ++ [C[j]]) ∧ GrowB σ3.n (σ5.alloc (.cells (encV C[j]) 29 false)) σ' :=
          append_own (P := Tryz.prog) (ts := #[25, 25]) (e := 29) (sz := 3) (enc := encV) (l := wantL C T j) (m := [C[j]]) (b := σ3.n) ef25 (by simp) (fun _ => rfl) (fun _ => rfl) rfl (by decide) (by decide) rfl (hownA.grow ((Grow.refl σ5).alloc _)) (by have := hgr.n; simp; omega)
            (Sl.all (l := [C[j]]) (ro := false) (fun _ => rfl) (by simp) (by simp) (.inr ⟨by simp, by simp [openCap]⟩)) (by simp; omega) (by omega)
        obtain ⟨v6, σ6, he6, hown6, hg6⟩ := happ
        simp only [encV] at he6
        have hg36 : Grow σ3 σ6 := Grow.thenB ((hgr.trans hg45).alloc _) hg6 (Nat.le_refl _)
        have hw3 : IntKind.i64.wrap ((j : Int) + 1) = (j : Int) + 1 := hw2
        by_cases hnx : j + 1 < C.length
        · obtain ⟨i', off', row', ro', he', hg', hin', hrow', hle'⟩ := h5'.at hnx
          cases he'
          have hl1' := row_le hle' (j + 1) hnx
          have hc0' : row'[off' + (j + 1) * 3]? = some (.int .u64 C[j + 1].at_) := row_cell (enc := encV) (fun _ => rfl) hrow' (j + 1) 0 hnx (by omega)
          have hnx' : (j : Int) + 1 < C.length := by omega
          have hj0 : (0 : Int) ≤ (j : Int) + 1 := by omega
          have hjt : ((j : Int) + 1).toNat = j + 1 := by omega
          by_cases hcv : C[j + 1].at_ ≤ T
          · by_cases hat : T < C[j].at_
            · have hb : keepB C T j = true := by rw [hkeep]; simp [hat]
              rw [if_pos hb] at hsucc
              simp [wops_cons, wops_if', dstOf, encV, e0, e2, e7, e8, e9, e10, e33, e34, e35, hw2, hnx', hj0, hjt, hg', hc0', hl1', hcv, hcell, hat]
              rw [he6]
              simp [wops_cons, e0, e2, e7, e8, e9, e10, e33, e34, e35, hw2]
              refine ⟨_, ?_, j + 1, rfl, by omega, rfl, by rw [hsucc]; exact hown6, hg36⟩
              omega
            · cases hgn : C[j].gone with
              | true =>
                have hb : ¬ keepB C T j = true := by rw [hkeep]; simp [hat, hgn, hnx, hcv]
                rw [if_neg hb] at hsucc
                simp [wops_cons, wops_if', dstOf, encV, e0, e2, e7, e8, e9, e10, e33, e34, e35, hw2, hnx', hj0, hjt, hg', hc0', hl1', hcv, hcell, hat, hgn]
                refine ⟨_, ?_, j + 1, rfl, by omega, rfl, by rw [hsucc]; exact hownA, hgr.trans hg45⟩
                omega
              | false =>
                have hb : ¬ keepB C T j = true := by rw [hkeep]; simp [hat, hgn, hnx, hcv]
                rw [if_neg hb] at hsucc
                simp [wops_cons, wops_if', dstOf, encV, e0, e2, e7, e8, e9, e10, e33, e34, e35, hw2, hnx', hj0, hjt, hg', hc0', hl1', hcv, hcell, hat, hgn]
                refine ⟨_, ?_, j + 1, rfl, by omega, rfl, by rw [hsucc]; exact hownA, hgr.trans hg45⟩
                omega
          · by_cases hat : T < C[j].at_
            · have hb : keepB C T j = true := by rw [hkeep]; simp [hat]
              rw [if_pos hb] at hsucc
              simp [wops_cons, wops_if', dstOf, encV, e0, e2, e7, e8, e9, e10, e33, e34, e35, hw2, hnx', hj0, hjt, hg', hc0', hl1', hcv, hcell, hat]
              rw [he6]
              simp [wops_cons, e0, e2, e7, e8, e9, e10, e33, e34, e35, hw2]
              refine ⟨_, ?_, j + 1, rfl, by omega, rfl, by rw [hsucc]; exact hown6, hg36⟩
              omega
            · cases hgn : C[j].gone with
              | true =>
                have hb : ¬ keepB C T j = true := by rw [hkeep]; simp [hat, hgn, hnx, hcv]
                rw [if_neg hb] at hsucc
                simp [wops_cons, wops_if', dstOf, encV, e0, e2, e7, e8, e9, e10, e33, e34, e35, hw2, hnx', hj0, hjt, hg', hc0', hl1', hcv, hcell, hat, hgn]
                refine ⟨_, ?_, j + 1, rfl, by omega, rfl, by rw [hsucc]; exact hownA, hgr.trans hg45⟩
                omega
              | false =>
                have hb : keepB C T j = true := by rw [hkeep]; simp [hat, hgn, hnx, hcv]
                rw [if_pos hb] at hsucc
                simp [wops_cons, wops_if', dstOf, encV, e0, e2, e7, e8, e9, e10, e33, e34, e35, hw2, hnx', hj0, hjt, hg', hc0', hl1', hcv, hcell, hat, hgn]
                rw [hgn] at he6; rw [he6]
                simp [wops_cons, e0, e2, e7, e8, e9, e10, e33, e34, e35, hw2]
                refine ⟨_, ?_, j + 1, rfl, by omega, rfl, by rw [hsucc]; exact hown6, hg36⟩
                omega
        · have hnx' : ¬ (j : Int) + 1 < C.length := by omega
          by_cases hat : T < C[j].at_
          · have hb : keepB C T j = true := by rw [hkeep]; simp [hat]
            rw [if_pos hb] at hsucc
            simp [wops_cons, wops_if', dstOf, encV, e0, e2, e7, e8, e9, e10, e33, e34, e35, hw2, hnx', hcell, hat]
            rw [he6]
            simp [wops_cons, e0, e2, e7, e8, e9, e10, e33, e34, e35, hw2]
            refine ⟨_, ?_, j + 1, rfl, by omega, rfl, by rw [hsucc]; exact hown6, hg36⟩
            omega
          · cases hgn : C[j].gone with
            | true =>
              have hb : ¬ keepB C T j = true := by rw [hkeep]; simp [hat, hgn, hnx]
              rw [if_neg hb] at hsucc
              simp [wops_cons, wops_if', dstOf, encV, e0, e2, e7, e8, e9, e10, e33, e34, e35, hw2, hnx', hcell, hat, hgn]
              refine ⟨_, ?_, j + 1, rfl, by omega, rfl, by rw [hsucc]; exact hownA, hgr.trans hg45⟩
              omega
            | false =>
              have hb : keepB C T j = true := by rw [hkeep]; simp [hat, hgn, hnx]
              rw [if_pos hb] at hsucc
              simp [wops_cons, wops_if', dstOf, encV, e0, e2, e7, e8, e9, e10, e33, e34, e35, hw2, hnx', hcell, hat, hgn]
              rw [hgn] at he6; rw [he6]
              simp [wops_cons, e0, e2, e7, e8, e9, e10, e33, e34, e35, hw2]
              refine ⟨_, ?_, j + 1, rfl, by omega, rfl, by rw [hsucc]; exact hown6, hg36⟩
              omega
      · have hjC : j = C.length := by omega
        subst hjC
        have hwe := want_eq hCs T
        have hn36 : σ3.n ≤ σ4.n := hgr.n
        have h4s : Sl σ4 29 3 encV v4 (cutL C T) := by rw [← hwe]; exact hown.sl (fun _ => rfl)
        have h2A := h2'.grow (g3.trans hgr)
        have h1A := h1.grow ((g2.trans g3).trans hgr)
        have hcl : (cutL C T).length ≤ C.length := by rw [← hwe]; exact want_len C T C.length
        simp [wops_cons, e0, e2, e7, e8, e9, e10, e33, e34, e35]
        refine equal_ch (cutL C T) (cutL C T) v2 v4 σ4 h2A h4s (by omega) _ fun σ5 g5 => ?_
        simp [wops_cons, wops_if', dstOf, e0, e2, e7, e8, e9, e10]
        refine hps _ _ (hslA.grow g5) _ fun v6 σ6 h6 g6 => ?_
        have h6' := h6.sl (sz := 3) (fun _ => rfl)
        simp [wops_cons, wops_if', dstOf, e0, e2, e7, e8, e9, e10]
        refine equal_ch C C v1 v6 σ6 (h1A.grow (g5.trans g6)) h6' (by omega) _ fun σ7 g7 => ?_
        have g47 := (g5.trans g6).trans g7
        simp [wops_cons, wops_if', dstOf, e0, e2, e7, e8, e9, e10, hwk, hwU]
        refine at_spec C hCs v1 (T + k) σ7 (h1A.grow g47) (by omega) _ fun σ8 g8 => ?_
        have hcS : Srt (cutL C T) := by
          obtain ⟨s, hs, _⟩ := cut_start hCs T
          rw [hs]
          exact List.Pairwise.sublist (List.drop_sublist s C) hCs
        rw [retV2_eq]
        simp [wops_cons, encV, wops_if', dstOf, e0, e2, e7, e8, e9, e10, hwk, hwU]
        refine at_spec (cutL C T) hcS v2 (T + k) _ ((h2A.grow (g47.trans g8)).grow (((Grow.refl σ8).alloc _).put (Nat.le_refl _) _)) (by omega) _ fun σ9 g9 => ?_
        have hlaw := purge_law hCs (t := T) (u := T + k) (by omega)
        have hne : ¬ (σ8.n = σ9.n) := by have := g9.n; simp at this; omega
        have hc8 : σ9.get σ8.n = some (.cells [.int .u64 ((atL C (T + k)).getD zeroV).at_, .string ((atL C (T + k)).getD zeroV).val, .bool ((atL C (T + k)).getD zeroV).gone] 29 false) := g9.get (by simp) (by simp)
        rw [retV2_eq]
        simp [wops_cons, encV, wops_if', dstOf, e0, e2, e7, e8, e9, e10, hwk, hwU]
        have hgot : ∀ o : Option Ver, atL C (T + k) = o → ∀ o', atL (cutL C T) (T + k) = o' → (o' = o ∨ (o' = none ∧ ∀ v, o = some v → v.gone = true)) := fun o ho o' ho' => by rw [← ho, ← ho']; exact hlaw
        generalize atL C (T + k) = o at hgot hc8 ⊢
        generalize atL (cutL C T) (T + k) = o' at hgot ⊢
        rcases hgot o rfl o' rfl with rfl | ⟨rfl, hg⟩
        · cases o' with
          | none => simp [wops_cons, wops_if', dstOf, zeroV, hne, hc8, bin_booleq Tryz.underlying4, isTrueP]
          | some w => cases hw : w.gone <;> simp [wops_cons, wops_if', dstOf, hw, hne, hc8, bin_booleq Tryz.underlying4, isTrueP]
        · cases o with
          | none => simp [wops_cons, wops_if', dstOf, zeroV, hne, hc8, bin_booleq Tryz.underlying4, isTrueP]
          | some w =>
            have hw := hg w rfl
            simp [wops_cons, wops_if', dstOf, hw, hne, hc8, bin_booleq Tryz.underlying4, isTrueP]
    · refine ⟨_, 0, .slice none 0 0, rfl, ?_⟩
      simp
      exact ⟨Own.nil, Grow.refl σ3⟩
end Go.Sm
/- ChainPurges: the row and the card. -/
set_option linter.unusedVariables false
set_option linter.unusedSimpArgs false
namespace Go.Sm
open Go Go.Proofs Go.Proofs.YtngpgkbkelcihaaGreatDoor Go.ChangeShapes Go.WideShapes Go.RowKit Go.ChangeAt
namespace ChainPurges
set_option maxRecDepth 100000 in
theorem contract (H : Type) (enc : TypeId × Value → H) (W : World) (base : Nat) (args : Array Value) (ds gs : List (DataW H)) (before : List MemPlace)
    (hval : ∀ (j : Nat) t v, Tryz.f6.params[j]? = some t → args[j]? = some v → Value.okWide Tryz.prog W .any base t v)
    (hW : DataW.Whole enc Tryz.prog Tryz.f6.params.toList Rows.chainPurgesSpec.vars false W args.toList ds gs before) (hL : laidMetH Tryz.prog Rows.chainPurgesRow.laid W) :
    Calls Tryz.prog 6 args W fun e W' => ∃ v, e = .returned v ∧ Rows.chainPurgesSpec.post enc Tryz.prog Tryz.f6 false true false false W args v W' := by
  have hW' := hW
  obtain ⟨p, q, hA0, hV, rfl, hfz, hnd⟩ := hW
  have hA : DataW.TrodAll enc Tryz.prog W 0 (fun _ => true) true Tryz.f6.params.toList args.toList ds p := hA0
  rw [Tryz.params6] at hA hval
  obtain ⟨v0, vs0, d0, ds0, p0, q0, hargs, rfl, rfl, h0, r0⟩ := trodAll_cons hA
  obtain ⟨v1, vs1, d1, ds1, p1, q1, rfl, rfl, rfl, h1, r1⟩ := trodAll_cons r0
  obtain ⟨v2, vs2, d2, ds2, p2, q2, rfl, rfl, rfl, h2, r2⟩ := trodAll_cons r1
  obtain ⟨rfl, rfl, rfl⟩ := trodAll_nil r2
  obtain rfl : args = #[v0, v1, v2] := by cases args; simp_all
  obtain ⟨rfl, rfl⟩ := trodVars_none hV
  obtain ⟨ρ0, hR0⟩ := base_R hL
  obtain ⟨fu0, hf0⟩ := h0
  obtain ⟨ρ1, σ1, a0, l0, hR1, hc1, hle1, hv0, hg1, hok0, hsl0⟩ := open_sl (f := 2) (sz := 3) (enc := encU) hR0 calm0 Tryz.underlying22 (by kernel_rfl) (by kernel_rfl) (fun _ => rfl) okU_of (hval 0 22 v0 rfl rfl) hf0
  obtain ⟨fu1, hf1⟩ := h1
  obtain ⟨n1, rfl, hlo1, hhi1⟩ := open_i (k := .u16) Tryz.underlying40 (hval 1 40 v1 rfl rfl) hf1
  have hlo1 : (0 : Int) ≤ n1 := hlo1
  have hhi1 : n1 ≤ 65535 := hhi1
  obtain ⟨fu2, hf2⟩ := h2
  obtain ⟨n2, rfl, hlo2, hhi2⟩ := open_i (k := .u8) Tryz.underlying5 (hval 2 5 v2 rfl rfl) hf2
  have hlo2 : (0 : Int) ≤ n2 := hlo2
  have hhi2 : n2 ≤ 255 := hhi2
  have hn0 := gnone0
  have hn1 : gnone σ1 := hg1.get hn0 (by decide)
  exact law_calls (E := E1) (s := Rows.chainPurgesSpec) (aa := #[a0, (.int .u16 n1), (.int .u8 n2)]) good (ext_ok rfl rfl) gam1 laidOut0 (by kernel_rfl) (bt := 4) (by kernel_rfl) Tryz.underlying4 rfl hW' rfl hR1 hc1 (LR.cons hv0 (LR.cons (.plain _ rfl) (LR.cons (.plain _ rfl) (.nil _)))).toArray (law_ChainPurges l0 hok0 n1 hlo1 (by omega) n2 hlo2 (by omega) a0 σ1 hn1 hsl0)
theorem laid_met (os : Os) : laidMet Tryz.prog Rows.chainPurgesRow.laid ((laidWorld os).forCall (fun _ _ => 0) ⟨#[], #[.slice none 0 0, .int .u16 0, .int .u8 0], []⟩).memory :=
  laidMet_of_run' 8 (by kernel_rfl) (by kernel_rfl)
theorem reads (os : Os) {H : Type} (enc : TypeId × Value → H) : ∃ places, DataW.whole enc Tryz.prog ((laidWorld os).forCall (fun _ _ => 0) ⟨#[], #[.slice none 0 0, .int .u16 0, .int .u8 0], []⟩).memory Tryz.f6.params.toList Rows.chainPurgesSpec.vars false (#[.slice none 0 0, .int .u16 0, .int .u8 0] : Array Value).toList 8 = some ([.nil, .lit (.int .u16 0), .lit (.int .u8 0)], [], places) :=
  ⟨[], by kernel_rfl⟩
set_option maxRecDepth 100000 in
theorem lifted (os : Os) (started : os.Started) (H : Type) (enc : TypeId × Value → H) (F : Stop.Interp) :
    ReturnsInHanded {} Tryz.checked os 6 .any ((OpenSpec.ofChange Rows.chainPurgesSpec).preRow enc Tryz.prog Tryz.f6 Rows.chainPurgesRow.domain false Rows.chainPurgesRow.laid) (((OpenSpec.ofChange Rows.chainPurgesSpec).at F).post enc Tryz.prog Tryz.f6 false true false false) := by
  obtain ⟨places, hx⟩ := reads os enc
  refine returnsInHanded_of_row (C := Tryz.checked) (s := OpenSpec.ofChange Rows.chainPurgesSpec) own0 started (by kernel_rfl) Tryz.func6
    (witness_row_at (enc := enc) (C := Tryz.checked) false (laidWorld os) #[.slice none 0 0, .int .u16 0, .int .u8 0] rfl (by kernel_rfl) (by kernel_rfl) (by kernel_rfl)
      (OpenSpec.preRow_of_cond 8 hx (by kernel_rfl) (fun k hk => by cases hk) (by kernel_rfl) (laid_met os))) ?_
  intro W base args ds gs before hval hW _ _ _ hL _ _
  exact contract H enc W base args ds gs before hval hW hL
theorem said : Rows.ChainPurgesSaid :=
  OpenClaim.holds_of_cond 6 Tryz.f6 rfl rfl rfl rfl rfl rfl rfl ⟨rfl, rfl, rfl, rfl, rfl⟩ rfl rfl rfl rfl rfl (by kernel_rfl) Tryz.func6 (by kernel_rfl)
    (of_decide_eq_true (by kernel_rfl)) (by unfold Func.isWrapper; first | (rw [if_pos (by decide +kernel)]; kernel_rfl) | (rw [if_neg (by decide +kernel)]; exact ⟨rfl, rfl⟩))
    (fun os started H enc _ F => by rw [OpenClaim.pre_eq_preRow]; exact lifted os started H enc F)
theorem plain (f : FuncId) (fn : Func) (hf : Tryz.pinned.checked.prog.funcNamed "selion/selionlaw08.ChainPurges" = some f) (hfn : Tryz.pinned.checked.prog.funcs[f]? = some fn) :
    true = Tryz.pinned.checked.prog.looks [] ∧ ∀ (j : Nat) t, fn.params[j]? = some t → Tryz.pinned.checked.prog.wantsStandIn t = false := by
  obtain rfl : f = 6 := Option.some.inj ((show Tryz.prog.funcNamed "selion/selionlaw08.ChainPurges" = some 6 by kernel_rfl).symm.trans hf) |>.symm
  obtain rfl : fn = Tryz.f6 := (Option.some.inj (Tryz.func6.symm.trans hfn)).symm
  refine ⟨by kernel_rfl, fun j t ht => ?_⟩
  rw [Tryz.params6] at ht
  have hm : t ∈ [22, 40, 5] := by simpa using Array.mem_of_getElem? ht
  have hall : ([22, 40, 5].all fun u => !Tryz.prog.wantsStandIn u) = true := by kernel_rfl
  exact (show Tryz.prog.wantsStandIn t = false by simpa using List.all_eq_true.1 hall t hm)
theorem card : Rows.ChainPurgesCardSaid :=
  Claim7.holds_tied_plain_at .later [] _ _ _ _ said (fun _ h => by cases h) (by kernel_rfl) (fun _ h => by cases h) chainPurges_row_tie rfl ⟨rfl, rfl⟩ (by kernel_rfl) rfl plain (by kernel_rfl)
end ChainPurges
end Go.Sm
namespace Go.Proofs.YtngpgkbkelcihaaGreatDoor
theorem chainPurges_proved : Rows.ChainPurgesCardSaid := Go.Sm.ChainPurges.card
end Go.Proofs.YtngpgkbkelcihaaGreatDoor
