/- Part StoreApart of the proof. -/
import Derived.Test.YtngpgkbkelcihaaGreatDoorStore
import Derived.Test.YtngpgkbkelcihaaGreatDoorLawApart
import Derived.Test.YtngpgkbkelcihaaGreatDoorRowB
/- StoreApart: the walk. -/
set_option linter.unusedVariables false
set_option linter.unusedSimpArgs false
namespace Go.Sm
open Go Go.Proofs
set_option maxRecDepth 100000
set_option maxHeartbeats 4000000
theorem law_StoreApart (l : List WW) (hok : ∀ x ∈ l, x.ok) (k : Int) (hk0 : 0 ≤ k) (hk1 : k < 256) (v : Value) (σ : CSt) (hn : gnone σ) (hz : 0 < σ.n) (hsl : Sl σ 75 4 encW v l) : W E1 (.fn 11 #[v, .int .u8 k] none) σ isTrueP := by
  rw [W_fn (fn := Tryz.f11) Tryz.func11 rfl rfl rfl]
  obtain ⟨p, c, rfl⟩ := hsl.form
  have hgr0 : Grow σ (σ.alloc (.cells [.bool false] 4 false)) := (Grow.refl σ).alloc _
  have hn0 : gnone (σ.alloc (.cells [.bool false] 4 false)) := hgr0.get hn hz
  simp [wops_cons]
  rw [awake_spec rfl hn0]
  simp [wops_cons]
  by_cases hl : 50 < l.length
  · have hl' : (50 : Int) < l.length := by omega
    simp [wops_cons, hl', isTrueP]
  · have hl' : ¬ (50 : Int) < l.length := by omega
    simp [wops_cons, hl']
    refine make_store l hok _ _ (hsl.grow hgr0) (by omega) _ fun i1 m1 S1 M1 σ1 hS1 hst1 hmp1 hmr1 hm1 hm1n g1 => ?_
    have hn1 : σ.n < σ1.n := by have := g1.n; simp at this; omega
    simp [wops_cons]
    have hga : Grow σ1 ((σ1.alloc (.cells [.map none] 52 false)).put σ1.n (.cells [.map (some m1)] 52 false)) := ((Grow.refl σ1).alloc _).put (Nat.le_refl _) _
    have hg1 := hgr0.trans g1
    refine make_store l hok _ _ (hsl.grow (hg1.trans hga)) (by omega) _ fun i2 m2 S2 M2 σ2 hS2 hst2 hmp2 hmr2 hm2 hm2n g2 => ?_
    have hg12 := hga.trans g2
    have hc6 : σ2.get σ1.n = some (.cells [.map (some m1)] 52 false) := g2.get (by simp) (by simp)
    simp [wops_cons]
    refine all33 _ σ2 _ ?_
    simp [wops_cons]
    refine range_all2 (q := σ2.n) (S := S1) (i := i1) (b := (σ.alloc (.cells [.bool false] 4 false)).n) rfl rfl ((hst1.grow hg12).grow ((Grow.refl σ2).alloc _)) (by simp; rfl) (by simp) (by have := hS1.len; omega) (fun s hs => by have := hS1.short s hs; omega) (by simp) (by simp) ?_ ?_
    · intro j hj σ' v' b' hgr hb1 hb2 ho
      simp [wops_cons]
      have hmine := ho.mine (sz := 3) (fun _ => rfl)
      generalize hnl : S1[j].2.length = nl at hmine
      have hnl2 : nl ≤ l.length := by rw [← hnl]; exact hS1.short _ (List.getElem_mem hj)
      obtain ⟨pv, cv, rfl⟩ := hmine.form
      intro ob
      have hm0 : Mine b' (σ'.put (σ2.n + 1) ob) 29 3 (.slice pv nl cv) nl := hmine.other (fun k hk _ => by simp at hb1; omega) _
      have hnL : (σ'.put (σ2.n + 1) ob).get (σ2.n + 1) = some ob := by simp
      have hob : ∀ m, m < b' → m ≠ σ2.n + 1 → (σ'.put (σ2.n + 1) ob).get m = σ'.get m := fun m _ hne => by rw [CSt.get_put, if_neg hne]
      have hnn : (σ'.put (σ2.n + 1) ob).n = σ'.n := rfl
      simp at hb1
      generalize σ'.put (σ2.n + 1) ob = σ4 at hm0 hnL hob hnn ⊢
      simp [wops_cons]
      refine W_loop_inv (fun n a s => ∃ tm q, a = ⟨tm, 74, [], false⟩ ∧ tm.get 10 = some (.slice pv nl cv) ∧ tm.get 36 = some (.int .i64 nl) ∧ tm.get 37 = some (.int .i64 (q : Nat)) ∧ q ≤ nl ∧ n = nl - q ∧ Mine b' s 29 3 (.slice pv nl cv) nl ∧ s.n = σ'.n ∧ ∀ m, m < b' → s.get m = σ4.get m) ?_ nl _ _ ?_
      · rintro n a s ⟨tm, q, rfl, e10, e36, e37, hq, hnq, mA, hsn, hsg⟩
        by_cases hql : q < nl
        · obtain ⟨o, row, rfl, hbi, hin, hg, hrl⟩ := mA.at (by omega)
          have hw2 := i64n1 q (by omega)
          have hle : q * 3 + 1 + 1 ≤ row.length := by omega
          simp [wops_cons, e10, e36, e37, hql, hg, hle, hw2]
          refine ⟨_, ?_, q + 1, rfl, by omega, rfl, mA.put (by simp; omega), hsn, fun m hm => by rw [if_neg (by omega)]; exact hsg m hm⟩
          omega
        · have hq' : q = nl := by omega
          subst hq'
          simp [wops_cons, e10, e36, e37]
          exact ⟨by rw [hsg _ hb1]; exact hnL, by omega, fun m hm hne => by rw [hsg m hm]; exact hob m hm hne⟩
      · refine ⟨_, 0, rfl, ?_⟩
        simp
        exact ⟨hm0, hnn⟩
    · intro σ3 g3
      have hb2le : σ1.n + 1 ≤ σ2.n := by have := g2.n; simpa using this
      have g23 : Grow σ2 σ3 := ((Grow.refl σ2).alloc _).trans g3
      simp [wops_cons]
      refine key_spec k hk0 hk1 σ3 _ fun σ4 g4 => ?_
      have g24 := g23.trans g4
      generalize hK : keyOf (k.tmod 8) = K
      simp [wops_cons]
      have hps := fun Q => put_store _ i2 S2 hS2.ks hS2.srt (fun s hs => by have := hS2.short s hs; omega) K ⟨300, ⟨#[109, 111, 114, 101]⟩, false⟩ σ4 (Nat.le_trans (by simp) (Nat.le_trans hb2le g24.n)) (hst2.grow g24) (by have := hS2.len; omega) Q
      simp only [encV] at hps
      refine hps _ fun n5 σ5 hp5 h5 f5 => ?_
      simp at f5
      have g15 : Grow σ1 σ5 := (((hg12.trans g24).fr (T := stT) (b := σ1.n + 1)).trans f5).grow (by omega)
      have hc65 : σ5.get σ1.n = some (.cells [.map (some m1)] 52 false) := f5.get (g24.get hc6 (by omega)) (by have := g24.n; omega) (.inl (by omega))
      simp [wops_cons]
      refine all33 _ σ5 _ ?_
      simp [wops_cons]
      refine range_all2 (q := σ5.n) (S := S1) (i := i1) (b := (σ.alloc (.cells [.bool false] 4 false)).n) rfl rfl ((hst1.grow g15).grow ((Grow.refl σ5).alloc _)) (by simp; rfl) (by simp) (by have := hS1.len; omega) (fun s hs => by have := hS1.short s hs; omega) (by simp) (by simp) ?_ ?_
      · intro j hj σ' v' b' hgr hb1 hb2 ho
        simp [wops_cons]
        intro ob
        simp at hb1
        have g56 : Grow σ5 σ' := ((Grow.refl σ5).alloc _).trans hgr
        have gS : Grow σ5 (σ'.put (σ5.n + 1) ob) := g56.put (by omega) ob
        have hoS : Own b' (σ'.put (σ5.n + 1) ob) 29 encV v' S1[j].2 := ho.put hb1 ob
        have hnL : (σ'.put (σ5.n + 1) ob).get (σ5.n + 1) = some ob := by simp
        have hob : ∀ m, m < b' → m ≠ σ5.n + 1 → (σ'.put (σ5.n + 1) ob).get m = σ'.get m := fun m _ hne => by rw [CSt.get_put, if_neg hne]
        have hnn : (σ'.put (σ5.n + 1) ob).n = σ'.n := rfl
        generalize σ'.put (σ5.n + 1) ob = σS at gS hoS hnL hob hnn ⊢
        have hc6S := gS.get hc65 (by have := f5.1; have := g24.n; omega)
        have hmpS : Mp σS m1 M1 := hmp1.grow hm1n (g15.trans gS)
        have hmrS := hmr1.fr (T := fun _ => False) (fun h => h) (b' := 0) (g15.trans gS).fr
        have hlk : lookupOp Tryz.prog σS 52 (.map (some m1)) (.string S1[j].1) false = some ((getM M1 S1[j].1).getD (.slice none 0 0)) := lookup_mp Tryz.underlying52 (by kernel_rfl) (by kernel_rfl) hmpS
        have hgl := getF_len l S1[j].1
        have hgo := getF_ok l hok S1[j].1
        have hval : S1[j].2 = plainL ((getF (mapF l) S1[j].1).map verOf) := by
          rw [← make_plain _ (at_ok _ hgo), getF_ofK]
          exact hS1.val _ (List.getElem_mem hj)
        have h1lt : σ1.n < σ5.n := by have := f5.1; have := g24.n; omega
        have hne1 : ¬ σ1.n = σ5.n + 1 := by omega
        have hc6' := g56.get hc65 h1lt
        simp [wops_cons, hne1, hc6', hlk]
        refine plain_spec (getF (mapF l) S1[j].1) hgo _ σS ((hmrS.get S1[j].1).sl lenVV) (by omega) _ fun v6 σ6 h6 g6 => ?_
        have hsl := hS1.short _ (List.getElem_mem hj)
        simp [wops_cons]
        rw [← hval] at h6
        refine equal_ch S1[j].2 S1[j].2 v' v6 σ6 (Sl.grow (hoS.sl (sz := 3) (fun _ => rfl)) g6) (h6.sl (sz := 3) (fun _ => rfl)) (by omega) _ fun σ7 g7 => ?_
        have gS7 := g6.trans g7
        simp [wops_cons]
        have hLn : σ5.n + 1 < σS.n := by omega
        exact ⟨gS7.get hnL hLn, by have := gS7.n; omega, fun m hm hne => by rw [gS7.old m (by omega)]; exact hob m hm hne⟩
      · intro σ6 g6
        have g56 : Grow σ5 σ6 := ((Grow.refl σ5).alloc _).trans g6
        have hput := putAt_get (x := ⟨300, ⟨#[109, 111, 114, 101]⟩, false⟩) hp5
        simp [wops_cons]
        refine key_spec k hk0 hk1 σ6 _ fun σ7 g7 => ?_
        rw [hK]
        simp [wops_cons]
        have hst7 := h5.grow (g56.trans g7)
        have hks := putAt_ks (x := ⟨300, ⟨#[109, 111, 114, 101]⟩, false⟩) hS2.ks hp5
        have hmem : ∀ s ∈ putAt S2 K ⟨300, ⟨#[109, 111, 114, 101]⟩, false⟩ n5, Srt s.2 ∧ s.2.length < 2 ^ 38 := fun s hs => by
          rcases putAt_mem s hs with h | ⟨c, rfl, h⟩
          · exact ⟨hS2.srt s h, by have := hS2.short s h; omega⟩
          · have hlen := put_len c ⟨300, ⟨#[109, 111, 114, 101]⟩, false⟩
            rcases h with rfl | h
            · exact ⟨Srt.put List.Pairwise.nil _, by simp at hlen ⊢; omega⟩
            · exact ⟨(hS2.srt _ h).put _, by have := hS2.short _ h; simp at this hlen ⊢; omega⟩
        have hSl := putAt_len S2 K ⟨300, ⟨#[109, 111, 114, 101]⟩, false⟩ n5
        refine at_store _ i2 _ hks (fun s hs => (hmem s hs).1) (fun s hs => (hmem s hs).2) K 300 σ7 hst7 (by have := hS2.len; omega) _ fun n8 σ8 hp8 g8 => ?_
        obtain ⟨cc, hc1, hc2⟩ := hput
        have hn8 : n8 = n5 := pos_unique hks hp8 hc1 rfl
        subst hn8
        have hccs : Srt cc := by
          rcases hc2 with rfl | h
          · exact List.Pairwise.nil
          · exact hS2.srt _ h
        have hat : atS (putAt S2 K ⟨300, ⟨#[109, 111, 114, 101]⟩, false⟩ n8) K n8 300 = some ⟨300, ⟨#[109, 111, 114, 101]⟩, false⟩ := by
          unfold atS
          rw [hc1]
          simp only [if_true]
          exact put_here hccs (Int.le_refl _) fun a ha => (atL_max hccs ha).2.1
        have hc0 : σ8.get σ.n = some (.cells [.bool false] 4 false) := by
          have h1 : σ1.get σ.n = some (.cells [.bool false] 4 false) := g1.get (by simp) (by simp)
          exact (((g15.trans g56).trans g7).trans g8).get h1 hn1
        rw [hat]
        simp only [retV2]
        have hne8 : ¬ σ.n = σ8.n := by have := (((g15.trans g56).trans g7).trans g8).n; omega
        simp [wops_cons, wops_if', dstOf, encV, hc0, hne8, isTrueP]
end Go.Sm
/- StoreApart: the row and the card. -/
set_option linter.unusedVariables false
set_option linter.unusedSimpArgs false
namespace Go.Sm
open Go Go.Proofs Go.Proofs.YtngpgkbkelcihaaGreatDoor Go.ChangeShapes Go.WideShapes Go.RowKit Go.ChangeAt
namespace StoreApart
set_option maxRecDepth 100000 in
theorem contract (H : Type) (enc : TypeId × Value → H) (W : World) (base : Nat) (args : Array Value) (ds gs : List (DataW H)) (before : List MemPlace)
    (hval : ∀ (j : Nat) t v, Tryz.f11.params[j]? = some t → args[j]? = some v → Value.okWide Tryz.prog W .any base t v)
    (hW : DataW.Whole enc Tryz.prog Tryz.f11.params.toList Rows.storeApartSpec.vars false W args.toList ds gs before) (hL : laidMetH Tryz.prog Rows.storeApartRow.laid W) :
    Calls Tryz.prog 11 args W fun e W' => ∃ v, e = .returned v ∧ Rows.storeApartSpec.post enc Tryz.prog Tryz.f11 false true false false W args v W' := by
  have hW' := hW
  obtain ⟨p, q, hA0, hV, rfl, hfz, hnd⟩ := hW
  have hA : DataW.TrodAll enc Tryz.prog W 0 (fun _ => true) true Tryz.f11.params.toList args.toList ds p := hA0
  rw [Tryz.params11] at hA hval
  obtain ⟨v0, vs0, d0, ds0, p0, q0, hargs, rfl, rfl, h0, r0⟩ := trodAll_cons hA
  obtain ⟨v1, vs1, d1, ds1, p1, q1, rfl, rfl, rfl, h1, r1⟩ := trodAll_cons r0
  obtain ⟨rfl, rfl, rfl⟩ := trodAll_nil r1
  obtain rfl : args = #[v0, v1] := by cases args; simp_all
  obtain ⟨rfl, rfl⟩ := trodVars_none hV
  obtain ⟨ρ0, hR0⟩ := base_R hL
  obtain ⟨fu0, hf0⟩ := h0
  obtain ⟨ρ1, σ1, a0, l0, hR1, hc1, hle1, hv0, hg1, hok0, hsl0⟩ := open_sl (f := 3) (sz := 4) (enc := encW) hR0 calm0 Tryz.underlying50 (by kernel_rfl) (by kernel_rfl) (fun _ => rfl) okW_of (hval 0 50 v0 rfl rfl) hf0
  obtain ⟨fu1, hf1⟩ := h1
  obtain ⟨n1, rfl, hlo1, hhi1⟩ := open_i (k := .u8) Tryz.underlying5 (hval 1 5 v1 rfl rfl) hf1
  have hlo1 : (0 : Int) ≤ n1 := hlo1
  have hhi1 : n1 ≤ 255 := hhi1
  have hn0 := gnone0
  have hz0 : 0 < st0.n := by decide
  have hn1 : gnone σ1 := hg1.get hn0 hz0
  have hz1 : 0 < σ1.n := Nat.lt_of_lt_of_le hz0 hg1.n
  exact law_calls (E := E1) (s := Rows.storeApartSpec) (aa := #[a0, (.int .u8 n1)]) good (ext_ok rfl rfl) gam1 laidOut0 (by kernel_rfl) (bt := 4) (by kernel_rfl) Tryz.underlying4 rfl hW' rfl hR1 hc1 (LR.cons hv0 (LR.cons (.plain _ rfl) (.nil _))).toArray (law_StoreApart l0 hok0 n1 hlo1 (by omega) a0 σ1 hn1 hz1 hsl0)
theorem laid_met (os : Os) : laidMet Tryz.prog Rows.storeApartRow.laid ((laidWorld os).forCall (fun _ _ => 0) ⟨#[], #[.slice none 0 0, .int .u8 0], []⟩).memory :=
  laidMet_of_run' 8 (by kernel_rfl) (by kernel_rfl)
theorem reads (os : Os) {H : Type} (enc : TypeId × Value → H) : ∃ places, DataW.whole enc Tryz.prog ((laidWorld os).forCall (fun _ _ => 0) ⟨#[], #[.slice none 0 0, .int .u8 0], []⟩).memory Tryz.f11.params.toList Rows.storeApartSpec.vars false (#[.slice none 0 0, .int .u8 0] : Array Value).toList 8 = some ([.nil, .lit (.int .u8 0)], [], places) :=
  ⟨[], by kernel_rfl⟩
set_option maxRecDepth 100000 in
theorem lifted (os : Os) (started : os.Started) (H : Type) (enc : TypeId × Value → H) (F : Stop.Interp) :
    ReturnsInHanded {} Tryz.checked os 11 .any ((OpenSpec.ofChange Rows.storeApartSpec).preRow enc Tryz.prog Tryz.f11 Rows.storeApartRow.domain false Rows.storeApartRow.laid) (((OpenSpec.ofChange Rows.storeApartSpec).at F).post enc Tryz.prog Tryz.f11 false true false false) := by
  obtain ⟨places, hx⟩ := reads os enc
  refine returnsInHanded_of_row (C := Tryz.checked) (s := OpenSpec.ofChange Rows.storeApartSpec) own0 started (by kernel_rfl) Tryz.func11
    (witness_row_at (enc := enc) (C := Tryz.checked) false (laidWorld os) #[.slice none 0 0, .int .u8 0] rfl (by kernel_rfl) (by kernel_rfl) (by kernel_rfl)
      (OpenSpec.preRow_of_cond 8 hx (by kernel_rfl) (fun k hk => by cases hk) (by kernel_rfl) (laid_met os))) ?_
  intro W base args ds gs before hval hW _ _ _ hL _ _
  exact contract H enc W base args ds gs before hval hW hL
theorem said : Rows.StoreApartSaid :=
  OpenClaim.holds_of_cond 11 Tryz.f11 rfl rfl rfl rfl rfl rfl rfl ⟨rfl, rfl, rfl, rfl, rfl⟩ rfl rfl rfl rfl rfl (by kernel_rfl) Tryz.func11 (by kernel_rfl)
    (of_decide_eq_true (by kernel_rfl)) (by unfold Func.isWrapper; first | (rw [if_pos (by decide +kernel)]; kernel_rfl) | (rw [if_neg (by decide +kernel)]; exact ⟨rfl, rfl⟩))
    (fun os started H enc _ F => by rw [OpenClaim.pre_eq_preRow]; exact lifted os started H enc F)
theorem plain (f : FuncId) (fn : Func) (hf : Tryz.pinned.checked.prog.funcNamed "selion/selionlaw09.StoreApart" = some f) (hfn : Tryz.pinned.checked.prog.funcs[f]? = some fn) :
    true = Tryz.pinned.checked.prog.looks [] ∧ ∀ (j : Nat) t, fn.params[j]? = some t → Tryz.pinned.checked.prog.wantsStandIn t = false := by
  obtain rfl : f = 11 := Option.some.inj ((show Tryz.prog.funcNamed "selion/selionlaw09.StoreApart" = some 11 by kernel_rfl).symm.trans hf) |>.symm
  obtain rfl : fn = Tryz.f11 := (Option.some.inj (Tryz.func11.symm.trans hfn)).symm
  refine ⟨by kernel_rfl, fun j t ht => ?_⟩
  rw [Tryz.params11] at ht
  have hm : t ∈ [50, 5] := by simpa using Array.mem_of_getElem? ht
  have hall : ([50, 5].all fun u => !Tryz.prog.wantsStandIn u) = true := by kernel_rfl
  exact (show Tryz.prog.wantsStandIn t = false by simpa using List.all_eq_true.1 hall t hm)
theorem card : Rows.StoreApartCardSaid :=
  Claim7.holds_tied_plain_at .later [] _ _ _ _ said (fun _ h => by cases h) (by kernel_rfl) (fun _ h => by cases h) storeApart_row_tie rfl ⟨rfl, rfl⟩ (by kernel_rfl) rfl plain (by kernel_rfl)
end StoreApart
end Go.Sm
namespace Go.Proofs.YtngpgkbkelcihaaGreatDoor
theorem storeApart_proved : Rows.StoreApartCardSaid := Go.Sm.StoreApart.card
end Go.Proofs.YtngpgkbkelcihaaGreatDoor
