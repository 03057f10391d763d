/- PlanBoxes: the row and the card. -/
import Derived.Test.YtlkoipbodffcnaaGreatDoorPartE
import Derived.Test.YtlkoipbodffcnaaGreatDoorPartF
set_option linter.unusedVariables false
set_option linter.unusedSimpArgs false
namespace Go.Sm
open Go Go.Proofs Go.Proofs.YtlkoipbodffcnaaGreatDoor Go.ChangeShapes Go.WideShapes Go.RowKit Go.ChangeAt
namespace PlanBoxes
set_option maxRecDepth 100000 in
theorem contract (H : Type) (enc : TypeId × Value → H) (W : World) (base : Nat) (args : Array Value) (ds gs : List (DataW H)) (before : List MemPlace)
    (hval : ∀ (j : Nat) t v, Tryz.f12.params[j]? = some t → args[j]? = some v → Value.okWide Tryz.prog W .any base t v)
    (hW : DataW.Whole enc Tryz.prog Tryz.f12.params.toList Rows.planBoxesSpec.vars false W args.toList ds gs before) (hL : laidMetH Tryz.prog Rows.planBoxesRow.laid W) :
    Calls Tryz.prog 12 args W fun e W' => ∃ v, e = .returned v ∧ Rows.planBoxesSpec.post enc Tryz.prog Tryz.f12 false true false false W args v W' := by
  have hW' := hW
  obtain ⟨p, q, hA0, hV, rfl, hfz, hnd⟩ := hW
  have hA : DataW.TrodAll enc Tryz.prog W 0 (fun _ => true) true Tryz.f12.params.toList args.toList ds p := hA0
  rw [Tryz.params12] at hA hval
  obtain ⟨v0, vs0, d0, ds0, p0, q0, hargs, rfl, rfl, h0, r0⟩ := trodAll_cons hA
  obtain ⟨v1, vs1, d1, ds1, p1, q1, rfl, rfl, rfl, h1, r1⟩ := trodAll_cons r0
  obtain ⟨rfl, rfl, rfl⟩ := trodAll_nil r1
  obtain rfl : args = #[v0, v1] := by cases args; simp_all
  obtain ⟨rfl, rfl⟩ := trodVars_none hV
  obtain ⟨ρ0, hR0⟩ := base_R hL
  obtain ⟨fu0, hf0⟩ := h0
  obtain ⟨ρ1, σ1, a0, l0, hR1, hc1, hle1, hv0, hg1, hok0, hsl0⟩ := open_sl (f := 3) (sz := 6) (enc := encL) hR0 calm0 Tryz.underlying22 (by kernel_rfl) (by kernel_rfl) (fun _ => rfl) okLL_of (hval 0 22 v0 rfl rfl) hf0
  obtain ⟨fu1, hf1⟩ := h1
  obtain ⟨ρ2, σ2, a1, l1, hR2, hc2, hle2, hv1, hg2, hok1, hsl1⟩ := open_sl (f := 1) (sz := 1) (enc := encN) hR1 hc1 Tryz.underlying76 (by kernel_rfl) (by kernel_rfl) (fun _ => rfl) okN_of (hval 1 76 v1 rfl rfl) hf1
  have hsl0 := hsl0.grow hg2
  have hn0 := gnone0
  have hz0 : 0 < st0.n := by decide
  have hn1 : gnone σ1 := hg1.get hn0 hz0
  have hz1 : 0 < σ1.n := Nat.lt_of_lt_of_le hz0 hg1.n
  have hn2 : gnone σ2 := hg2.get hn1 hz1
  have hz2 : 0 < σ2.n := Nat.lt_of_lt_of_le hz1 hg2.n
  exact law_calls (E := E1) (s := Rows.planBoxesSpec) (aa := #[a0, a1]) good (ext_ok rfl rfl) gam1 laidOut0 (by kernel_rfl) (bt := 4) (by kernel_rfl) Tryz.underlying4 rfl hW' rfl hR2 hc2 (LR.cons (hv0.mono hle2) (LR.cons hv1 (.nil _))).toArray (law_PlanBoxes l0 l1 hok0 hok1 a0 a1 σ2 hn2 hz2 hsl0 hsl1)
theorem laid_met (os : Os) : laidMet Tryz.prog Rows.planBoxesRow.laid ((laidWorld os).forCall (fun _ _ => 0) ⟨#[], #[.slice none 0 0, .slice none 0 0], []⟩).memory :=
  laidMet_of_run' 8 (by kernel_rfl) (by kernel_rfl)
theorem reads (os : Os) {H : Type} (enc : TypeId × Value → H) : ∃ places, DataW.whole enc Tryz.prog ((laidWorld os).forCall (fun _ _ => 0) ⟨#[], #[.slice none 0 0, .slice none 0 0], []⟩).memory Tryz.f12.params.toList Rows.planBoxesSpec.vars false (#[.slice none 0 0, .slice none 0 0] : Array Value).toList 8 = some ([.nil, .nil], [], places) :=
  ⟨[], by kernel_rfl⟩
set_option maxRecDepth 100000 in
theorem lifted (os : Os) (started : os.Started) (H : Type) (enc : TypeId × Value → H) (F : Stop.Interp) :
    ReturnsInHanded {} Tryz.checked os 12 .any ((OpenSpec.ofChange Rows.planBoxesSpec).preRow enc Tryz.prog Tryz.f12 Rows.planBoxesRow.domain false Rows.planBoxesRow.laid) (((OpenSpec.ofChange Rows.planBoxesSpec).at F).post enc Tryz.prog Tryz.f12 false true false false) := by
  obtain ⟨places, hx⟩ := reads os enc
  refine returnsInHanded_of_row (C := Tryz.checked) (s := OpenSpec.ofChange Rows.planBoxesSpec) own0 started (by kernel_rfl) Tryz.func12
    (witness_row_at (enc := enc) (C := Tryz.checked) false (laidWorld os) #[.slice none 0 0, .slice none 0 0] rfl (by kernel_rfl) (by kernel_rfl) (by kernel_rfl)
      (OpenSpec.preRow_of_cond 8 hx (by kernel_rfl) (fun k hk => by cases hk) (by kernel_rfl) (laid_met os))) ?_
  intro W base args ds gs before hval hW _ _ _ hL _ _
  exact contract H enc W base args ds gs before hval hW hL
theorem said : Rows.PlanBoxesSaid :=
  OpenClaim.holds_of_cond 12 Tryz.f12 rfl rfl rfl rfl rfl rfl rfl ⟨rfl, rfl, rfl, rfl, rfl⟩ rfl rfl rfl rfl rfl (by kernel_rfl) Tryz.func12 (by kernel_rfl)
    (of_decide_eq_true (by kernel_rfl)) (by unfold Func.isWrapper; first | (rw [if_pos (by decide +kernel)]; kernel_rfl) | (rw [if_neg (by decide +kernel)]; exact ⟨rfl, rfl⟩))
    (fun os started H enc _ F => by rw [OpenClaim.pre_eq_preRow]; exact lifted os started H enc F)
theorem plain (f : FuncId) (fn : Func) (hf : Tryz.pinned.checked.prog.funcNamed "selion/selionlaw11.PlanBoxes" = some f) (hfn : Tryz.pinned.checked.prog.funcs[f]? = some fn) :
    true = Tryz.pinned.checked.prog.looks [] ∧ ∀ (j : Nat) t, fn.params[j]? = some t → Tryz.pinned.checked.prog.wantsStandIn t = false := by
  obtain rfl : f = 12 := Option.some.inj ((show Tryz.prog.funcNamed "selion/selionlaw11.PlanBoxes" = some 12 by kernel_rfl).symm.trans hf) |>.symm
  obtain rfl : fn = Tryz.f12 := (Option.some.inj (Tryz.func12.symm.trans hfn)).symm
  refine ⟨by kernel_rfl, fun j t ht => ?_⟩
  rw [Tryz.params12] at ht
  have hm : t ∈ [22, 76] := by simpa using Array.mem_of_getElem? ht
  have hall : ([22, 76].all fun u => !Tryz.prog.wantsStandIn u) = true := by kernel_rfl
  exact (show Tryz.prog.wantsStandIn t = false by simpa using List.all_eq_true.1 hall t hm)
theorem card : Rows.PlanBoxesCardSaid :=
  Claim7.holds_tied_plain_at .later [] _ _ _ _ said (fun _ h => by cases h) (by kernel_rfl) (fun _ h => by cases h) planBoxes_row_tie rfl ⟨rfl, rfl⟩ (by kernel_rfl) rfl plain (by kernel_rfl)
end PlanBoxes
end Go.Sm
namespace Go.Proofs.YtlkoipbodffcnaaGreatDoor
theorem planBoxes_proved : Rows.PlanBoxesCardSaid := Go.Sm.PlanBoxes.card
end Go.Proofs.YtlkoipbodffcnaaGreatDoor

