/- Part ChainPuts of the proof. -/
import Derived.Test.YtngpgkbkelcihaaGreatDoorSmChain
import Derived.Test.YtngpgkbkelcihaaGreatDoorSmC
import Derived.Test.YtngpgkbkelcihaaGreatDoorSmStart
/- ChainPuts: the walk. -/
set_option linter.unusedVariables false
set_option linter.unusedSimpArgs false
namespace Go.Sm
open Go Go.Proofs
set_option maxRecDepth 100000
set_option maxHeartbeats 2000000
theorem awake_spec {f : FuncId} (hf : E1.gam f = some awakeG) {σ : CSt} (hn : gnone σ) {Q : Out → CSt → Prop} : W E1 (.fn f #[] none) σ Q = Q (.ret (.bool true) false) σ :=
  W_gam hf rfl (by unfold awakeG; rw [if_pos ⟨rfl, hn⟩])
theorem at_ok (l : List VV) (h : ∀ x ∈ l, x.ok) : ∀ v ∈ l.map verOf, 0 ≤ v.at_ ∧ v.at_ < 256 := by
  intro v hv
  obtain ⟨x, hx, rfl⟩ := List.mem_map.1 hv
  rw [verOf_at]
  exact (h x hx).1
theorem law_ChainPuts (l : List VV) (hok : ∀ x ∈ l, x.ok) (v : Value) (σ : CSt) (hn : gnone σ) (hsl : Sl σ 34 3 encU v l) : W E1 (.fn 3 #[v] none) σ isTrueP := by
  rw [W_fn (fn := Tryz.f3) Tryz.func3 rfl rfl rfl]
  obtain ⟨p, c, rfl⟩ := hsl.form
  simp [wops_cons]
  rw [awake_spec rfl hn]
  simp [wops_cons]
  by_cases hl : 40 < l.length
  · have hl' : (40 : Int) < l.length := by omega
    simp [wops_cons, wops_if', dstOf, hl', isTrueP]
  · have hl' : ¬ (40 : Int) < l.length := by omega
    simp [wops_cons, wops_if', dstOf, hl']
    refine make_spec l hok _ σ hsl (by omega) _ fun v1 σ1 h1 g1 => ?_
    simp [wops_cons, wops_if', dstOf, hl']
    refine plain_spec l hok _ σ1 (hsl.grow g1) (by omega) _ fun v2 σ2 h2 g2 => ?_
    simp [wops_cons, wops_if', dstOf, hl']
    refine equal_ch _ _ v1 v2 σ2 (h1.grow g2) (h2.sl fun _ => rfl) (by have := make_len (l.map verOf); simp at this; omega) _ fun σ3 g3 => ?_
    rw [decide_eq_true (make_plain _ (at_ok l hok))]
    simp [wops_cons, wops_if', dstOf, hl', isTrueP]
end Go.Sm
/- ChainPuts: the row and the card. -/
set_option linter.unusedVariables false
set_option linter.unusedSimpArgs false
namespace Go.Sm
open Go Go.Proofs Go.Proofs.YtngpgkbkelcihaaGreatDoor Go.ChangeShapes Go.WideShapes Go.RowKit Go.ChangeAt
theorem own0 : ownKnob Tryz.prog.godebug = none := by kernel_rfl
theorem laidOut0 : laidOutB Tryz.prog = true := by kernel_rfl
theorem okU_of (r : List Value) (h : OkL [.int .u8, .int .u8, .bool] r) : ∃ x : VV, x.ok ∧ r = encU x := by
  match r, h with
  | [a, b, c], ⟨⟨n, ha, hn⟩, ⟨m, hb, hm⟩, ⟨g, hc⟩, _⟩ =>
    subst ha; subst hb; subst hc
    simp only [Lit.wf, Bool.and_eq_true, decide_eq_true_eq] at hn hm
    have e1 : IntKind.u8.min = 0 := rfl
    have e2 : IntKind.u8.max = 255 := rfl
    rw [e1, e2] at hn hm
    exact ⟨⟨n, m, g⟩, by simp only [VV.ok]; omega, rfl⟩
set_option maxRecDepth 100000 in
theorem contract_ChainPuts (H : Type) (enc : TypeId × Value → H) (W : World) (base : Nat) (args : Array Value) (ds gs : List (DataW H)) (before : List MemPlace)
    (hval : ∀ (j : Nat) t v, Tryz.f3.params[j]? = some t → args[j]? = some v → Value.okWide Tryz.prog W .any base t v)
    (hW : DataW.Whole enc Tryz.prog Tryz.f3.params.toList Rows.chainPutsSpec.vars false W args.toList ds gs before) (hL : laidMetH Tryz.prog Rows.chainPutsRow.laid W) :
    Calls Tryz.prog 3 args W fun e W' => ∃ v, e = .returned v ∧ Rows.chainPutsSpec.post enc Tryz.prog Tryz.f3 false true false false W args v W' := by
  have hW' := hW
  obtain ⟨p, q, hA0, hV, rfl, hfz, hnd⟩ := hW
  have hA : DataW.TrodAll enc Tryz.prog W 0 (fun _ => true) true Tryz.f3.params.toList args.toList ds p := hA0
  rw [Tryz.params3] at hA hval
  obtain ⟨v0, vs0, d0, ds0, p0, q0, hargs, rfl, rfl, h0, r0⟩ := trodAll_cons hA
  obtain ⟨rfl, rfl, rfl⟩ := trodAll_nil r0
  obtain rfl : args = #[v0] := by cases args; simp_all
  obtain ⟨rfl, rfl⟩ := trodVars_none hV
  obtain ⟨ρ0, hR0⟩ := base_R hL
  obtain ⟨fu0, hf0⟩ := h0
  obtain ⟨ρ1, σ1, a0, l, hR1, hc1, hle1, hv0, hg1, hok, hsl⟩ := open_sl (f := 2) (sz := 3) (enc := encU) hR0 calm0 Tryz.underlying22 (by kernel_rfl) (by kernel_rfl) (fun _ => rfl) okU_of (hval 0 22 v0 rfl rfl) hf0
  have hn : gnone σ1 := hg1.get gnone0 (by decide)
  exact law_calls (E := E1) (s := Rows.chainPutsSpec) (aa := #[a0]) good (ext_ok rfl rfl) gam1 laidOut0 (by kernel_rfl) (bt := 4) (by kernel_rfl) Tryz.underlying4 rfl hW' rfl hR1 hc1 (LR.cons hv0 (.nil _)).toArray (law_ChainPuts l hok a0 σ1 hn hsl)
end Go.Sm
/- ChainPuts: the row and the card. -/
set_option linter.unusedVariables false
namespace Go.Sm
open Go Go.Proofs Go.Proofs.YtngpgkbkelcihaaGreatDoor Go.ChangeShapes Go.WideShapes Go.RowKit Go.ChangeAt

noncomputable def laidWorld (os : Os) : World :=
  { World.holding Tryz.prog os ⟨#[], #[], []⟩ with heap := (World.holding Tryz.prog os ⟨#[], #[], []⟩).heap.modify 0 fun
      | .cells _ t frozen => .cells #[.int .u64 1, .int .u64 0] t frozen
      | o => o }
theorem laid_met (os : Os) : laidMet Tryz.prog Rows.chainPutsRow.laid ((laidWorld os).forCall (fun _ _ => 0) ⟨#[], #[.slice none 0 0], []⟩).memory :=
  laidMet_of_run' 8 (by kernel_rfl) (by kernel_rfl)
theorem reads (os : Os) {H : Type} (enc : TypeId × Value → H) : ∃ places, DataW.whole enc Tryz.prog ((laidWorld os).forCall (fun _ _ => 0) ⟨#[], #[.slice none 0 0], []⟩).memory Tryz.f3.params.toList Rows.chainPutsSpec.vars false #[Value.slice none 0 0].toList 8 = some ([.nil], [], places) :=
  ⟨[], by kernel_rfl⟩
set_option maxRecDepth 100000 in
theorem lifted (os : Os) (started : os.Started) (H : Type) (enc : TypeId × Value → H) (F : Stop.Interp) :
    ReturnsInHanded {} Tryz.checked os 3 .any ((OpenSpec.ofChange Rows.chainPutsSpec).preRow enc Tryz.prog Tryz.f3 Rows.chainPutsRow.domain false Rows.chainPutsRow.laid) (((OpenSpec.ofChange Rows.chainPutsSpec).at F).post enc Tryz.prog Tryz.f3 false true false false) := by
  obtain ⟨places, hx⟩ := reads os enc
  refine returnsInHanded_of_row (C := Tryz.checked) (s := OpenSpec.ofChange Rows.chainPutsSpec) own0 started (by kernel_rfl) Tryz.func3
    (witness_row_at (enc := enc) (C := Tryz.checked) false (laidWorld os) #[.slice none 0 0] rfl (by kernel_rfl) (by kernel_rfl) (by kernel_rfl)
      (OpenSpec.preRow_of_cond 8 hx (by kernel_rfl) (fun k hk => by cases hk) (by kernel_rfl) (laid_met os))) ?_
  intro W base args ds gs before hval hW _ _ _ hL _ _
  exact contract_ChainPuts H enc W base args ds gs before hval hW hL
theorem said : Rows.ChainPutsSaid :=
  OpenClaim.holds_of_cond 3 Tryz.f3 rfl rfl rfl rfl rfl rfl rfl ⟨rfl, rfl, rfl, rfl, rfl⟩ rfl rfl rfl rfl rfl (by kernel_rfl) Tryz.func3 (by kernel_rfl)
    (of_decide_eq_true (by kernel_rfl)) (by unfold Func.isWrapper; first | (rw [if_pos (by decide +kernel)]; kernel_rfl) | (rw [if_neg (by decide +kernel)]; exact ⟨rfl, rfl⟩))
    (fun os started H enc _ F => by rw [OpenClaim.pre_eq_preRow]; exact lifted os started H enc F)
theorem plain (f : FuncId) (fn : Func) (hf : Tryz.pinned.checked.prog.funcNamed "selion/selionlaw08.ChainPuts" = some f) (hfn : Tryz.pinned.checked.prog.funcs[f]? = some fn) :
    true = Tryz.pinned.checked.prog.looks [] ∧ ∀ (j : Nat) t, fn.params[j]? = some t → Tryz.pinned.checked.prog.wantsStandIn t = false := by
  obtain rfl : f = 3 := Option.some.inj ((show Tryz.prog.funcNamed "selion/selionlaw08.ChainPuts" = some 3 by kernel_rfl).symm.trans hf) |>.symm
  obtain rfl : fn = Tryz.f3 := (Option.some.inj (Tryz.func3.symm.trans hfn)).symm
  refine ⟨by kernel_rfl, fun j t ht => ?_⟩
  rw [Tryz.params3] at ht
  have hm : t ∈ [22] := by simpa using Array.mem_of_getElem? ht
  have hall : ([22].all fun u => !Tryz.prog.wantsStandIn u) = true := by kernel_rfl
  exact (show Tryz.prog.wantsStandIn t = false by simpa using List.all_eq_true.1 hall t hm)
theorem card : Rows.ChainPutsCardSaid :=
  Claim7.holds_tied_plain_at .later [] _ _ _ _ said (fun _ h => by cases h) (by kernel_rfl) (fun _ h => by cases h) chainPuts_row_tie rfl ⟨rfl, rfl⟩ (by kernel_rfl) rfl plain (by kernel_rfl)
#print axioms card
end Go.Sm
namespace Go.Proofs.YtngpgkbkelcihaaGreatDoor
/-- ChainPuts: versions put one after the other are the chain by definition. -/
theorem chainPuts_proved : Rows.ChainPutsCardSaid := Go.Sm.card
end Go.Proofs.YtngpgkbkelcihaaGreatDoor
