/- ImageRaw: the row and the card. -/
import Derived.Test.YtkcljmaklingoaaGreatDoorPartF
import Derived.Test.YtkcljmaklingoaaGreatDoorPartG
set_option linter.unusedVariables false
set_option linter.unusedSimpArgs false
namespace Go.Sm
open Go Go.Proofs Go.Proofs.YtkcljmaklingoaaGreatDoor Go.ChangeShapes Go.WideShapes Go.RowKit Go.ChangeAt
namespace ImageRaw
set_option maxRecDepth 100000 in
theorem contract (H : Type) (enc : TypeId × Value → H) (W : World) (base : Nat) (args : Array Value) (ds gs : List (DataW H)) (before : List MemPlace)
    (hval : ∀ (j : Nat) t v, Tryz.f10.params[j]? = some t → args[j]? = some v → Value.okWide Tryz.prog W .any base t v)
    (hW : DataW.Whole enc Tryz.prog Tryz.f10.params.toList Rows.imageRawSpec.vars false W args.toList ds gs before) (hL : laidMetH Tryz.prog Rows.imageRawRow.laid W) :
    Calls Tryz.prog 10 args W fun e W' => ∃ v, e = .returned v ∧ Rows.imageRawSpec.post enc Tryz.prog Tryz.f10 false true false false W args v W' := by
  have hW' := hW
  obtain ⟨p, q, hA0, hV, rfl, hfz, hnd⟩ := hW
  have hA : DataW.TrodAll enc Tryz.prog W 0 (fun _ => true) true Tryz.f10.params.toList args.toList ds p := hA0
  rw [Tryz.params10] at hA hval
  obtain ⟨v0, vs0, d0, ds0, p0, q0, hargs, rfl, rfl, h0, r0⟩ := trodAll_cons hA
  obtain ⟨v1, vs1, d1, ds1, p1, q1, rfl, rfl, rfl, h1, r1⟩ := trodAll_cons r0
  obtain ⟨v2, vs2, d2, ds2, p2, q2, rfl, rfl, rfl, h2, r2⟩ := trodAll_cons r1
  obtain ⟨v3, vs3, d3, ds3, p3, q3, rfl, rfl, rfl, h3, r3⟩ := trodAll_cons r2
  obtain ⟨v4, vs4, d4, ds4, p4, q4, rfl, rfl, rfl, h4, r4⟩ := trodAll_cons r3
  obtain ⟨rfl, rfl, rfl⟩ := trodAll_nil r4
  obtain rfl : args = #[v0, v1, v2, v3, v4] := by cases args; simp_all
  obtain ⟨rfl, rfl⟩ := trodVars_none hV
  obtain ⟨ρ0, hR0⟩ := base_R hL
  obtain ⟨fu0, hf0⟩ := h0
  obtain ⟨ρ1, σ1, a0, l0, hR1, hc1, hle1, hv0, hg1, hok0, hsl0⟩ := open_sl (f := 1) (sz := 1) (enc := encY) hR0 calm0 Tryz.underlying25 (by kernel_rfl) (by kernel_rfl) (fun _ => rfl) okY_of (hval 0 25 v0 rfl rfl) hf0
  obtain ⟨fu1, hf1⟩ := h1
  obtain ⟨ρ2, σ2, a1, l1, hR2, hc2, hle2, hv1, hg2, hok1, hsl1⟩ := open_sl (f := 3) (sz := 4) (enc := encW) hR1 hc1 Tryz.underlying60 (by kernel_rfl) (by kernel_rfl) (fun _ => rfl) okW_of (hval 1 60 v1 rfl rfl) hf1
  have hsl0 := hsl0.grow hg2
  obtain ⟨fu2, hf2⟩ := h2
  obtain ⟨n2, rfl, hlo2, hhi2⟩ := open_i (k := .u16) Tryz.underlying57 (hval 2 57 v2 rfl rfl) hf2
  have hlo2 : (0 : Int) ≤ n2 := hlo2
  have hhi2 : n2 ≤ 65535 := hhi2
  obtain ⟨fu3, hf3⟩ := h3
  obtain ⟨n3, rfl, hlo3, hhi3⟩ := open_i (k := .u8) Tryz.underlying5 (hval 3 5 v3 rfl rfl) hf3
  have hlo3 : (0 : Int) ≤ n3 := hlo3
  have hhi3 : n3 ≤ 255 := hhi3
  obtain ⟨fu4, hf4⟩ := h4
  obtain ⟨b4, rfl⟩ := open_b Tryz.underlying4 (hval 4 4 v4 rfl rfl) hf4
  have hn0 := gnone0
  have hz0 : 1 < st0.n := by decide
  have hn1 : gnone σ1 := hg1.get hn0 hz0
  have hz1 : 1 < σ1.n := Nat.lt_of_lt_of_le hz0 hg1.n
  have hn2 : gnone σ2 := hg2.get hn1 hz1
  have hz2 : 1 < σ2.n := Nat.lt_of_lt_of_le hz1 hg2.n
  exact law_calls (E := E1) (s := Rows.imageRawSpec) (aa := #[a0, a1, (.int .u16 n2), (.int .u8 n3), (.bool b4)]) good (ext_ok rfl rfl) gam1 laidOut0 (by kernel_rfl) (bt := 4) (by kernel_rfl) Tryz.underlying4 rfl hW' rfl hR2 hc2 (LR.cons (hv0.mono hle2) (LR.cons hv1 (LR.cons (.plain _ rfl) (LR.cons (.plain _ rfl) (LR.cons (.plain _ rfl) (.nil _)))))).toArray (by obtain ⟨i, rfl⟩ : ∃ c : Nat, n2 = c := ⟨n2.toNat, by omega⟩; obtain ⟨c, rfl⟩ : ∃ c : Nat, n3 = c := ⟨n3.toNat, by omega⟩; exact law_ImageRaw l0 a0 l1 hok1 a1 i c (by omega) (by omega) b4 σ2 hn2 hz2 hsl0 hsl1)
theorem laid_met (os : Os) : laidMet Tryz.prog Rows.imageRawRow.laid ((laidWorld os).forCall (fun _ _ => 0) ⟨#[], #[.slice none 0 0, .slice none 0 0, .int .u16 0, .int .u8 0, .bool false], []⟩).memory :=
  laidMet_of_run' 8 (by kernel_rfl) (by kernel_rfl)
theorem reads (os : Os) {H : Type} (enc : TypeId × Value → H) : ∃ places, DataW.whole enc Tryz.prog ((laidWorld os).forCall (fun _ _ => 0) ⟨#[], #[.slice none 0 0, .slice none 0 0, .int .u16 0, .int .u8 0, .bool false], []⟩).memory Tryz.f10.params.toList Rows.imageRawSpec.vars false (#[.slice none 0 0, .slice none 0 0, .int .u16 0, .int .u8 0, .bool false] : Array Value).toList 8 = some ([.nil, .nil, .lit (.int .u16 0), .lit (.int .u8 0), .lit (.bool false)], [], places) :=
  ⟨[], by kernel_rfl⟩
set_option maxRecDepth 100000 in
theorem lifted (os : Os) (started : os.Started) (H : Type) (enc : TypeId × Value → H) (F : Stop.Interp) :
    ReturnsInHanded {} Tryz.checked os 10 .any ((OpenSpec.ofChange Rows.imageRawSpec).preRow enc Tryz.prog Tryz.f10 Rows.imageRawRow.domain false Rows.imageRawRow.laid) (((OpenSpec.ofChange Rows.imageRawSpec).at F).post enc Tryz.prog Tryz.f10 false true false false) := by
  obtain ⟨places, hx⟩ := reads os enc
  refine returnsInHanded_of_row (C := Tryz.checked) (s := OpenSpec.ofChange Rows.imageRawSpec) own0 started (by kernel_rfl) Tryz.func10
    (witness_row_at (enc := enc) (C := Tryz.checked) false (laidWorld os) #[.slice none 0 0, .slice none 0 0, .int .u16 0, .int .u8 0, .bool false] rfl (by kernel_rfl) (by kernel_rfl) (by kernel_rfl)
      (OpenSpec.preRow_of_cond 8 hx (by kernel_rfl) (fun k hk => by cases hk) (by kernel_rfl) (laid_met os))) ?_
  intro W base args ds gs before hval hW _ _ _ hL _ _
  exact contract H enc W base args ds gs before hval hW hL
theorem said : Rows.ImageRawSaid :=
  OpenClaim.holds_of_cond 10 Tryz.f10 rfl rfl rfl rfl rfl rfl rfl ⟨rfl, rfl, rfl, rfl, rfl⟩ rfl rfl rfl rfl rfl (by kernel_rfl) Tryz.func10 (by kernel_rfl)
    (of_decide_eq_true (by kernel_rfl)) (by unfold Func.isWrapper; first | (rw [if_pos (by decide +kernel)]; kernel_rfl) | (rw [if_neg (by decide +kernel)]; exact ⟨rfl, rfl⟩))
    (fun os started H enc _ F => by rw [OpenClaim.pre_eq_preRow]; exact lifted os started H enc F)
theorem plain (f : FuncId) (fn : Func) (hf : Tryz.pinned.checked.prog.funcNamed "selion/selionlaw14.ImageRaw" = some f) (hfn : Tryz.pinned.checked.prog.funcs[f]? = some fn) :
    true = Tryz.pinned.checked.prog.looks [] ∧ ∀ (j : Nat) t, fn.params[j]? = some t → Tryz.pinned.checked.prog.wantsStandIn t = false := by
  obtain rfl : f = 10 := Option.some.inj ((show Tryz.prog.funcNamed "selion/selionlaw14.ImageRaw" = some 10 by kernel_rfl).symm.trans hf) |>.symm
  obtain rfl : fn = Tryz.f10 := (Option.some.inj (Tryz.func10.symm.trans hfn)).symm
  refine ⟨by kernel_rfl, fun j t ht => ?_⟩
  rw [Tryz.params10] at ht
  have hm : t ∈ [25, 60, 57, 5, 4] := by simpa using Array.mem_of_getElem? ht
  have hall : ([25, 60, 57, 5, 4].all fun u => !Tryz.prog.wantsStandIn u) = true := by kernel_rfl
  exact (show Tryz.prog.wantsStandIn t = false by simpa using List.all_eq_true.1 hall t hm)
theorem card : Rows.ImageRawCardSaid :=
  Claim7.holds_tied_plain_at .later [] _ _ _ _ said (fun _ h => by cases h) (by kernel_rfl) (fun _ h => by cases h) imageRaw_row_tie rfl ⟨rfl, rfl⟩ (by kernel_rfl) rfl plain (by kernel_rfl)
end ImageRaw
end Go.Sm
namespace Go.Proofs.YtkcljmaklingoaaGreatDoor
theorem imageRaw_proved : Rows.ImageRawCardSaid := Go.Sm.ImageRaw.card
end Go.Proofs.YtkcljmaklingoaaGreatDoor

