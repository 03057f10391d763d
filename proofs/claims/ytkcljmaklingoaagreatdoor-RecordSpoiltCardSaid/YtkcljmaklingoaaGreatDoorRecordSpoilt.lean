/- RecordSpoilt: the row and the card. -/
import Derived.Test.YtkcljmaklingoaaGreatDoorPartF
import Derived.Test.YtkcljmaklingoaaGreatDoorPartG
set_option linter.unusedVariables false
set_option linter.unusedSimpArgs false
namespace Go.Sm
open Go Go.Proofs Go.Proofs.YtkcljmaklingoaaGreatDoor Go.ChangeShapes Go.WideShapes Go.RowKit Go.ChangeAt
namespace RecordSpoilt
set_option maxRecDepth 100000 in
theorem contract (H : Type) (enc : TypeId × Value → H) (W : World) (base : Nat) (args : Array Value) (ds gs : List (DataW H)) (before : List MemPlace)
    (hval : ∀ (j : Nat) t v, Tryz.f7.params[j]? = some t → args[j]? = some v → Value.okWide Tryz.prog W .any base t v)
    (hW : DataW.Whole enc Tryz.prog Tryz.f7.params.toList Rows.recordSpoiltSpec.vars false W args.toList ds gs before) (hL : laidMetH Tryz.prog Rows.recordSpoiltRow.laid W) :
    Calls Tryz.prog 7 args W fun e W' => ∃ v, e = .returned v ∧ Rows.recordSpoiltSpec.post enc Tryz.prog Tryz.f7 false true false false W args v W' := by
  have hW' := hW
  obtain ⟨p, q, hA0, hV, rfl, hfz, hnd⟩ := hW
  have hA : DataW.TrodAll enc Tryz.prog W 0 (fun _ => true) true Tryz.f7.params.toList args.toList ds p := hA0
  rw [Tryz.params7] at hA hval
  obtain ⟨v0, vs0, d0, ds0, p0, q0, hargs, rfl, rfl, h0, r0⟩ := trodAll_cons hA
  obtain ⟨v1, vs1, d1, ds1, p1, q1, rfl, rfl, rfl, h1, r1⟩ := trodAll_cons r0
  obtain ⟨v2, vs2, d2, ds2, p2, q2, rfl, rfl, rfl, h2, r2⟩ := trodAll_cons r1
  obtain ⟨v3, vs3, d3, ds3, p3, q3, rfl, rfl, rfl, h3, r3⟩ := trodAll_cons r2
  obtain ⟨v4, vs4, d4, ds4, p4, q4, rfl, rfl, rfl, h4, r4⟩ := trodAll_cons r3
  obtain ⟨rfl, rfl, rfl⟩ := trodAll_nil r4
  obtain rfl : args = #[v0, v1, v2, v3, v4] := by cases args; simp_all
  obtain ⟨rfl, rfl⟩ := trodVars_none hV
  obtain ⟨ρ0, hR0⟩ := base_R hL
  obtain ⟨fu0, hf0⟩ := h0
  obtain ⟨n0, rfl, hlo0, hhi0⟩ := open_i (k := .u64) Tryz.underlying31 (hval 0 31 v0 rfl rfl) hf0
  have hlo0 : (0 : Int) ≤ n0 := hlo0
  have hhi0 : n0 ≤ 18446744073709551615 := hhi0
  obtain ⟨fu1, hf1⟩ := h1
  obtain ⟨ρ1, σ1, a1, l1, hR1, hc1, hle1, hv1, hg1, hok1, hsl1⟩ := open_sl (f := 3) (sz := 3) (enc := encLW) hR0 calm0 Tryz.underlying23 (by kernel_rfl) (by kernel_rfl) (fun _ => rfl) okLW_of (hval 1 23 v1 rfl rfl) hf1
  obtain ⟨fu2, hf2⟩ := h2
  obtain ⟨n2, rfl, hlo2, hhi2⟩ := open_i (k := .u16) Tryz.underlying57 (hval 2 57 v2 rfl rfl) hf2
  have hlo2 : (0 : Int) ≤ n2 := hlo2
  have hhi2 : n2 ≤ 65535 := hhi2
  obtain ⟨fu3, hf3⟩ := h3
  obtain ⟨n3, rfl, hlo3, hhi3⟩ := open_i (k := .u8) Tryz.underlying5 (hval 3 5 v3 rfl rfl) hf3
  have hlo3 : (0 : Int) ≤ n3 := hlo3
  have hhi3 : n3 ≤ 255 := hhi3
  obtain ⟨fu4, hf4⟩ := h4
  obtain ⟨ρ2, σ2, a4, l4, hR2, hc2, hle2, hv4, hg2, hok4, hsl4⟩ := open_sl (f := 1) (sz := 1) (enc := encY) hR1 hc1 Tryz.underlying25 (by kernel_rfl) (by kernel_rfl) (fun _ => rfl) okY_of (hval 4 25 v4 rfl rfl) hf4
  have hsl1 := hsl1.grow hg2
  have hn0 := gnone0
  have hz0 : 1 < st0.n := by decide
  have hn1 : gnone σ1 := hg1.get hn0 hz0
  have hz1 : 1 < σ1.n := Nat.lt_of_lt_of_le hz0 hg1.n
  have hn2 : gnone σ2 := hg2.get hn1 hz1
  have hz2 : 1 < σ2.n := Nat.lt_of_lt_of_le hz1 hg2.n
  exact law_calls (E := E1) (s := Rows.recordSpoiltSpec) (aa := #[(.int .u64 n0), a1, (.int .u16 n2), (.int .u8 n3), a4]) good (ext_ok rfl rfl) gam1 laidOut0 (by kernel_rfl) (bt := 4) (by kernel_rfl) Tryz.underlying4 rfl hW' rfl hR2 hc2 (LR.cons (.plain _ rfl) (LR.cons (hv1.mono hle2) (LR.cons (.plain _ rfl) (LR.cons (.plain _ rfl) (LR.cons hv4 (.nil _)))))).toArray (law_RecordSpoilt n0 hlo0 hhi0 l1 hok1 a1 n2 hlo2 hhi2 n3 hlo3 hhi3 l4 a4 σ2 hn2 hz2 hsl1 hsl4)
theorem laid_met (os : Os) : laidMet Tryz.prog Rows.recordSpoiltRow.laid ((laidWorld os).forCall (fun _ _ => 0) ⟨#[], #[.int .u64 0, .slice none 0 0, .int .u16 0, .int .u8 0, .slice none 0 0], []⟩).memory :=
  laidMet_of_run' 8 (by kernel_rfl) (by kernel_rfl)
theorem reads (os : Os) {H : Type} (enc : TypeId × Value → H) : ∃ places, DataW.whole enc Tryz.prog ((laidWorld os).forCall (fun _ _ => 0) ⟨#[], #[.int .u64 0, .slice none 0 0, .int .u16 0, .int .u8 0, .slice none 0 0], []⟩).memory Tryz.f7.params.toList Rows.recordSpoiltSpec.vars false (#[.int .u64 0, .slice none 0 0, .int .u16 0, .int .u8 0, .slice none 0 0] : Array Value).toList 8 = some ([.lit (.int .u64 0), .nil, .lit (.int .u16 0), .lit (.int .u8 0), .nil], [], places) :=
  ⟨[], by kernel_rfl⟩
set_option maxRecDepth 100000 in
theorem lifted (os : Os) (started : os.Started) (H : Type) (enc : TypeId × Value → H) (F : Stop.Interp) :
    ReturnsInHanded {} Tryz.checked os 7 .any ((OpenSpec.ofChange Rows.recordSpoiltSpec).preRow enc Tryz.prog Tryz.f7 Rows.recordSpoiltRow.domain false Rows.recordSpoiltRow.laid) (((OpenSpec.ofChange Rows.recordSpoiltSpec).at F).post enc Tryz.prog Tryz.f7 false true false false) := by
  obtain ⟨places, hx⟩ := reads os enc
  refine returnsInHanded_of_row (C := Tryz.checked) (s := OpenSpec.ofChange Rows.recordSpoiltSpec) own0 started (by kernel_rfl) Tryz.func7
    (witness_row_at (enc := enc) (C := Tryz.checked) false (laidWorld os) #[.int .u64 0, .slice none 0 0, .int .u16 0, .int .u8 0, .slice none 0 0] rfl (by kernel_rfl) (by kernel_rfl) (by kernel_rfl)
      (OpenSpec.preRow_of_cond 8 hx (by kernel_rfl) (fun k hk => by cases hk) (by kernel_rfl) (laid_met os))) ?_
  intro W base args ds gs before hval hW _ _ _ hL _ _
  exact contract H enc W base args ds gs before hval hW hL
theorem said : Rows.RecordSpoiltSaid :=
  OpenClaim.holds_of_cond 7 Tryz.f7 rfl rfl rfl rfl rfl rfl rfl ⟨rfl, rfl, rfl, rfl, rfl⟩ rfl rfl rfl rfl rfl (by kernel_rfl) Tryz.func7 (by kernel_rfl)
    (of_decide_eq_true (by kernel_rfl)) (by unfold Func.isWrapper; first | (rw [if_pos (by decide +kernel)]; kernel_rfl) | (rw [if_neg (by decide +kernel)]; exact ⟨rfl, rfl⟩))
    (fun os started H enc _ F => by rw [OpenClaim.pre_eq_preRow]; exact lifted os started H enc F)
theorem plain (f : FuncId) (fn : Func) (hf : Tryz.pinned.checked.prog.funcNamed "selion/selionlaw13.RecordSpoilt" = some f) (hfn : Tryz.pinned.checked.prog.funcs[f]? = some fn) :
    true = Tryz.pinned.checked.prog.looks [] ∧ ∀ (j : Nat) t, fn.params[j]? = some t → Tryz.pinned.checked.prog.wantsStandIn t = false := by
  obtain rfl : f = 7 := Option.some.inj ((show Tryz.prog.funcNamed "selion/selionlaw13.RecordSpoilt" = some 7 by kernel_rfl).symm.trans hf) |>.symm
  obtain rfl : fn = Tryz.f7 := (Option.some.inj (Tryz.func7.symm.trans hfn)).symm
  refine ⟨by kernel_rfl, fun j t ht => ?_⟩
  rw [Tryz.params7] at ht
  have hm : t ∈ [31, 23, 57, 5, 25] := by simpa using Array.mem_of_getElem? ht
  have hall : ([31, 23, 57, 5, 25].all fun u => !Tryz.prog.wantsStandIn u) = true := by kernel_rfl
  exact (show Tryz.prog.wantsStandIn t = false by simpa using List.all_eq_true.1 hall t hm)
theorem card : Rows.RecordSpoiltCardSaid :=
  Claim7.holds_tied_plain_at .later [] _ _ _ _ said (fun _ h => by cases h) (by kernel_rfl) (fun _ h => by cases h) recordSpoilt_row_tie rfl ⟨rfl, rfl⟩ (by kernel_rfl) rfl plain (by kernel_rfl)
end RecordSpoilt
end Go.Sm
namespace Go.Proofs.YtkcljmaklingoaaGreatDoor
theorem recordSpoilt_proved : Rows.RecordSpoiltCardSaid := Go.Sm.RecordSpoilt.card
end Go.Proofs.YtkcljmaklingoaaGreatDoor

