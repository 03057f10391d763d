/- RecordApart: the row and the card. -/
import Derived.Test.YtkcljmaklingoaaGreatDoorPartF
import Derived.Test.YtkcljmaklingoaaGreatDoorPartG
set_option linter.unusedVariables false
set_option linter.unusedSimpArgs false
namespace Go.Sm
open Go Go.Proofs Go.Proofs.YtkcljmaklingoaaGreatDoor Go.ChangeShapes Go.WideShapes Go.RowKit Go.ChangeAt
namespace RecordApart
set_option maxRecDepth 100000 in
theorem contract (H : Type) (enc : TypeId × Value → H) (W : World) (base : Nat) (args : Array Value) (ds gs : List (DataW H)) (before : List MemPlace)
    (hval : ∀ (j : Nat) t v, Tryz.f5.params[j]? = some t → args[j]? = some v → Value.okWide Tryz.prog W .any base t v)
    (hW : DataW.Whole enc Tryz.prog Tryz.f5.params.toList Rows.recordApartSpec.vars false W args.toList ds gs before) (hL : laidMetH Tryz.prog Rows.recordApartRow.laid W) :
    Calls Tryz.prog 5 args W fun e W' => ∃ v, e = .returned v ∧ Rows.recordApartSpec.post enc Tryz.prog Tryz.f5 false true false false W args v W' := by
  have hW' := hW
  obtain ⟨p, q, hA0, hV, rfl, hfz, hnd⟩ := hW
  have hA : DataW.TrodAll enc Tryz.prog W 0 (fun _ => true) true Tryz.f5.params.toList args.toList ds p := hA0
  rw [Tryz.params5] at hA hval
  obtain ⟨v0, vs0, d0, ds0, p0, q0, hargs, rfl, rfl, h0, r0⟩ := trodAll_cons hA
  obtain ⟨v1, vs1, d1, ds1, p1, q1, rfl, rfl, rfl, h1, r1⟩ := trodAll_cons r0
  obtain ⟨v2, vs2, d2, ds2, p2, q2, rfl, rfl, rfl, h2, r2⟩ := trodAll_cons r1
  obtain ⟨v3, vs3, d3, ds3, p3, q3, rfl, rfl, rfl, h3, r3⟩ := trodAll_cons r2
  obtain ⟨v4, vs4, d4, ds4, p4, q4, rfl, rfl, rfl, h4, r4⟩ := trodAll_cons r3
  obtain ⟨rfl, rfl, rfl⟩ := trodAll_nil r4
  obtain rfl : args = #[v0, v1, v2, v3, v4] := by cases args; simp_all
  obtain ⟨rfl, rfl⟩ := trodVars_none hV
  obtain ⟨ρ0, hR0⟩ := base_R hL
  obtain ⟨fu0, hf0⟩ := h0
  obtain ⟨n0, rfl, hlo0, hhi0⟩ := open_i (k := .u64) Tryz.underlying31 (hval 0 31 v0 rfl rfl) hf0
  have hlo0 : (0 : Int) ≤ n0 := hlo0
  have hhi0 : n0 ≤ 18446744073709551615 := hhi0
  obtain ⟨fu1, hf1⟩ := h1
  obtain ⟨n1, rfl, hlo1, hhi1⟩ := open_i (k := .u64) Tryz.underlying31 (hval 1 31 v1 rfl rfl) hf1
  have hlo1 : (0 : Int) ≤ n1 := hlo1
  have hhi1 : n1 ≤ 18446744073709551615 := hhi1
  obtain ⟨fu2, hf2⟩ := h2
  obtain ⟨ρ1, σ1, a2, l2, hR1, hc1, hle1, hv2, hg1, hok2, hsl2⟩ := open_sl (f := 3) (sz := 3) (enc := encLW) hR0 calm0 Tryz.underlying23 (by kernel_rfl) (by kernel_rfl) (fun _ => rfl) okLW_of (hval 2 23 v2 rfl rfl) hf2
  obtain ⟨fu3, hf3⟩ := h3
  obtain ⟨ρ2, σ2, a3, l3, hR2, hc2, hle2, hv3, hg2, hok3, hsl3⟩ := open_sl (f := 3) (sz := 3) (enc := encLW) hR1 hc1 Tryz.underlying23 (by kernel_rfl) (by kernel_rfl) (fun _ => rfl) okLW_of (hval 3 23 v3 rfl rfl) hf3
  have hsl2 := hsl2.grow hg2
  obtain ⟨fu4, hf4⟩ := h4
  obtain ⟨n4, rfl, hlo4, hhi4⟩ := open_i (k := .u8) Tryz.underlying5 (hval 4 5 v4 rfl rfl) hf4
  have hlo4 : (0 : Int) ≤ n4 := hlo4
  have hhi4 : n4 ≤ 255 := hhi4
  have hn0 := gnone0
  have hz0 : 1 < st0.n := by decide
  have hn1 : gnone σ1 := hg1.get hn0 hz0
  have hz1 : 1 < σ1.n := Nat.lt_of_lt_of_le hz0 hg1.n
  have hn2 : gnone σ2 := hg2.get hn1 hz1
  have hz2 : 1 < σ2.n := Nat.lt_of_lt_of_le hz1 hg2.n
  exact law_calls (E := E1) (s := Rows.recordApartSpec) (aa := #[(.int .u64 n0), (.int .u64 n1), a2, a3, (.int .u8 n4)]) good (ext_ok rfl rfl) gam1 laidOut0 (by kernel_rfl) (bt := 4) (by kernel_rfl) Tryz.underlying4 rfl hW' rfl hR2 hc2 (LR.cons (.plain _ rfl) (LR.cons (.plain _ rfl) (LR.cons (hv2.mono hle2) (LR.cons hv3 (LR.cons (.plain _ rfl) (.nil _)))))).toArray (law_RecordApart n0 n1 hlo0 hhi0 hlo1 hhi1 l2 l3 hok2 hok3 a2 a3 n4 hlo4 hhi4 σ2 hn2 hz2 hsl2 hsl3)
theorem laid_met (os : Os) : laidMet Tryz.prog Rows.recordApartRow.laid ((laidWorld os).forCall (fun _ _ => 0) ⟨#[], #[.int .u64 0, .int .u64 0, .slice none 0 0, .slice none 0 0, .int .u8 0], []⟩).memory :=
  laidMet_of_run' 8 (by kernel_rfl) (by kernel_rfl)
theorem reads (os : Os) {H : Type} (enc : TypeId × Value → H) : ∃ places, DataW.whole enc Tryz.prog ((laidWorld os).forCall (fun _ _ => 0) ⟨#[], #[.int .u64 0, .int .u64 0, .slice none 0 0, .slice none 0 0, .int .u8 0], []⟩).memory Tryz.f5.params.toList Rows.recordApartSpec.vars false (#[.int .u64 0, .int .u64 0, .slice none 0 0, .slice none 0 0, .int .u8 0] : Array Value).toList 8 = some ([.lit (.int .u64 0), .lit (.int .u64 0), .nil, .nil, .lit (.int .u8 0)], [], places) :=
  ⟨[], by kernel_rfl⟩
set_option maxRecDepth 100000 in
theorem lifted (os : Os) (started : os.Started) (H : Type) (enc : TypeId × Value → H) (F : Stop.Interp) :
    ReturnsInHanded {} Tryz.checked os 5 .any ((OpenSpec.ofChange Rows.recordApartSpec).preRow enc Tryz.prog Tryz.f5 Rows.recordApartRow.domain false Rows.recordApartRow.laid) (((OpenSpec.ofChange Rows.recordApartSpec).at F).post enc Tryz.prog Tryz.f5 false true false false) := by
  obtain ⟨places, hx⟩ := reads os enc
  refine returnsInHanded_of_row (C := Tryz.checked) (s := OpenSpec.ofChange Rows.recordApartSpec) own0 started (by kernel_rfl) Tryz.func5
    (witness_row_at (enc := enc) (C := Tryz.checked) false (laidWorld os) #[.int .u64 0, .int .u64 0, .slice none 0 0, .slice none 0 0, .int .u8 0] rfl (by kernel_rfl) (by kernel_rfl) (by kernel_rfl)
      (OpenSpec.preRow_of_cond 8 hx (by kernel_rfl) (fun k hk => by cases hk) (by kernel_rfl) (laid_met os))) ?_
  intro W base args ds gs before hval hW _ _ _ hL _ _
  exact contract H enc W base args ds gs before hval hW hL
theorem said : Rows.RecordApartSaid :=
  OpenClaim.holds_of_cond 5 Tryz.f5 rfl rfl rfl rfl rfl rfl rfl ⟨rfl, rfl, rfl, rfl, rfl⟩ rfl rfl rfl rfl rfl (by kernel_rfl) Tryz.func5 (by kernel_rfl)
    (of_decide_eq_true (by kernel_rfl)) (by unfold Func.isWrapper; first | (rw [if_pos (by decide +kernel)]; kernel_rfl) | (rw [if_neg (by decide +kernel)]; exact ⟨rfl, rfl⟩))
    (fun os started H enc _ F => by rw [OpenClaim.pre_eq_preRow]; exact lifted os started H enc F)
theorem plain (f : FuncId) (fn : Func) (hf : Tryz.pinned.checked.prog.funcNamed "selion/selionlaw13.RecordApart" = some f) (hfn : Tryz.pinned.checked.prog.funcs[f]? = some fn) :
    true = Tryz.pinned.checked.prog.looks [] ∧ ∀ (j : Nat) t, fn.params[j]? = some t → Tryz.pinned.checked.prog.wantsStandIn t = false := by
  obtain rfl : f = 5 := Option.some.inj ((show Tryz.prog.funcNamed "selion/selionlaw13.RecordApart" = some 5 by kernel_rfl).symm.trans hf) |>.symm
  obtain rfl : fn = Tryz.f5 := (Option.some.inj (Tryz.func5.symm.trans hfn)).symm
  refine ⟨by kernel_rfl, fun j t ht => ?_⟩
  rw [Tryz.params5] at ht
  have hm : t ∈ [31, 31, 23, 23, 5] := by simpa using Array.mem_of_getElem? ht
  have hall : ([31, 31, 23, 23, 5].all fun u => !Tryz.prog.wantsStandIn u) = true := by kernel_rfl
  exact (show Tryz.prog.wantsStandIn t = false by simpa using List.all_eq_true.1 hall t hm)
theorem card : Rows.RecordApartCardSaid :=
  Claim7.holds_tied_plain_at .later [] _ _ _ _ said (fun _ h => by cases h) (by kernel_rfl) (fun _ h => by cases h) recordApart_row_tie rfl ⟨rfl, rfl⟩ (by kernel_rfl) rfl plain (by kernel_rfl)
end RecordApart
end Go.Sm
namespace Go.Proofs.YtkcljmaklingoaaGreatDoor
theorem recordApart_proved : Rows.RecordApartCardSaid := Go.Sm.RecordApart.card
end Go.Proofs.YtkcljmaklingoaaGreatDoor

