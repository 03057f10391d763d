/- Part F of the proof. -/
import Derived.Test.YtkcljmaklingoaaGreatDoorCards
import Derived.Test.YtkcljmaklingoaaGreatDoorTie
import Derived.ProofKit
import Derived.OpenShut
import Derived.LaidMore
import Derived.Deep.DeepHandedRow
import Derived.Test.YtkcljmaklingoaaGreatDoorPartD
import Derived.Test.YtkcljmaklingoaaGreatDoorPartE
/- The start: the listed variable, in the abstract state. -/
set_option linter.unusedVariables false
namespace Go.Sm
open Go Go.Proofs Go.Proofs.YtkcljmaklingoaaGreatDoor Go.ChangeShapes Go.WideShapes
theorem gNone : Tryz.prog.globalNamed "selion/span.none" = some 1 := by kernel_rfl
theorem tNone : (Tryz.prog.globals[1]?).map (·.type) = some 145 := by kernel_rfl
set_option maxRecDepth 100000 in
theorem base_R {W : World} (h : laidMetH Tryz.prog Rows.recordBackRow.laid W) : ∃ ρ, R Tryz.prog ρ st0 W := by
  rw [MakeChecks.laidMetH_plain _ _ _ (by kernel_rfl)] at h
  obtain ⟨ps, ⟨g0, t0, cs0, f0, p0, q0, hg0, ht0, hv0, hd0, _⟩, _⟩ := h
  obtain rfl := Option.some.inj (gNone.symm.trans hg0)
  obtain rfl := Option.some.inj (tNone.symm.trans ht0)
  obtain ⟨xs, n, rfl, hx, hcl, hxl, hf⟩ := DataW.trod_struct Tryz.underlying145 hd0
  have c187 : Tryz.prog.cellsOf 145 = 2 := by kernel_rfl
  have c27 : Tryz.prog.cellsOf 31 = 1 := by kernel_rfl
  have h0 : DataW.trod _ Tryz.prog W 0 _ false n 31 ((cs0.toList.drop 0).take (Tryz.prog.cellsOf 31)) = xs[0]? := hf 0 _ rfl
  have h1 : DataW.trod _ Tryz.prog W 0 _ false n 31 ((cs0.toList.drop 1).take (Tryz.prog.cellsOf 31)) = xs[1]? := hf 1 _ rfl
  rw [c27] at h0 h1
  rw [c187] at hcl
  match hcs : cs0.toList, hcl with
  | [x, y], _ =>
    rw [hcs] at h0 h1
    match xs, hxl with
    | [u, v], _ =>
      obtain ⟨k, e1, e2, _⟩ := DataW.trod_int Tryz.underlying31 (show DataW.trod _ Tryz.prog W 0 _ false n 31 [x] = some u from h0)
      obtain ⟨m, e3, e4, _⟩ := DataW.trod_int Tryz.underlying31 (show DataW.trod _ Tryz.prog W 0 _ false n 31 [y] = some v from h1)
      cases e1; cases e3
      subst e2; subst e4
      simp only [Prod.mk.injEq] at hx
      have hx1 : (DataW.agg [.lit (.int .u64 1), .lit (.int .u64 0)] : DataW Unit) = .agg [.lit (.int .u64 k), .lit (.int .u64 m)] := hx.1
      simp at hx1
      obtain ⟨rfl, rfl⟩ := hx1
      have hc0 : W.cell? ⟨1, 0, none⟩ = some (.int .u64 1) := by
        have := World.var?_cell hg0 hv0 0
        rw [this, ← Array.getElem?_toList, hcs]
        rfl
      have hc1 : W.cell? ⟨1, 1, none⟩ = some (.int .u64 0) := by
        have := World.var?_cell hg0 hv0 1
        rw [this, ← Array.getElem?_toList, hcs]
        rfl
      have hlt := World.block_lt_of_cell? _ _ hc0
      refine ⟨fun g => if g < globalLimit then some ⟨g, 0, 2, Tryz.prog.cellsOf 0⟩ else none, fun i hi => ?_, fun i hl => ?_, fun i p hp hl => ?_, fun i o p ho hp => ?_, fun i j p q hn hp hq hr hl => ?_, fun g hg => ⟨_, if_pos hg, rfl, rfl⟩, Nat.le_refl _⟩
      · exact if_neg (by have : globalLimit ≤ i := hi; omega)
      · obtain ⟨o, ho, _⟩ := hl
        obtain ⟨h1, _⟩ := base0.ro i o ho
        exact ⟨_, if_pos h1⟩
      · obtain ⟨o, ho, _⟩ := hl
        simp only [st0, CSt.get, Tr.get_set] at ho
        split at ho
        · rename_i hi
          subst hi
          rw [if_pos (by decide)] at hp
          cases hp
          exact hlt
        · simp [Tr.get_nil] at ho
      · simp only [st0, CSt.get, Tr.get_set] at ho
        split at ho
        · rename_i hi
          subst hi
          cases ho
          rw [if_pos (by decide)] at hp
          cases hp
          refine ⟨⟨Eq.refl (Tryz.prog.cellsOf 0), Nat.le_refl 2⟩, fun k u => ?_⟩
          match k, u with
          | 0, _ => exact ⟨_, hc0, .plain _ rfl⟩
          | 1, _ => exact ⟨_, hc1, .plain _ rfl⟩
        · simp [Tr.get_nil] at ho
      · obtain ⟨o, ho, hro, _⟩ := hr
        obtain ⟨_, c, e, rfl, _⟩ := base0.ro i o ho
        cases hro
theorem calm0 : Calm st0 := fun i ⟨o, ho, hro, _⟩ => by
  obtain ⟨_, c, e, rfl, _⟩ := base0.ro i o ho
  cases hro
theorem gnone0 : gnone st0 := by simp [gnone, st0, CSt.get]
end Go.Sm
/- What the rows of this seat share. -/
set_option linter.unusedVariables false
set_option linter.unusedSimpArgs false
namespace Go.Sm
open Go Go.Proofs Go.Proofs.YtkcljmaklingoaaGreatDoor Go.ChangeShapes Go.WideShapes Go.RowKit Go.ChangeAt
theorem own0 : ownKnob Tryz.prog.godebug = none := by kernel_rfl
theorem laidOut0 : laidOutB Tryz.prog = true := by kernel_rfl
noncomputable def laidWorld (os : Os) : World :=
  { World.holding Tryz.prog os ⟨#[], #[], []⟩ with heap := (World.holding Tryz.prog os ⟨#[], #[], []⟩).heap.modify 1 fun
      | .cells _ t frozen => .cells #[.int .u64 1, .int .u64 0] t frozen
      | o => o }
end Go.Sm
/- Rows of keys' versions among the arguments. -/
set_option linter.unusedVariables false
namespace Go.Sm
open Go Go.Proofs
theorem okW_of (r : List Value) (h : OkL [.int .u8, .int .u8, .int .u8, .bool] r) : ∃ x : WW, x.ok ∧ r = encW x := by
  match r, h with
  | [d, a, b, c], ⟨⟨k, hd, hk⟩, ⟨n, ha, hn⟩, ⟨m, hb, hm⟩, ⟨g, hc⟩, _⟩ =>
    subst ha; subst hb; subst hc; subst hd
    simp only [Lit.wf, Bool.and_eq_true, decide_eq_true_eq] at hn hm hk
    have e1 : IntKind.u8.min = 0 := rfl
    have e2 : IntKind.u8.max = 255 := rfl
    rw [e1, e2] at hn hm hk
    exact ⟨⟨k, ⟨n, m, g⟩⟩, by simp only [WW.ok, VV.ok]; omega, rfl⟩
end Go.Sm
