/- ChainPuts: the walk. -/
import Derived.Test.YtngpgkbkelcihaaGreatDoorSmChain
import Derived.Test.YtngpgkbkelcihaaGreatDoorSmC
set_option linter.unusedVariables false
set_option linter.unusedSimpArgs false
namespace Go.Sm
open Go Go.Proofs
set_option maxRecDepth 100000
set_option maxHeartbeats 2000000
theorem awake_spec {f : FuncId} (hf : E1.gam f = some awakeG) {σ : CSt} (hn : gnone σ) {Q : Out → CSt → Prop} : W E1 (.fn f #[] none) σ Q = Q (.ret (.bool true) false) σ :=
  W_gam hf rfl (by unfold awakeG; rw [if_pos ⟨rfl, hn⟩])
theorem at_ok (l : List VV) (h : ∀ x ∈ l, x.ok) : ∀ v ∈ l.map verOf, 0 ≤ v.at_ ∧ v.at_ < 256 := by
  intro v hv
  obtain ⟨x, hx, rfl⟩ := List.mem_map.1 hv
  rw [verOf_at]
  exact (h x hx).1
theorem law_ChainPuts (l : List VV) (hok : ∀ x ∈ l, x.ok) (v : Value) (σ : CSt) (hn : gnone σ) (hsl : Sl σ 34 3 encU v l) : W E1 (.fn 3 #[v] none) σ isTrueP := by
  rw [W_fn (fn := Tryz.f3) Tryz.func3 rfl rfl rfl]
  obtain ⟨p, c, rfl⟩ := hsl.form
  simp [wops_cons]
  rw [awake_spec rfl hn]
  simp [wops_cons]
  by_cases hl : 40 < l.length
  · have hl' : (40 : Int) < l.length := by omega
    simp [wops_cons, wops_if', dstOf, hl', isTrueP]
  · have hl' : ¬ (40 : Int) < l.length := by omega
    simp [wops_cons, wops_if', dstOf, hl']
    refine make_spec l hok _ σ hsl (by omega) _ fun v1 σ1 h1 g1 => ?_
    simp [wops_cons, wops_if', dstOf, hl']
    refine plain_spec l hok _ σ1 (hsl.grow g1) (by omega) _ fun v2 σ2 h2 g2 => ?_
    simp [wops_cons, wops_if', dstOf, hl']
    refine equal_ch _ _ v1 v2 σ2 (h1.grow g2) (h2.sl fun _ => rfl) (by have := make_len (l.map verOf); simp at this; omega) _ fun σ3 g3 => ?_
    rw [decide_eq_true (make_plain _ (at_ok l hok))]
    simp [wops_cons, wops_if', dstOf, hl', isTrueP]
end Go.Sm
