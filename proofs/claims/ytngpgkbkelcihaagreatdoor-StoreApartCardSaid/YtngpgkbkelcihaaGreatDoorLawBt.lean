/- Part LawBt of the proof. -/
import Derived.Test.YtngpgkbkelcihaaGreatDoorLawAt
import Derived.Test.YtngpgkbkelcihaaGreatDoorRowB
import Derived.Test.YtngpgkbkelcihaaGreatDoorSmC
/- A chain with one more: plain facts. -/
set_option linter.unusedSimpArgs false
namespace Go.Sm
theorem mem_put {c : List Ver} {x u : Ver} : u ∈ putL c x ↔ u = x ∨ (u ∈ c ∧ u.at_ ≠ x.at_) := by
  unfold putL
  simp only [List.mem_append, List.mem_filter, List.mem_cons, decide_eq_true_eq]
  constructor
  · rintro (⟨h, h2⟩ | rfl | ⟨h, h2⟩)
    · exact .inr ⟨h, by omega⟩
    · exact .inl rfl
    · exact .inr ⟨h, by omega⟩
  · rintro (rfl | ⟨h, h2⟩)
    · exact .inr (.inl rfl)
    · by_cases e : u.at_ < x.at_
      · exact .inl ⟨h, e⟩
      · exact .inr (.inr ⟨h, by omega⟩)
theorem Srt.inj {c : List Ver} (h : Srt c) {u v : Ver} (hu : u ∈ c) (hv : v ∈ c) (e : u.at_ = v.at_) : u = v := by
  have a := h.lk_mem hu
  have b := h.lk_mem hv
  rw [e, b] at a
  exact (Option.some.inj a).symm
theorem atL_none {c : List Ver} {t : Int} : atL c t = none ↔ ∀ u ∈ c, ¬ u.at_ ≤ t := by
  unfold atL
  rw [List.getLast?_eq_none_iff, List.filter_eq_nil_iff]
  simp
theorem atL_max {c : List Ver} (hs : Srt c) {t : Int} {a : Ver} (h : atL c t = some a) : a ∈ c ∧ a.at_ ≤ t ∧ ∀ u ∈ c, u.at_ ≤ t → u.at_ ≤ a.at_ := by
  unfold atL at h
  have hm := List.mem_of_getLast? h
  rw [List.mem_filter, decide_eq_true_eq] at hm
  refine ⟨hm.1, hm.2, fun u hu hut => ?_⟩
  have hF : Srt (c.filter fun v => decide (v.at_ ≤ t)) := hs.filter _
  have hu' : u ∈ (c.filter fun v => decide (v.at_ ≤ t)) := List.mem_filter.2 ⟨hu, by simpa using hut⟩
  obtain ⟨ys, hys⟩ := List.getLast?_eq_some_iff.1 h
  rw [hys] at hF hu'
  rcases List.mem_append.1 hu' with h1 | h1
  · have := (List.pairwise_append.1 hF).2.2 u h1 a (by simp)
    omega
  · rw [List.mem_singleton] at h1; rw [h1]; exact Int.le_refl _
theorem atL_some {c : List Ver} (hs : Srt c) {t : Int} {a : Ver} (h1 : a ∈ c) (h2 : a.at_ ≤ t) (h3 : ∀ u ∈ c, u.at_ ≤ t → u.at_ ≤ a.at_) : atL c t = some a := by
  cases h : atL c t with
  | none => exact absurd h2 (atL_none.1 h a h1)
  | some b =>
    obtain ⟨g1, g2, g3⟩ := atL_max hs h
    have a1 := g3 a h1 h2
    have a2 := h3 b g1 g2
    rw [hs.inj g1 h1 (by omega)]
theorem put_before {c : List Ver} (hs : Srt c) {x : Ver} {t : Int} (h : t < x.at_) : atL (putL c x) t = atL c t := by
  cases ha : atL c t with
  | none =>
    rw [atL_none] at ha ⊢
    intro u hu
    rcases mem_put.1 hu with rfl | ⟨h1, h2⟩
    · omega
    · exact ha u h1
  | some a =>
    obtain ⟨g1, g2, g3⟩ := atL_max hs ha
    refine atL_some (hs.put x) (mem_put.2 (.inr ⟨g1, by omega⟩)) g2 fun u hu hut => ?_
    rcases mem_put.1 hu with rfl | ⟨h1, h2⟩
    · omega
    · exact g3 u h1 hut
theorem put_after {c : List Ver} (hs : Srt c) {x a : Ver} {t : Int} (h : atL c t = some a) (hx : x.at_ < a.at_) : atL (putL c x) t = some a := by
  obtain ⟨g1, g2, g3⟩ := atL_max hs h
  refine atL_some (hs.put x) (mem_put.2 (.inr ⟨g1, by omega⟩)) g2 fun u hu hut => ?_
  rcases mem_put.1 hu with rfl | ⟨h1, h2⟩
  · omega
  · exact g3 u h1 hut
theorem put_here {c : List Ver} (hs : Srt c) {x : Ver} {t : Int} (h : x.at_ ≤ t) (ha : ∀ a, atL c t = some a → a.at_ ≤ x.at_) : atL (putL c x) t = some x := by
  refine atL_some (hs.put x) (mem_put.2 (.inl rfl)) h fun u hu hut => ?_
  rcases mem_put.1 hu with rfl | ⟨h1, h2⟩
  · exact Int.le_refl _
  · cases hc : atL c t with
    | none => exact absurd hut (atL_none.1 hc u h1)
    | some a =>
      have := (atL_max hs hc).2.2 u h1 hut
      have := ha a hc
      omega
end Go.Sm
/- Operations under a condition in a drawn region. -/
set_option linter.unusedVariables false
set_option linter.unusedSimpArgs false
namespace Go.Sm
open Go
section
variable {E : Env} {σ : CSt}
theorem dopsR_if {ops : Array Oper} {b : Array Nat} {a0 : CAct} {Q : Out → CSt → Prop} {rs : List Rec} {i : Nat} {a : CAct} {dst : Option Tmp} {op : Op} {ty : TypeId} {pos : String} {after : Array Edge} {j : Nat} {want : Bool} {rest : List (Nat × Oper)} (hd : ((ops[j]?).bind (·.dst)).isSome = true) (hs : dstOf ops j < a.sz) :
    dopsR E ops b Q a0 ((i, ⟨dst, op, ty, pos, after, some (j, want)⟩) :: rest) a σ rs =
      guardK (a.get (dstOf ops j)) want
        (if isEff E.P ⟨dst, op, ty, pos, after, some (j, want)⟩ = true then dres E ops a0 a dst (fun a' σ' => again E.P ops b σ' i rs ∧ dopsR E ops b Q a0 rest a' σ' rs) Q σ (cop E.P σ a.eval ⟨dst, op, ty, pos, after, some (j, want)⟩)
          else rres (fun v => dopsR E ops b Q a0 rest (a.put dst v) σ (⟨i, a, v⟩ :: rs)) (cop E.P σ a.eval ⟨dst, op, ty, pos, after, some (j, want)⟩))
        (dopsR E ops b Q a0 rest (a.put dst nope) σ rs) := by
  obtain ⟨d, hd⟩ := Option.isSome_iff_exists.1 hd
  have hdd : dstOf ops j = d := by simp [dstOf, hd]
  rw [hdd] at hs ⊢
  rw [dopsR]
  simp only [wantedC, hd, hs, if_true]
  unfold guardK
  generalize a.get d = v
  cases v with
  | bool b => cases b <;> cases want <;> rfl
  | chan c => cases c <;> rfl
  | _ => rfl
end
end Go.Sm
/- ChainBetween: the walk. -/
set_option linter.unusedVariables false
set_option linter.unusedSimpArgs false
namespace Go.Sm
open Go Go.Proofs
set_option maxRecDepth 100000
set_option maxHeartbeats 4000000
theorem put_len (c : List Ver) (x : Ver) : (putL c x).length ≤ c.length + 1 := by
  unfold putL
  rw [List.length_append, List.length_cons]
  have h : ∀ (l : List Ver), (l.filter fun u => decide (u.at_ < x.at_)).length + (l.filter fun u => decide (x.at_ < u.at_)).length ≤ l.length := by
    intro l
    induction l with
    | nil => simp
    | cons u l ih =>
      by_cases h1 : u.at_ < x.at_
      · have h2 : ¬ x.at_ < u.at_ := by omega
        simp [h1, h2]; omega
      · by_cases h2 : x.at_ < u.at_
        · simp [h1, h2]; omega
        · simp [h1, h2]; omega
  have := h c
  omega
theorem law_ChainBetween (l : List VV) (hok : ∀ x ∈ l, x.ok) (x : VV) (hx : x.ok) (t : Int) (ht0 : 0 ≤ t) (ht1 : t < 256) (v : Value) (σ : CSt) (hn : gnone σ) (hz : 0 < σ.n) (hsl : Sl σ 34 3 encU v l) : W E1 (.fn 7 #[v, .agg (encU x).toArray, .int .u8 t] none) σ isTrueP := by
  rw [W_fn (fn := Tryz.f7) Tryz.func7 rfl rfl rfl]
  obtain ⟨p, c, rfl⟩ := hsl.form
  have hgr0 : Grow σ (σ.alloc (.cells (encU x) 34 false)) := (Grow.refl σ).alloc _
  have hn0 : gnone (σ.alloc (.cells (encU x) 34 false)) := hgr0.get hn hz
  simp only [encU] at hgr0 hn0
  simp [wops_cons, encU]
  rw [awake_spec rfl hn0]
  simp [wops_cons]
  by_cases hl : 30 < l.length
  · have hl' : (30 : Int) < l.length := by omega
    simp [wops_cons, hl', isTrueP]
  · have hl' : ¬ (30 : Int) < l.length := by omega
    have hwt : IntKind.u64.wrap t = t := IntWalk.u64_in _ (by omega)
    have hwx : IntKind.u64.wrap x.at_ = x.at_ := IntWalk.u64_in _ (by have := hx.1; omega)
    have hxa := verOf_at x
    have hml := make_len (l.map verOf)
    rw [List.length_map] at hml
    have hCs := makeL_srt (l.map verOf)
    have hvm := vmake_spec x hx
    simp only [encU] at hvm
    simp [wops_cons, hl']
    refine make_spec l hok _ _ (hsl.grow hgr0) (by omega) _ fun v1 σ1 h1 g1 => ?_
    generalize hC : makeL (l.map verOf) = C at h1 hml hCs
    have hb1 : σ1.get σ.n = some (.cells [.int .u8 x.at_, .int .u8 x.v, .bool x.gone] 34 false) := g1.get (by simp) (by simp)
    have hn1 : σ.n < σ1.n := by have := g1.n; simp at this; omega
    generalize hX : verOf x = X at hvm hxa
    simp [wops_cons, hb1]
    refine hvm σ1 _ fun σ2 g2 => ?_
    simp [wops_cons]
    refine put_spec C hCs v1 X σ2 (h1.grow g2) (by omega) _ fun v3 σ3 h3 g3 => ?_
    have h3' := h3.sl (sz := 3) (fun _ => rfl)
    have hDs := hCs.put X
    have hdl := put_len C X
    simp [wops_cons, hwt]
    refine at_spec C hCs v1 t σ3 (h1.grow (g2.trans g3)) (by omega) _ fun σ4 g4 => ?_
    rw [retV2_eq]
    simp [wops_cons, encV, hwt]
    refine at_spec (putL C X) hDs v3 t _ ((h3'.grow g4).grow (((Grow.refl σ4).alloc _).put (Nat.le_refl _) _)) (by omega) _ fun σ5 g5 => ?_
    have hc5 : σ5.get σ4.n = some (.cells [.int .u64 ((atL C t).getD zeroV).at_, .string ((atL C t).getD zeroV).val, .bool ((atL C t).getD zeroV).gone] 29 false) := g5.get (by simp) (by simp)
    have hne : ¬ (σ4.n = σ5.n) := by have := g5.n; simp at this; omega
    have g15 : Grow σ1 σ5 := ((((g2.trans g3).trans g4).alloc _).put (by have := ((g2.trans g3).trans g4).n; simpa using this) _).trans g5
    have hb5 := g15.get hb1 hn1
    have hne2 : ¬ (σ.n = σ5.n) := by have := g15.n; omega
    have hA1 := fun h => put_before hCs (x := X) (t := t) h
    have hA2 := fun a h => put_after hCs (x := X) (a := a) (t := t) h
    have hA3 := put_here hCs (x := X) (t := t)
    rw [retV2_eq]
    simp [wops_cons, encV, wops_if', dstOf, hb5, hne2]
    by_cases hlt : t < x.at_
    · have hD := hA1 (by omega)
      rw [hD]
      have hcmp := fun σ y z => (cmp_ver ((atL C t).getD zeroV) ((atL C t).getD zeroV) σ y z).1
      simp only [encV, decide_true] at hcmp
      simp [wops_cons, wops_if', dstOf, hlt, hc5, hne, hcmp, bin_booleq Tryz.underlying4, isTrueP]
    · cases ha : atL C t with
      | none =>
        have hD := hA3 (by omega) (fun a h => by rw [ha] at h; cases h)
        rw [ha] at hc5
        rw [hD]
        simp [wops_cons, wops_if', dstOf, hlt, hc5, hne, hne2, hwx, hb5]
        refine W_drawn (l := [0, 1, 2, 3, 4, 5, 6, 7]) (b := #[0, 1, 3, 3, 11, 31, 63, 127]) (by kernel_rfl) (by kernel_rfl) (by kernel_rfl) ?_
        simp [dopsR_cons, dopsR_if, dstOf, opAt, isEff, again, befBits, isRead, Nat.add_assoc, hb5, hne2]
        refine hvm _ _ fun σ6 g6 => ?_
        have hb6 := g6.get (i := σ.n) (o := .cells [.int .u8 x.at_, .int .u8 x.v, .bool x.gone] 34 false) (by simp [hb5, hne2]) (by have := g15.n; simp; omega)
        have hx6 := g6.get (i := σ5.n) (o := .cells [.int .u64 X.at_, .string X.val, .bool X.gone] 29 false) (by simp) (by simp)
        have hcmp := fun σ y z => (cmp_ver X X σ y z).1
        simp only [encV, decide_true] at hcmp
        simp [dopsR_cons, dopsR_if, dstOf, opAt, isEff, again, befBits, isRead, Nat.add_assoc, hb6, hx6, hcmp, encV, isTrueP]
      | some a =>
        rw [ha] at hc5
        by_cases hax : x.at_ < a.at_
        · have hD := hA2 a ha (by omega)
          rw [hD]
          have hcmp := fun σ y z => (cmp_ver a a σ y z).1
          simp only [encV, decide_true] at hcmp
          simp [wops_cons, wops_if', dstOf, hlt, hc5, hne, hne2, hwx, hb5, hax, hcmp, bin_booleq Tryz.underlying4, isTrueP]
        · have hD := hA3 (by omega) (fun b h => by rw [ha] at h; cases h; omega)
          rw [hD]
          simp [wops_cons, wops_if', dstOf, hlt, hc5, hne, hne2, hwx, hb5, hax]
          refine W_drawn (l := [0, 1, 2, 3, 4, 5, 6, 7]) (b := #[0, 1, 3, 3, 11, 31, 63, 127]) (by kernel_rfl) (by kernel_rfl) (by kernel_rfl) ?_
          simp [dopsR_cons, dopsR_if, dstOf, opAt, isEff, again, befBits, isRead, Nat.add_assoc, hb5, hne2]
          refine hvm _ _ fun σ6 g6 => ?_
          have hb6 := g6.get (i := σ.n) (o := .cells [.int .u8 x.at_, .int .u8 x.v, .bool x.gone] 34 false) (by simp [hb5, hne2]) (by have := g15.n; simp; omega)
          have hx6 := g6.get (i := σ5.n) (o := .cells [.int .u64 X.at_, .string X.val, .bool X.gone] 29 false) (by simp) (by simp)
          have hcmp := fun σ y z => (cmp_ver X X σ y z).1
          simp only [encV, decide_true] at hcmp
          simp [dopsR_cons, dopsR_if, dstOf, opAt, isEff, again, befBits, isRead, Nat.add_assoc, hb6, hx6, hcmp, encV, isTrueP]
end Go.Sm
