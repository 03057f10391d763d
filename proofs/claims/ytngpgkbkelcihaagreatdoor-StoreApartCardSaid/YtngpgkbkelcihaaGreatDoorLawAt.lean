/- Part LawAt of the proof. -/
import Derived.Test.YtngpgkbkelcihaaGreatDoorLawPuts
import Derived.Test.YtngpgkbkelcihaaGreatDoorRowB
import Derived.Test.YtngpgkbkelcihaaGreatDoorSmChain
/- ChainAt: the walk. -/
set_option linter.unusedVariables false
set_option linter.unusedSimpArgs false
namespace Go.Sm
open Go Go.Proofs
set_option maxRecDepth 100000
set_option maxHeartbeats 2000000
def zeroV : Ver := ⟨0, ⟨#[]⟩, false⟩
theorem encO_eq (o : Option Ver) : encO o = encV (o.getD zeroV) := by cases o <;> rfl
theorem retV2_eq (o : Option Ver) : retV2 o = .tuple #[.agg (encV (o.getD zeroV)).toArray, .bool o.isSome] := by cases o <;> rfl
theorem atL_snoc (c : List Ver) (v : Ver) (t : Int) : atL (c ++ [v]) t = if v.at_ ≤ t then some v else atL c t := by
  unfold atL
  rw [List.filter_append]
  by_cases h : v.at_ ≤ t <;> simp [h]
theorem take_snoc {α : Type} {l : List α} {k : Nat} (h : k < l.length) : l.take (k + 1) = l.take k ++ [l[k]] := List.take_succ_eq_append_getElem h
theorem plain_len (l : List Ver) (h : ∀ v ∈ l, 0 ≤ v.at_ ∧ v.at_ < 256) : (plainL l).length ≤ l.length := by rw [← make_plain l h]; exact make_len l
theorem plain_srt (l : List Ver) (h : ∀ v ∈ l, 0 ≤ v.at_ ∧ v.at_ < 256) : Srt (plainL l) := by rw [← make_plain l h]; exact makeL_srt l
theorem law_ChainAt (l : List VV) (hok : ∀ x ∈ l, x.ok) (t : Int) (ht0 : 0 ≤ t) (ht1 : t < 65536) (v : Value) (σ : CSt) (hn : gnone σ) (hsl : Sl σ 34 3 encU v l) : W E1 (.fn 5 #[v, .int .u16 t] none) σ isTrueP := by
  rw [W_fn (fn := Tryz.f5) Tryz.func5 rfl rfl rfl]
  obtain ⟨p, c, rfl⟩ := hsl.form
  simp [wops_cons]
  rw [awake_spec rfl hn]
  simp [wops_cons]
  by_cases hl : 40 < l.length
  · have hl' : (40 : Int) < l.length := by omega
    simp [wops_cons, hl', isTrueP]
  · have hl' : ¬ (40 : Int) < l.length := by omega
    have hT0 : 0 ≤ t.tmod 300 := Int.tmod_nonneg 300 ht0
    have hT1 : t.tmod 300 < 300 := Int.tmod_lt_of_pos t (by decide)
    have hwT : IntKind.u64.wrap (t.tmod 300) = t.tmod 300 := IntWalk.u64_in _ (by omega)
    have hsl0 := hsl.grow ((Grow.refl σ).alloc (.cells [.int .u64 0, .string ⟨#[]⟩, .bool false] 29 false))
    simp [wops_cons, hl']
    refine plain_spec l hok _ _ hsl0 (by omega) _ fun v1 σ1 h1 g1 => ?_
    have hpl := plain_len _ (at_ok l hok)
    rw [List.length_map] at hpl
    generalize hC : plainL (l.map verOf) = C at h1 hpl
    have hs1 := h1.sl (sz := 3) (fun _ => rfl)
    obtain ⟨p1, c1, rfl⟩ := hs1.form
    have hw0 := g1.get (i := σ.n) (o := .cells [.int .u64 0, .string ⟨#[]⟩, .bool false] 29 false) (by simp) (by simp)
    have hn1 : σ.n < σ1.n := by have := g1.n; simp at this; omega
    have hgr0 : Grow σ σ1 := ((Grow.refl σ).alloc _).trans g1
    simp [wops_cons]
    refine W_loop_inv (fun n a σ' => ∃ tm j, a = ⟨tm, 48, [], false⟩ ∧ tm.get 0 = some (.slice p l.length c) ∧ tm.get 1 = some (.int .u16 t) ∧ tm.get 5 = some (.pointer (some ⟨σ.n, 0, none⟩)) ∧ tm.get 6 = some (.bool (atL (C.take j) (t.tmod 300)).isSome) ∧ tm.get 17 = some (.slice p1 C.length c1) ∧
      tm.get 18 = some (.int .i64 C.length) ∧ tm.get 19 = some (.int .i64 (j : Nat)) ∧ j ≤ C.length ∧ n = C.length - j ∧ σ'.get σ.n = some (.cells (encO (atL (C.take j) (t.tmod 300))) 29 false) ∧ Own (σ.n + 1) σ' 29 encV (.slice p1 C.length c1) C ∧ Grow σ σ' ∧ σ.n < σ'.n) ?_ C.length _ _ ?_
    · rintro n a σ2 ⟨tm, j, rfl, h0, h1', h5, h6, h17, h18, h19, hj, hn, hlast, hs, hgr, hnn⟩
      by_cases hjl : j < C.length
      · obtain ⟨i, off, row, ro, rfl, hg, hin, hrow, hle⟩ := (hs.sl (sz := 3) (fun _ => rfl)).at hjl
        have hld := row_get (enc := encV) (fun _ => rfl) hrow j hjl
        have hl1 := row_le hle j hjl
        have hw2 := i64n1 j (by omega)
        have hgw : Grow σ2 ((σ2.alloc (.cells [.int .u64 0, .string ⟨#[]⟩, .bool false] 29 false)).put σ2.n (.cells [.int .u64 C[j].at_, .string C[j].val, .bool C[j].gone] 29 false)) := ((Grow.refl σ2).alloc _).put (Nat.le_refl _) _
        have hne : ¬ (σ.n = σ2.n) := by omega
        have hsn := take_snoc hjl
        have hcl : (encO (atL (C.take j) (t.tmod 300))).length = 3 := by rw [encO_eq]; rfl
        simp [wops_cons, h0, h1', h5, h6, h17, h18, h19, hjl, hg, hld, hl1]
        by_cases hat : C[j].at_ ≤ t.tmod 300
        · have hfin : atL (C.take (j + 1)) (t.tmod 300) = some C[j] := by rw [hsn, atL_snoc, if_pos hat]
          simp [wops_cons, encV, h0, h1', h5, h6, h17, h18, h19, hwT, hat, hlast, hne, hw2, hcl]
          refine ⟨_, ?_, j + 1, ?_, rfl, by omega, rfl, ?_, (hs.grow hgw).put (by omega) _, (hgr.trans hgw).put (Nat.le_refl _) _, by omega⟩
          · omega
          · rw [hfin]; rfl
          · rw [hfin, List.drop_of_length_le (by rw [hcl]; exact Nat.le_refl 3)]; rfl
        · have hfin : atL (C.take (j + 1)) (t.tmod 300) = atL (C.take j) (t.tmod 300) := by rw [hsn, atL_snoc, if_neg hat]
          simp [wops_cons, encV, h0, h1', h5, h6, h17, h18, h19, hwT, hat, hw2]
          refine ⟨_, ?_, j + 1, by rw [hfin], rfl, by omega, rfl, ?_, hs.grow hgw, hgr.trans hgw, by omega⟩
          · omega
          · simp [hne, hfin, hlast]
      · have hjl' : j = C.length := by omega
        subst hjl'
        rw [List.take_of_length_le (Nat.le_refl _)] at h6 hlast
        simp [wops_cons, h0, h1', h5, h6, h17, h18, h19]
        refine make_spec l hok _ σ2 (hsl.grow hgr) (by omega) _ fun v3 σ3 h3 g3 => ?_
        rw [make_plain _ (at_ok l hok), hC] at h3
        simp [wops_cons, h1', hwT]
        have hCs : Srt C := by rw [← hC]; exact plain_srt _ (at_ok l hok)
        refine at_spec C hCs v3 (t.tmod 300) σ3 h3 (by omega) _ fun σ4 g4 => ?_
        have hl4 := (g3.trans g4).get hlast hnn
        have hne : ¬ (σ.n = σ4.n) := by have := (g3.trans g4).n; omega
        rw [retV2_eq]
        rw [encO_eq] at hl4
        have hcmp := fun σ x y => (cmp_ver ((atL C (t.tmod 300)).getD zeroV) ((atL C (t.tmod 300)).getD zeroV) σ x y).1
        generalize (atL C (t.tmod 300)).getD zeroV = w at hl4 hcmp
        simp only [encV, decide_true] at hl4 hcmp
        simp [wops_cons, wops_if', dstOf, encV, h5, h6, hl4, hne, hcmp, bin_booleq Tryz.underlying4, isTrueP]
    · refine ⟨_, 0, rfl, ?_⟩
      simp
      exact ⟨rfl, hw0, h1, hgr0, hn1⟩
end Go.Sm
/- Purged chains: plain facts. -/
set_option linter.unusedSimpArgs false
namespace Go.Sm

theorem Srt.upto {t : Int} : ∀ {c : List Ver}, Srt c → ∃ m, m ≤ c.length ∧ (∀ i (h : i < c.length), c[i].at_ ≤ t ↔ i < m) ∧ (c.filter fun v => decide (v.at_ ≤ t)) = c.take m
  | [], _ => ⟨0, Nat.le_refl _, fun i h => absurd h (by simp), rfl⟩
  | v :: c, h => by
    obtain ⟨m, h1, h2, h3⟩ := Srt.upto (t := t) h.tail
    by_cases hv : v.at_ ≤ t
    · refine ⟨m + 1, by simpa using h1, fun i hi => ?_, ?_⟩
      · cases i with
        | zero => simpa using hv
        | succ i => simpa using h2 i (by simpa using hi)
      · simp [hv, h3]
    · have hall : ∀ u ∈ c, ¬ u.at_ ≤ t := fun u hu => by have := h.head u hu; omega
      refine ⟨0, Nat.zero_le _, fun i hi => ?_, ?_⟩
      · cases i with
        | zero => simpa using hv
        | succ i =>
          have hi' : i < c.length := by simpa using hi
          have := hall c[i] (List.getElem_mem hi')
          simp only [List.getElem_cons_succ, Nat.not_lt_zero, iff_false]
          exact this
      · rw [List.filter_cons, if_neg (by simpa using hv), List.take_zero, List.filter_eq_nil_iff]
        intro u hu
        simpa using hall u hu
/-- Where the part that stays begins. -/
theorem cut_start {c : List Ver} (hs : Srt c) (t : Int) : ∃ s, cutL c t = c.drop s ∧ ∀ i (h : i < c.length), (t < c[i].at_ ∨ (¬ (∃ h : i + 1 < c.length, c[i + 1].at_ ≤ t) ∧ c[i].gone = false)) ↔ s ≤ i := by
  obtain ⟨m, h1, h2, h3⟩ := hs.upto (t := t)
  have hl : (c.filter fun v => decide (v.at_ ≤ t)).length = m := by rw [h3, List.length_take]; omega
  cases m with
  | zero =>
    refine ⟨0, by unfold cutL; rw [hl]; rfl, fun i hi => ?_⟩
    have := h2 i hi
    simp only [Nat.zero_le, iff_true]
    left
    omega
  | succ n =>
    have hn : n < c.length := by omega
    have hcut : cutL c t = if c[n].gone then c.drop (n + 1) else c.drop n := cut_of hn h3
    cases hg : c[n].gone with
    | true =>
      refine ⟨n + 1, by rw [hcut, hg]; rfl, fun i hi => ?_⟩
      have a1 := h2 i hi
      constructor
      · rintro (h | ⟨h, h'⟩)
        · omega
        · by_cases e : i < n
          · exact absurd ⟨by omega, (h2 (i + 1) (by omega)).2 (by omega)⟩ h
          · by_cases e2 : i = n
            · subst e2; rw [hg] at h'; cases h'
            · omega
      · intro h; left; omega
    | false =>
      refine ⟨n, by rw [hcut, hg]; rfl, fun i hi => ?_⟩
      have a1 := h2 i hi
      constructor
      · rintro (h | ⟨h, h'⟩)
        · omega
        · by_cases e : i < n
          · exact absurd ⟨by omega, (h2 (i + 1) (by omega)).2 (by omega)⟩ h
          · omega
      · intro h
        by_cases e : i = n
        · subst e
          right
          refine ⟨?_, hg⟩
          rintro ⟨h4, h5⟩
          have := (h2 (i + 1) h4).1 h5
          omega
        · left; omega
/-- What the loop gathers. -/
def keepB (c : List Ver) (t : Int) (i : Nat) : Bool := match c[i]? with | some v => decide (t < v.at_) || (!((c[i + 1]?.map fun u => decide (u.at_ ≤ t)).getD false) && !v.gone) | none => false
def wantL (c : List Ver) (t : Int) : Nat → List Ver
  | 0 => []
  | n + 1 => wantL c t n ++ (if keepB c t n then c[n]?.toList else [])
theorem keepB_eq {c : List Ver} (t : Int) (i : Nat) (h : i < c.length) : keepB c t i = true ↔ (t < c[i].at_ ∨ (¬ (∃ h : i + 1 < c.length, c[i + 1].at_ ≤ t) ∧ c[i].gone = false)) := by
  unfold keepB
  rw [List.getElem?_eq_getElem h]
  by_cases h2 : i + 1 < c.length
  · simp [h2, List.getElem?_eq_getElem h2]
  · simp [h2, List.getElem?_eq_none (Nat.le_of_not_lt h2)]
theorem want_eq {c : List Ver} (hs : Srt c) (t : Int) : wantL c t c.length = cutL c t := by
  obtain ⟨s, h1, h2⟩ := cut_start hs t
  have : ∀ n, n ≤ c.length → wantL c t n = (c.take n).drop s := by
    intro n
    induction n with
    | zero => intro _; simp [wantL]
    | succ n ih =>
      intro hn
      have hk := (keepB_eq t n (by omega)).trans (h2 n (by omega))
      rw [wantL, ih (by omega), List.take_succ_eq_append_getElem (by omega)]
      by_cases e : s ≤ n
      · rw [if_pos (hk.2 e), List.drop_append_of_le_length (by rw [List.length_take]; omega), List.getElem?_eq_getElem (by omega)]; rfl
      · rw [if_neg (fun h => e (hk.1 h)), List.append_nil, List.drop_of_length_le (by rw [List.length_take]; omega), List.drop_of_length_le (by simp; omega)]
  rw [this _ (Nat.le_refl _), List.take_length, h1]
theorem want_len (c : List Ver) (t : Int) : ∀ n, (wantL c t n).length ≤ n
  | 0 => by simp [wantL]
  | n + 1 => by
    have := want_len c t n
    rw [wantL, List.length_append]
    split
    · cases c[n]? <;> simp <;> omega
    · simp; omega
theorem want_succ (c : List Ver) (t : Int) (n : Nat) (h : n < c.length) : wantL c t (n + 1) = if keepB c t n then wantL c t n ++ [c[n]] else wantL c t n := by
  rw [wantL, List.getElem?_eq_getElem h]
  split <;> simp
theorem atL_take {c : List Ver} (hs : Srt c) (t : Int) : ∃ m, m ≤ c.length ∧ (∀ i (h : i < c.length), c[i].at_ ≤ t ↔ i < m) ∧ (∀ s, atL (c.drop s) t = ((c.take m).drop s).getLast?) := by
  obtain ⟨m, h1, h2, h3⟩ := hs.upto (t := t)
  refine ⟨m, h1, h2, fun s => ?_⟩
  unfold atL
  congr 1
  have hd : ∀ i (h : i < (c.drop s).length), (c.drop s)[i].at_ ≤ t ↔ i < m - s := by
    intro i h
    simp only [List.length_drop] at h
    rw [List.getElem_drop]
    have := h2 (s + i) (by omega)
    omega
  have hs2 : Srt (c.drop s) := List.Pairwise.sublist (List.drop_sublist s c) hs
  obtain ⟨m', h1', h2', h3'⟩ := hs2.upto (t := t)
  have : m' = min (m - s) (c.drop s).length := by
    simp only [List.length_drop] at h1' ⊢
    rcases Nat.lt_trichotomy m' (min (m - s) (c.length - s)) with h | h | h
    · have a := h2' m' (by simp; omega)
      have b := hd m' (by simp; omega)
      omega
    · exact h
    · have a := h2' (min (m - s) (c.length - s)) (by simp; omega)
      have b := hd (min (m - s) (c.length - s)) (by simp; omega)
      omega
  rw [h3', this, List.drop_take, Nat.min_comm, ← List.take_take, List.take_of_length_le (by simp; omega)]
theorem purge_law {c : List Ver} (hs : Srt c) {t u : Int} (htu : t ≤ u) : (atL (cutL c t) u = atL c u) ∨ (atL (cutL c t) u = none ∧ ∀ v, atL c u = some v → v.gone = true) := by
  obtain ⟨s, h1, h2⟩ := cut_start hs t
  obtain ⟨m, h3, h4, h5⟩ := atL_take hs u
  have h6 := h5 0
  simp only [List.drop_zero] at h6
  rw [h1, h5, h6]
  by_cases e : s < m
  · left
    rw [List.getLast?_drop, if_neg (by rw [List.length_take]; omega)]
  · right
    refine ⟨by rw [List.drop_of_length_le (by rw [List.length_take]; omega)]; rfl, fun v hv => ?_⟩
    cases m with
    | zero => simp at hv
    | succ n =>
      rw [take_last (by omega)] at hv
      cases hv
      have a := h2 n (by omega)
      have b := (h4 n (by omega)).2 (by omega)
      cases hg : c[n].gone with
      | true => rfl
      | false =>
        exfalso
        rw [hg] at a
        have : s ≤ n := a.1 (.inr ⟨fun ⟨h7, h8⟩ => by have := (h4 (n + 1) h7).1 (by omega); omega, rfl⟩)
        omega
end Go.Sm
