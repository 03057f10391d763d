/- Part F of the proof. -/
import Derived.Test.YtlkoipbodffcnaaGreatDoorPartD
import Derived.Test.YtlkoipbodffcnaaGreatDoorPartE
/- Sets of times: Meet, Join. -/
set_option linter.unusedVariables false
set_option linter.unusedSimpArgs false
namespace Go.Sm
open Go Go.Proofs
set_option maxRecDepth 100000
set_option maxHeartbeats 4000000
/-- Some spans more: what else stays. -/
theorem app_sns {ts : Array TypeId} {f : TF} (hf : ts[0]?.bind (elemF Tryz.prog) = some (31, f)) (hu : (ts[1]?.bind (elemT Tryz.prog)).isSome = true) (hfs : f.size = 2) (h1 : f.bytes = 16) (h2 : f.zero.map List.length = some 2) {b : Nat} {s1 : CSt} {l ms : List Sn} (hms : ms ≠ []) (hms2 : ms.length < 100) {v : Value} (ho : Own b s1 31 encS v l) (hb : b ≤ s1.n) (hl : l.length < 2 ^ 40) :
    ∃ p9 c9 s9, appendOp Tryz.prog (s1.alloc (.cells (ms.flatMap encS) 31 false)) ts v (.slice (some ⟨s1.n, 0, none⟩) ms.length ms.length) = some (.slice p9 (l.length + ms.length) c9, s9) ∧ Own b s9 31 encS (.slice p9 (l.length + ms.length) c9) (l ++ ms) ∧ GrowB b s1 s9 ∧ ButV v s1 s9 ∧ ∃ j, objOf (.slice p9 (l.length + ms.length) c9) = some j ∧ s1.n ≤ j := by
  have hga : Grow s1 (s1.alloc (.cells (ms.flatMap encS) 31 false)) := (Grow.refl s1).alloc _
  obtain ⟨v9, s9, a1, a2, a3, a4, a5⟩ := append_only (P := Tryz.prog) (ts := ts) (e := 31) (sz := 2) (enc := encS) (l := l) (m := ms) (b := b) hf hu lenS cokS hfs (by decide) (by omega) h2 (σ := s1.alloc (.cells (ms.flatMap encS) 31 false))
    (ho.grow hga) (by simp; omega) (Sl.all (l := ms) (i := s1.n) (cap := ms.length) (ro := false) lenS (by simp) (by simp) (.inr ⟨Nat.le_refl _, by simp only [openCap]; omega⟩)) (by rw [h1]; omega) (by omega)
  obtain ⟨n, c, e⟩ := a5 hms
  obtain ⟨p9, c9, rfl⟩ := (a2.sl (sz := 2) lenS).form
  rw [List.length_append] at a1 a2
  refine ⟨p9, c9, s9, a1, a2, (hga.toB hb).trans a3, ⟨by have := a3.1; simp at this; omega, fun j hj hne => ?_⟩, ?_⟩
  · rw [a4 j (by simp; omega) (fun i off n c h => by rintro rfl; exact hne (by rw [h]; rfl)), hga.old j hj]
  · cases e
    exact ⟨_, rfl, by simp⟩
theorem meetL_snoc (l : List Sn) (s : Sn) (m : List Sn) : meetL (l ++ [s]) m = meetL l m ++ m.map (meetS s) := by
  unfold meetL
  rw [List.flatMap_append]
  simp
def accM (C : List Sn) (s : Sn) (m : List Sn) : List Sn := C ++ m.map (meetS s)
theorem accM_nil (C : List Sn) (s : Sn) : accM C s [] = C := by simp [accM]
theorem accM_snoc (C : List Sn) (s x : Sn) (m : List Sn) : accM C s (m ++ [x]) = accM C s m ++ [meetS s x] := by simp [accM]
theorem accM_len (C : List Sn) (s : Sn) (m : List Sn) : (accM C s m).length = C.length + m.length := by simp [accM]
theorem set_meet (l m : List Sn) (hl : ∀ s ∈ l, s.ok) (hm : ∀ s ∈ m, s.ok) (v u : Value) (σ : CSt) (hn : gnone σ) (hz : 0 < σ.n) (hsl : Sl σ 31 2 encS v l) (hsm : Sl σ 31 2 encS u m) (hll : l.length < 2 ^ 36) (hlm : m.length < 2 ^ 36) (hbig : l.length * m.length < 2 ^ 36) (Q : Out → CSt → Prop)
    (h : ∀ (v' : Value) (r : List Sn) (σ' : CSt), IsOf (meetL l m) r → (∀ s ∈ r, s.ok) → r.length ≤ l.length * m.length → Own σ.n σ' 31 encS v' r → Grow σ σ' → Q (.ret v' false) σ') : W E1 (.fn 33 #[v, u] none) σ Q := by
  rw [W_fn (fn := Tryz.f33) Tryz.func33 rfl rfl rfl]
  obtain ⟨p, c, rfl⟩ := hsl.form
  obtain ⟨p', c', rfl⟩ := hsm.form
  simp [wops_cons]
  refine W_loop_inv (fun n a s => ∃ tm j vo, a = ⟨tm, 32, [], false⟩ ∧ tm.get 1 = some (.slice p' m.length c') ∧ tm.get 5 = some vo ∧ tm.get 10 = some (.slice p l.length c) ∧ tm.get 11 = some (.int .i64 l.length) ∧ tm.get 12 = some (.int .i64 (j : Nat)) ∧ j ≤ l.length ∧ n = l.length - j ∧ Own σ.n s 31 encS vo (meetL (l.take j) m) ∧ Grow σ s) ?_ l.length _ _ ?_
  · rintro n a s ⟨tm, j, vo, rfl, e1, e5, e10, e11, e12, hj, hnn, hov, gs⟩
    by_cases hjl : j < l.length
    · obtain ⟨i, off, row, ro, rfl, hg, hin, hrow, hle⟩ := (hsl.grow gs).at hjl
      have hld := row_get (enc := encS) lenS hrow j hjl
      have hl1 := row_le hle j hjl
      have hw2 := i64n1 j (by omega)
      have hjl' : (j : Int) < l.length := by omega
      have hg5 : Grow s ((s.alloc (.cells [.int .u64 0, .int .u64 0] 31 false)).put s.n (.cells (encS l[j]) 31 false)) := ((Grow.refl s).alloc _).put (Nat.le_refl _) _
      have hc5 : ((s.alloc (.cells [.int .u64 0, .int .u64 0] 31 false)).put s.n (.cells (encS l[j]) 31 false)).get s.n = some (.cells (encS l[j]) 31 false) := by simp
      have hn5 : ((s.alloc (.cells [.int .u64 0, .int .u64 0] 31 false)).put s.n (.cells (encS l[j]) 31 false)).n = s.n + 1 := by simp
      simp only [encS] at hg5 hc5 hn5
      simp [wops_cons, e1, e5, e10, e11, e12, hjl, hjl', hg, hld, hl1]
      simp [wops_cons, encS, e1, e5, e10, e11, e12]
      generalize (s.alloc (.cells [.int .u64 0, .int .u64 0] 31 false)).put s.n (.cells [.int .u64 l[j].lo, .int .u64 l[j].hi] 31 false) = s1 at hg5 hc5 hn5 ⊢
      have gs1 := gs.trans hg5
      have hov1 := hov.grow hg5
      have hsm1 := hsm.grow gs1
      have hml : (meetL (l.take j) m).length = j * m.length := by rw [meetL_len, List.length_take_of_le hj]
      have hb1 : j * m.length + m.length ≤ l.length * m.length := by rw [← Nat.succ_mul]; exact Nat.mul_le_mul_right _ hjl
      obtain ⟨q0, hq0⟩ : ∃ q0, q0 = s.n := ⟨_, rfl⟩
      rw [← hq0] at hc5 hn5
      refine W_loop_J (fun n a s => ∃ tm k vo, a = ⟨tm, 32, [], false⟩ ∧ tm.get 1 = some (.slice p' m.length c') ∧ tm.get 5 = some vo ∧ tm.get 7 = some (.pointer (some ⟨q0, 0, none⟩)) ∧ tm.get 10 = some (.slice (some ⟨i, off, none⟩) l.length c) ∧ tm.get 11 = some (.int .i64 l.length) ∧ tm.get 12 = some (.int .i64 (j : Nat)) ∧ tm.get 16 = some (.slice p' m.length c') ∧ tm.get 17 = some (.int .i64 m.length) ∧ tm.get 18 = some (.int .i64 (k : Nat)) ∧ k ≤ m.length ∧ n = m.length - k ∧ Own σ.n s 31 encS vo (accM (meetL (l.take j) m) l[j] (m.take k)) ∧ objOf vo ≠ some q0 ∧ s.get q0 = some (.cells (encS l[j]) 31 false) ∧ q0 < s.n ∧ Grow σ s)
        (fun out s => ∃ tm vo, out = .code (.exit 2) ⟨tm, 32, [], false⟩ ∧ tm.get 1 = some (.slice p' m.length c') ∧ tm.get 5 = some vo ∧ tm.get 10 = some (.slice (some ⟨i, off, none⟩) l.length c) ∧ tm.get 11 = some (.int .i64 l.length) ∧ tm.get 12 = some (.int .i64 (j : Nat)) ∧ Own σ.n s 31 encS vo (accM (meetL (l.take j) m) l[j] m) ∧ Grow σ s) ?_ m.length _ _ ?_ ?_
      · rintro n2 a2 t ⟨tm2, k, vo2, rfl, f1, f5, f7, f10, f11, f12, f16, f17, f18, hk, hnn2, hov2, hno2, hcq, hqt, gt⟩
        obtain ⟨po2, co2, rfl⟩ := (hov2.sl (sz := 2) lenS).form
        by_cases hkl : k < m.length
        · obtain ⟨i2, off2, row2, ro2, rfl, hg2, hin2, hrow2, hle2⟩ := (hsm.grow gt).at hkl
          have hld2 := row_get (enc := encS) lenS hrow2 k hkl
          have hl2 := row_le hle2 k hkl
          have hw3 := i64n1 k (by omega)
          have hkl' : (k : Int) < m.length := by omega
          have hg6 : Grow t ((t.alloc (.cells [.int .u64 0, .int .u64 0] 31 false)).put t.n (.cells (encS m[k]) 31 false)) := ((Grow.refl t).alloc _).put (Nat.le_refl _) _
          have hc6 : ((t.alloc (.cells [.int .u64 0, .int .u64 0] 31 false)).put t.n (.cells (encS m[k]) 31 false)).get t.n = some (.cells (encS m[k]) 31 false) := by simp
          have hn6 : ((t.alloc (.cells [.int .u64 0, .int .u64 0] 31 false)).put t.n (.cells (encS m[k]) 31 false)).n = t.n + 1 := by simp
          simp only [encS] at hg6 hc6 hn6
          have hc7 := hg6.get hcq hqt
          simp only [encS] at hc7
          simp [wops_cons, f1, f5, f7, f10, f11, f12, f16, f17, f18, hkl, hkl', hg2, hld2, hl2]
          simp [wops_cons, encS, f1, f5, f7, f10, f11, f12, f16, f17, f18, -W_region]
          generalize (t.alloc (.cells [.int .u64 0, .int .u64 0] 31 false)).put t.n (.cells [.int .u64 m[k].lo, .int .u64 m[k].hi] 31 false) = t1 at hg6 hc6 hn6 hc7 ⊢
          have gt1 := gt.trans hg6
          have hov3 := hov2.grow hg6
          simp [dops_cons, dops_if, dstOf, wops_cons, f1, f5, f7, f10, f11, f12, f16, f17, f18, hc6, hc7]
          refine meet_spec l[j] m[k] (hl _ (List.getElem_mem hjl)) (hm _ (List.getElem_mem hkl)) t1 (gnone_grow hn hz gt1) (by have := gt1.n; omega) _ fun t2 g2 => ?_
          have hal : (accM (meetL (l.take j) m) l[j] (m.take k)).length < 2 ^ 40 := by rw [accM_len, List.length_take_of_le hk]; omega
          have gt2 := gt1.trans g2
          obtain ⟨p9, c9, s9, a1, a2, a3, a4, jn, a5, a6⟩ := app_sns (ts := #[35, 35]) ef35 (by simp) rfl rfl rfl (ms := [meetS l[j] m[k]]) (by simp) (by simp) (hov3.grow g2) gt2.n hal
          have hcq2 := (hg6.trans g2).get hcq hqt
          have hg62 := (hg6.trans g2).n
          simp [encS] at a1
          simp [dops_cons, dops_if, dstOf, wops_cons, encS, f1, f5, f7, f10, f11, f12, f16, f17, f18, hw3, a1]
          refine ⟨m.length - (k + 1), by omega, k + 1, rfl, by omega, rfl, ?_, ?_, ?_, ?_, gt2.thenB a3 (Nat.le_refl _)⟩
          · rw [List.take_succ_eq_append_getElem hkl, accM_snoc]
            exact a2
          · intro e
            have e3 := Option.some.inj (a5.symm.trans e)
            omega
          · rw [a4.2 q0 (by omega) hno2]
            exact hcq2
          · have := a4.1
            omega
        · have hkl' : k = m.length := by omega
          subst hkl'
          rw [List.take_of_length_le (Nat.le_refl _)] at hov2
          simp [wops_cons, f1, f5, f7, f10, f11, f12, f16, f17, f18]
          exact ⟨hov2, gt⟩
      · refine ⟨_, 0, vo, rfl, ?_⟩
        simp [e1, e5, e10, e11, e12, hq0]
        rw [accM_nil]
        exact ⟨hov1, fun e => by have := (hov.z2 e).2.1; omega, by rw [← hq0]; exact hc5, by omega, gs1⟩
      · rintro out t ⟨tm2, vo2, rfl, f1, f5, f10, f11, f12, hov2, gt⟩
        simp [wops_cons, f1, f5, f10, f11, f12, hw2]
        refine ⟨l.length - (j + 1), by omega, j + 1, rfl, by omega, rfl, ?_, gt⟩
        rw [List.take_succ_eq_append_getElem hjl, meetL_snoc]
        exact hov2
    · have hjl' : j = l.length := by omega
      subst hjl'
      rw [List.take_of_length_le (Nat.le_refl _)] at hov
      obtain ⟨po, co, rfl⟩ := (hov.sl (sz := 2) lenS).form
      simp [wops_cons, e1, e5, e10, e11, e12]
      refine of_spec _ (meetL_ok hl hm) _ s (hov.sl lenS) (by rw [meetL_len]; exact hbig) _ fun v' r σ' hr hrok hrl ho g => ?_
      simp [wops_cons]
      rw [meetL_len] at hrl
      exact h v' r σ' hr hrok hrl (ho.weaken gs.n) (gs.trans g)
  · refine ⟨_, 0, .slice none 0 0, rfl, ?_⟩
    simp
    exact ⟨Own.nil, Grow.refl _⟩
end Go.Sm
/- slices.IndexFunc, slices.DeleteFunc of 31. -/
set_option linter.unusedVariables false
set_option linter.unusedSimpArgs false
namespace Go.Sm
open Go Go.Proofs
set_option maxRecDepth 100000
set_option maxHeartbeats 4000000
theorem indexFn_31s (g : FuncId) (caps : Array Value) (hext : ∀ args s, extOf E1 (.func (.func g) #[] caps) args s = none) (p : Sn → Bool) (Ok : CSt → Prop) (hog : ∀ s s', Ok s → Grow s s' → Ok s') (l : List Sn) (v : Value) (σ : CSt) (hsl : Sl σ 31 2 encS v l) (hok : Ok σ)
    (hpred : ∀ x ∈ l, ∀ s Q, Ok s → (∀ s', Grow s s' → Q (.ret (.bool (p x)) false) s') → W E1 (.fn g (#[.agg (encS x).toArray] ++ caps) none) s Q) (hbig : l.length < 2 ^ 40) (Q : Out → CSt → Prop)
    (h : ∀ (r : Int) (σ' : CSt), ((r = -1 ∧ ∀ x ∈ l, p x = false) ∨ ∃ k : Nat, r = k ∧ ∃ hk : k < l.length, p l[k] = true ∧ ∀ i (hi : i < l.length), i < k → p l[i] = false) → Grow σ σ' → Q (.ret (.int .i64 r) false) σ') : W E1 (.fn 78 #[v, .func (.func g) #[] caps] none) σ Q := by
  rw [W_fn (fn := Tryz.f78) Tryz.func78 rfl rfl rfl]
  obtain ⟨pp, c, rfl⟩ := hsl.form
  simp [wops_cons]
  refine W_loop_inv (fun n a σ' => ∃ tm j, a = ⟨tm, 19, [], false⟩ ∧ tm.get 0 = some (.slice pp l.length c) ∧ tm.get 1 = some (.func (.func g) #[] caps) ∧ tm.get 7 = some (.int .i64 l.length) ∧ tm.get 8 = some (.int .i64 (j : Nat)) ∧ j ≤ l.length ∧ n = l.length - j ∧ (∀ i (h : i < l.length), i < j → p l[i] = false) ∧ Grow σ σ') ?_ l.length _ _ ?_
  · rintro n a σ1 ⟨tm, j, rfl, e0, e1, e7, e8, hj, hn, hno, hgr⟩
    by_cases hjl : j < l.length
    · obtain ⟨i, off, row, ro, rfl, hg, hin, hrow, hle⟩ := (hsl.grow hgr).at hjl
      have hld := row_get (enc := encS) lenS hrow j hjl
      have hl1 := row_le hle j hjl
      have hw2 := i64n1 j (by omega)
      simp [wops_cons, e0, e1, e7, e8, hjl, hg, hld, hl1, hext]
      have hpr := fun Q => hpred l[j] (List.getElem_mem hjl) σ1 Q (hog _ _ hok hgr)
      try simp at hpr
      refine hpr _ fun σ2 g2 => ?_
      cases hat : p l[j] with
      | true =>
        have := h j σ2 (.inr ⟨j, rfl, hjl, hat, hno⟩) (hgr.trans g2)
        simpa [wops_cons, hat] using this
      | false =>
        simp [wops_cons, hat, e0, e1, e7, e8, hw2]
        refine ⟨_, ?_, j + 1, rfl, by omega, rfl, fun i h hi => ?_, hgr.trans g2⟩
        · omega
        · by_cases e : i = j
          · subst e; exact hat
          · exact hno i h (by omega)
    · have hjl' : j = l.length := by omega
      have := h (-1) σ1 (.inl ⟨rfl, fun x hx => by
        obtain ⟨i, hi, rfl⟩ := List.mem_iff_getElem.1 hx
        exact hno i hi (by omega)⟩) hgr
      simpa [wops_cons, e0, e1, e7, e8, hjl] using this
  · refine ⟨_, 0, rfl, ?_⟩
    simp
    exact Grow.refl σ
theorem deleteFn_31s (g : FuncId) (caps : Array Value) (hext : ∀ args s, extOf E1 (.func (.func g) #[] caps) args s = none) (p : Sn → Bool) (Ok : CSt → Prop) (b : Nat) (l : List Sn) (v : Value) (σ : CSt) (hog : ∀ s s', Ok s → ButV v s s' → Ok s') (hown : OwnZ b σ 31 encS v l) (hok : Ok σ)
    (hpred : ∀ x ∈ l, ∀ s Q, Ok s → (∀ s', Grow s s' → Q (.ret (.bool (p x)) false) s') → W E1 (.fn g (#[.agg (encS x).toArray] ++ caps) none) s Q) (hbig : l.length < 2 ^ 38) (Q : Out → CSt → Prop)
    (h : ∀ (v' : Value) (σ' : CSt), OwnZ b σ' 31 encS v' (l.filter fun x => !p x) → (objOf v' = objOf v) → ButV v σ σ' → Q (.ret v' false) σ') : W E1 (.fn 59 #[v, .func (.func g) #[] caps] none) σ Q := by
  rw [W_fn (fn := Tryz.f59) Tryz.func59 rfl rfl rfl]
  obtain ⟨pp, c, rfl⟩ := (hown.sl (sz := 2) lenS).form
  simp [wops_cons]
  refine indexFn_31s g caps hext p Ok (fun s s' h1 h2 => hog s s' h1 h2.butV) l _ σ (hown.sl lenS) hok hpred (by omega) _ fun r σ1 hr g1 => ?_
  rcases hr with ⟨rfl, hall⟩ | ⟨k, rfl, hk, hpk, hno⟩
  · have hf : (l.filter fun x => !p x) = l := List.filter_eq_self.2 fun x hx => by simp [hall x hx]
    have := h _ σ1 (by rw [hf]; exact hown.grow g1) rfl g1.butV
    simpa [wops_cons] using this
  · have hk1 : ¬ ((k : Nat) : Int) = -1 := by omega
    have hwk := i64n1 k (by omega)
    rcases hown with ⟨h0, h1⟩ | ⟨i0, cap, zs, h0, hbi, hin, hg0, hzs, hcap⟩
    · rw [h1] at hk; simp at hk
    injection h0 with h0 _ h00
    subst h0
    subst h00
    have hcap : c = openCap := by
      rcases hcap with hc | ⟨hc, _⟩
      · exact hc
      · rw [hc] at hk; simp at hk
    subst hcap
    have hobj : objOf (.slice (some ⟨i0, 0, none⟩) l.length openCap) = some i0 := rfl
    simp [wops_cons, hk1, hwk]
    refine W_loop_J (fun n a s => ∃ (tm : Tr Value) (i j : Nat) (d : List Sn), a = ⟨tm, 42, [], false⟩ ∧ tm.get 0 = some (.slice (some ⟨i0, 0, none⟩) l.length openCap) ∧ tm.get 1 = some (.func (.func g) #[] caps) ∧ tm.get 5 = some (.int .i64 (i : Nat)) ∧ tm.get 6 = some (.int .i64 (j : Nat)) ∧ j ≤ l.length ∧ n = l.length - j ∧ d.length = l.length ∧ d.take i = ((l.take j).filter fun x => !p x) ∧ i = ((l.take j).filter fun x => !p x).length ∧ d.drop j = l.drop j ∧ i < j ∧ s.get i0 = some (.cells (d.flatMap encS ++ zs) 31 false) ∧ ButV (.slice (some ⟨i0, 0, none⟩) l.length openCap) σ s)
      (fun o s => ∃ (tm : Tr Value) (i : Nat) (d : List Sn), o = .code (.exit 0) ⟨tm, 42, [], false⟩ ∧ tm.get 0 = some (.slice (some ⟨i0, 0, none⟩) l.length openCap) ∧ tm.get 5 = some (.int .i64 (i : Nat)) ∧ d.length = l.length ∧ d.take i = (l.filter fun x => !p x) ∧ i = (l.filter fun x => !p x).length ∧ i < l.length ∧ s.get i0 = some (.cells (d.flatMap encS ++ zs) 31 false) ∧ ButV (.slice (some ⟨i0, 0, none⟩) l.length openCap) σ s) ?_ (l.length - (k + 1)) _ _ ?_ ?_
    · rintro n a s ⟨tm, i, j, d, rfl, e0, e1, e5, e6, hj, hn, hd, ht, hi, hdr, hij, hgs, hbs⟩
      by_cases hjl : j < l.length
      · have hjl' : (j : Int) < l.length := by omega
        have hjd : j < d.length := by omega
        have hdj := drop_get hjl hd hdr
        have hrow := rowZ lenS d zs
        have hrl : (d.flatMap encS ++ zs).length = d.length * 2 + zs.length := by rw [List.length_append, enc_length encS lenS]
        have hld := row_get (enc := encS) lenS hrow j hjd
        rw [Nat.zero_add, hdj] at hld
        have hset := fun x => enc_setZ lenS d i x (by omega) zs
        have hw6 := i64n1 j (by omega)
        have hw5 := i64n1 i (by omega)
        have hil : i < l.length := by omega
        have hsn := hbs.1
        generalize hrw : d.flatMap encS ++ zs = row at hgs hrow hrl hld hset
        have hle1 : j * 2 + 2 ≤ row.length := by omega
        have hle2 : i * 2 + 2 ≤ row.length := by omega
        have hne : ¬ i0 = s.n := by omega
        have hgw : Grow s ((s.alloc (.cells [.int .u64 0, .int .u64 0] 31 false)).put s.n (.cells (encS l[j]) 31 false)) := ((Grow.refl s).alloc _).put (Nat.le_refl _) _
        have hcw : ((s.alloc (.cells [.int .u64 0, .int .u64 0] 31 false)).put s.n (.cells (encS l[j]) 31 false)).get s.n = some (.cells (encS l[j]) 31 false) := by simp
        have htk : List.take 2 (encS l[j]) = encS l[j] := List.take_of_length_le (by rw [lenS]; exact Nat.le_refl _)
        have hlen2 : (encS l[j]).length = 2 := lenS _
        have hcok2 : cokL (encS l[j]) = true := cokS _
        have hnw : ((s.alloc (.cells [.int .u64 0, .int .u64 0] 31 false)).put s.n (.cells (encS l[j]) 31 false)).n = s.n + 1 := by simp
        simp [wops_cons, e0, e1, e5, e6, hjl, hjl', hgs, hld, hle1, hext, htk, hlen2, hcok2]
        generalize (s.alloc (.cells [.int .u64 0, .int .u64 0] 31 false)).put s.n (.cells (encS l[j]) 31 false) = s1 at hgw hcw hnw ⊢
        have hpr := fun Q => hpred l[j] (List.getElem_mem hjl) s1 Q (hog _ _ hok (hbs.trans hgw.butV))
        try simp at hpr
        refine hpr _ fun s2 g2 => ?_
        have g02 := hgw.trans g2
        have hgs2 := g02.get hgs (by omega)
        have hcw2 := g2.get hcw (by omega)
        have hb2 := hbs.trans g02.butV
        cases hp : p l[j] with
        | true =>
          obtain ⟨k1, k2, k3⟩ := take_filter_skip hjl ht hi hdr hp
          simp [wops_cons, e0, e1, e5, e6, hw6]
          exact ⟨n - 1, by omega, i, rfl, j + 1, rfl, by omega, by omega, d, hd, k1, k2, k3, by omega, by rw [hrw]; exact hgs2, hb2⟩
        | false =>
          obtain ⟨k0, k1, k2, k3⟩ := take_filter_step hjl hd ht hi hdr (by omega) hp
          have hset2 := hset l[j]
          have hil' : (i : Int) < l.length := by omega
          simp [wops_cons, e0, e1, e5, e6, hw5, hw6, hil, hil', hgs2, hcw2, htk, hlen2, hcok2, hle2]
          exact ⟨n - 1, by omega, i + 1, rfl, j + 1, rfl, by omega, by omega, d.set i l[j], k0, k1, k2, k3, by omega, by rw [← hset2, List.append_assoc], hb2.putV hobj _⟩
      · have hjl' : ¬ (j : Int) < l.length := by omega
        have hje : j = l.length := by omega
        rw [hje, List.take_length] at ht hi
        simp [wops_cons, e0, e1, e5, e6, hjl, hjl']
        exact ⟨i, rfl, d, hd, ht, hi, by omega, hgs, hbs⟩
    · have hft := first_take hk hno hpk
      refine ⟨_, k, k + 1, l, rfl, ?_⟩
      simp
      refine ⟨by omega, by rw [hft], by rw [hft]; simp; omega, ?_, ?_⟩
      · exact g1.get hg0 hin
      · exact g1.butV
    · rintro o s ⟨tm, i, d, rfl, e0, e5, hd, ht, hi, hil, hgs, hbs⟩
      have hzl : ((List.replicate (l.length - i) ([.int .u64 0, .int .u64 0] : List Value)).flatten).length = (l.length - i) * 2 := by
        rw [List.length_flatten]; simp
      have hzc : cokL ((List.replicate (l.length - i) ([.int .u64 0, .int .u64 0] : List Value)).flatten) = true := rep_cok _ _ rfl
      have hrl : (d.flatMap encS ++ zs).length = d.length * 2 + zs.length := by rw [List.length_append, enc_length encS lenS]
      have hcl := clearZ lenS d i (by omega) zs ((List.replicate (l.length - i) ([.int .u64 0, .int .u64 0] : List Value)).flatten) (by rw [hzl, hd])
      have hst : st (d.flatMap encS ++ zs) (i * 2) ((List.replicate (l.length - i) ([.int .u64 0, .int .u64 0] : List Value)).flatten) = some ((d.take i).flatMap encS ++ ((List.replicate (l.length - i) ([.int .u64 0, .int .u64 0] : List Value)).flatten ++ zs)) := by
        rw [← hcl]
        unfold st
        rw [if_pos (by rw [hzl, hrl, hd]; omega)]
      generalize hrw : d.flatMap encS ++ zs = row at hgs hrl hcl hst
      have hil' : ¬ l.length - i = 0 := by omega
      have hi2 : i ≤ l.length := by omega
      have hle3 : l.length * 2 ≤ row.length := by omega
      have hle4 : i * 2 ≤ row.length := by omega
      simp [wops_cons, e0, e5, sliceOp_open, sliceO, clearOp_K, clearK, hgs, hi2, hil', hst, hle3, hle4, -st_eq]
      rw [ht, hi]
      refine h _ _ (.inr ⟨i0, openCap, _, rfl, hbi, Nat.lt_of_lt_of_le hin hbs.1, by rw [CSt.get_put, if_pos rfl], ?_, .inl rfl⟩) rfl (hbs.putV hobj _)
      rw [cokL_append, hzs, ← hi, hzc]; rfl
end Go.Sm
/- Sets of times: Less, Join. -/
set_option linter.unusedVariables false
set_option linter.unusedSimpArgs false
namespace Go.Sm
open Go Go.Proofs
set_option maxRecDepth 100000
set_option maxHeartbeats 4000000
theorem cutS1_snoc (l : List Sn) (s o : Sn) : cutS1 (l ++ [s]) o = cutS1 l o ++ [lowS s o, highS s o] := by
  unfold cutS1
  rw [List.flatMap_append]
  simp
theorem lessL_ok {l m : List Sn} (h : ∀ s ∈ l, s.ok) (k : ∀ s ∈ m, s.ok) : ∀ j, ∀ s ∈ lessL l (m.take j), s.ok := by
  intro j
  induction j with
  | zero => intro s hs; simp [lessL] at hs; exact h s hs
  | succ j ih =>
    by_cases hj : j < m.length
    · rw [List.take_succ_eq_append_getElem hj, lessL_snoc]
      intro s hs
      exact cutS1_ok ih (k _ (List.getElem_mem hj)) s (List.mem_filter.1 hs).1
    · rw [List.take_of_length_le (by omega)] at ih ⊢
      exact ih
theorem set_less (l m : List Sn) (hl : ∀ s ∈ l, s.ok) (hm : ∀ s ∈ m, s.ok) (v u : Value) (σ : CSt) (hn : gnone σ) (hz : 0 < σ.n) (hsl : Sl σ 31 2 encS v l) (hsm : Sl σ 31 2 encS u m) (hll : l.length < 2 ^ 36) (hlm : m.length < 2 ^ 36) (hbig : l.length * 2 ^ m.length < 2 ^ 36) (Q : Out → CSt → Prop)
    (h : ∀ (v' : Value) (r : List Sn) (σ' : CSt), IsOf (lessL l m) r → (∀ s ∈ r, s.ok) → r.length ≤ l.length * 2 ^ m.length → Own σ.n σ' 31 encS v' r → Grow σ σ' → Q (.ret v' false) σ') : W E1 (.fn 25 #[v, u] none) σ Q := by
  rw [W_fn (fn := Tryz.f25) Tryz.func25 rfl rfl rfl]
  obtain ⟨p, c, rfl⟩ := hsl.form
  obtain ⟨p', c', rfl⟩ := hsm.form
  simp [wops_cons]
  refine clone_38 l _ σ hsl (by omega) _ fun v5 σ1 ho5 g1 => ?_
  simp [wops_cons]
  refine W_loop_inv (fun n a s => ∃ tm j vo, a = ⟨tm, 44, [], false⟩ ∧ tm.get 5 = some vo ∧ tm.get 15 = some (.slice p' m.length c') ∧ tm.get 16 = some (.int .i64 m.length) ∧ tm.get 17 = some (.int .i64 (j : Nat)) ∧ j ≤ m.length ∧ n = m.length - j ∧ OwnZ σ.n s 31 encS vo (lessL l (m.take j)) ∧ Grow σ s) ?_ m.length _ _ ?_
  · rintro n a s ⟨tm, j, vo, rfl, e5, e15, e16, e17, hj, hnn, hov, gs⟩
    have hlen : (lessL l (m.take j)).length < 2 ^ 36 := by
      have h1 := lessL_len l (m.take j)
      rw [List.length_take_of_le hj] at h1
      have h2 : l.length * 2 ^ j ≤ l.length * 2 ^ m.length := Nat.mul_le_mul_left _ (Nat.pow_le_pow_right (by decide) hj)
      omega
    have hokj := lessL_ok hl hm j
    obtain ⟨po, co, rfl⟩ := (hov.sl (sz := 2) lenS).form
    by_cases hjl : j < m.length
    · obtain ⟨i, off, row, ro, rfl, hg, hin, hrow, hle⟩ := (hsm.grow gs).at hjl
      have hld := row_get (enc := encS) lenS hrow j hjl
      have hl1 := row_le hle j hjl
      have hw2 := i64n1 j (by omega)
      have hjl' : (j : Int) < m.length := by omega
      have hg5 : Grow s ((s.alloc (.cells [.int .u64 0, .int .u64 0] 31 false)).put s.n (.cells (encS m[j]) 31 false)) := ((Grow.refl s).alloc _).put (Nat.le_refl _) _
      have hc5 : ((s.alloc (.cells [.int .u64 0, .int .u64 0] 31 false)).put s.n (.cells (encS m[j]) 31 false)).get s.n = some (.cells (encS m[j]) 31 false) := by simp
      have hn5 : ((s.alloc (.cells [.int .u64 0, .int .u64 0] 31 false)).put s.n (.cells (encS m[j]) 31 false)).n = s.n + 1 := by simp
      have hend : lessL l (m.take (j + 1)) = (cutS1 (lessL l (m.take j)) m[j]).filter full := by
        rw [List.take_succ_eq_append_getElem hjl, lessL_snoc]
      have hom := hm _ (List.getElem_mem hjl)
      simp only [encS] at hg5 hc5 hn5
      simp [wops_cons, e5, e15, e16, e17, hjl, hjl', hg, hld, hl1]
      simp [wops_cons, encS, e5, e15, e16, e17, -W_region]
      generalize (s.alloc (.cells [.int .u64 0, .int .u64 0] 31 false)).put s.n (.cells [.int .u64 m[j].lo, .int .u64 m[j].hi] 31 false) = s1 at hg5 hc5 hn5 ⊢
      have gs1 := gs.trans hg5
      have hsc := (hov.grow hg5).sl (sz := 2) lenS
      have hov1 := hov.grow hg5
      obtain ⟨q0, hq0⟩ : ∃ q0, q0 = s.n := ⟨_, rfl⟩
      rw [← hq0] at hc5 hn5
      generalize hC : lessL l (m.take j) = C at *
      generalize m[j] = o at *
      simp [wops_cons, e5, e15, e16, e17]
      refine W_loop_J (fun n a t => ∃ tm k v8, a = ⟨tm, 44, [], false⟩ ∧ tm.get 7 = some (.pointer (some ⟨q0, 0, none⟩)) ∧ tm.get 8 = some v8 ∧ tm.get 15 = some (.slice (some ⟨i, off, none⟩) m.length c') ∧ tm.get 16 = some (.int .i64 m.length) ∧ tm.get 17 = some (.int .i64 (j : Nat)) ∧ tm.get 21 = some (.slice po C.length co) ∧ tm.get 22 = some (.int .i64 C.length) ∧ tm.get 23 = some (.int .i64 (k : Nat)) ∧ k ≤ C.length ∧ n = C.length - k ∧ Own s1.n t 31 encS v8 (cutS1 (C.take k) o) ∧ Grow s1 t)
        (fun out t => ∃ tm v8, out = .code (.exit 2) ⟨tm, 44, [], false⟩ ∧ tm.get 8 = some v8 ∧ tm.get 15 = some (.slice (some ⟨i, off, none⟩) m.length c') ∧ tm.get 16 = some (.int .i64 m.length) ∧ tm.get 17 = some (.int .i64 (j : Nat)) ∧ Own s1.n t 31 encS v8 (cutS1 C o) ∧ Grow s1 t) ?_ C.length _ _ ?_ ?_
      · rintro n2 a2 t ⟨tm2, k, v8, rfl, f7, f8, f15, f16, f17, f21, f22, f23, hk, hnn2, hov2, gt⟩
        obtain ⟨po2, co2, rfl⟩ := (hov2.sl (sz := 2) lenS).form
        by_cases hkl : k < C.length
        · obtain ⟨i2, off2, row2, ro2, rfl, hg2, hin2, hrow2, hle2⟩ := (hsc.grow gt).at hkl
          have hld2 := row_get (enc := encS) lenS hrow2 k hkl
          have hl2 := row_le hle2 k hkl
          have hw3 := i64n1 k (by omega)
          have hkl' : (k : Int) < C.length := by omega
          have hg6 : Grow t ((t.alloc (.cells [.int .u64 0, .int .u64 0] 31 false)).put t.n (.cells (encS C[k]) 31 false)) := ((Grow.refl t).alloc _).put (Nat.le_refl _) _
          have hc6 : ((t.alloc (.cells [.int .u64 0, .int .u64 0] 31 false)).put t.n (.cells (encS C[k]) 31 false)).get t.n = some (.cells (encS C[k]) 31 false) := by simp
          have hn6 : ((t.alloc (.cells [.int .u64 0, .int .u64 0] 31 false)).put t.n (.cells (encS C[k]) 31 false)).n = t.n + 1 := by simp
          simp only [encS] at hg6 hc6 hn6
          have hc7 := (gt.trans hg6).get hc5 (by omega)
          simp [wops_cons, f7, f8, f15, f16, f17, f21, f22, f23, hkl, hkl', hg2, hld2, hl2]
          simp [wops_cons, encS, f7, f8, f15, f16, f17, f21, f22, f23, -W_region]
          generalize (t.alloc (.cells [.int .u64 0, .int .u64 0] 31 false)).put t.n (.cells [.int .u64 C[k].lo, .int .u64 C[k].hi] 31 false) = t1 at hg6 hc6 hn6 hc7 ⊢
          have gt1 := gt.trans hg6
          have hov3 := hov2.grow hg6
          simp [wops_cons, f7, f8, f15, f16, f17, f21, f22, f23, hc6, hc7]
          have hls := less_spec C[k] o (hokj _ (List.getElem_mem hkl)) hom t1 (gnone_grow hn hz (gs1.trans gt1)) (by omega)
          simp only [encS] at hls
          refine hls _ fun t2 g2 => ?_
          simp [wops_cons, f7, f8, f15, f16, f17, f21, f22, f23, -W_region]
          have hg3 : Grow t2 ((((t2.alloc (.cells [.int .u64 0, .int .u64 0] 31 false)).alloc (.cells [.int .u64 0, .int .u64 0] 31 false)).put t2.n (.cells (encS (lowS C[k] o)) 31 false)).put (t2.n + 1) (.cells (encS (highS C[k] o)) 31 false)) := ((((Grow.refl t2).alloc _).alloc _).put (Nat.le_refl _) _).put (Nat.le_succ _) _
          have hca : ((((t2.alloc (.cells [.int .u64 0, .int .u64 0] 31 false)).alloc (.cells [.int .u64 0, .int .u64 0] 31 false)).put t2.n (.cells (encS (lowS C[k] o)) 31 false)).put (t2.n + 1) (.cells (encS (highS C[k] o)) 31 false)).get t2.n = some (.cells (encS (lowS C[k] o)) 31 false) := by
            rw [CSt.get_put, if_neg (by omega), CSt.get_put, if_pos rfl]
          have hcb : ((((t2.alloc (.cells [.int .u64 0, .int .u64 0] 31 false)).alloc (.cells [.int .u64 0, .int .u64 0] 31 false)).put t2.n (.cells (encS (lowS C[k] o)) 31 false)).put (t2.n + 1) (.cells (encS (highS C[k] o)) 31 false)).get (t2.n + 1) = some (.cells (encS (highS C[k] o)) 31 false) := by
            rw [CSt.get_put, if_pos rfl]
          have hn7 : ((((t2.alloc (.cells [.int .u64 0, .int .u64 0] 31 false)).alloc (.cells [.int .u64 0, .int .u64 0] 31 false)).put t2.n (.cells (encS (lowS C[k] o)) 31 false)).put (t2.n + 1) (.cells (encS (highS C[k] o)) 31 false)).n = t2.n + 2 := by simp
          simp only [encS] at hg3 hca hcb hn7
          generalize (((t2.alloc (.cells [.int .u64 0, .int .u64 0] 31 false)).alloc (.cells [.int .u64 0, .int .u64 0] 31 false)).put t2.n (.cells [.int .u64 (lowS C[k] o).lo, .int .u64 (lowS C[k] o).hi] 31 false)).put (t2.n + 1) (.cells [.int .u64 (highS C[k] o).lo, .int .u64 (highS C[k] o).hi] 31 false) = t3 at hg3 hca hcb hn7 ⊢
          have hg63 := (hg6.trans g2).trans hg3
          have gt3 := gt.trans hg63
          have hal : (cutS1 (C.take k) o).length < 2 ^ 40 := by rw [cutS1_len, List.length_take_of_le hk]; omega
          obtain ⟨p9, c9, s9, a1, a2, a3, a4, jn, a5, a6⟩ := app_sns (ts := #[38, 38]) ef38 (by simp) rfl rfl rfl (ms := [lowS C[k] o, highS C[k] o]) (by simp) (by simp) (hov2.grow hg63) gt3.n hal
          simp [encS] at a1
          simp [dops_cons, dops_if, dstOf, wops_cons, encS, f7, f8, f15, f16, f17, f21, f22, f23, hca, hcb, hw3, a1]
          refine ⟨C.length - (k + 1), by omega, k + 1, rfl, by omega, rfl, ?_, gt3.thenB a3 (Nat.le_refl _)⟩
          rw [List.take_succ_eq_append_getElem hkl, cutS1_snoc]
          exact a2
        · have hkl' : k = C.length := by omega
          subst hkl'
          rw [List.take_of_length_le (Nat.le_refl _)] at hov2
          simp [wops_cons, f7, f8, f15, f16, f17, f21, f22, f23]
          exact ⟨hov2, gt⟩
      · refine ⟨_, 0, .slice none 0 0, rfl, ?_⟩
        simp [e5, e15, e16, e17, hq0]
        exact ⟨Own.nil, Grow.refl _⟩
      · rintro out t ⟨tm2, v8, rfl, f8, f15, f16, f17, hov2, gt⟩
        obtain ⟨po2, co2, rfl⟩ := (hov2.sl (sz := 2) lenS).form
        simp [wops_cons, f8, f15, f16, f17, hw2]
        refine deleteFn_31s 51 #[] (fun args s => extOf_none rfl) (fun s => !full s) (fun _ => True) s1.n (cutS1 C o) _ t (fun _ _ _ _ => trivial) hov2.z trivial (fun x hx s Q _ hq => ?_) (by rw [cutS1_len]; omega) _ fun v9 t2 ho9 hob g9 => ?_
        · simp only [Array.append_empty]
          exact empty_spec x s Q hq
        simp only [Bool.not_not] at ho9
        obtain ⟨po9, co9, rfl⟩ := (ho9.sl (sz := 2) lenS).form
        simp [wops_cons, f8, f15, f16, f17, hw2]
        refine ⟨m.length - (j + 1), by omega, j + 1, rfl, by omega, rfl, ?_, ?_⟩
        · rw [hend]
          exact ho9.weaken (by have := gs1.n; omega)
        · have hgt : Grow s1 t2 := ⟨by have := gt.n; have := g9.1; omega, fun x hx => by
            rw [g9.2 x (by have := gt.n; omega) (fun e => by have := (hov2.z2 e).1; omega)]
            exact gt.old x hx⟩
          exact gs1.trans hgt
    · have hjl' : j = m.length := by omega
      subst hjl'
      rw [List.take_of_length_le (Nat.le_refl _)] at hov hokj hlen
      simp [wops_cons, e5, e15, e16, e17]
      have hle := lessL_len l m
      have hokm : ∀ s ∈ lessL l m, s.ok := by
        have := lessL_ok hl hm m.length
        rwa [List.take_length] at this
      refine of_spec _ hokm _ s (hov.sl lenS) (by omega) _ fun v' r σ' hr hrok hrl ho g => ?_
      simp [wops_cons]
      exact h v' r σ' hr hrok (by omega) (ho.weaken gs.n) (gs.trans g)
  · refine ⟨_, 0, v5, rfl, ?_⟩
    simp
    exact ⟨ho5.z, g1⟩
theorem set_join (l m : List Sn) (hl : ∀ s ∈ l, s.ok) (hm : ∀ s ∈ m, s.ok) (v u : Value) (σ : CSt) (hsl : Sl σ 31 2 encS v l) (hsm : Sl σ 31 2 encS u m) (hll : l.length < 2 ^ 34) (hlm : m.length < 2 ^ 34) (Q : Out → CSt → Prop)
    (h : ∀ (v' : Value) (r : List Sn) (σ' : CSt), IsOf (l ++ m) r → (∀ s ∈ r, s.ok) → r.length ≤ l.length + m.length → Own σ.n σ' 31 encS v' r → Grow σ σ' → Q (.ret v' false) σ') : W E1 (.fn 34 #[v, u] none) σ Q := by
  rw [W_fn (fn := Tryz.f34) Tryz.func34 rfl rfl rfl]
  obtain ⟨p, c, rfl⟩ := hsl.form
  obtain ⟨p', c', rfl⟩ := hsm.form
  simp [wops_cons]
  refine clone_38 l _ σ hsl (by omega) _ fun v5 σ1 ho5 g1 => ?_
  obtain ⟨v9, s9, a1, a2, a3, a4, a5⟩ := append_only (P := Tryz.prog) (ts := #[38, 38]) (e := 31) (sz := 2) (enc := encS) (l := l) (m := m) (b := σ.n) ef38 (by simp) lenS cokS rfl (by decide) (by decide) rfl ho5 g1.n (hsm.grow g1) (by show _ * 16 ≤ _; omega) (by omega)
  obtain ⟨p9, c9, rfl⟩ := (a2.sl (sz := 2) lenS).form
  simp [wops_cons, a1]
  have hg : Grow σ s9 := g1.thenB a3 (Nat.le_refl _)
  refine of_spec (l ++ m) (fun x hx => ?_) _ s9 (by simpa using a2.sl lenS) (by rw [List.length_append]; omega) _ fun v' r σ' hr hrok hrl ho g => ?_
  · rcases List.mem_append.1 hx with hx | hx
    · exact hl x hx
    · exact hm x hx
  simp [wops_cons]
  rw [List.length_append] at hrl
  exact h v' r σ' hr hrok hrl (ho.weaken hg.n) (hg.trans g)
end Go.Sm
/- LockMore: the walk. -/
set_option linter.unusedVariables false
set_option linter.unusedSimpArgs false
namespace Go.Sm
open Go Go.Proofs
set_option maxRecDepth 100000
set_option maxHeartbeats 4000000
/-- One small lock more. -/
theorem app_ll {b : Nat} {s1 : CSt} {l : List LL} {x : LL} {v : Value} (ho : Own b s1 46 encL v l) (hb : b ≤ s1.n) (hl : l.length < 2 ^ 36) :
    ∃ p9 c9 s9, appendOp Tryz.prog (s1.alloc (.cells (encL x) 46 false)) #[22, 22] v (.slice (some ⟨s1.n, 0, none⟩) 1 1) = some (.slice p9 (l.length + 1) c9, s9) ∧ Own b s9 46 encL (.slice p9 (l.length + 1) c9) (l ++ [x]) ∧ GrowB b s1 s9 := by
  have hga : Grow s1 (s1.alloc (.cells (encL x) 46 false)) := (Grow.refl s1).alloc _
  obtain ⟨v9, s9, a1, a2, a3, _, _⟩ := append_only (P := Tryz.prog) (ts := #[22, 22]) (e := 46) (sz := 6) (enc := encL) (l := l) (m := [x]) (b := b) ef22 (by simp) lenL cokLL rfl (by decide) (by decide) rfl (σ := s1.alloc (.cells (encL x) 46 false))
    (ho.grow hga) (by simp; omega) (Sl.all (l := [x]) (i := s1.n) (cap := 1) (ro := false) lenL (by simp) (by simp) (.inr ⟨by simp, by simp [openCap]⟩)) (by show (_ + 1) * 32 ≤ _; omega) (by omega)
  obtain ⟨p9, c9, rfl⟩ := (a2.sl (sz := 6) lenL).form
  rw [List.length_append] at a1 a2
  exact ⟨p9, c9, s9, a1, a2, (hga.toB hb).trans a3⟩
theorem wrap5 (o : Int) (h0 : 0 ≤ o) : IntKind.i64.wrap (o.tmod 5) = o.tmod 5 := by
  have := Int.tmod_nonneg 5 h0
  have := Int.tmod_lt_of_pos o (show (0 : Int) < 5 by decide)
  exact IntWalk.i64_in _ (by omega)
theorem mem_agst {L : List Lk} {o : Int} {k : ByteArray} {t : Int} : mem (agst L o k) t ↔ ∃ x ∈ L, x.owner ≠ o ∧ klt k x.frm = false ∧ klt x.to k = false ∧ inS t x.sp := by
  unfold mem agst
  constructor
  · rintro ⟨s, hs, ht⟩
    obtain ⟨x, hx, rfl⟩ := List.mem_map.1 hs
    obtain ⟨h1, h2⟩ := List.mem_filter.1 hx
    simp at h2
    exact ⟨x, h1, h2.1, h2.2.1, h2.2.2, ht⟩
  · rintro ⟨x, h1, h2, h3, h4, h5⟩
    exact ⟨x.sp, List.mem_map.2 ⟨x, List.mem_filter.2 ⟨h1, by simp [h2, h3, h4]⟩, rfl⟩, h5⟩
theorem addK_mem {L : List Lk} {k x : Lk} (h : x ∈ L) : x ∈ addK L k := by
  unfold addK
  split
  · exact List.mem_append_left _ h
  · exact h
theorem law_LockMore (l : List LL) (hok : ∀ x ∈ l, x.ok) (x : LL) (hx : x.ok) (o k : Int) (ho0 : 0 ≤ o) (ho1 : o < 256) (hk0 : 0 ≤ k) (hk1 : k < 256) (v : Value) (σ : CSt) (hn : gnone σ) (hz : 0 < σ.n) (hsl : Sl σ 46 6 encL v l) : W E1 (.fn 5 #[v, .agg (encL x).toArray, .int .u8 o, .int .u8 k] none) σ isTrueP := by
  rw [W_fn (fn := Tryz.f5) Tryz.func5 rfl rfl rfl]
  obtain ⟨p, c, rfl⟩ := hsl.form
  have g0 : Grow σ (σ.alloc (.cells (encL x) 46 false)) := (Grow.refl σ).alloc _
  have hc0 : (σ.alloc (.cells (encL x) 46 false)).get σ.n = some (.cells (encL x) 46 false) := ga_top rfl
  have hn0 : (σ.alloc (.cells (encL x) 46 false)).n = σ.n + 1 := by simp
  simp only [encL] at g0 hc0 hn0
  simp [wops_cons, encL]
  generalize σ.alloc (.cells [.int .u8 x.owner, .int .u8 x.frm, .int .u8 x.to, .int .u64 x.s.lo, .int .u64 x.s.hi, .int .u8 x.s.near] 46 false) = s0 at g0 hc0 hn0 ⊢
  have hng := gnone_grow hn hz g0
  rw [awake_spec rfl hng]
  simp [wops_cons]
  by_cases hl : 30 < l.length
  · have hl' : (30 : Int) < l.length := by omega
    have hl3 : ¬ (l.length : Int) ≤ 30 := by omega
    simp [wops_cons, wops_if', dstOf, hl', hl3, isTrueP]
  have hl' : ¬ (30 : Int) < l.length := by omega
  have hl3 : (l.length : Int) ≤ 30 := by omega
  have hwo := wrap5 o ho0
  simp [wops_cons, wops_if', dstOf, hl', hl3]
  refine table_spec l hok _ s0 (hsl.grow g0) (by omega) _ fun i v1 v2 σ1 htb hov hap g1 => ?_
  have hml := madeK_le l
  have hmk := madeK_ok hok
  have hc1 := g1.get hc0 (by omega)
  have gn1 := g1.n
  simp [wops_cons]
  have hok2 : ∀ y ∈ l ++ [x], y.ok := fun y hy => by
    rcases List.mem_append.1 hy with hy | hy
    · exact hok y hy
    · rw [List.mem_singleton.1 hy]; exact hx
  have hml3 := madeK_le (l ++ [x])
  rw [List.length_append] at hml3
  have hmk3 := madeK_ok hok2
  refine W_cut (fun out s => ∃ tm i2 v4, out = .code .normal ⟨tm, 83, [], false⟩ ∧ tm.get 2 = some (.int .u8 o) ∧ tm.get 3 = some (.int .u8 k) ∧ tm.get 5 = some (.pointer (some ⟨σ.n, 0, none⟩)) ∧ tm.get 9 = some (.pointer (some ⟨i, 0, none⟩)) ∧ tm.get 11 = some (.pointer (some ⟨i2, 0, none⟩)) ∧ Tb σ1.n i2 v4 s (madeK (l ++ [x])) ∧ Grow σ1 s) ?_ ?_
  · refine W_plans (ls := [[0, 2, 1, 3, 4, 5, 6, 7, 8, 9, 10], [0, 2, 3, 1, 4, 5, 6, 7, 8, 9, 10]]) (b := #[0, 1, 0, 4, 15, 31, 63, 127, 127, 255, 1023]) (by kernel_rfl) (by kernel_rfl) (by kernel_rfl) (by kernel_rfl) ?_
    intro ll hll
    simp only [List.mem_cons, List.not_mem_nil, or_false] at hll
    rcases hll with rfl | rfl
    · simp [dopsR_cons, opAt, isEff, again, befBits, isRead, Nat.add_assoc, hc1]
      refine clone_46 l _ σ1 (hsl.grow (g0.trans g1)) (by omega) _ fun v3 σ2 ho3 g2 => ?_
      have hc2 := g2.get hc1 (by omega)
      obtain ⟨p3, c3, rfl⟩ := (ho3.sl (sz := 6) lenL).form
      obtain ⟨p9, c9, s9, a1, a2, a3⟩ := app_ll (x := x) ho3 g2.n (by omega)
      have g19 : Grow σ1 s9 := g2.thenB a3 (Nat.le_refl _)
      have hc9 := g19.get hc1 (by omega)
      simp only [encL] at a1
      simp [dopsR_cons, opAt, isEff, again, befBits, isRead, Nat.add_assoc, hc2, hc9, a1]
      refine table_spec (l ++ [x]) hok2 _ s9 (by simpa using a2.sl lenL) (by simp; omega) _ fun i2 v4 v5 σ3 htb3 hov3 hap3 g3 => ?_
      have hc3 := (g19.trans g3).get hc1 (by omega)
      simp [dopsR_cons, wops_cons, opAt, isEff, again, befBits, isRead, Nat.add_assoc, hc3]
      exact ⟨⟨v4, htb3.weaken g19.n⟩, g19.trans g3⟩
    · have hc2 : (σ1.alloc (.cells (encL x) 46 false)).get σ.n = some (.cells (encL x) 46 false) := ((Grow.refl σ1).alloc _).get hc1 (by omega)
      have g2a : Grow σ1 (σ1.alloc (.cells (encL x) 46 false)) := (Grow.refl σ1).alloc _
      have hcn : (σ1.alloc (.cells (encL x) 46 false)).get σ1.n = some (.cells (encL x) 46 false) := ga_top rfl
      have hnn : (σ1.alloc (.cells (encL x) 46 false)).n = σ1.n + 1 := by simp
      simp only [encL] at hc2 g2a hcn hnn
      simp [dopsR_cons, opAt, isEff, again, befBits, isRead, Nat.add_assoc, hc1]
      generalize σ1.alloc (.cells [.int .u8 x.owner, .int .u8 x.frm, .int .u8 x.to, .int .u64 x.s.lo, .int .u64 x.s.hi, .int .u8 x.s.near] 46 false) = σa at hc2 g2a hcn hnn ⊢
      refine clone_46 l _ σa (hsl.grow ((g0.trans g1).trans g2a)) (by omega) _ fun v3 σ2 ho3 g2 => ?_
      have hc3 := g2.get hc2 (by omega)
      have hcn2 := g2.get hcn (by omega)
      have gn2 := g2.n
      obtain ⟨v9, s9, a1, a2, a3, _, _⟩ := append_only (P := Tryz.prog) (ts := #[22, 22]) (e := 46) (sz := 6) (enc := encL) (l := l) (m := [x]) (b := σa.n) ef22 (by simp) lenL cokLL rfl (by decide) (by decide) rfl ho3 gn2
        (Sl.all (l := [x]) (i := σ1.n) (cap := 1) (ro := false) lenL (by simpa [encL] using hcn2) (by omega) (.inr ⟨by simp, by simp [openCap]⟩)) (by show (_ + 1) * 32 ≤ _; omega) (by omega)
      obtain ⟨p9, c9, rfl⟩ := (a2.sl (sz := 6) lenL).form
      obtain ⟨p3, c3, rfl⟩ := (ho3.sl (sz := 6) lenL).form
      have ga9 : Grow σa s9 := g2.thenB a3 (Nat.le_refl _)
      have g19 : Grow σ1 s9 := g2a.trans ga9
      have hc9 := g19.get hc1 (by omega)
      simp only [List.length_cons, List.length_nil, Nat.zero_add] at a1
      simp [dopsR_cons, opAt, isEff, again, befBits, isRead, Nat.add_assoc, hc2, hc3, hc9, a1]
      refine table_spec (l ++ [x]) hok2 _ s9 (by simpa using a2.sl lenL) (by simp; omega) _ fun i2 v4 v5 σ3 htb3 hov3 hap3 g3 => ?_
      have hc4 := (g19.trans g3).get hc1 (by omega)
      simp [dopsR_cons, wops_cons, opAt, isEff, again, befBits, isRead, Nat.add_assoc, hc4]
      exact ⟨⟨v4, htb3.weaken g19.n⟩, g19.trans g3⟩
  rintro out σ3 ⟨tm, i2, v4, rfl, e2, e3, e5, e9, e11, htb3, g13⟩
  have htb1 := htb.grow g13
  have hc3 := g13.get hc1 (by omega)
  simp [wops_cons, e2, e3, e5, e9, e11, hwo]
  refine key_spec k hk0 hk1 σ3 _ fun s4 g4 => ?_
  have htb14 := htb1.grow g4
  have htb34 := htb3.grow g4
  have hc4 := g4.get hc3 (by have := g13.n; omega)
  generalize hkk : keyOf (k.tmod 8) = kk at *
  simp [wops_cons, e2, e3, e5, e9, e11, hwo]
  refine against_spec s0.n i v1 _ _ kk hmk s4 htb14 (by omega) _ fun va r1 s5 hr1 hrok1 hrl1 hoa ga => ?_
  obtain ⟨pa, ca, rfl⟩ := (hoa.sl (sz := 2) lenS).form
  simp [wops_cons, e2, e3, e5, e9, e11, hwo]
  refine against_spec σ1.n i2 v4 _ _ kk hmk3 s5 (htb34.grow ga) (by simp at hml3; omega) _ fun vb r2 s6 hr2 hrok2 hrl2 hob gb => ?_
  obtain ⟨pb, cb, rfl⟩ := (hob.sl (sz := 2) lenS).form
  have hoa6 := hoa.grow gb
  have g46 := ga.trans gb
  have gg6 : Grow s0 s6 := ((g1.trans g13).trans g4).trans g46
  simp [wops_cons, e2, e3, e5, e9, e11, hwo]
  have hb1 : r1.length ≤ 30 := by omega
  have hb2 : r2.length ≤ 31 := by simp at hml3; omega
  have hb3 : r1.length * 2 ^ r2.length ≤ 30 * 2 ^ 31 := Nat.mul_le_mul hb1 (Nat.pow_le_pow_right (by decide) hb2)
  have hb4 : 30 * 2 ^ 31 < 2 ^ 36 := by decide
  refine set_less r1 r2 hrok1 hrok2 _ _ s6 (gnone_grow hng (by omega) gg6) (by have := gg6.n; omega) (hoa6.sl lenS) (hob.sl lenS) (by omega) (by omega) (by omega) _ fun vc r3 s7 hr3 hrok3 hrl3 hoc gc => ?_
  obtain ⟨pc, cc, rfl⟩ := (hoc.sl (sz := 2) lenS).form
  have hr3n : r3 = [] := hr3.nil_iff.2 fun t ht => by
    rw [mem_lessL] at ht
    obtain ⟨h1, h2⟩ := ht
    refine h2 ((hr2.2 t).2 ?_)
    have h3 := (hr1.2 t).1 h1
    rw [mem_agst] at h3 ⊢
    obtain ⟨y, hy, h4⟩ := h3
    refine ⟨y, ?_, h4⟩
    rw [madeK_snoc]
    exact addK_mem hy
  subst hr3n
  simp [wops_cons, e2, e3, e5, e9, e11, hwo]
  refine same_spec [] [] _ (.slice none 0 0) s7 (by simpa using hoc.sl lenS) (.inl ⟨rfl, rfl⟩) (by simp) _ fun s8 gd => ?_
  have g48 := (g46.trans gc).trans gd
  have hc8 := g48.get hc4 (by have := g13.n; have := g4.n; omega)
  simp [wops_cons, wops_if', dstOf, e2, e3, e5, e9, e11, hc8]
  have hm := lmake_spec x hx
  simp only [encL] at hm
  refine hm s8 _ fun sa ge => ?_
  have hoa9 := ((hoa6.grow gc).grow gd).grow ge
  have hob9 := ((hob.grow gc).grow gd).grow ge
  have hga : Grow sa ((sa.alloc (.cells [.int .i64 0, .string ⟨#[]⟩, .string ⟨#[]⟩, .int .u64 0, .int .u64 0] 33 false)).put sa.n (.cells (encK (lkOf x)) 33 false)) := ((Grow.refl sa).alloc _).put (Nat.le_refl _) _
  have hoaA := hoa9.grow hga
  have hobA := hob9.grow hga
  simp only [encK] at hga hoaA hobA
  have hlk : (lkOf x).owner = x.owner.tmod 5 := rfl
  have hoth : klt kk (lkOf x).frm = true ∨ klt (lkOf x).to kk = true ∨ (lkOf x).owner = o.tmod 5 → r1 = r2 := fun hc => by
    refine hr1.eq hr2 fun t => ?_
    rw [madeK_snoc]
    unfold addK
    split
    · rw [agst_snoc, if_neg]
      rcases hc with hc | hc | hc <;> simp [hc]
    · rfl
  cases hA : klt kk (lkOf x).frm with
  | true =>
    have he := hoth (.inl hA)
    subst he
    simp [wops_cons, wops_if', dstOf, e2, e3, e5, e9, e11, encK, hA, hwo]
    refine same_spec r1 r1 _ _ _ (hoaA.sl lenS) (hobA.sl lenS) (by omega) _ fun sz gz => ?_
    simp [wops_cons, isTrueP]
  | false =>
    have hkb : (klt kk (lkOf x).to || kk.toList == (lkOf x).to.toList) = !klt (lkOf x).to kk := kle_eq _ _
    cases hB : klt (lkOf x).to kk with
    | true =>
      have he := hoth (.inr (.inl hB))
      subst he
      rw [hB] at hkb
      simp at hkb
      simp [wops_cons, wops_if', dstOf, e2, e3, e5, e9, e11, encK, hA, hkb.1, hkb.2, hwo]
      refine same_spec r1 r1 _ _ _ (hoaA.sl lenS) (hobA.sl lenS) (by omega) _ fun sz gz => ?_
      simp [wops_cons, isTrueP]
    | false =>
      rw [hB] at hkb
      cases hD : klt kk (lkOf x).to with
      | true =>
        by_cases hC : (lkOf x).owner = o.tmod 5
        · have he := hoth (.inr (.inr hC))
          subst he
          simp [wops_cons, wops_if', dstOf, e2, e3, e5, e9, e11, encK, hA, hD, hC, hwo]
          rw [hC] at hoaA hobA
          refine same_spec r1 r1 _ _ _ (hoaA.sl lenS) (hobA.sl lenS) (by omega) _ fun sz gz => ?_
          simp [wops_cons, isTrueP]
        · simp [wops_cons, wops_if', dstOf, e2, e3, e5, e9, e11, encK, hA, hD, hC, hwo, isTrueP]
      | false =>
        rw [hD] at hkb
        simp at hkb
        by_cases hC : (lkOf x).owner = o.tmod 5
        · have he := hoth (.inr (.inr hC))
          subst he
          simp [wops_cons, wops_if', dstOf, e2, e3, e5, e9, e11, encK, hA, hD, hkb, hC, hwo]
          rw [hC] at hoaA hobA
          refine same_spec r1 r1 _ _ _ (hoaA.sl lenS) (hobA.sl lenS) (by omega) _ fun sz gz => ?_
          simp [wops_cons, isTrueP]
        · simp [wops_cons, wops_if', dstOf, e2, e3, e5, e9, e11, encK, hA, hD, hkb, hC, hwo, isTrueP]
end Go.Sm
/- Tables of locks: released, tidied. -/
set_option linter.unusedVariables false
set_option linter.unusedSimpArgs false
namespace Go.Sm
open Go Go.Proofs
set_option maxRecDepth 100000
set_option maxHeartbeats 4000000
theorem pred56 (x : Lk) (o : Int) (c : Nat) (s : CSt) (hc : s.get c = some (.cells [.int .i64 o] 3 false)) (hcn : c < s.n) (Q : Out → CSt → Prop) (h : ∀ s', Grow s s' → Q (.ret (.bool (decide (x.owner = o))) false) s') : W E1 (.fn 56 #[.agg (encK x).toArray, .pointer (some ⟨c, 0, none⟩)] none) s Q := by
  rw [W_fn (fn := Tryz.f56) Tryz.func56 rfl rfl rfl]
  have hg := h _ ((Grow.refl s).alloc (.cells (encK x) 33 false))
  have hcn' : ¬ c = s.n := by omega
  simp only [encK] at hg
  by_cases e : x.owner = o
  · simpa [wops_cons, encK, e, hc, hcn'] using hg
  · simpa [wops_cons, encK, e, hc, hcn'] using hg
theorem pred79 (x : Lk) (s : CSt) (Q : Out → CSt → Prop) (h : ∀ s', Grow s s' → Q (.ret (.bool (!full x.sp)) false) s') : W E1 (.fn 79 #[.agg (encK x).toArray] none) s Q := by
  rw [W_fn (fn := Tryz.f79) Tryz.func79 rfl rfl rfl]
  have g0 : Grow s (s.alloc (.cells (encK x) 33 false)) := (Grow.refl s).alloc _
  have he := empty_spec x.sp (s.alloc (.cells (encK x) 33 false))
  simp only [encS, encK] at he
  simp [wops_cons, encK]
  refine he _ fun s1 g1 => ?_
  simpa [wops_cons] using h s1 (g0.trans g1)
theorem bt_obj {i : Nat} {v v' : Value} {s s' : CSt} (h : Bt i v s s') (e : objOf v' = objOf v) : Bt i v' s s' := ⟨h.1, fun j hj h1 h2 => h.2 j hj h1 (by rw [← e]; exact h2)⟩
/-- The row is filtered in place, and put back. -/
theorem release_spec (b i : Nat) (v : Value) (L : List Lk) (o : Int) (σ : CSt) (ht : Tb b i v σ L) (hL : L.length < 2 ^ 36) (Q : Out → CSt → Prop)
    (h : ∀ (v' : Value) (σ' : CSt), Tb b i v' σ' (L.filter fun x => !decide (x.owner = o)) → objOf v' = objOf v → Bt i v σ σ' → Q (.ret (.tuple #[]) false) σ') : W E1 (.fn 24 #[.pointer (some ⟨i, 0, none⟩), .int .i64 o] none) σ Q := by
  have ht0 := ht
  obtain ⟨hg, hbi, hin, hown⟩ := ht
  rw [W_fn (fn := Tryz.f24) Tryz.func24 rfl rfl rfl]
  obtain ⟨pv, cv, rfl⟩ := (hown.sl (sz := 5) lenK).form
  have g0 : Grow σ (σ.alloc (.cells [.int .i64 o] 3 false)) := (Grow.refl σ).alloc _
  have hc0 : (σ.alloc (.cells [.int .i64 o] 3 false)).get σ.n = some (.cells [.int .i64 o] 3 false) := ga_top rfl
  have hn0 : (σ.alloc (.cells [.int .i64 o] 3 false)).n = σ.n + 1 := by simp
  have hg0 := g0.get hg hin
  have hni : ¬ i = σ.n := by omega
  simp [wops_cons, hg, hni]
  generalize σ.alloc (.cells [.int .i64 o] 3 false) = s1 at g0 hc0 hn0 hg0 ⊢
  refine deleteFn_33 56 #[.pointer (some ⟨σ.n, 0, none⟩)] (fun args s => extOf_none rfl) (fun x => decide (x.owner = o)) (fun s => s.get σ.n = some (.cells [.int .i64 o] 3 false) ∧ σ.n < s.n) b L _ s1 (fun s s' hs hb => ⟨?_, Nat.lt_of_lt_of_le hs.2 hb.1⟩) (hown.grow g0) ⟨hc0, by omega⟩ (fun x hx s Q hs hq => ?_) (by omega) _ fun v2 s2 ho2 hob g2 => ?_
  · rw [hb.2 σ.n hs.2 (fun e => by have := (hown.ob e).2.1; omega)]
    exact hs.1
  · exact pred56 x o σ.n s hs.1 hs.2 Q hq
  obtain ⟨p2, c2, rfl⟩ := (ho2.sl (sz := 5) lenK).form
  have h2i : s2.get i = some (.cells [.slice pv L.length cv] 89 false) := by rw [g2.2 i (by omega) ht0.ne]; exact hg0
  have hb2 := (g0.bt (i := i) (v := .slice pv L.length cv)).trans g2.bt
  simp [wops_cons, h2i]
  exact h _ _ ⟨by simp, hbi, by have := hb2.1; simp; omega, ho2.putX h2i (by decide) _⟩ hob (hb2.putI _)
theorem tidy_spec (b i : Nat) (v : Value) (L : List Lk) (σ : CSt) (ht : Tb b i v σ L) (hL : L.length < 2 ^ 36) (Q : Out → CSt → Prop)
    (h : ∀ (v' : Value) (σ' : CSt), Tb b i v' σ' (L.filter fun x => full x.sp) → objOf v' = objOf v → Bt i v σ σ' → Q (.ret (.tuple #[]) false) σ') : W E1 (.fn 62 #[.pointer (some ⟨i, 0, none⟩)] none) σ Q := by
  have ht0 := ht
  obtain ⟨hg, hbi, hin, hown⟩ := ht
  rw [W_fn (fn := Tryz.f62) Tryz.func62 rfl rfl rfl]
  obtain ⟨pv, cv, rfl⟩ := (hown.sl (sz := 5) lenK).form
  simp [wops_cons, hg]
  refine deleteFn_33 79 #[] (fun args s => extOf_none rfl) (fun x => !full x.sp) (fun s => True) b L _ σ (fun s s' hs hb => trivial) hown trivial (fun x hx s Q hs hq => ?_) (by omega) _ fun v2 s2 ho2 hob g2 => ?_
  · simp only [Array.append_empty]
    exact pred79 x s Q hq
  simp only [Bool.not_not] at ho2
  obtain ⟨p2, c2, rfl⟩ := (ho2.sl (sz := 5) lenK).form
  have h2i : s2.get i = some (.cells [.slice pv L.length cv] 89 false) := by rw [g2.2 i (by omega) ht0.ne]; exact hg
  have hb2 : Bt i (.slice pv L.length cv) σ s2 := g2.bt
  simp [wops_cons, h2i]
  exact h _ _ ⟨by simp, hbi, by have := hb2.1; simp; omega, ho2.putX h2i (by decide) _⟩ hob (hb2.putI _)
end Go.Sm
/- Tables of locks: frozen, purged. -/
set_option linter.unusedVariables false
set_option linter.unusedSimpArgs false
namespace Go.Sm
open Go Go.Proofs
set_option maxRecDepth 100000
set_option maxHeartbeats 4000000
theorem cut_row (d : List Lk) (j : Nat) (h : j < d.length) (zs : List Value) : ∃ A B : List Value, A.length = j * 5 ∧ d.flatMap encK ++ zs = A ++ (encK d[j] ++ B) ∧ ∀ y, (d.set j y).flatMap encK ++ zs = A ++ (encK y ++ B) := by
  refine ⟨(d.take j).flatMap encK, (d.drop (j + 1)).flatMap encK ++ zs, ?_, ?_, fun y => ?_⟩
  · rw [enc_length encK lenK, List.length_take, Nat.min_eq_left (Nat.le_of_lt h)]
  · have e : d = d.take j ++ d[j] :: d.drop (j + 1) := by rw [← List.drop_eq_getElem_cons h, List.take_append_drop]
    have e2 := congrArg (List.flatMap encK) e
    rw [List.flatMap_append, List.flatMap_cons] at e2
    rw [e2]
    simp only [List.append_assoc]
  · rw [List.set_eq_take_append_cons_drop, if_pos h, List.flatMap_append, List.flatMap_cons]
    simp only [List.append_assoc]
theorem row_owner (d : List Lk) (j : Nat) (h : j < d.length) (zs : List Value) (x : Int) : (d.flatMap encK ++ zs).take (j * 5) ++ .int .i64 x :: (d.flatMap encK ++ zs).drop (j * 5 + 1) = (d.set j ⟨x, d[j].frm, d[j].to, d[j].sp⟩).flatMap encK ++ zs := by
  obtain ⟨A, B, hA, h1, h2⟩ := cut_row d j h zs
  rw [h1, h2, ← hA, List.take_left, List.drop_append]
  simp [encK]
theorem row_span (d : List Lk) (j : Nat) (h : j < d.length) (zs : List Value) (s : Sn) : (d.flatMap encK ++ zs).take (j * 5 + 3) ++ (encS s ++ (d.flatMap encK ++ zs).drop (j * 5 + 3 + 2)) = (d.set j ⟨d[j].owner, d[j].frm, d[j].to, s⟩).flatMap encK ++ zs := by
  obtain ⟨A, B, hA, h1, h2⟩ := cut_row d j h zs
  rw [h1, h2, ← hA, List.take_append, List.drop_append, List.take_of_length_le (by omega), List.drop_of_length_le (by omega)]
  simp [encK, encS, show A.length + 3 - A.length = 3 by omega, show A.length + 3 + 2 - A.length = 5 by omega]
/-- So far changed, the rest as it was. -/
def mid (f : Lk → Lk) (L : List Lk) (j : Nat) : List Lk := (L.take j).map f ++ L.drop j
theorem mid_len (f : Lk → Lk) (L : List Lk) (j : Nat) : (mid f L j).length = L.length := by
  unfold mid
  rw [List.length_append, List.length_map, ← List.length_append, List.take_append_drop]
theorem mid_get (f : Lk → Lk) (L : List Lk) (j : Nat) (h : j < L.length) : (mid f L j)[j]'(by rw [mid_len]; exact h) = L[j] := by
  unfold mid
  rw [List.getElem_append_right (by simp; omega)]
  simp [Nat.min_eq_left (Nat.le_of_lt h)]
theorem mid_set (f : Lk → Lk) (L : List Lk) (j : Nat) (h : j < L.length) : (mid f L j).set j (f L[j]) = mid f L (j + 1) := by
  unfold mid
  have hl : ((L.take j).map f).length = j := by simp [Nat.min_eq_left (Nat.le_of_lt h)]
  rw [List.set_append_right _ _ (by omega), hl, Nat.sub_self, List.take_succ_eq_append_getElem h, List.map_append, List.append_assoc]
  congr 1
  rw [List.drop_eq_getElem_cons h]
  rfl
theorem mid_same (f : Lk → Lk) (L : List Lk) (j : Nat) (h : j < L.length) (e : f L[j] = L[j]) : mid f L (j + 1) = mid f L j := by
  rw [← mid_set f L j h, e]
  have hm : j < (mid f L j).length := by rw [mid_len]; exact h
  have := List.set_getElem_self hm
  rw [mid_get f L j h] at this
  exact this
theorem mid_all (f : Lk → Lk) (L : List Lk) : mid f L L.length = L.map f := by
  unfold mid
  rw [List.take_length, List.drop_length, List.append_nil]
def frzK (o u : Int) (x : Lk) : Lk := if x.owner = o then ⟨0, x.frm, x.to, belowS x.sp (u + 1)⟩ else x
def prgK (u : Int) (x : Lk) : Lk := if x.owner = 0 then ⟨x.owner, x.frm, x.to, aboveS x.sp u⟩ else x
theorem Tb.gnone {b i : Nat} {v : Value} {s s' : CSt} {L : List Lk} (h : Tb b i v s L) (hz : 0 < b) (hn : gnone s) (hz2 : 0 < s.n) (k : Bt i v s s') : gnone s' := by
  unfold Sm.gnone at *
  rw [k.2 0 hz2 (by have := h.2.1; omega) (fun e => by have := (h.2.2.2.ob e).1; omega)]
  exact hn
theorem freeze_spec (b i : Nat) (v : Value) (L : List Lk) (hok : ∀ x ∈ L, x.sp.ok) (o u : Int) (hu0 : 0 ≤ u) (hu : u < 40) (σ : CSt) (hn : gnone σ) (hz : 0 < b) (ht : Tb b i v σ L) (hL : L.length < 2 ^ 36) (Q : Out → CSt → Prop)
    (h : ∀ (v' : Value) (σ' : CSt), Tb b i v' σ' ((L.map (frzK o u)).filter fun x => full x.sp) → objOf v' = objOf v → Bt i v σ σ' → Q (.ret (.tuple #[]) false) σ') : W E1 (.fn 27 #[.pointer (some ⟨i, 0, none⟩), .int .i64 o, .int .u64 u] none) σ Q := by
  have ht0 := ht
  obtain ⟨hg, hbi, hin, hown⟩ := ht
  rw [W_fn (fn := Tryz.f27) Tryz.func27 rfl rfl rfl]
  obtain ⟨pv, cv, rfl⟩ := (hown.sl (sz := 5) lenK).form
  simp [wops_cons, hg]
  refine W_loop_J (fun n a s => ∃ tm j, a = ⟨tm, 44, [], false⟩ ∧ tm.get 0 = some (.pointer (some ⟨i, 0, none⟩)) ∧ tm.get 1 = some (.int .i64 o) ∧ tm.get 2 = some (.int .u64 u) ∧ tm.get 11 = some (.slice pv L.length cv) ∧ tm.get 12 = some (.int .i64 L.length) ∧ tm.get 13 = some (.int .i64 (j : Nat)) ∧ j ≤ L.length ∧ n = L.length - j ∧ Tb b i (.slice pv L.length cv) s (mid (frzK o u) L j) ∧ Bt i (.slice pv L.length cv) σ s)
    (fun out s => ∃ tm, out = .code (.exit 0) ⟨tm, 44, [], false⟩ ∧ tm.get 0 = some (.pointer (some ⟨i, 0, none⟩)) ∧ Tb b i (.slice pv L.length cv) s (L.map (frzK o u)) ∧ Bt i (.slice pv L.length cv) σ s) ?_ L.length _ _ ?_ ?_
  · rintro n a s ⟨tm, j, rfl, e0, e1, e2, e11, e12, e13, hj, hnn, htb, hbt⟩
    by_cases hjl : j < L.length
    · have htb0 := htb
      obtain ⟨hgi, _, hin2, how2⟩ := htb
      rcases how2 with ⟨h1, h2⟩ | ⟨q, cap, zs, h1, hbq, hq, hgq, hzs, hcap⟩
      · have := mid_len (frzK o u) L j
        rw [h2] at this
        simp at this
        omega
      rw [mid_len] at h1
      have hwj := i64n1 j (by omega)
      cases h1
      have hml := mid_len (frzK o u) L j
      have hjm : j < (mid (frzK o u) L j).length := by omega
      have hld := row_get (enc := encK) lenK (rowZ lenK (mid (frzK o u) L j) zs) j hjm
      rw [mid_get _ _ _ hjl, Nat.zero_add] at hld
      have hrl : ((mid (frzK o u) L j).flatMap encK ++ zs).length = L.length * 5 + zs.length := by rw [List.length_append, enc_length encK lenK, hml]
      have hle1 : j * 5 + 5 ≤ ((mid (frzK o u) L j).flatMap encK ++ zs).length := by omega
      have hle2 : j * 5 + 1 ≤ ((mid (frzK o u) L j).flatMap encK ++ zs).length := by omega
      have hjl' : (j : Int) < L.length := by omega
      have hqi : q ≠ i := fun e => htb0.ne (by rw [← e]; rfl)
      have hqi2 : ¬ i = q := fun e => hqi e.symm
      have hqn : ¬ q = s.n := by omega
      have hro := row_owner (mid (frzK o u) L j) j hjm zs 0
      rw [mid_get _ _ _ hjl] at hro
      obtain ⟨d2, hd2⟩ : ∃ d2, d2 = (mid (frzK o u) L j).set j ⟨0, L[j].frm, L[j].to, L[j].sp⟩ := ⟨_, rfl⟩
      rw [← hd2] at hro
      have hd2l : d2.length = L.length := by rw [hd2, List.length_set, hml]
      have hj2 : j < d2.length := by omega
      have hd2j : d2[j] = ⟨0, L[j].frm, L[j].to, L[j].sp⟩ := by simp [hd2]
      have hrs := row_span d2 j hj2 zs (belowS L[j].sp (u + 1))
      have hrl2 : (d2.flatMap encK ++ zs).length = L.length * 5 + zs.length := by rw [List.length_append, enc_length encK lenK, hd2l]
      have hle3 : j * 5 + 3 + 2 ≤ (d2.flatMap encK ++ zs).length := by omega
      have hnow : Tb b i (.slice (some ⟨q, 0, none⟩) L.length cv) s (mid (frzK o u) L j) := htb0
      have hzs5 := hzs
      generalize hrw : (mid (frzK o u) L j).flatMap encK ++ zs = row at hgq hld hle1 hle2 hro
      generalize hrw2 : d2.flatMap encK ++ zs = row2 at hro hrs hle3
      have hg5 : Grow s ((s.alloc (.cells [.int .i64 0, .string ⟨#[]⟩, .string ⟨#[]⟩, .int .u64 0, .int .u64 0] 33 false)).put s.n (.cells (encK L[j]) 33 false)) := ((Grow.refl s).alloc _).put (Nat.le_refl _) _
      have hc5 : ((s.alloc (.cells [.int .i64 0, .string ⟨#[]⟩, .string ⟨#[]⟩, .int .u64 0, .int .u64 0] 33 false)).put s.n (.cells (encK L[j]) 33 false)).get s.n = some (.cells (encK L[j]) 33 false) := by simp
      have hn5 : ((s.alloc (.cells [.int .i64 0, .string ⟨#[]⟩, .string ⟨#[]⟩, .int .u64 0, .int .u64 0] 33 false)).put s.n (.cells (encK L[j]) 33 false)).n = s.n + 1 := by simp
      simp only [encK] at hg5 hc5 hn5
      simp [wops_cons, e0, e1, e2, e11, e12, e13, hjl, hjl', hgq, hld, hle1]
      simp [wops_cons, encK, e0, e1, e2, e11, e12, e13, hwj, -W_condK]
      generalize (s.alloc (.cells [.int .i64 0, .string ⟨#[]⟩, .string ⟨#[]⟩, .int .u64 0, .int .u64 0] 33 false)).put s.n (.cells [.int .i64 L[j].owner, .string L[j].frm, .string L[j].to, .int .u64 L[j].sp.lo, .int .u64 L[j].sp.hi] 33 false) = s1 at hg5 hc5 hn5 ⊢
      have hgq1 := hg5.get hgq hq
      have hgi1 := hg5.get hgi hin2
      by_cases c1 : L[j].owner = o
      · have hfr : frzK o u L[j] = ⟨0, L[j].frm, L[j].to, belowS L[j].sp (u + 1)⟩ := by unfold frzK; rw [if_pos c1]
        have hwu : IntKind.u64.wrap (u + 1) = u + 1 := IntWalk.u64_in _ (by omega)
        have hut : Nat.testBit 1023 4 = true := by decide
        simp [wops_cons, e0, e1, e2, e11, e12, e13, hjl, hjl', hc5, c1, hgi1, hgq1, hle2, hro]
        have hb2 : Bt i (.slice (some ⟨q, 0, none⟩) L.length cv) s (s1.put q (.cells row2 33 false)) := ((hg5.butV (v := .slice (some ⟨q, 0, none⟩) L.length cv)).putV rfl _).bt
        have hc6 : (s1.put q (.cells row2 33 false)).get s.n = some (.cells [.int .i64 L[j].owner, .string L[j].frm, .string L[j].to, .int .u64 L[j].sp.lo, .int .u64 L[j].sp.hi] 33 false) := by rw [CSt.get_put, if_neg (by omega)]; exact hc5
        have hgi2 : (s1.put q (.cells row2 33 false)).get i = some (.cells [.slice (some ⟨q, 0, none⟩) L.length cv] 89 false) := by rw [CSt.get_put, if_neg hqi2]; exact hgi1
        have hgq2 : (s1.put q (.cells row2 33 false)).get q = some (.cells row2 33 false) := by simp
        have hn2 : (s1.put q (.cells row2 33 false)).n = s.n + 1 := by simp [hn5]
        have hgn : gnone (s1.put q (.cells row2 33 false)) := htb0.gnone hz (ht0.gnone hz hn (by omega) hbt) (by omega) hb2
        generalize s1.put q (.cells row2 33 false) = s2 at hb2 hc6 hgi2 hgq2 hn2 hgn ⊢
        refine W_drawn (l := [0, 1, 2, 3, 4, 5, 6, 7, 8, 9, 10, 11, 12]) (b := #[0, 1, 3, 7, 0, 0, 32, 0, 128, 480, 1023, 2047, 4095]) (by kernel_rfl) (by kernel_rfl) (by kernel_rfl) ?_
        simp [dopsR_cons, opAt, isEff, again, befBits, isRead, Nat.add_assoc, e0, e1, e2, e11, e12, e13, hc6, hgi2, hwu]
        have hbs := below_spec L[j].sp (hok _ (List.getElem_mem hjl)) (u + 1) (by omega) (by omega) s2 hgn (by omega)
        simp only [encS] at hbs
        refine hbs _ fun s3 g3 => ?_
        have hgi3 := g3.get hgi2 (by omega)
        have hgq3 := g3.get hgq2 (by omega)
        have hc7 := g3.get hc6 (by omega)
        have hqn2 : ¬ s.n = q := by omega
        have hend : d2.set j ⟨d2[j].owner, d2[j].frm, d2[j].to, belowS L[j].sp (u + 1)⟩ = mid (frzK o u) L (j + 1) := by
          rw [hd2j, ← mid_set (frzK o u) L j hjl, hfr, hd2, List.set_set]
        rw [hend] at hrs
        have hrs' : row2.take (j * 5 + 3) ++ [.int .u64 (belowS L[j].sp (u + 1)).lo, .int .u64 (belowS L[j].sp (u + 1)).hi] ++ row2.drop (j * 5 + 5) = (mid (frzK o u) L (j + 1)).flatMap encK ++ zs := by
          rw [← hrs, List.append_assoc]; rfl
        have gn3 := g3.n
        have hfin : Tb b i (.slice (some ⟨q, 0, none⟩) L.length cv) (s3.put q (.cells (row2.take (j * 5 + 3) ++ [.int .u64 (belowS L[j].sp (u + 1)).lo, .int .u64 (belowS L[j].sp (u + 1)).hi] ++ row2.drop (j * 5 + 5)) 33 false)) (mid (frzK o u) L (j + 1)) := by
          rw [hrs']
          refine ⟨by rw [CSt.get_put, if_neg hqi2]; exact hgi3, hbi, by simp; omega, .inr ⟨q, cv, zs, by rw [mid_len], hbq, by simp; omega, by simp, hzs5, ?_⟩⟩
          rcases hcap with hcap | ⟨hcap, _⟩
          · exact .inl hcap
          · rw [hcap] at hml; simp at hml; omega
        have hfb : Bt i (.slice (some ⟨q, 0, none⟩) L.length cv) σ (s3.put q (.cells (row2.take (j * 5 + 3) ++ [.int .u64 (belowS L[j].sp (u + 1)).lo, .int .u64 (belowS L[j].sp (u + 1)).hi] ++ row2.drop (j * 5 + 5)) 33 false)) :=
          (hbt.trans hb2).trans ((g3.butV (v := .slice (some ⟨q, 0, none⟩) L.length cv)).putV rfl _).bt
        simp [dopsR_cons, wops_cons, opAt, isEff, again, befBits, isRead, Nat.add_assoc, e0, e1, e2, e11, e12, e13, hc7, hgi3, hgq3, hwj, hle3, hut, hjl, hjl', hqi2, hqn2, -List.append_assoc]
        exact ⟨L.length - (j + 1), by omega, j + 1, rfl, by omega, rfl, hfin, hfb⟩
      · have hfr : frzK o u L[j] = L[j] := by unfold frzK; rw [if_neg c1]
        simp [wops_cons, e0, e1, e2, e11, e12, e13, hjl, hjl', hc5, c1, hwj]
        exact ⟨L.length - (j + 1), by omega, j + 1, rfl, by omega, rfl, by rw [mid_same _ _ _ hjl hfr]; exact hnow.grow hg5, hbt.trans hg5.bt⟩
    · have hjl' : j = L.length := by omega
      subst hjl'
      rw [mid_all] at htb
      simp [wops_cons, e0, e11, e12, e13]
      exact ⟨htb, hbt⟩
  · refine ⟨_, 0, rfl, ?_⟩
    simp
    exact ⟨ht0, (Grow.refl _).bt⟩
  · rintro out s ⟨tm, rfl, e0, htb, hbt⟩
    simp [wops_cons, e0]
    refine tidy_spec b i _ _ s htb (by simpa using hL) _ fun v' s2 htb2 hob hbt2 => ?_
    simpa [wops_cons] using h v' s2 htb2 hob (hbt.trans hbt2)
theorem purge_spec (b i : Nat) (v : Value) (L : List Lk) (hok : ∀ x ∈ L, x.sp.ok) (u : Int) (hu0 : 0 ≤ u) (hu : u < 40) (σ : CSt) (hn : gnone σ) (hz : 0 < b) (ht : Tb b i v σ L) (hL : L.length < 2 ^ 36) (Q : Out → CSt → Prop)
    (h : ∀ (v' : Value) (σ' : CSt), Tb b i v' σ' ((L.map (prgK u)).filter fun x => full x.sp) → objOf v' = objOf v → Bt i v σ σ' → Q (.ret (.tuple #[]) false) σ') : W E1 (.fn 28 #[.pointer (some ⟨i, 0, none⟩), .int .u64 u] none) σ Q := by
  have ht0 := ht
  obtain ⟨hg, hbi, hin, hown⟩ := ht
  rw [W_fn (fn := Tryz.f28) Tryz.func28 rfl rfl rfl]
  obtain ⟨pv, cv, rfl⟩ := (hown.sl (sz := 5) lenK).form
  simp [wops_cons, hg]
  refine W_loop_J (fun n a s => ∃ tm j, a = ⟨tm, 33, [], false⟩ ∧ tm.get 0 = some (.pointer (some ⟨i, 0, none⟩)) ∧ tm.get 1 = some (.int .u64 u) ∧ tm.get 9 = some (.slice pv L.length cv) ∧ tm.get 10 = some (.int .i64 L.length) ∧ tm.get 11 = some (.int .i64 (j : Nat)) ∧ j ≤ L.length ∧ n = L.length - j ∧ Tb b i (.slice pv L.length cv) s (mid (prgK u) L j) ∧ Bt i (.slice pv L.length cv) σ s)
    (fun out s => ∃ tm, out = .code (.exit 0) ⟨tm, 33, [], false⟩ ∧ tm.get 0 = some (.pointer (some ⟨i, 0, none⟩)) ∧ Tb b i (.slice pv L.length cv) s (L.map (prgK u)) ∧ Bt i (.slice pv L.length cv) σ s) ?_ L.length _ _ ?_ ?_
  · rintro n a s ⟨tm, j, rfl, e0, e1, e9, e10, e11, hj, hnn, htb, hbt⟩
    by_cases hjl : j < L.length
    · have htb0 := htb
      obtain ⟨hgi, _, hin2, how2⟩ := htb
      rcases how2 with ⟨h1, h2⟩ | ⟨q, cap, zs, h1, hbq, hq, hgq, hzs, hcap⟩
      · have := mid_len (prgK u) L j
        rw [h2] at this
        simp at this
        omega
      rw [mid_len] at h1
      have hwj := i64n1 j (by omega)
      cases h1
      have hml := mid_len (prgK u) L j
      have hjm : j < (mid (prgK u) L j).length := by omega
      have hld := row_get (enc := encK) lenK (rowZ lenK (mid (prgK u) L j) zs) j hjm
      rw [mid_get _ _ _ hjl, Nat.zero_add] at hld
      have hrl : ((mid (prgK u) L j).flatMap encK ++ zs).length = L.length * 5 + zs.length := by rw [List.length_append, enc_length encK lenK, hml]
      have hle1 : j * 5 + 5 ≤ ((mid (prgK u) L j).flatMap encK ++ zs).length := by omega
      have hle2 : j * 5 + 1 ≤ ((mid (prgK u) L j).flatMap encK ++ zs).length := by omega
      have hjl' : (j : Int) < L.length := by omega
      have hqi : q ≠ i := fun e => htb0.ne (by rw [← e]; rfl)
      have hqi2 : ¬ i = q := fun e => hqi e.symm
      have hqn : ¬ q = s.n := by omega
      have hrs := row_span (mid (prgK u) L j) j hjm zs (aboveS L[j].sp u)
      have hle3 : j * 5 + 3 + 2 ≤ ((mid (prgK u) L j).flatMap encK ++ zs).length := by omega
      have hnow : Tb b i (.slice (some ⟨q, 0, none⟩) L.length cv) s (mid (prgK u) L j) := htb0
      have hzs5 := hzs
      generalize hrw : (mid (prgK u) L j).flatMap encK ++ zs = row at hgq hld hle1 hle2 hrs hle3
      have hg5 : Grow s ((s.alloc (.cells [.int .i64 0, .string ⟨#[]⟩, .string ⟨#[]⟩, .int .u64 0, .int .u64 0] 33 false)).put s.n (.cells (encK L[j]) 33 false)) := ((Grow.refl s).alloc _).put (Nat.le_refl _) _
      have hc5 : ((s.alloc (.cells [.int .i64 0, .string ⟨#[]⟩, .string ⟨#[]⟩, .int .u64 0, .int .u64 0] 33 false)).put s.n (.cells (encK L[j]) 33 false)).get s.n = some (.cells (encK L[j]) 33 false) := by simp
      have hn5 : ((s.alloc (.cells [.int .i64 0, .string ⟨#[]⟩, .string ⟨#[]⟩, .int .u64 0, .int .u64 0] 33 false)).put s.n (.cells (encK L[j]) 33 false)).n = s.n + 1 := by simp
      simp only [encK] at hg5 hc5 hn5
      simp [wops_cons, e0, e1, e9, e10, e11, hjl, hjl', hgq, hld, hle1]
      simp [wops_cons, encK, e0, e1, e9, e10, e11, hwj, -W_condK]
      generalize (s.alloc (.cells [.int .i64 0, .string ⟨#[]⟩, .string ⟨#[]⟩, .int .u64 0, .int .u64 0] 33 false)).put s.n (.cells [.int .i64 L[j].owner, .string L[j].frm, .string L[j].to, .int .u64 L[j].sp.lo, .int .u64 L[j].sp.hi] 33 false) = s1 at hg5 hc5 hn5 ⊢
      have hgq1 := hg5.get hgq hq
      have hgi1 := hg5.get hgi hin2
      by_cases c1 : L[j].owner = 0
      · have hfr : prgK u L[j] = ⟨L[j].owner, L[j].frm, L[j].to, aboveS L[j].sp u⟩ := by unfold prgK; rw [if_pos c1]
        have hut : Nat.testBit 1023 4 = true := by decide
        simp [wops_cons, e0, e1, e9, e10, e11, hjl, hjl', hc5, c1]
        have hb2 : Bt i (.slice (some ⟨q, 0, none⟩) L.length cv) s s1 := hg5.bt
        have hc6 := hc5
        have hgi2 := hgi1
        have hgq2 := hgq1
        have hn2 := hn5
        have hgn : gnone s1 := htb0.gnone hz (ht0.gnone hz hn (by omega) hbt) (by omega) hb2
        refine W_drawn (l := [0, 1, 2, 3, 4, 5, 6, 7, 8, 9, 10, 11]) (b := #[0, 1, 3, 7, 0, 0, 32, 0, 224, 511, 1023, 2047]) (by kernel_rfl) (by kernel_rfl) (by kernel_rfl) ?_
        simp [dopsR_cons, opAt, isEff, again, befBits, isRead, Nat.add_assoc, e0, e1, e9, e10, e11, hc6, hgi2]
        have hbs := above_spec L[j].sp (hok _ (List.getElem_mem hjl)) u (by omega) (by omega) s1 hgn (by omega)
        simp only [encS] at hbs
        refine hbs _ fun s3 g3 => ?_
        have hgi3 := g3.get hgi2 (by omega)
        have hgq3 := g3.get hgq2 (by omega)
        have hc7 := g3.get hc6 (by omega)
        have hqn2 : ¬ s.n = q := by omega
        have hend : (mid (prgK u) L j).set j ⟨(mid (prgK u) L j)[j].owner, (mid (prgK u) L j)[j].frm, (mid (prgK u) L j)[j].to, aboveS L[j].sp u⟩ = mid (prgK u) L (j + 1) := by
          rw [mid_get _ _ _ hjl, ← mid_set (prgK u) L j hjl, hfr]
        rw [hend] at hrs
        have hrs' : row.take (j * 5 + 3) ++ [.int .u64 (aboveS L[j].sp u).lo, .int .u64 (aboveS L[j].sp u).hi] ++ row.drop (j * 5 + 5) = (mid (prgK u) L (j + 1)).flatMap encK ++ zs := by
          rw [← hrs, List.append_assoc]; rfl
        have gn3 := g3.n
        have hfin : Tb b i (.slice (some ⟨q, 0, none⟩) L.length cv) (s3.put q (.cells (row.take (j * 5 + 3) ++ [.int .u64 (aboveS L[j].sp u).lo, .int .u64 (aboveS L[j].sp u).hi] ++ row.drop (j * 5 + 5)) 33 false)) (mid (prgK u) L (j + 1)) := by
          rw [hrs']
          refine ⟨by rw [CSt.get_put, if_neg hqi2]; exact hgi3, hbi, by simp; omega, .inr ⟨q, cv, zs, by rw [mid_len], hbq, by simp; omega, by simp, hzs5, ?_⟩⟩
          rcases hcap with hcap | ⟨hcap, _⟩
          · exact .inl hcap
          · rw [hcap] at hml; simp at hml; omega
        have hfb : Bt i (.slice (some ⟨q, 0, none⟩) L.length cv) σ (s3.put q (.cells (row.take (j * 5 + 3) ++ [.int .u64 (aboveS L[j].sp u).lo, .int .u64 (aboveS L[j].sp u).hi] ++ row.drop (j * 5 + 5)) 33 false)) :=
          (hbt.trans hb2).trans ((g3.butV (v := .slice (some ⟨q, 0, none⟩) L.length cv)).putV rfl _).bt
        simp [dopsR_cons, wops_cons, opAt, isEff, again, befBits, isRead, Nat.add_assoc, e0, e1, e9, e10, e11, hc7, hgi3, hgq3, hwj, hle3, hut, hjl, hjl', hqi2, hqn2, -List.append_assoc]
        exact ⟨L.length - (j + 1), by omega, j + 1, rfl, by omega, rfl, hfin, hfb⟩
      · have hfr : prgK u L[j] = L[j] := by unfold prgK; rw [if_neg c1]
        simp [wops_cons, e0, e1, e9, e10, e11, hjl, hjl', hc5, c1, hwj]
        exact ⟨L.length - (j + 1), by omega, j + 1, rfl, by omega, rfl, by rw [mid_same _ _ _ hjl hfr]; exact hnow.grow hg5, hbt.trans hg5.bt⟩
    · have hjl' : j = L.length := by omega
      subst hjl'
      rw [mid_all] at htb
      simp [wops_cons, e0, e9, e10, e11]
      exact ⟨htb, hbt⟩
  · refine ⟨_, 0, rfl, ?_⟩
    simp
    exact ⟨ht0, (Grow.refl _).bt⟩
  · rintro out s ⟨tm, rfl, e0, htb, hbt⟩
    simp [wops_cons, e0]
    refine tidy_spec b i _ _ s htb (by simpa using hL) _ fun v' s2 htb2 hob hbt2 => ?_
    simpa [wops_cons] using h v' s2 htb2 hob (hbt.trans hbt2)
end Go.Sm
/- LockPlays, plain: what a table does and what the list does are the same. -/
set_option linter.unusedVariables false
set_option linter.unusedSimpArgs false
namespace Go.Sm
open Go Go.Proofs
structure DD where
  kind : Int
  owner : Int
  at_ : Int
  l : LL
def DD.ok (d : DD) : Prop := (0 ≤ d.kind ∧ d.kind < 256) ∧ (0 ≤ d.owner ∧ d.owner < 256) ∧ (0 ≤ d.at_ ∧ d.at_ < 18446744073709551616) ∧ d.l.ok
def encD (d : DD) : List Value := [.int .u8 d.kind, .int .u8 d.owner, .int .u64 d.at_, .int .u8 d.l.owner, .int .u8 d.l.frm, .int .u8 d.l.to, .int .u64 d.l.s.lo, .int .u64 d.l.s.hi, .int .u8 d.l.s.near]
theorem lenD (d : DD) : (encD d).length = 9 := rfl
theorem cokD (d : DD) : cokL (encD d) = true := rfl
def skipD (d : DD) (x : Lk) : Bool := decide (d.kind.tmod 4 = 0 ∧ x.owner = d.owner.tmod 5)
def fD (d : DD) (x : Lk) : Lk :=
  if d.kind.tmod 4 = 1 ∧ x.owner = d.owner.tmod 5 then ⟨0, x.frm, x.to, ⟨x.sp.lo, min x.sp.hi (d.at_.tmod 40)⟩⟩
  else if d.kind.tmod 4 = 2 ∧ x.owner = 0 then ⟨x.owner, x.frm, x.to, ⟨max x.sp.lo (d.at_.tmod 40 + 1), x.sp.hi⟩⟩ else x
def nextD (d : DD) (L : List Lk) : List Lk := L.flatMap fun x => if (!skipD d x && goodK (fD d x)) = true then [fD d x] else []
theorem nextD_snoc (d : DD) (L : List Lk) (x : Lk) : nextD d (L ++ [x]) = if (!skipD d x && goodK (fD d x)) = true then nextD d L ++ [fD d x] else nextD d L := by
  unfold nextD
  rw [List.flatMap_append]
  simp only [List.flatMap_cons, List.flatMap_nil, List.append_nil]
  split <;> simp
theorem nextD_le (d : DD) : ∀ L : List Lk, (nextD d L).length ≤ L.length
  | [] => by simp [nextD]
  | x :: L => by
    have ih := nextD_le d L
    unfold nextD at ih ⊢
    rw [List.flatMap_cons, List.length_append]
    split <;> simp only [List.length_cons, List.length_nil] <;> omega
def lastD (d : DD) : List Lk := if d.kind.tmod 4 = 3 ∧ goodK (lkOf d.l) = true then [lkOf d.l] else []
def stepT (d : DD) (L : List Lk) : List Lk :=
  if d.kind.tmod 4 = 0 then L.filter fun x => !decide (x.owner = d.owner.tmod 5)
  else if d.kind.tmod 4 = 1 then (L.map (frzK (d.owner.tmod 5) (d.at_.tmod 40))).filter fun x => full x.sp
  else if d.kind.tmod 4 = 2 then (L.map (prgK (d.at_.tmod 40))).filter fun x => full x.sp
  else addK L (lkOf d.l)
theorem flat_filter {α : Type} (f g : α → α) (p q : α → Bool) : ∀ L : List α, (∀ x ∈ L, p (f x) = q x ∧ (q x = true → f x = g x)) → (L.map f).filter p = L.flatMap fun x => if q x = true then [g x] else []
  | [], _ => rfl
  | x :: L, h => by
    have ih := flat_filter f g p q L fun y hy => h y (by simp [hy])
    obtain ⟨h1, h2⟩ := h x (by simp)
    rw [List.map_cons, List.filter_cons, List.flatMap_cons, ih, h1]
    by_cases e : q x = true
    · rw [if_pos e, if_pos e, h2 e]; rfl
    · rw [if_neg e, if_neg e]; rfl
theorem next_eq (d : DD) (hk : 0 ≤ d.kind) (L : List Lk) (hg : ∀ x ∈ L, goodK x = true) : nextD d L ++ lastD d = stepT d L := by
  have hk0 := Int.tmod_nonneg 4 hk
  have hk4 := Int.tmod_lt_of_pos d.kind (show (0 : Int) < 4 by decide)
  have hfull : ∀ x ∈ L, x.sp.lo ≤ x.sp.hi ∧ klt x.to x.frm = false := fun x hx => by
    have := hg x hx
    simp [goodK, full] at this
    exact ⟨this.2, this.1⟩
  unfold stepT lastD
  by_cases e0 : d.kind.tmod 4 = 0
  · rw [if_pos e0, if_neg (by omega), List.append_nil]
    have := flat_filter (fun x => x) (fD d) (fun x => !decide (x.owner = d.owner.tmod 5)) (fun x => !skipD d x && goodK (fD d x)) L fun x hx => by
      have e : fD d x = x := by unfold fD; rw [if_neg (by omega), if_neg (by omega)]
      rw [e, hg x hx]
      simp [skipD, e0]
    rw [List.map_id'] at this
    exact this.symm
  rw [if_neg e0]
  have hs : ∀ x, skipD d x = false := fun x => by simp [skipD, e0]
  by_cases e1 : d.kind.tmod 4 = 1
  · rw [if_pos e1, if_neg (by omega), List.append_nil]
    refine (flat_filter (frzK (d.owner.tmod 5) (d.at_.tmod 40)) (fD d) (fun x => full x.sp) (fun x => !skipD d x && goodK (fD d x)) L fun x hx => ?_).symm
    have ⟨h1, h2⟩ := hfull x hx
    rw [hs]
    unfold fD frzK
    by_cases eo : x.owner = d.owner.tmod 5
    · rw [if_pos eo, if_pos ⟨e1, eo⟩]
      simp only [belowS, plainS, noneS, goodK, full, h2]
      split
      · rename_i hc
        have : ¬ x.sp.lo ≤ min x.sp.hi (d.at_.tmod 40) := by omega
        simp [this]
      · rename_i hc
        have em : min x.sp.hi (d.at_.tmod 40 + 1 - 1) = min x.sp.hi (d.at_.tmod 40) := by omega
        rw [em]
        split
        · rename_i h3
          simp [h3]
        · rename_i h3
          simp [h3]
    · rw [if_neg eo, if_neg (by omega), if_neg (by omega)]
      simp [goodK, full, h1, h2]
  rw [if_neg e1]
  by_cases e2 : d.kind.tmod 4 = 2
  · rw [if_pos e2, if_neg (by omega), List.append_nil]
    refine (flat_filter (prgK (d.at_.tmod 40)) (fD d) (fun x => full x.sp) (fun x => !skipD d x && goodK (fD d x)) L fun x hx => ?_).symm
    have ⟨h1, h2⟩ := hfull x hx
    rw [hs]
    unfold fD prgK
    by_cases eo : x.owner = 0
    · rw [if_pos eo, if_neg (by omega), if_pos ⟨e2, eo⟩]
      simp only [aboveS, plainS, noneS, goodK, full, h2]
      split
      · rename_i hc
        have : ¬ max x.sp.lo (d.at_.tmod 40 + 1) ≤ x.sp.hi := by omega
        simp [this]
      · rename_i hc
        split
        · rename_i h3
          simp [h3]
        · rename_i h3
          simp [h3]
    · rw [if_neg eo, if_neg (by omega), if_neg (by omega)]
      simp [goodK, full, h1, h2]
  rw [if_neg e2]
  have e3 : d.kind.tmod 4 = 3 := by omega
  have hn : nextD d L = L := by
    have := flat_filter (fun x => x) (fD d) (fun x => goodK x) (fun x => !skipD d x && goodK (fD d x)) L fun x hx => by
      have e : fD d x = x := by unfold fD; rw [if_neg (by omega), if_neg (by omega)]
      rw [e, hs]
      simp
    rw [List.map_id', List.filter_eq_self.2 hg] at this
    exact this.symm
  rw [hn]
  unfold addK
  by_cases e : goodK (lkOf d.l) = true
  · rw [if_pos ⟨e3, e⟩, if_pos e]
  · rw [if_neg (fun h => e h.2), if_neg e, List.append_nil]
theorem fD_ok {d : DD} (ha : 0 ≤ d.at_) {x : Lk} (h : x.sp.ok) : (fD d x).sp.ok := by
  have h1 := Int.tmod_nonneg 40 ha
  have h2 := Int.tmod_lt_of_pos d.at_ (show (0 : Int) < 40 by decide)
  unfold fD
  simp only [Sn.ok] at *
  split
  · simp only; omega
  · split
    · simp only; omega
    · exact h
theorem next_good {d : DD} {L : List Lk} (hd : d.l.ok) (ha : 0 ≤ d.at_) (h : ∀ x ∈ L, x.sp.ok) : ∀ x ∈ nextD d L ++ lastD d, goodK x = true ∧ x.sp.ok := by
  intro x hx
  rcases List.mem_append.1 hx with hx | hx
  · unfold nextD at hx
    obtain ⟨y, hy, hx⟩ := List.mem_flatMap.1 hx
    split at hx
    · rename_i hc
      rw [List.mem_singleton.1 hx]
      simp at hc
      exact ⟨hc.2, fD_ok ha (h y hy)⟩
    · cases hx
  · unfold lastD at hx
    split at hx
    · rename_i hc
      rw [List.mem_singleton.1 hx]
      exact ⟨hc.2, makeS_ok hd.2.2.2⟩
    · cases hx
theorem last_le (d : DD) : (lastD d).length ≤ 1 := by
  unfold lastD
  split <;> simp
end Go.Sm
/- LockPlays: the walk. -/
set_option linter.unusedVariables false
set_option linter.unusedSimpArgs false
namespace Go.Sm
open Go Go.Proofs
set_option maxRecDepth 100000
set_option maxHeartbeats 4000000
theorem madeK_good {l : List LL} : ∀ x ∈ madeK l, goodK x = true := fun x hx => (List.mem_filter.1 hx).2
theorem law_LockPlays (l : List LL) (ds : List DD) (hok : ∀ x ∈ l, x.ok) (hokd : ∀ d ∈ ds, d.ok) (v u : Value) (σ : CSt) (hn : gnone σ) (hz : 0 < σ.n) (hsl : Sl σ 46 6 encL v l) (hsd : Sl σ 55 9 encD u ds) : W E1 (.fn 6 #[v, u] none) σ isTrueP := by
  rw [W_fn (fn := Tryz.f6) Tryz.func6 rfl rfl rfl]
  obtain ⟨p, c, rfl⟩ := hsl.form
  obtain ⟨p', c', rfl⟩ := hsd.form
  simp [wops_cons]
  rw [awake_spec rfl hn]
  simp [wops_cons]
  by_cases hl : 20 < l.length
  · have hl' : (20 : Int) < l.length := by omega
    have hl3 : ¬ (l.length : Int) ≤ 20 := by omega
    simp [wops_cons, wops_if', dstOf, hl', hl3, isTrueP]
  have hl' : ¬ (20 : Int) < l.length := by omega
  have hl3 : (l.length : Int) ≤ 20 := by omega
  by_cases hm : 20 < ds.length
  · have hm' : (20 : Int) < ds.length := by omega
    have hm3 : ¬ (ds.length : Int) ≤ 20 := by omega
    simp [wops_cons, wops_if', dstOf, hl', hl3, hm', hm3, isTrueP]
  have hm' : ¬ (20 : Int) < ds.length := by omega
  have hm3 : (ds.length : Int) ≤ 20 := by omega
  simp [wops_cons, wops_if', dstOf, hl', hl3, hm', hm3]
  refine table_spec l hok _ σ hsl (by omega) _ fun i v1 v2 σ1 htb hov hap g1 => ?_
  have hml := madeK_le l
  simp [wops_cons]
  refine W_loop_inv (fun n a s => ∃ tm j v1 v2 L, a = ⟨tm, 154, [], false⟩ ∧ tm.get 5 = some (.pointer (some ⟨i, 0, none⟩)) ∧ tm.get 6 = some v2 ∧ tm.get 28 = some (.slice p' ds.length c') ∧ tm.get 29 = some (.int .i64 ds.length) ∧ tm.get 30 = some (.int .i64 (j : Nat)) ∧ j ≤ ds.length ∧ n = ds.length - j ∧ Tb σ.n i v1 s L ∧ Own σ.n s 33 encK v2 L ∧ (∀ q, objOf v1 = some q → objOf v2 ≠ some q) ∧ (∀ x ∈ L, goodK x = true ∧ x.sp.ok) ∧ L.length ≤ 20 + j ∧ Grow σ s) ?_ ds.length _ _ ?_
  · clear htb hov hap v1 v2
    rintro n a s ⟨tm, j, v1, v2, L, rfl, e5, e6, e28, e29, e30, hj, hnn, htb, hov, hap, hgd, hLl, gs⟩
    by_cases hjl : j < ds.length
    · obtain ⟨pv, cv, rfl⟩ := (hov.sl (sz := 5) lenK).form
      obtain ⟨i', off, row, ro, rfl, hg, hin', hrow, hle⟩ := (hsd.grow gs).at hjl
      have hld := row_get (enc := encD) lenD hrow j hjl
      have hl1 := row_le hle j hjl
      have hw2 := i64n1 j (by omega)
      have hjl' : (j : Int) < ds.length := by omega
      have hdo := hokd _ (List.getElem_mem hjl)
      have hg5 : Grow s ((s.alloc (.cells [.int .u8 0, .int .u8 0, .int .u64 0, .int .u8 0, .int .u8 0, .int .u8 0, .int .u64 0, .int .u64 0, .int .u8 0] 55 false)).put s.n (.cells (encD ds[j]) 55 false)) := ((Grow.refl s).alloc _).put (Nat.le_refl _) _
      have hc5 : ((s.alloc (.cells [.int .u8 0, .int .u8 0, .int .u64 0, .int .u8 0, .int .u8 0, .int .u8 0, .int .u64 0, .int .u64 0, .int .u8 0] 55 false)).put s.n (.cells (encD ds[j]) 55 false)).get s.n = some (.cells (encD ds[j]) 55 false) := by simp
      have hn5 : ((s.alloc (.cells [.int .u8 0, .int .u8 0, .int .u64 0, .int .u8 0, .int .u8 0, .int .u8 0, .int .u64 0, .int .u64 0, .int .u8 0] 55 false)).put s.n (.cells (encD ds[j]) 55 false)).n = s.n + 1 := by simp
      simp only [encD] at hg5 hc5 hn5
      generalize ds[j] = d at *
      have hwo := wrap5 d.owner hdo.2.1.1
      simp [wops_cons, e5, e6, e28, e29, e30, hjl, hjl', hg, hld, hl1]
      simp [wops_cons, encD, e5, e6, e28, e29, e30, hwo, -W_block]
      generalize (s.alloc (.cells [.int .u8 0, .int .u8 0, .int .u64 0, .int .u8 0, .int .u8 0, .int .u8 0, .int .u64 0, .int .u64 0, .int .u8 0] 55 false)).put s.n (.cells [.int .u8 d.kind, .int .u8 d.owner, .int .u64 d.at_, .int .u8 d.l.owner, .int .u8 d.l.frm, .int .u8 d.l.to, .int .u64 d.l.s.lo, .int .u64 d.l.s.hi, .int .u8 d.l.s.near] 55 false) = s1 at hg5 hc5 hn5 ⊢
      obtain ⟨q8, hq8⟩ : ∃ q8, q8 = s.n := ⟨_, rfl⟩
      rw [← hq8] at hc5 hn5
      have gs1 := gs.trans hg5
      have htb1 := htb.grow hg5
      have hov1 := hov.grow hg5
      have hk0 := Int.tmod_nonneg 4 hdo.1.1
      have hk4 := Int.tmod_lt_of_pos d.kind (show (0 : Int) < 4 by decide)
      have hu4 := Int.tmod_nonneg 40 hdo.2.2.1.1
      have hu5 := Int.tmod_lt_of_pos d.at_ (show (0 : Int) < 40 by decide)
      have hgn1 := gnone_grow hn hz gs1
      have hokL : ∀ x ∈ L, x.sp.ok := fun x hx => (hgd x hx).2
      have hio : i < q8 := by rw [hq8]; exact htb.2.2.1
      have hvo : ∀ q, objOf v1 = some q → q < q8 := fun q hq => by rw [hq8]; exact (htb.2.2.2.ob hq).2.1
      have hov2 : ∀ q, objOf (.slice pv L.length cv) = some q → q < q8 := fun q hq => by rw [hq8]; exact (hov.z2 hq).2.1
      have hfin : ∀ (w1 : Value) (t0 t : CSt), Grow s1 t0 → Tb σ.n i w1 t (stepT d L) → (objOf w1 = objOf v1 ∨ ∃ q, objOf w1 = some q ∧ t0.n ≤ q) → Bt i v1 t0 t → Own σ.n t 33 encK (.slice pv L.length cv) L ∧ (∀ q, objOf w1 = some q → ¬ objOf (.slice pv L.length cv) = some q) ∧ t.get q8 = some (.cells (encD d) 55 false) ∧ q8 < t.n ∧ Grow σ t := by
        intro w1 t0 t g01 hT hw hB
        have gn0 := g01.n
        have hBn := hB.1
        refine ⟨(hov1.grow g01).apart (htb1.grow g01) hB (fun q h1 h2 => hap q h2 h1), fun q hq h2 => ?_, ?_, by omega, (htb1.grow g01).growG (gs1.trans g01) (Nat.le_refl _) hB⟩
        · rcases hw with e | ⟨q', e, hq'⟩
          · exact hap q (by rw [← e]; exact hq) h2
          · rw [hq] at e
            cases e
            have := hov2 q h2
            omega
        · rw [hB.2 q8 (by omega) (by omega) (fun e => by have := hvo _ e; omega)]
          exact g01.get hc5 (by omega)
      refine W_cut (fun out t => ∃ tm w1, out = .code .normal ⟨tm, 154, [], false⟩ ∧ tm.get 5 = some (.pointer (some ⟨i, 0, none⟩)) ∧ tm.get 6 = some (.slice pv L.length cv) ∧ tm.get 8 = some (.pointer (some ⟨q8, 0, none⟩)) ∧ tm.get 9 = some (.int .i64 (d.owner.tmod 5)) ∧ tm.get 10 = some (.slice none 0 0) ∧ tm.get 28 = some (.slice (some ⟨i', off, none⟩) ds.length c') ∧ tm.get 29 = some (.int .i64 ds.length) ∧ tm.get 30 = some (.int .i64 (j : Nat)) ∧ Tb σ.n i w1 t (stepT d L) ∧ Own σ.n t 33 encK (.slice pv L.length cv) L ∧ (∀ q, objOf w1 = some q → ¬ objOf (.slice pv L.length cv) = some q) ∧ t.get q8 = some (.cells (encD d) 55 false) ∧ q8 < t.n ∧ Grow σ t) ?_ ?_
      · rw [← hq8]
        by_cases k0 : d.kind.tmod 4 = 0
        · have hst : stepT d L = L.filter fun x => !decide (x.owner = d.owner.tmod 5) := by unfold stepT; rw [if_pos k0]
          simp [wops_cons, hc5, k0, e5, e6, e28, e29, e30]
          refine release_spec σ.n i v1 L (d.owner.tmod 5) s1 htb1 (by omega) _ fun w1 t hT hw hB => ?_
          rw [← hst] at hT
          have := hfin w1 s1 t (Grow.refl _) hT (.inl hw) hB
          simp [wops_cons, e5, e6, e28, e29, e30]
          exact ⟨w1, hT, this⟩
        by_cases k1 : d.kind.tmod 4 = 1
        · have hst : stepT d L = (L.map (frzK (d.owner.tmod 5) (d.at_.tmod 40))).filter fun x => full x.sp := by unfold stepT; rw [if_neg k0, if_pos k1]
          simp [wops_cons, hc5, k1, e5, e6, e28, e29, e30]
          refine freeze_spec σ.n i v1 L hokL (d.owner.tmod 5) (d.at_.tmod 40) hu4 hu5 s1 hgn1 hz htb1 (by omega) _ fun w1 t hT hw hB => ?_
          rw [← hst] at hT
          have := hfin w1 s1 t (Grow.refl _) hT (.inl hw) hB
          simp [wops_cons, e5, e6, e28, e29, e30]
          exact ⟨w1, hT, this⟩
        by_cases k2 : d.kind.tmod 4 = 2
        · have hst : stepT d L = (L.map (prgK (d.at_.tmod 40))).filter fun x => full x.sp := by unfold stepT; rw [if_neg k0, if_neg k1, if_pos k2]
          simp [wops_cons, hc5, k2, e5, e6, e28, e29, e30]
          refine purge_spec σ.n i v1 L hokL (d.at_.tmod 40) hu4 hu5 s1 hgn1 hz htb1 (by omega) _ fun w1 t hT hw hB => ?_
          rw [← hst] at hT
          have := hfin w1 s1 t (Grow.refl _) hT (.inl hw) hB
          simp [wops_cons, e5, e6, e28, e29, e30]
          exact ⟨w1, hT, this⟩
        · have k3 : d.kind.tmod 4 = 3 := by omega
          have hst : stepT d L = addK L (lkOf d.l) := by unfold stepT; rw [if_neg k0, if_neg k1, if_neg k2]
          simp [wops_cons, hc5, k3, e5, e6, e28, e29, e30]
          have hm := lmake_spec d.l hdo.2.2.2
          simp only [encL] at hm
          refine hm s1 _ fun s2 g2 => ?_
          have gn2 := g2.n
          simp [wops_cons, e5, e6, e28, e29, e30]
          refine add_spec σ.n i v1 L (lkOf d.l) s2 (by have := gs1.n; omega) (htb1.grow g2) (by omega) _ fun w1 t hT hw hB => ?_
          rw [← hst] at hT
          have := hfin w1 s2 t g2 hT hw hB
          simp [wops_cons, e5, e6, e28, e29, e30]
          exact ⟨w1, hT, this⟩
      · clear hfin
        rintro out t ⟨tm2, w1, rfl, f5, f6, f8, f9, f10, f28, f29, f30, hT, hO, hA, hcq, hqt, gt⟩
        simp only [encD] at hcq
        simp [wops_cons, f5, f6, f8, f9, f10, f28, f29, f30]
        have hLb := hLl
        refine W_loop_J (fun n a s => ∃ tm k v10, a = ⟨tm, 154, [], false⟩ ∧ tm.get 5 = some (.pointer (some ⟨i, 0, none⟩)) ∧ tm.get 8 = some (.pointer (some ⟨q8, 0, none⟩)) ∧ tm.get 9 = some (.int .i64 (d.owner.tmod 5)) ∧ tm.get 10 = some v10 ∧ tm.get 28 = some (.slice (some ⟨i', off, none⟩) ds.length c') ∧ tm.get 29 = some (.int .i64 ds.length) ∧ tm.get 30 = some (.int .i64 (j : Nat)) ∧ tm.get 66 = some (.slice pv L.length cv) ∧ tm.get 67 = some (.int .i64 L.length) ∧ tm.get 68 = some (.int .i64 (k : Nat)) ∧ k ≤ L.length ∧ n = L.length - k ∧ Own t.n s 33 encK v10 (nextD d (L.take k)) ∧ Grow t s)
          (fun out s => ∃ tm v10, out = .code (.exit 3) ⟨tm, 154, [], false⟩ ∧ tm.get 5 = some (.pointer (some ⟨i, 0, none⟩)) ∧ tm.get 8 = some (.pointer (some ⟨q8, 0, none⟩)) ∧ tm.get 9 = some (.int .i64 (d.owner.tmod 5)) ∧ tm.get 10 = some v10 ∧ tm.get 28 = some (.slice (some ⟨i', off, none⟩) ds.length c') ∧ tm.get 29 = some (.int .i64 ds.length) ∧ tm.get 30 = some (.int .i64 (j : Nat)) ∧ Own t.n s 33 encK v10 (nextD d L) ∧ Grow t s) ?_ L.length _ _ ?_ ?_
        · rintro n2 a2 s ⟨tm3, k, v10, rfl, g5, g8, g9, g10, g28, g29, g30, g66, g67, g68, hk, hnn2, hown, gts⟩
          obtain ⟨p10, c10, rfl⟩ := (hown.sl (sz := 5) lenK).form
          by_cases hkl : k < L.length
          · obtain ⟨ix, offx, rowx, rox, rfl, hgx, hinx, hrowx, hlex⟩ := ((hO.sl (sz := 5) lenK).grow gts).at hkl
            have hldx := row_get (enc := encK) lenK hrowx k hkl
            have hlx := row_le hlex k hkl
            have hwk := i64n1 k (by omega)
            have hkl' : (k : Int) < L.length := by omega
            have htk : nextD d (L.take (k + 1)) = if (!skipD d L[k] && goodK (fD d L[k])) = true then nextD d (L.take k) ++ [fD d L[k]] else nextD d (L.take k) := by
              rw [List.take_succ_eq_append_getElem hkl, nextD_snoc]
            have hnl := nextD_le d (L.take k)
            rw [List.length_take_of_le hk] at hnl
            generalize L[k] = x at *
            have hg6 : Grow s ((s.alloc (.cells [.int .i64 0, .string ⟨#[]⟩, .string ⟨#[]⟩, .int .u64 0, .int .u64 0] 33 false)).put s.n (.cells (encK x) 33 false)) := ((Grow.refl s).alloc _).put (Nat.le_refl _) _
            have hc6 : ((s.alloc (.cells [.int .i64 0, .string ⟨#[]⟩, .string ⟨#[]⟩, .int .u64 0, .int .u64 0] 33 false)).put s.n (.cells (encK x) 33 false)).get s.n = some (.cells (encK x) 33 false) := by simp
            have hn6 : ((s.alloc (.cells [.int .i64 0, .string ⟨#[]⟩, .string ⟨#[]⟩, .int .u64 0, .int .u64 0] 33 false)).put s.n (.cells (encK x) 33 false)).n = s.n + 1 := by simp
            simp only [encK] at hg6 hc6 hn6
            simp [wops_cons, g5, g8, g9, g10, g28, g29, g30, g66, g67, g68, hkl, hkl', -W_block]
            rw [W_block]
            simp [wops_cons, g5, g8, g9, g10, g28, g29, g30, g66, g67, g68, hkl, hkl', hgx, hldx, hlx, -W_block]
            simp [wops_cons, encK, g5, g8, g9, g10, g28, g29, g30, g66, g67, g68, -W_block]
            generalize (s.alloc (.cells [.int .i64 0, .string ⟨#[]⟩, .string ⟨#[]⟩, .int .u64 0, .int .u64 0] 33 false)).put s.n (.cells [.int .i64 x.owner, .string x.frm, .string x.to, .int .u64 x.sp.lo, .int .u64 x.sp.hi] 33 false) = s1' at hg6 hc6 hn6 ⊢
            obtain ⟨q12, hq12⟩ : ∃ q12, q12 = s.n := ⟨_, rfl⟩
            rw [← hq12] at hc6 hn6 ⊢
            have hcq6 := (gts.trans hg6).get hcq hqt
            have gtn := gts.n
            have hne : ¬ q8 = q12 := by omega
            refine W_cut (fun out z => (skipD d x = true ∧ ∃ tm, out = .code (.exit 4) ⟨tm, 154, [], false⟩ ∧ tm.get 5 = some (.pointer (some ⟨i, 0, none⟩)) ∧ tm.get 8 = some (.pointer (some ⟨q8, 0, none⟩)) ∧ tm.get 9 = some (.int .i64 (d.owner.tmod 5)) ∧ tm.get 10 = some (.slice p10 (nextD d (L.take k)).length c10) ∧ tm.get 28 = some (.slice (some ⟨i', off, none⟩) ds.length c') ∧ tm.get 29 = some (.int .i64 ds.length) ∧ tm.get 30 = some (.int .i64 (j : Nat)) ∧ tm.get 66 = some (.slice (some ⟨ix, offx, none⟩) L.length cv) ∧ tm.get 67 = some (.int .i64 L.length) ∧ tm.get 68 = some (.int .i64 (k : Nat)) ∧ z = s1') ∨
              (skipD d x = false ∧ ∃ tm, out = .code .normal ⟨tm, 154, [], false⟩ ∧ tm.get 5 = some (.pointer (some ⟨i, 0, none⟩)) ∧ tm.get 8 = some (.pointer (some ⟨q8, 0, none⟩)) ∧ tm.get 9 = some (.int .i64 (d.owner.tmod 5)) ∧ tm.get 10 = some (.slice p10 (nextD d (L.take k)).length c10) ∧ tm.get 12 = some (.pointer (some ⟨q12, 0, none⟩)) ∧ tm.get 28 = some (.slice (some ⟨i', off, none⟩) ds.length c') ∧ tm.get 29 = some (.int .i64 ds.length) ∧ tm.get 30 = some (.int .i64 (j : Nat)) ∧ tm.get 66 = some (.slice (some ⟨ix, offx, none⟩) L.length cv) ∧ tm.get 67 = some (.int .i64 L.length) ∧ tm.get 68 = some (.int .i64 (k : Nat)) ∧ z.get q12 = some (.cells (encK (fD d x)) 33 false) ∧ z.n = s1'.n ∧ Grow s z)) ?_ ?_
            · by_cases k0 : d.kind.tmod 4 = 0
              · by_cases ko : x.owner = d.owner.tmod 5
                · have hs : skipD d x = true := by simp [skipD, k0, ko]
                  simp [wops_cons, wops_if', dstOf, g5, g8, g9, g10, g28, g29, g30, g66, g67, g68, hcq6, hc6, k0, ko, hs]
                · have hs : skipD d x = false := by simp [skipD, ko]
                  have hf : fD d x = x := by unfold fD; rw [if_neg (by omega), if_neg (by omega)]
                  simp [wops_cons, wops_if', dstOf, g5, g8, g9, g10, g28, g29, g30, g66, g67, g68, hcq6, hc6, k0, ko, hs]
                  rw [hf]
                  exact ⟨rfl, hg6⟩
              have hs : skipD d x = false := by simp [skipD, k0]
              by_cases k1 : d.kind.tmod 4 = 1
              · by_cases ko : x.owner = d.owner.tmod 5
                · have hf : fD d x = ⟨0, x.frm, x.to, ⟨x.sp.lo, min x.sp.hi (d.at_.tmod 40)⟩⟩ := by unfold fD; rw [if_pos ⟨k1, ko⟩]
                  have hmin : (if d.at_.tmod 40 < x.sp.hi then d.at_.tmod 40 else x.sp.hi) = min x.sp.hi (d.at_.tmod 40) := by split <;> omega
                  simp [wops_cons, wops_if', dstOf, g5, g8, g9, g10, g28, g29, g30, g66, g67, g68, hcq6, hc6, k1, ko, hs]
                  have hb1 : Nat.testBit 2047 2 = true := by decide
                  have hb2 : Nat.testBit 2047 4 = true := by decide
                  refine W_drawn (l := [0, 1, 2, 3, 4, 5, 6, 7, 8, 9, 10, 11]) (b := #[0, 1, 3, 0, 8, 24, 63, 7, 135, 511, 1023, 2047]) (by kernel_rfl) (by kernel_rfl) (by kernel_rfl) ?_
                  simp [dopsR_cons, dopsR_if, opAt, isEff, again, befBits, isRead, Nat.add_assoc, wops_cons, wops_if', dstOf, minK, g5, g8, g9, g10, g28, g29, g30, g66, g67, g68, hcq6, hc6, k1, ko, hs, hmin, hne, hb1, hb2]
                  rw [hf]
                  exact ⟨rfl, (hg6.put (i := q12) (by omega) _).put (i := q12) (by omega) _⟩
                · have hf : fD d x = x := by unfold fD; rw [if_neg (by omega), if_neg (by omega)]
                  simp [wops_cons, wops_if', dstOf, g5, g8, g9, g10, g28, g29, g30, g66, g67, g68, hcq6, hc6, k1, ko, hs]
                  rw [hf]
                  exact ⟨rfl, hg6⟩
              by_cases k2 : d.kind.tmod 4 = 2
              · by_cases ko : x.owner = 0
                · have hf : fD d x = ⟨x.owner, x.frm, x.to, ⟨max x.sp.lo (d.at_.tmod 40 + 1), x.sp.hi⟩⟩ := by unfold fD; rw [if_neg (by omega), if_pos ⟨k2, ko⟩]
                  have hwu : IntKind.u64.wrap (d.at_.tmod 40 + 1) = d.at_.tmod 40 + 1 := IntWalk.u64_in _ (by omega)
                  have hmax : (if x.sp.lo < d.at_.tmod 40 + 1 then d.at_.tmod 40 + 1 else x.sp.lo) = max x.sp.lo (d.at_.tmod 40 + 1) := by split <;> omega
                  simp [wops_cons, wops_if', dstOf, maxK, g5, g8, g9, g10, g28, g29, g30, g66, g67, g68, hcq6, hc6, k2, ko, hs, hwu, hmax, hne]
                  rw [hf, ko]
                  exact ⟨rfl, hg6.put (i := q12) (by omega) _⟩
                · have hf : fD d x = x := by unfold fD; rw [if_neg (by omega), if_neg (by omega)]
                  simp [wops_cons, wops_if', dstOf, g5, g8, g9, g10, g28, g29, g30, g66, g67, g68, hcq6, hc6, k2, ko, hs]
                  rw [hf]
                  exact ⟨rfl, hg6⟩
              · have hf : fD d x = x := by unfold fD; rw [if_neg (by omega), if_neg (by omega)]
                simp [wops_cons, wops_if', dstOf, g5, g8, g9, g10, g28, g29, g30, g66, g67, g68, hcq6, hc6, k0, k1, k2, hs]
                rw [hf]
                exact ⟨rfl, hg6⟩
            · rintro out z (⟨hs, tm4, rfl, b5, b8, b9, b10, b28, b29, b30, b66, b67, b68, rfl⟩ | ⟨hs, tm4, rfl, b5, b8, b9, b10, b12, b28, b29, b30, b66, b67, b68, hcz, hzn, gz⟩)
              · simp [wops_cons, b5, b8, b9, b10, b28, b29, b30, b66, b67, b68, hwk]
                exact ⟨L.length - (k + 1), by omega, k + 1, rfl, by omega, rfl, by rw [htk]; simp [hs]; exact hown.grow hg6, gts.trans hg6⟩
              · generalize fD d x = y at *
                have hgo := good_spec y z
                simp only [encK] at hcz hgo
                simp [wops_cons, b5, b8, b9, b10, b12, b28, b29, b30, b66, b67, b68, hcz]
                refine hgo _ fun z2 gz2 => ?_
                have hcz2 := gz2.get hcz (by omega)
                have gsz2 := gz.trans gz2
                cases hgy : goodK y with
                | false =>
                  simp [wops_cons, b5, b8, b9, b10, b12, b28, b29, b30, b66, b67, b68, hwk]
                  exact ⟨L.length - (k + 1), by omega, k + 1, rfl, by omega, rfl, by rw [htk]; simp [hgy]; exact hown.grow gsz2, gts.trans gsz2⟩
                | true =>
                  obtain ⟨p9, c9, s9, a1, a2, a3, a4, a5⟩ := app_lk (x := y) (hown.grow gsz2) (gts.trans gsz2).n (by omega)
                  simp only [encK] at a1
                  simp [wops_cons, b5, b8, b9, b10, b12, b28, b29, b30, b66, b67, b68, hwk, hcz2, a1]
                  exact ⟨L.length - (k + 1), by omega, k + 1, rfl, by omega, rfl, by rw [htk]; simp [hgy, hs]; exact a2, (gts.trans gsz2).thenB a4 (Nat.le_refl _)⟩
          · have hkl' : k = L.length := by omega
            subst hkl'
            rw [List.take_of_length_le (Nat.le_refl _)] at hown
            simp [wops_cons, g5, g8, g9, g10, g28, g29, g30, g66, g67, g68]
            exact ⟨hown, gts⟩
        · refine ⟨_, 0, .slice none 0 0, rfl, ?_⟩
          simp [f5, f6, f8, f9, f10, f28, f29, f30]
          exact ⟨Own.nil, Grow.refl _⟩
        · rintro out s ⟨tm3, v10, rfl, g5, g8, g9, g10, g28, g29, g30, hown, gts⟩
          obtain ⟨p10, c10, rfl⟩ := (hown.sl (sz := 5) lenK).form
          simp [wops_cons, g5, g8, g9, g10, g28, g29, g30, -W_region]
          have hcqs := gts.get hcq hqt
          have gtn := gts.n
          have hnl := nextD_le d L
          have hm := lmake_spec d.l hdo.2.2.2
          simp only [encL] at hm
          refine W_cut (fun out z => ∃ tm, out = .code .normal ⟨tm, 154, [], false⟩ ∧ tm.get 5 = some (.pointer (some ⟨i, 0, none⟩)) ∧ tm.get 8 = some (.pointer (some ⟨q8, 0, none⟩)) ∧ tm.get 10 = some (.slice p10 (nextD d L).length c10) ∧ tm.get 28 = some (.slice (some ⟨i', off, none⟩) ds.length c') ∧ tm.get 29 = some (.int .i64 ds.length) ∧ tm.get 30 = some (.int .i64 (j : Nat)) ∧ tm.get 140 = some (.bool (decide (d.kind.tmod 4 = 3 ∧ goodK (lkOf d.l) = true))) ∧ Grow s z) ?_ ?_
          · by_cases k3 : d.kind.tmod 4 = 3
            · simp [wops_cons, wops_if', dstOf, g5, g8, g9, g10, g28, g29, g30, hcqs, k3]
              refine hm s _ fun z1 h1 => ?_
              simp [wops_cons, wops_if', dstOf, g5, g8, g9, g10, g28, g29, g30, hcqs, k3]
              refine good_spec (lkOf d.l) z1 _ fun z2 h2 => ?_
              simp [wops_cons, wops_if', dstOf, g5, g8, g9, g10, g28, g29, g30, hcqs, k3]
              exact h1.trans h2
            · simp [wops_cons, wops_if', dstOf, g5, g8, g9, g10, g28, g29, g30, hcqs, k3]
              exact Grow.refl _
          rintro out z ⟨tm4, rfl, b5, b8, b10, b28, b29, b30, b140, gsz⟩
          have hcqz := gsz.get hcqs (by omega)
          have gtz := gts.trans gsz
          simp [wops_cons, -W_condK]
          refine W_cut (fun out z => ∃ tm v10', out = .code .normal ⟨tm, 154, [], false⟩ ∧ tm.get 5 = some (.pointer (some ⟨i, 0, none⟩)) ∧ tm.get 10 = some v10' ∧ tm.get 28 = some (.slice (some ⟨i', off, none⟩) ds.length c') ∧ tm.get 29 = some (.int .i64 ds.length) ∧ tm.get 30 = some (.int .i64 (j : Nat)) ∧ Own t.n z 33 encK v10' (nextD d L ++ lastD d) ∧ Grow t z) ?_ ?_
          · by_cases kg : d.kind.tmod 4 = 3 ∧ goodK (lkOf d.l) = true
            · have hla : lastD d = [lkOf d.l] := by unfold lastD; rw [if_pos kg]
              simp [wops_cons, b5, b8, b10, b28, b29, b30, b140, kg, hcqz]
              refine hm z _ fun z1 h1 => ?_
              obtain ⟨p9, c9, s9, a1, a2, a3, a4, a5⟩ := app_lk (x := lkOf d.l) (hown.grow (gsz.trans h1)) (gtz.trans h1).n (by omega)
              simp only [encK] at a1
              simp [wops_cons, encK, b5, b8, b10, b28, b29, b30, b140, kg, hcqz, a1]
              rw [hla]
              exact ⟨a2, (gtz.trans h1).thenB a4 (Nat.le_refl _)⟩
            · have hla : lastD d = [] := by unfold lastD; rw [if_neg kg]
              simp [wops_cons, b5, b8, b10, b28, b29, b30, b140, kg]
              rw [hla, List.append_nil]
              exact ⟨hown.grow gsz, gtz⟩
          clear b5 b8 b10 b28 b29 b30 b140 gsz hcqz gtz
          rintro out z2 ⟨tm5, v10', rfl, b5, b10, b28, b29, b30, hown2, gtz2⟩
          have heq := next_eq d hdo.1.1 L (fun x hx => (hgd x hx).1)
          have hng := next_good hdo.2.2.2 hdo.2.2.1.1 hokL
          have hll := last_le d
          rw [heq] at hown2 hng
          have hlen : (stepT d L).length ≤ 20 + (j + 1) := by rw [← heq, List.length_append]; omega
          have hT2 := hT.grow gtz2
          simp [wops_cons, b5, b10, b28, b29, b30]
          refine all_spec σ.n i w1 _ z2 hT2 (by omega) _ fun v3 z3 ho3 gz3 => ?_
          simp [wops_cons, b5, b10, b28, b29, b30]
          refine equal_lk _ _ _ _ z3 (ho3.sl lenK) ((hown2.grow gz3).sl lenK) (by omega) _ fun z4 gz4 => ?_
          have g34 := gz3.trans gz4
          simp [wops_cons, b5, b10, b28, b29, b30, hw2]
          refine ⟨ds.length - (j + 1), by omega, j + 1, rfl, by omega, rfl, w1, stepT d L, hT2.grow g34, (hown2.grow g34).weaken gt.n, fun q hq h2 => ?_, hng, hlen, (gt.trans gtz2).trans g34⟩
          have h3 := (hT.2.2.2.ob hq).2.1
          have h4 := (hown2.z2 h2).1
          omega
    · have hjl' : j = ds.length := by omega
      subst hjl'
      simp [wops_cons, e5, e6, e28, e29, e30, isTrueP]
  · refine ⟨_, 0, v1, v2, madeK l, rfl, ?_⟩
    simp
    exact ⟨htb, hov, fun q h1 h2 => hap q h1 h2, fun x hx => ⟨madeK_good x hx, madeK_ok hok x hx⟩, by omega, g1⟩
end Go.Sm
/- Single plain arguments. -/
set_option linter.unusedVariables false
set_option linter.unusedSimpArgs false
namespace Go.Sm
open Go Go.WideShapes Go.ChangeShapes
section
variable {H : Type} {en : TypeId × Value → H} {P : Program} {w : World}
theorem open_one {base base' : Nat} {spare : Nat → Bool} {held : Bool} {t : TypeId} {f fuel : Nat} {ks : List PK} {v : Value} {x : DataW H × List MemPlace} {r : Reach}
    (hk : kindsF P f t = some ks) (hval : Value.okWide P w r base t v) (hd : DataW.trod en P w base' spare held fuel t v.cells.toList = some x) : ∃ xs, OkL ks xs ∧ v = wrapV P t xs := by
  have h := trod_kinds f t ks hk fuel _ x hd
  refine ⟨_, h, ?_⟩
  cases f with
  | zero => cases hk
  | succ f =>
    unfold kindsF at hk
    cases hu : P.underlying t with
    | none => rw [hu] at hk; cases hk
    | some d =>
      rw [hu] at hk
      cases d with
      | int k => obtain ⟨n, rfl⟩ := okWide_int hu hval; simp [wrapV, isAggT, hu, Value.cells]
      | bool => obtain ⟨n, rfl⟩ := okWide_bool hu hval; simp [wrapV, isAggT, hu, Value.cells]
      | string => obtain ⟨n, rfl⟩ := okWide_string hu hval; simp [wrapV, isAggT, hu, Value.cells]
      | struct fs => obtain ⟨cs, rfl, _⟩ := okWide_struct hu hval; simp [wrapV, isAggT, hu, Value.cells]
      | _ => cases hk
theorem open_i {base base' : Nat} {spare : Nat → Bool} {held : Bool} {t : TypeId} {fuel : Nat} {k : IntKind} {v : Value} {x : DataW H × List MemPlace} {r : Reach}
    (hk : P.underlying t = some (.int k)) (hval : Value.okWide P w r base t v) (hd : DataW.trod en P w base' spare held fuel t v.cells.toList = some x) : ∃ n, v = .int k n ∧ k.min ≤ n ∧ n ≤ k.max := by
  obtain ⟨xs, h, rfl⟩ := open_one (f := 1) (ks := [.int k]) (by simp [kindsF, hk]) hval hd
  match xs, h with
  | [a], ⟨⟨n, ha, hn⟩, _⟩ =>
    subst ha
    simp only [Lit.wf, Bool.and_eq_true, decide_eq_true_eq] at hn
    exact ⟨n, by simp [wrapV, isAggT, hk], hn⟩
theorem open_str {base base' : Nat} {spare : Nat → Bool} {held : Bool} {t : TypeId} {fuel : Nat} {v : Value} {x : DataW H × List MemPlace} {r : Reach}
    (hk : P.underlying t = some .string) (hval : Value.okWide P w r base t v) (hd : DataW.trod en P w base' spare held fuel t v.cells.toList = some x) : ∃ s, v = .string s ∧ s.size ≤ maxLen := by
  obtain ⟨xs, h, rfl⟩ := open_one (f := 1) (ks := [.str]) (by simp [kindsF, hk]) hval hd
  match xs, h with
  | [a], ⟨⟨n, ha, hn⟩, _⟩ =>
    subst ha
    exact ⟨n, by simp [wrapV, isAggT, hk], hn⟩
theorem open_st {α : Type} {enc : α → List Value} {ok : α → Prop} {base base' : Nat} {spare : Nat → Bool} {held : Bool} {t : TypeId} {f fuel : Nat} {ks : List PK} {v : Value} {x : DataW H × List MemPlace} {r : Reach}
    (hk : kindsF P f t = some ks) (ha : isAggT P t = true) (hen : ∀ r, OkL ks r → ∃ x, ok x ∧ r = enc x) (hval : Value.okWide P w r base t v) (hd : DataW.trod en P w base' spare held fuel t v.cells.toList = some x) : ∃ y, ok y ∧ v = .agg (enc y).toArray ∧ Sm.flat v = true := by
  obtain ⟨xs, h, rfl⟩ := open_one hk hval hd
  obtain ⟨y, h1, rfl⟩ := hen _ h
  refine ⟨y, h1, by simp [wrapV, ha], ?_⟩
  have := OkL.flat h
  simp only [wrapV, ha, if_true, Sm.flat]
  simpa using this
end
end Go.Sm
/- What is done with a table, as a row of cells. -/
set_option linter.unusedVariables false
set_option linter.unusedSimpArgs false
namespace Go.Sm
open Go Go.Proofs Go.ChangeShapes Go.WideShapes Go.RowKit Go.ChangeAt
theorem okDD_of (r : List Value) (h : OkL [.int .u8, .int .u8, .int .u64, .int .u8, .int .u8, .int .u8, .int .u64, .int .u64, .int .u8] r) : ∃ x : DD, x.ok ∧ r = encD x := by
  match r, h with
  | [a1, a2, a3, a, b, c, d, e, f], ⟨⟨m1, ha1, k1⟩, ⟨m2, ha2, k2⟩, ⟨m3, ha3, k3⟩, ⟨n1, ha, h1⟩, ⟨n2, hb, h2⟩, ⟨n3, hc, h3⟩, ⟨n4, hd, h4⟩, ⟨n5, he, h5⟩, ⟨n6, hf, h6⟩, _⟩ =>
    subst ha1; subst ha2; subst ha3; subst ha; subst hb; subst hc; subst hd; subst he; subst hf
    simp only [Lit.wf, Bool.and_eq_true, decide_eq_true_eq] at k1 k2 k3 h1 h2 h3 h4 h5 h6
    have e1 : IntKind.u8.min = 0 := rfl
    have e2 : IntKind.u8.max = 255 := rfl
    have e3 : IntKind.u64.min = 0 := rfl
    have e4 : IntKind.u64.max = 18446744073709551615 := rfl
    rw [e1, e2] at k1 k2 h1 h2 h3 h6
    rw [e3, e4] at k3 h4 h5
    exact ⟨⟨m1, m2, m3, ⟨n1, n2, n3, ⟨n4, n5, n6⟩⟩⟩, by simp only [DD.ok, LL.ok, S3.ok]; omega, rfl⟩
end Go.Sm
