/- Part F of the proof. -/
import Derived.Test.YtlkoipbodffcnaaGreatDoorPartD
import Derived.Test.YtlkoipbodffcnaaGreatDoorPartE
/- slices.IndexFunc, slices.DeleteFunc of 31. -/
set_option linter.unusedVariables false
set_option linter.unusedSimpArgs false
namespace Go.Sm
open Go Go.Proofs
set_option maxRecDepth 100000
set_option maxHeartbeats 4000000
theorem indexFn_31 (g : FuncId) (caps : Array Value) (hext : ∀ args s, extOf E1 (.func (.func g) #[] caps) args s = none) (p : Sn → Bool) (Ok : CSt → Prop) (hog : ∀ s s', Ok s → Grow s s' → Ok s') (l : List Sn) (v : Value) (σ : CSt) (hsl : Sl σ 31 2 encS v l) (hok : Ok σ)
    (hpred : ∀ x ∈ l, ∀ s Q, Ok s → (∀ s', Grow s s' → Q (.ret (.bool (p x)) false) s') → W E1 (.fn g (#[.agg (encS x).toArray] ++ caps) none) s Q) (hbig : l.length < 2 ^ 40) (Q : Out → CSt → Prop)
    (h : ∀ (r : Int) (σ' : CSt), ((r = -1 ∧ ∀ x ∈ l, p x = false) ∨ ∃ k : Nat, r = k ∧ ∃ hk : k < l.length, p l[k] = true ∧ ∀ i (hi : i < l.length), i < k → p l[i] = false) → Grow σ σ' → Q (.ret (.int .i64 r) false) σ') : W E1 (.fn 74 #[v, .func (.func g) #[] caps] none) σ Q := by
  rw [W_fn (fn := Tryz.f74) Tryz.func74 rfl rfl rfl]
  obtain ⟨pp, c, rfl⟩ := hsl.form
  simp [wops_cons]
  refine W_loop_inv (fun n a σ' => ∃ tm j, a = ⟨tm, 19, [], false⟩ ∧ tm.get 0 = some (.slice pp l.length c) ∧ tm.get 1 = some (.func (.func g) #[] caps) ∧ tm.get 7 = some (.int .i64 l.length) ∧ tm.get 8 = some (.int .i64 (j : Nat)) ∧ j ≤ l.length ∧ n = l.length - j ∧ (∀ i (h : i < l.length), i < j → p l[i] = false) ∧ Grow σ σ') ?_ l.length _ _ ?_
  · rintro n a σ1 ⟨tm, j, rfl, e0, e1, e7, e8, hj, hn, hno, hgr⟩
    by_cases hjl : j < l.length
    · obtain ⟨i, off, row, ro, rfl, hg, hin, hrow, hle⟩ := (hsl.grow hgr).at hjl
      have hld := row_get (enc := encS) lenS hrow j hjl
      have hl1 := row_le hle j hjl
      have hw2 := i64n1 j (by omega)
      simp [wops_cons, e0, e1, e7, e8, hjl, hg, hld, hl1, hext]
      have hpr := fun Q => hpred l[j] (List.getElem_mem hjl) σ1 Q (hog _ _ hok hgr)
      try simp at hpr
      refine hpr _ fun σ2 g2 => ?_
      cases hat : p l[j] with
      | true =>
        have := h j σ2 (.inr ⟨j, rfl, hjl, hat, hno⟩) (hgr.trans g2)
        simpa [wops_cons, hat] using this
      | false =>
        simp [wops_cons, hat, e0, e1, e7, e8, hw2]
        refine ⟨_, ?_, j + 1, rfl, by omega, rfl, fun i h hi => ?_, hgr.trans g2⟩
        · omega
        · by_cases e : i = j
          · subst e; exact hat
          · exact hno i h (by omega)
    · have hjl' : j = l.length := by omega
      have := h (-1) σ1 (.inl ⟨rfl, fun x hx => by
        obtain ⟨i, hi, rfl⟩ := List.mem_iff_getElem.1 hx
        exact hno i hi (by omega)⟩) hgr
      simpa [wops_cons, e0, e1, e7, e8, hjl] using this
  · refine ⟨_, 0, rfl, ?_⟩
    simp
    exact Grow.refl σ
theorem deleteFn_31 (g : FuncId) (caps : Array Value) (hext : ∀ args s, extOf E1 (.func (.func g) #[] caps) args s = none) (p : Sn → Bool) (Ok : CSt → Prop) (b : Nat) (l : List Sn) (v : Value) (σ : CSt) (hog : ∀ s s', Ok s → ButV v s s' → Ok s') (hown : OwnZ b σ 31 encS v l) (hok : Ok σ)
    (hpred : ∀ x ∈ l, ∀ s Q, Ok s → (∀ s', Grow s s' → Q (.ret (.bool (p x)) false) s') → W E1 (.fn g (#[.agg (encS x).toArray] ++ caps) none) s Q) (hbig : l.length < 2 ^ 38) (Q : Out → CSt → Prop)
    (h : ∀ (v' : Value) (σ' : CSt), OwnZ b σ' 31 encS v' (l.filter fun x => !p x) → (objOf v' = objOf v) → ButV v σ σ' → Q (.ret v' false) σ') : W E1 (.fn 49 #[v, .func (.func g) #[] caps] none) σ Q := by
  rw [W_fn (fn := Tryz.f49) Tryz.func49 rfl rfl rfl]
  obtain ⟨pp, c, rfl⟩ := (hown.sl (sz := 2) lenS).form
  simp [wops_cons]
  refine indexFn_31 g caps hext p Ok (fun s s' h1 h2 => hog s s' h1 h2.butV) l _ σ (hown.sl lenS) hok hpred (by omega) _ fun r σ1 hr g1 => ?_
  rcases hr with ⟨rfl, hall⟩ | ⟨k, rfl, hk, hpk, hno⟩
  · have hf : (l.filter fun x => !p x) = l := List.filter_eq_self.2 fun x hx => by simp [hall x hx]
    have := h _ σ1 (by rw [hf]; exact hown.grow g1) rfl g1.butV
    simpa [wops_cons] using this
  · have hk1 : ¬ ((k : Nat) : Int) = -1 := by omega
    have hwk := i64n1 k (by omega)
    rcases hown with ⟨h0, h1⟩ | ⟨i0, cap, zs, h0, hbi, hin, hg0, hzs, hcap⟩
    · rw [h1] at hk; simp at hk
    injection h0 with h0 _ h00
    subst h0
    subst h00
    have hcap : c = openCap := by
      rcases hcap with hc | ⟨hc, _⟩
      · exact hc
      · rw [hc] at hk; simp at hk
    subst hcap
    have hobj : objOf (.slice (some ⟨i0, 0, none⟩) l.length openCap) = some i0 := rfl
    simp [wops_cons, hk1, hwk]
    refine W_loop_J (fun n a s => ∃ (tm : Tr Value) (i j : Nat) (d : List Sn), a = ⟨tm, 42, [], false⟩ ∧ tm.get 0 = some (.slice (some ⟨i0, 0, none⟩) l.length openCap) ∧ tm.get 1 = some (.func (.func g) #[] caps) ∧ tm.get 5 = some (.int .i64 (i : Nat)) ∧ tm.get 6 = some (.int .i64 (j : Nat)) ∧ j ≤ l.length ∧ n = l.length - j ∧ d.length = l.length ∧ d.take i = ((l.take j).filter fun x => !p x) ∧ i = ((l.take j).filter fun x => !p x).length ∧ d.drop j = l.drop j ∧ i < j ∧ s.get i0 = some (.cells (d.flatMap encS ++ zs) 31 false) ∧ ButV (.slice (some ⟨i0, 0, none⟩) l.length openCap) σ s)
      (fun o s => ∃ (tm : Tr Value) (i : Nat) (d : List Sn), o = .code (.exit 0) ⟨tm, 42, [], false⟩ ∧ tm.get 0 = some (.slice (some ⟨i0, 0, none⟩) l.length openCap) ∧ tm.get 5 = some (.int .i64 (i : Nat)) ∧ d.length = l.length ∧ d.take i = (l.filter fun x => !p x) ∧ i = (l.filter fun x => !p x).length ∧ i < l.length ∧ s.get i0 = some (.cells (d.flatMap encS ++ zs) 31 false) ∧ ButV (.slice (some ⟨i0, 0, none⟩) l.length openCap) σ s) ?_ (l.length - (k + 1)) _ _ ?_ ?_
    · rintro n a s ⟨tm, i, j, d, rfl, e0, e1, e5, e6, hj, hn, hd, ht, hi, hdr, hij, hgs, hbs⟩
      by_cases hjl : j < l.length
      · have hjl' : (j : Int) < l.length := by omega
        have hjd : j < d.length := by omega
        have hdj := drop_get hjl hd hdr
        have hrow := rowZ lenS d zs
        have hrl : (d.flatMap encS ++ zs).length = d.length * 2 + zs.length := by rw [List.length_append, enc_length encS lenS]
        have hld := row_get (enc := encS) lenS hrow j hjd
        rw [Nat.zero_add, hdj] at hld
        have hset := fun x => enc_setZ lenS d i x (by omega) zs
        have hw6 := i64n1 j (by omega)
        have hw5 := i64n1 i (by omega)
        have hil : i < l.length := by omega
        have hsn := hbs.1
        generalize hrw : d.flatMap encS ++ zs = row at hgs hrow hrl hld hset
        have hle1 : j * 2 + 2 ≤ row.length := by omega
        have hle2 : i * 2 + 2 ≤ row.length := by omega
        have hne : ¬ i0 = s.n := by omega
        have hgw : Grow s ((s.alloc (.cells [.int .u64 0, .int .u64 0] 31 false)).put s.n (.cells (encS l[j]) 31 false)) := ((Grow.refl s).alloc _).put (Nat.le_refl _) _
        have hcw : ((s.alloc (.cells [.int .u64 0, .int .u64 0] 31 false)).put s.n (.cells (encS l[j]) 31 false)).get s.n = some (.cells (encS l[j]) 31 false) := by simp
        have htk : List.take 2 (encS l[j]) = encS l[j] := List.take_of_length_le (by rw [lenS]; exact Nat.le_refl _)
        have hlen2 : (encS l[j]).length = 2 := lenS _
        have hcok2 : cokL (encS l[j]) = true := cokS _
        have hnw : ((s.alloc (.cells [.int .u64 0, .int .u64 0] 31 false)).put s.n (.cells (encS l[j]) 31 false)).n = s.n + 1 := by simp
        simp [wops_cons, e0, e1, e5, e6, hjl, hjl', hgs, hld, hle1, hext, htk, hlen2, hcok2]
        generalize (s.alloc (.cells [.int .u64 0, .int .u64 0] 31 false)).put s.n (.cells (encS l[j]) 31 false) = s1 at hgw hcw hnw ⊢
        have hpr := fun Q => hpred l[j] (List.getElem_mem hjl) s1 Q (hog _ _ hok (hbs.trans hgw.butV))
        try simp at hpr
        refine hpr _ fun s2 g2 => ?_
        have g02 := hgw.trans g2
        have hgs2 := g02.get hgs (by omega)
        have hcw2 := g2.get hcw (by omega)
        have hb2 := hbs.trans g02.butV
        cases hp : p l[j] with
        | true =>
          obtain ⟨k1, k2, k3⟩ := take_filter_skip hjl ht hi hdr hp
          simp [wops_cons, e0, e1, e5, e6, hw6]
          exact ⟨n - 1, by omega, i, rfl, j + 1, rfl, by omega, by omega, d, hd, k1, k2, k3, by omega, by rw [hrw]; exact hgs2, hb2⟩
        | false =>
          obtain ⟨k0, k1, k2, k3⟩ := take_filter_step hjl hd ht hi hdr (by omega) hp
          have hset2 := hset l[j]
          have hil' : (i : Int) < l.length := by omega
          simp [wops_cons, e0, e1, e5, e6, hw5, hw6, hil, hil', hgs2, hcw2, htk, hlen2, hcok2, hle2]
          exact ⟨n - 1, by omega, i + 1, rfl, j + 1, rfl, by omega, by omega, d.set i l[j], k0, k1, k2, k3, by omega, by rw [← hset2, List.append_assoc], hb2.putV hobj _⟩
      · have hjl' : ¬ (j : Int) < l.length := by omega
        have hje : j = l.length := by omega
        rw [hje, List.take_length] at ht hi
        simp [wops_cons, e0, e1, e5, e6, hjl, hjl']
        exact ⟨i, rfl, d, hd, ht, hi, by omega, hgs, hbs⟩
    · have hft := first_take hk hno hpk
      refine ⟨_, k, k + 1, l, rfl, ?_⟩
      simp
      refine ⟨by omega, by rw [hft], by rw [hft]; simp; omega, ?_, ?_⟩
      · exact g1.get hg0 hin
      · exact g1.butV
    · rintro o s ⟨tm, i, d, rfl, e0, e5, hd, ht, hi, hil, hgs, hbs⟩
      have hzl : ((List.replicate (l.length - i) ([.int .u64 0, .int .u64 0] : List Value)).flatten).length = (l.length - i) * 2 := by
        rw [List.length_flatten]; simp
      have hzc : cokL ((List.replicate (l.length - i) ([.int .u64 0, .int .u64 0] : List Value)).flatten) = true := rep_cok _ _ rfl
      have hrl : (d.flatMap encS ++ zs).length = d.length * 2 + zs.length := by rw [List.length_append, enc_length encS lenS]
      have hcl := clearZ lenS d i (by omega) zs ((List.replicate (l.length - i) ([.int .u64 0, .int .u64 0] : List Value)).flatten) (by rw [hzl, hd])
      have hst : st (d.flatMap encS ++ zs) (i * 2) ((List.replicate (l.length - i) ([.int .u64 0, .int .u64 0] : List Value)).flatten) = some ((d.take i).flatMap encS ++ ((List.replicate (l.length - i) ([.int .u64 0, .int .u64 0] : List Value)).flatten ++ zs)) := by
        rw [← hcl]
        unfold st
        rw [if_pos (by rw [hzl, hrl, hd]; omega)]
      generalize hrw : d.flatMap encS ++ zs = row at hgs hrl hcl hst
      have hil' : ¬ l.length - i = 0 := by omega
      have hi2 : i ≤ l.length := by omega
      have hle3 : l.length * 2 ≤ row.length := by omega
      have hle4 : i * 2 ≤ row.length := by omega
      simp [wops_cons, e0, e5, sliceOp_open, sliceO, clearOp_K, clearK, hgs, hi2, hil', hst, hle3, hle4, -st_eq]
      rw [ht, hi]
      refine h _ _ (.inr ⟨i0, openCap, _, rfl, hbi, Nat.lt_of_lt_of_le hin hbs.1, by rw [CSt.get_put, if_pos rfl], ?_, .inl rfl⟩) rfl (hbs.putV hobj _)
      rw [cokL_append, hzs, ← hi, hzc]; rfl
end Go.Sm
/- spans.Of. -/
set_option linter.unusedVariables false
set_option linter.unusedSimpArgs false
namespace Go.Sm
open Go Go.Proofs
set_option maxRecDepth 100000
set_option maxHeartbeats 4000000
theorem row_hi (L : List Sn) (m : Nat) (h : m < L.length) (x : Int) : (L.flatMap encS).take (m * 2 + 1) ++ .int .u64 x :: (L.flatMap encS).drop (m * 2 + 1 + 1) = (L.set m ⟨L[m].lo, x⟩).flatMap encS := by
  have e := enc_set encS lenS L m ⟨L[m].lo, x⟩ h
  have hr := enc_length encS lenS L
  have hc := row_cell (enc := encS) lenS (l := L) (row := L.flatMap encS) (off := 0) (by rw [List.drop_zero, List.take_of_length_le (by omega)]) m 0 h (by omega)
  rw [← e]
  rw [Nat.zero_add, Nat.add_zero] at hc
  simp only [encS] at hc
  have hlt : m * 2 < (L.flatMap encS).length := by omega
  rw [List.take_succ_eq_append_getElem hlt]
  have : (L.flatMap encS)[m * 2] = .int .u64 L[m].lo := by
    rw [List.getElem?_eq_getElem hlt] at hc
    simpa using hc
  rw [this]
  simp [encS]
theorem push_set (L : List Sn) (m : Nat) (hm : L.length = m + 1) (s : Sn) (hc : s.lo ≤ (L[m]'(by omega)).hi ∨ s.lo - 1 = (L[m]'(by omega)).hi) : pushS L s = L.set m ⟨(L[m]'(by omega)).lo, max (L[m]'(by omega)).hi s.hi⟩ := by
  have hl : m < L.length := by omega
  have hlast : L.getLast? = some L[m] := by
    rw [List.getLast?_eq_getElem?, show L.length - 1 = m by omega, List.getElem?_eq_getElem hl]
  unfold pushS
  rw [hlast]
  simp only
  rw [if_pos hc, List.dropLast_eq_take, List.set_eq_take_append_cons_drop, if_pos hl, show L.length - 1 = m by omega, List.drop_of_length_le (by omega)]
theorem of_spec (l : List Sn) (hok : ∀ s ∈ l, s.ok) (v : Value) (σ : CSt) (hsl : Sl σ 31 2 encS v l) (hbig : l.length < 2 ^ 36) (Q : Out → CSt → Prop)
    (h : ∀ (v' : Value) (r : List Sn) (σ' : CSt), IsOf l r → (∀ s ∈ r, s.ok) → r.length ≤ l.length → Own σ.n σ' 31 encS v' r → Grow σ σ' → Q (.ret v' false) σ') : W E1 (.fn 20 #[v] none) σ Q := by
  rw [W_fn (fn := Tryz.f20) Tryz.func20 rfl rfl rfl]
  simp [wops_cons]
  refine clone_31 l v σ hsl (by omega) _ fun v1 σ1 ho1 g1 => ?_
  simp [wops_cons]
  refine deleteFn_31 51 #[] (fun args s => extOf_none rfl) (fun s => !full s) (fun _ => True) σ.n l v1 σ1 (fun _ _ _ _ => trivial) ho1.z trivial (fun x hx s Q _ hq => ?_) (by omega) _ fun v2 σ2 ho2 hob g2 => ?_
  · simp only [Array.append_empty]
    exact empty_spec x s Q hq
  simp only [Bool.not_not] at ho2
  simp [wops_cons]
  have gn1 := g1.n
  have gn2 := g2.1
  have hG2 : Grow σ σ2 := ⟨by omega, fun j hj => by
    rw [g2.2 j (by omega) (fun e => by
      rcases ho1 with ⟨h1, _⟩ | ⟨i, cap, h1, hbi, _⟩
      · rw [h1] at e; cases e
      · rw [h1] at e; cases e; omega)]
    exact g1.old j hj⟩
  refine sort_ownZP σ.n _ v2 σ2 (by omega) ho2 (by have := List.length_filter_le (fun x => full x) l; omega) _ fun l3 σ3 hp3 hs3 ho3 g3 => ?_
  have hfl := List.length_filter_le full l
  have hp3' : l3.Perm (l.filter full) := hp3
  have hl3 : l3.length ≤ l.length := by rw [hp3'.length_eq]; exact hfl
  have hG3 : Grow σ σ3 := ⟨by have := g3.1; omega, fun j hj => by rw [g3.2 j hj]; exact hG2.old j hj⟩
  have hfull : ∀ s ∈ l3, s.lo ≤ s.hi := fun s hs => by
    have := (List.mem_filter.1 (hp3'.subset hs)).2
    simpa [full] using this
  have hok3 : ∀ s ∈ l3, s.ok := fun s hs => hok s (List.mem_filter.1 (hp3'.subset hs)).1
  have hpw : l3.Pairwise fun a b => a.lo ≤ b.lo := hs3.imp fun {a b} hab => by simpa [ltS] using hab
  have hmem : ∀ t, mem l3 t ↔ mem l t := fun t => (mem_perm hp3').trans mem_filter_full
  have hsl3 := ho3.sl (sz := 2) lenS
  clear hs3 hp3 hp3' ho2 ho1 g2 hob hfl ho3
  obtain ⟨p, c, rfl⟩ := hsl3.form
  simp [wops_cons]
  refine W_loop_inv (fun n a s => ∃ tm j vo, a = ⟨tm, 65, [], false⟩ ∧ tm.get 12 = some (.slice p l3.length c) ∧ tm.get 13 = some (.int .i64 l3.length) ∧ tm.get 14 = some (.int .i64 (j : Nat)) ∧ tm.get 3 = some vo ∧ j ≤ l3.length ∧ n = l3.length - j ∧ Own σ3.n s 31 encS vo (joinS (l3.take j)) ∧ Grow σ3 s) ?_ l3.length _ _ ?_
  · rintro n a s ⟨tm, j, vo, rfl, e12, e13, e14, e3, hj, hn, hov, gs⟩
    obtain ⟨po, co, rfl⟩ := (hov.sl (sz := 2) lenS).form
    by_cases hjl : j < l3.length
    · obtain ⟨i, off, row, ro, rfl, hg, hin, hrow, hle⟩ := (hsl3.grow gs).at hjl
      have hld := row_get (enc := encS) lenS hrow j hjl
      have hl1 := row_le hle j hjl
      have hw2 := i64n1 j (by omega)
      have hjl' : (j : Int) < l3.length := by omega
      have hg5 : Grow s ((s.alloc (.cells [.int .u64 0, .int .u64 0] 31 false)).put s.n (.cells (encS l3[j]) 31 false)) := ((Grow.refl s).alloc _).put (Nat.le_refl _) _
      have hc5 : ((s.alloc (.cells [.int .u64 0, .int .u64 0] 31 false)).put s.n (.cells (encS l3[j]) 31 false)).get s.n = some (.cells (encS l3[j]) 31 false) := by simp
      have hn5 : ((s.alloc (.cells [.int .u64 0, .int .u64 0] 31 false)).put s.n (.cells (encS l3[j]) 31 false)).n = s.n + 1 := by simp
      simp only [encS] at hg5 hc5 hn5
      simp [wops_cons, e12, e13, e14, e3, hjl, hjl', hg, hld, hl1]
      simp [wops_cons, encS, e12, e13, e14, e3]
      generalize (s.alloc (.cells [.int .u64 0, .int .u64 0] 31 false)).put s.n (.cells [.int .u64 l3[j].lo, .int .u64 l3[j].hi] 31 false) = s1 at hg5 hc5 hn5 ⊢
      have gs1 := gs.trans hg5
      have hov1 := hov.grow hg5
      have hjs : joinS (l3.take (j + 1)) = pushS (joinS (l3.take j)) l3[j] := by rw [List.take_succ_eq_append_getElem hjl, joinS_snoc]
      have hjl2 := joinS_len (l3.take j)
      rw [List.length_take] at hjl2
      refine W_calm (by kernel_rfl) ?_
      have happ : ∃ p9 c9 s9, appendOp Tryz.prog (s1.alloc (.cells (encS l3[j]) 31 false)) #[38, 38] (.slice po (joinS (l3.take j)).length co) (.slice (some ⟨s1.n, 0, none⟩) 1 1) = some (.slice p9 ((joinS (l3.take j)).length + 1) c9, s9) ∧ Own σ3.n s9 31 encS (.slice p9 ((joinS (l3.take j)).length + 1) c9) (joinS (l3.take j) ++ [l3[j]]) ∧ Grow σ3 s9 := by
        have hga : Grow s1 (s1.alloc (.cells (encS l3[j]) 31 false)) := (Grow.refl s1).alloc _
        obtain ⟨v9, s9, a1, a2, a3, _, _⟩ := append_only (P := Tryz.prog) (ts := #[38, 38]) (e := 31) (sz := 2) (enc := encS) (l := joinS (l3.take j)) (m := [l3[j]]) (b := σ3.n) ef38 (by simp) lenS cokS rfl (by decide) (by decide) rfl (σ := s1.alloc (.cells (encS l3[j]) 31 false))
          (hov1.grow hga) (by have := gs1.n; simp; omega) (Sl.all (l := [l3[j]]) (i := s1.n) (cap := 1) (ro := false) lenS (by simp) (by simp) (.inr ⟨by simp, by simp [openCap]⟩)) (by show (_ + 1) * 16 ≤ _; omega) (by omega)
        obtain ⟨p9, c9, rfl⟩ := (a2.sl (sz := 2) lenS).form
        rw [List.length_append] at a1 a2
        exact ⟨p9, c9, s9, a1, a2, ⟨by have := a3.1; simp at this; have := gs1.n; omega, fun i hi => by rw [a3.2 i hi, hga.old i (by have := gs1.n; omega), gs1.old i hi]⟩⟩
      obtain ⟨p9, c9, s9, a1, a2, a3⟩ := happ
      simp only [encS] at a1
      by_cases he : joinS (l3.take j) = []
      · rw [he] at a1 a2
        have e5 : joinS (l3.take (j + 1)) = [l3[j]] := by rw [hjs, he]; rfl
        simp only [List.length_nil, List.nil_append, Nat.zero_add] at a1 a2
        simp [dops_cons, dops_if, dstOf, wops_cons, e12, e13, e14, e3, he, hc5, hw2, a1]
        exact ⟨l3.length - (j + 1), by omega, j + 1, rfl, by omega, rfl, by rw [e5]; exact a2, a3⟩
      · obtain ⟨m, hm⟩ : ∃ m, (joinS (l3.take j)).length = m + 1 := ⟨(joinS (l3.take j)).length - 1, by have := List.length_pos_iff.2 he; omega⟩
        have hml : m < (joinS (l3.take j)).length := by omega
        obtain ⟨z, hz⟩ : ∃ z, z = (joinS (l3.take j))[m] := ⟨_, rfl⟩
        have hlast : (joinS (l3.take j)).getLast? = some z := by rw [List.getLast?_eq_getElem?, hm, hz]; simp [List.getElem?_eq_getElem hml]
        rcases hov1 with ⟨h1, h2⟩ | ⟨i2, cap2, h1, hb2, hin2, hg2, hcap2⟩
        · exact absurd h2 he
        cases h1
        have hrow2 := enc_length encS lenS (joinS (l3.take j))
        have hce := row_cell (enc := encS) lenS (l := joinS (l3.take j)) (row := (joinS (l3.take j)).flatMap encS) (off := 0) (by rw [List.drop_zero, List.take_of_length_le (by omega)]) m 1 hml (by omega)
        rw [Nat.zero_add, ← hz] at hce
        simp only [encS] at hce
        have hwm : IntKind.i64.wrap ((m : Int) + 1 - 1) = (m : Int) := by rw [IntWalk.i64_in _ (by omega)]; omega
        have hwm' : IntKind.i64.wrap (m : Int) = (m : Int) := IntWalk.i64_in _ (by omega)
        have hm2 : (m : Int) < (m : Int) + 1 := by omega
        have hle2 : m * 2 + 1 + 1 ≤ ((joinS (l3.take j)).flatMap encS).length := by omega
        rw [hm] at a1 a2 e3
        generalize hrw : (joinS (l3.take j)).flatMap encS = row2 at hg2 hce hle2
        have hfin : ∀ x, x = max z.hi l3[j].hi → (l3[j].lo ≤ z.hi ∨ l3[j].lo - 1 = z.hi) → Own σ3.n (s1.put i2 (.cells (row2.take (m * 2 + 1) ++ .int .u64 x :: row2.drop (m * 2 + 1 + 1)) 31 false)) 31 encS (.slice (some ⟨i2, 0, none⟩) (m + 1) co) (joinS (l3.take (j + 1))) ∧ Grow σ3 (s1.put i2 (.cells (row2.take (m * 2 + 1) ++ .int .u64 x :: row2.drop (m * 2 + 1 + 1)) 31 false)) := by
          intro x hx hc
          have e8 : joinS (l3.take (j + 1)) = (joinS (l3.take j)).set m ⟨z.lo, x⟩ := by rw [hjs, push_set _ m hm _ (by rw [← hz]; exact hc), ← hz, hx]
          refine ⟨.inr ⟨i2, co, by rw [e8, List.length_set, hm], hb2, by simpa using hin2, ?_, ?_⟩, gs1.put hb2 _⟩
          · rw [CSt.get_put, if_pos rfl, e8, ← hrw, row_hi _ m hml x, ← hz]
          · rcases hcap2 with h | ⟨h, _⟩
            · exact .inl h
            · exact absurd h he
        have hzok : z.ok := by
          have hji := joinS_inv (l := l3.take j) (fun s hs => hfull s (List.mem_of_mem_take hs)) (hpw.sublist (List.take_sublist _ _))
          rw [hz]
          exact hji.ok (fun s hs => hok3 s (List.mem_of_mem_take hs)) _ (List.getElem_mem hml)
        have hlok : l3[j].ok := hok3 _ (List.getElem_mem hjl)
        have hz0 := hzok.2.1
        have hl0 := hlok.1
        by_cases c1 : l3[j].lo ≤ z.hi
        · simp [dops_cons, dops_if, dstOf, wops_cons, e12, e13, e14, e3, hm, hc5, hw2, hwm, hwm', hg2, hce, hm2, c1]
          refine W_calm (by kernel_rfl) ?_
          simp [dops_cons, dops_if, dstOf, wops_cons, maxK, e12, e13, e14, e3, hm, hc5, hw2, hwm, hwm', hg2, hce, hm2, hle2]
          exact ⟨l3.length - (j + 1), by omega, j + 1, rfl, by omega, rfl, hfin _ (by split <;> omega) (.inl c1)⟩
        · have hwl : IntKind.u64.wrap (l3[j].lo - 1) = l3[j].lo - 1 := IntWalk.u64_in _ (by omega)
          by_cases c2 : l3[j].lo - 1 = z.hi
          · have hwl2 := hwl.trans c2
            simp [dops_cons, dops_if, dstOf, wops_cons, e12, e13, e14, e3, hm, hc5, hw2, hwm, hwm', hg2, hce, hm2, c1, hwl2]
            refine W_calm (by kernel_rfl) ?_
            simp [dops_cons, dops_if, dstOf, wops_cons, maxK, e12, e13, e14, e3, hm, hc5, hw2, hwm, hwm', hg2, hce, hm2, hle2]
            exact ⟨l3.length - (j + 1), by omega, j + 1, rfl, by omega, rfl, hfin _ (by split <;> omega) (.inr c2)⟩
          · have e9 : joinS (l3.take (j + 1)) = joinS (l3.take j) ++ [l3[j]] := by
              rw [hjs]
              unfold pushS
              rw [hlast]
              simp only
              rw [if_neg (by omega)]
            simp [dops_cons, dops_if, dstOf, wops_cons, e12, e13, e14, e3, hm, hc5, hw2, hwm, hwm', hg2, hce, hm2, c1, hwl, c2, a1]
            exact ⟨l3.length - (j + 1), by omega, j + 1, rfl, by omega, rfl, by rw [e9]; exact a2, a3⟩
    · have hjl' : j = l3.length := by omega
      subst hjl'
      rw [List.take_of_length_le (Nat.le_refl _)] at hov
      simp [wops_cons, e12, e13, e14, e3]
      have hji := joinS_inv hfull hpw
      exact h _ (joinS l3) s ⟨hji.can, fun t => (hji.mem t).trans (hmem t)⟩ (hji.ok hok3) (Nat.le_trans (joinS_len l3) hl3) (hov.weaken hG3.n) (hG3.trans gs)
  · refine ⟨_, 0, .slice none 0 0, rfl, ?_⟩
    simp
    exact ⟨Own.nil, Grow.refl _⟩
end Go.Sm
/- Tables of locks: against. -/
set_option linter.unusedVariables false
set_option linter.unusedSimpArgs false
namespace Go.Sm
open Go Go.Proofs
set_option maxRecDepth 100000
set_option maxHeartbeats 4000000
/-- A span more. -/
theorem app_sn {ts : Array TypeId} {f : TF} (hf : ts[0]?.bind (elemF Tryz.prog) = some (31, f)) (hu : (ts[1]?.bind (elemT Tryz.prog)).isSome = true) (hfs : f.size = 2) (h1 : f.bytes = 16) (h2 : f.zero.map List.length = some 2) {b : Nat} {s1 : CSt} {l : List Sn} {x : Sn} {v : Value} (ho : Own b s1 31 encS v l) (hb : b ≤ s1.n) (hl : l.length < 2 ^ 40) :
    ∃ p9 c9 s9, appendOp Tryz.prog (s1.alloc (.cells (encS x) 31 false)) ts v (.slice (some ⟨s1.n, 0, none⟩) 1 1) = some (.slice p9 (l.length + 1) c9, s9) ∧ Own b s9 31 encS (.slice p9 (l.length + 1) c9) (l ++ [x]) ∧ GrowB b s1 s9 := by
  have hga : Grow s1 (s1.alloc (.cells (encS x) 31 false)) := (Grow.refl s1).alloc _
  obtain ⟨v9, s9, a1, a2, a3, _, _⟩ := append_only (P := Tryz.prog) (ts := ts) (e := 31) (sz := 2) (enc := encS) (l := l) (m := [x]) (b := b) hf hu lenS cokS hfs (by decide) (by omega) h2 (σ := s1.alloc (.cells (encS x) 31 false))
    (ho.grow hga) (by simp; omega) (Sl.all (l := [x]) (i := s1.n) (cap := 1) (ro := false) lenS (by simp) (by simp) (.inr ⟨by simp, by simp [openCap]⟩)) (by rw [h1]; show (_ + 1) * 16 ≤ _; omega) (by omega)
  obtain ⟨p9, c9, rfl⟩ := (a2.sl (sz := 2) lenS).form
  rw [List.length_append] at a1 a2
  exact ⟨p9, c9, s9, a1, a2, (hga.toB hb).trans a3⟩
theorem against_spec (b i : Nat) (v : Value) (L : List Lk) (o : Int) (k : ByteArray) (hok : ∀ x ∈ L, x.sp.ok) (σ : CSt) (ht : Tb b i v σ L) (hL : L.length < 2 ^ 36) (Q : Out → CSt → Prop)
    (h : ∀ (v' : Value) (r : List Sn) (σ' : CSt), IsOf (agst L o k) r → (∀ s ∈ r, s.ok) → r.length ≤ L.length → Own σ.n σ' 31 encS v' r → Grow σ σ' → Q (.ret v' false) σ') : W E1 (.fn 19 #[.pointer (some ⟨i, 0, none⟩), .int .i64 o, .string k] none) σ Q := by
  obtain ⟨hgi, hbi, hin, hown⟩ := ht
  have hsl := hown.sl (sz := 5) lenK
  rw [W_fn (fn := Tryz.f19) Tryz.func19 rfl rfl rfl]
  obtain ⟨pv, cv, rfl⟩ := hsl.form
  simp [wops_cons, hgi]
  refine W_loop_inv (fun n a s => ∃ tm j vo, a = ⟨tm, 43, [], false⟩ ∧ tm.get 1 = some (.int .i64 o) ∧ tm.get 2 = some (.string k) ∧ tm.get 7 = some vo ∧ tm.get 13 = some (.slice pv L.length cv) ∧ tm.get 14 = some (.int .i64 L.length) ∧ tm.get 15 = some (.int .i64 (j : Nat)) ∧ j ≤ L.length ∧ n = L.length - j ∧ Own σ.n s 31 encS vo (agst (L.take j) o k) ∧ Grow σ s) ?_ L.length _ _ ?_
  · rintro n a s ⟨tm, j, vo, rfl, e1, e2, e7, e13, e14, e15, hj, hn, hov, gs⟩
    obtain ⟨po, co, rfl⟩ := (hov.sl (sz := 2) lenS).form
    by_cases hjl : j < L.length
    · obtain ⟨i', off, row, ro, rfl, hg, hin', hrow, hle⟩ := (hsl.grow gs).at hjl
      have hld := row_get (enc := encK) lenK hrow j hjl
      have hl1 := row_le hle j hjl
      have hw2 := i64n1 j (by omega)
      have hjl' : (j : Int) < L.length := by omega
      have hg5 : Grow s ((s.alloc (.cells [.int .i64 0, .string ⟨#[]⟩, .string ⟨#[]⟩, .int .u64 0, .int .u64 0] 33 false)).put s.n (.cells (encK L[j]) 33 false)) := ((Grow.refl s).alloc _).put (Nat.le_refl _) _
      have hc5 : ((s.alloc (.cells [.int .i64 0, .string ⟨#[]⟩, .string ⟨#[]⟩, .int .u64 0, .int .u64 0] 33 false)).put s.n (.cells (encK L[j]) 33 false)).get s.n = some (.cells (encK L[j]) 33 false) := by simp
      have hn5 : ((s.alloc (.cells [.int .i64 0, .string ⟨#[]⟩, .string ⟨#[]⟩, .int .u64 0, .int .u64 0] 33 false)).put s.n (.cells (encK L[j]) 33 false)).n = s.n + 1 := by simp
      simp only [encK] at hg5 hc5 hn5
      simp [wops_cons, e1, e2, e7, e13, e14, e15, hjl, hjl', hg, hld, hl1]
      simp [wops_cons, encK, e1, e2, e7, e13, e14, e15]
      generalize (s.alloc (.cells [.int .i64 0, .string ⟨#[]⟩, .string ⟨#[]⟩, .int .u64 0, .int .u64 0] 33 false)).put s.n (.cells [.int .i64 L[j].owner, .string L[j].frm, .string L[j].to, .int .u64 L[j].sp.lo, .int .u64 L[j].sp.hi] 33 false) = s1 at hg5 hc5 hn5 ⊢
      have gs1 := gs.trans hg5
      have hov1 := hov.grow hg5
      have hal := Nat.le_trans (agst_le (L.take j) o k) (List.length_take_le j L)
      have htk : agst (L.take (j + 1)) o k = if (!decide (L[j].owner = o) && (!klt k L[j].frm && !klt L[j].to k)) = true then agst (L.take j) o k ++ [L[j].sp] else agst (L.take j) o k := by
        rw [List.take_succ_eq_append_getElem hjl, agst_snoc]
      have hk1 : (klt L[j].frm k || L[j].frm.toList == k.toList) = !klt k L[j].frm := kle_eq _ _
      have hk2 : (klt k L[j].to || k.toList == L[j].to.toList) = !klt L[j].to k := kle_eq _ _
      obtain ⟨p9, c9, s9, a1, a2, a3⟩ := app_sn (ts := #[35, 35]) ef35 (by simp) rfl rfl rfl (x := L[j].sp) hov1 (by have := gs1.n; omega) (by omega)
      have a3 := gs1.thenB a3 (Nat.le_refl _)
      simp only [encS] at a1
      by_cases c1 : L[j].owner = o
      · simp [wops_cons, wops_if', dstOf, e1, e2, e7, e13, e14, e15, hc5, hw2, c1]
        exact ⟨L.length - (j + 1), by omega, j + 1, rfl, by omega, rfl, by rw [htk]; simp [c1]; exact hov1, gs1⟩
      · cases c2 : klt k L[j].frm with
        | true =>
          rw [c2] at hk1
          simp [wops_cons, wops_if', dstOf, e1, e2, e7, e13, e14, e15, hc5, hw2, c1, hk1]
          exact ⟨L.length - (j + 1), by omega, j + 1, rfl, by omega, rfl, by rw [htk]; simp [c1, c2]; exact hov1, gs1⟩
        | false =>
          rw [c2] at hk1
          cases c3 : klt L[j].to k with
          | true =>
            rw [c3] at hk2
            simp [wops_cons, wops_if', dstOf, e1, e2, e7, e13, e14, e15, hc5, hw2, c1, hk1, hk2]
            exact ⟨L.length - (j + 1), by omega, j + 1, rfl, by omega, rfl, by rw [htk]; simp [c1, c2, c3]; exact hov1, gs1⟩
          | false =>
            rw [c3] at hk2
            simp [wops_cons, wops_if', dstOf, e1, e2, e7, e13, e14, e15, hc5, hw2, c1, hk1, hk2, a1]
            exact ⟨L.length - (j + 1), by omega, j + 1, rfl, by omega, rfl, by rw [htk]; simp [c1, c2, c3]; exact a2, a3⟩
    · have hjl' : j = L.length := by omega
      subst hjl'
      rw [List.take_of_length_le (Nat.le_refl _)] at hov
      simp [wops_cons, e1, e2, e7, e13, e14, e15]
      refine of_spec _ (fun s hs => ?_) _ s (hov.sl lenS) (by have := agst_le L o k; omega) _ fun v' r σ' hr hrok hrl ho g => ?_
      · obtain ⟨x, hx, rfl⟩ := List.mem_map.1 hs
        exact hok x (List.mem_filter.1 hx).1
      · simp [wops_cons]
        exact h v' r σ' hr hrok (Nat.le_trans hrl (agst_le L o k)) (ho.weaken gs.n) (gs.trans g)
  · refine ⟨_, 0, .slice none 0 0, rfl, ?_⟩
    simp
    exact ⟨Own.nil, Grow.refl _⟩
end Go.Sm
/- Tables of locks: made of small ones. -/
set_option linter.unusedVariables false
set_option linter.unusedSimpArgs false
namespace Go.Sm
open Go Go.Proofs
set_option maxRecDepth 100000
set_option maxHeartbeats 4000000
/-- A lock more. -/
theorem app_lk {b : Nat} {s1 : CSt} {l : List Lk} {x : Lk} {v : Value} (ho : Own b s1 33 encK v l) (hb : b ≤ s1.n) (hl : l.length < 2 ^ 36) :
    ∃ p9 c9 s9, appendOp Tryz.prog (s1.alloc (.cells (encK x) 33 false)) #[25, 25] v (.slice (some ⟨s1.n, 0, none⟩) 1 1) = some (.slice p9 (l.length + 1) c9, s9) ∧ Own b s9 33 encK (.slice p9 (l.length + 1) c9) (l ++ [x]) ∧ ButV v s1 s9 ∧ GrowB b s1 s9 ∧ ∃ j, objOf (.slice p9 (l.length + 1) c9) = some j ∧ s1.n ≤ j := by
  have hga : Grow s1 (s1.alloc (.cells (encK x) 33 false)) := (Grow.refl s1).alloc _
  obtain ⟨v9, s9, a1, a2, a3, a4, a5⟩ := append_only (P := Tryz.prog) (ts := #[25, 25]) (e := 33) (sz := 5) (enc := encK) (l := l) (m := [x]) (b := b) ef25 (by simp) lenK cokK rfl (by decide) (by decide) rfl (σ := s1.alloc (.cells (encK x) 33 false))
    (ho.grow hga) (by simp; omega) (Sl.all (l := [x]) (i := s1.n) (cap := 1) (ro := false) lenK (by simp) (by simp) (.inr ⟨by simp, by simp [openCap]⟩)) (by show (_ + 1) * 56 ≤ _; omega) (by omega)
  obtain ⟨n, c, e⟩ := a5 (by simp)
  obtain ⟨p9, c9, rfl⟩ := (a2.sl (sz := 5) lenK).form
  rw [List.length_append] at a1 a2
  refine ⟨p9, c9, s9, a1, a2, ⟨by have := a3.1; simp at this; omega, fun j hj hne => ?_⟩, (hga.toB hb).trans a3, ?_⟩
  · rw [a4 j (by simp; omega) (fun i off n c h => by rintro rfl; exact hne (by rw [h]; rfl)), hga.old j hj]
  · cases e
    exact ⟨_, rfl, by simp⟩
theorem Tb.but {b i : Nat} {v v2 : Value} {s s' : CSt} {L : List Lk} (h : Tb b i v s L) (k : ButV v2 s s') (hi : objOf v2 ≠ some i) (hv : ∀ j, objOf v = some j → objOf v2 ≠ some j) : Tb b i v s' L := by
  obtain ⟨h1, h2, h3, h4⟩ := h
  refine ⟨by rw [k.2 i h3 hi]; exact h1, h2, Nat.lt_of_lt_of_le h3 k.1, ?_⟩
  rcases h4 with h4 | ⟨j, cap, zs, rfl, hb, hj, hg, hc⟩
  · exact .inl h4
  · exact .inr ⟨j, cap, zs, rfl, hb, Nat.lt_of_lt_of_le hj k.1, by rw [k.2 j hj (hv j rfl)]; exact hg, hc⟩
theorem Own.z2 {α : Type} {b : Nat} {σ : CSt} {e : TypeId} {enc : α → List Value} {v : Value} {l : List α} (h : Own b σ e enc v l) {j : Nat} (hj : objOf v = some j) : b ≤ j ∧ j < σ.n ∧ ∃ row, σ.get j = some (.cells row e false) := h.z.ob hj
theorem Tb.ne2 {b b2 i : Nat} {v v2 : Value} {σ : CSt} {L l : List Lk} (h : Tb b i v σ L) (ho : Own b2 σ 33 encK v2 l) : objOf v2 ≠ some i := fun e => by
  obtain ⟨_, _, row, hr⟩ := ho.z2 e
  rw [h.1] at hr
  injection hr with e1
  injection e1 with e2 e3 e4
  cases e3
def madeK (l : List LL) : List Lk := (l.map lkOf).filter goodK
theorem madeK_snoc (l : List LL) (x : LL) : madeK (l ++ [x]) = addK (madeK l) (lkOf x) := by
  unfold madeK addK
  rw [List.map_append, List.filter_append, List.map_cons, List.map_nil, List.filter_cons, List.filter_nil]
  split <;> simp
theorem madeK_le (l : List LL) : (madeK l).length ≤ l.length := by
  unfold madeK
  have := List.length_filter_le goodK (l.map lkOf)
  rw [List.length_map] at this
  exact this
theorem table_spec (l : List LL) (hok : ∀ x ∈ l, x.ok) (v : Value) (σ : CSt) (hsl : Sl σ 46 6 encL v l) (hbig : l.length < 2 ^ 36) (Q : Out → CSt → Prop)
    (h : ∀ (i : Nat) (v1 v2 : Value) (σ' : CSt), Tb σ.n i v1 σ' (madeK l) → Own σ.n σ' 33 encK v2 (madeK l) → (∀ j, objOf v1 = some j → objOf v2 ≠ some j) → Grow σ σ' → Q (.ret (.tuple #[.pointer (some ⟨i, 0, none⟩), v2]) false) σ') : W E1 (.fn 14 #[v] none) σ Q := by
  rw [W_fn (fn := Tryz.f14) Tryz.func14 rfl rfl rfl]
  obtain ⟨p, c, rfl⟩ := hsl.form
  simp [wops_cons]
  refine W_loop_inv (fun n a s => ∃ tm j v1 v2, a = ⟨tm, 31, [], false⟩ ∧ tm.get 4 = some (.pointer (some ⟨σ.n, 0, none⟩)) ∧ tm.get 5 = some v2 ∧ tm.get 10 = some (.slice p l.length c) ∧ tm.get 11 = some (.int .i64 l.length) ∧ tm.get 12 = some (.int .i64 (j : Nat)) ∧ j ≤ l.length ∧ n = l.length - j ∧ Tb σ.n σ.n v1 s (madeK (l.take j)) ∧ Own σ.n s 33 encK v2 (madeK (l.take j)) ∧ (∀ j, objOf v1 = some j → objOf v2 ≠ some j) ∧ Grow σ s) ?_ l.length _ _ ?_
  · rintro n a s ⟨tm, j, v1, v2, rfl, e4, e5, e10, e11, e12, hj, hn, htb, hov, hap, gs⟩
    by_cases hjl : j < l.length
    · obtain ⟨i', off, row, ro, rfl, hg, hin', hrow, hle⟩ := (hsl.grow gs).at hjl
      have hld := row_get (enc := encL) lenL hrow j hjl
      have hl1 := row_le hle j hjl
      have hw2 := i64n1 j (by omega)
      have hjl' : (j : Int) < l.length := by omega
      have hg5 : Grow s ((s.alloc (.cells [.int .u8 0, .int .u8 0, .int .u8 0, .int .u64 0, .int .u64 0, .int .u8 0] 46 false)).put s.n (.cells (encL l[j]) 46 false)) := ((Grow.refl s).alloc _).put (Nat.le_refl _) _
      have hc5 : ((s.alloc (.cells [.int .u8 0, .int .u8 0, .int .u8 0, .int .u64 0, .int .u64 0, .int .u8 0] 46 false)).put s.n (.cells (encL l[j]) 46 false)).get s.n = some (.cells (encL l[j]) 46 false) := by simp
      have hn5 : ((s.alloc (.cells [.int .u8 0, .int .u8 0, .int .u8 0, .int .u64 0, .int .u64 0, .int .u8 0] 46 false)).put s.n (.cells (encL l[j]) 46 false)).n = s.n + 1 := by simp
      simp only [encL] at hg5 hc5 hn5
      simp [wops_cons, e4, e5, e10, e11, e12, hjl, hjl', hg, hld, hl1]
      simp [wops_cons, encL, e4, e5, e10, e11, e12]
      generalize (s.alloc (.cells [.int .u8 0, .int .u8 0, .int .u8 0, .int .u64 0, .int .u64 0, .int .u8 0] 46 false)).put s.n (.cells [.int .u8 l[j].owner, .int .u8 l[j].frm, .int .u8 l[j].to, .int .u64 l[j].s.lo, .int .u64 l[j].s.hi, .int .u8 l[j].s.near] 46 false) = s1 at hg5 hc5 hn5 ⊢
      have hm := lmake_spec l[j] (hok _ (List.getElem_mem hjl))
      simp only [encL] at hm
      refine hm s1 _ fun s2 g2 => ?_
      have hc6 := g2.get hc5 (by omega)
      have g12 := hg5.trans g2
      have gs2 := gs.trans g12
      have hml := madeK_le (l.take j)
      rw [List.length_take_of_le hj] at hml
      simp [wops_cons, e4, e5, e10, e11, e12, hc6]
      refine add_spec σ.n σ.n v1 _ (lkOf l[j]) s2 gs2.n (htb.grow g12) (by omega) _ fun v1' s3 htb3 hv13 hbt3 => ?_
      have hov2 := hov.grow g12
      have hov3 := hov2.apart (htb.grow g12) hbt3 (fun j h1 h2 => hap j h2 h1)
      have hap3 : ∀ j, objOf v1' = some j → objOf v2 ≠ some j := fun q hq hq2 => by
        have h2 := (hov2.z2 hq2).2.1
        rcases hv13 with e | ⟨q', e, hq'⟩
        · exact hap q (by rw [← e]; exact hq) hq2
        · rw [hq] at e; cases e; omega
      have gs3 : Grow σ s3 := (htb.grow g12).growG gs2 (Nat.le_refl _) hbt3
      have gn2 := g2.n
      have hc7 : s3.get s.n = some (.cells (encL l[j]) 46 false) := by
        rw [hbt3.2 s.n (by omega) (by have := htb.2.2.1; omega) (fun e => by have := (htb.2.2.2.ob e).2.1; omega)]
        exact hc6
      have hn3 := hbt3.1
      simp only [encL] at hc7
      simp [wops_cons, e4, e5, e10, e11, e12, hc7]
      refine hm s3 _ fun s4 g4 => ?_
      have hc8 := g4.get hc7 (by omega)
      simp [wops_cons, e4, e5, e10, e11, e12, hc8]
      refine good_spec (lkOf l[j]) s4 _ fun s5 g5 => ?_
      have gn4 := g4.n
      have hc9 := g5.get hc8 (by omega)
      have g45 := g4.trans g5
      have htk : madeK (l.take (j + 1)) = addK (madeK (l.take j)) (lkOf l[j]) := by
        rw [List.take_succ_eq_append_getElem hjl, madeK_snoc]
      cases hgd : goodK (lkOf l[j]) with
      | false =>
        simp [wops_cons, wops_if', dstOf, e4, e5, e10, e11, e12, hc9, hw2]
        refine ⟨l.length - (j + 1), by omega, j + 1, rfl, by omega, rfl, v1', by rw [htk]; exact htb3.grow g45, ?_, hap3, gs3.trans g45⟩
        rw [htk]
        unfold addK
        rw [hgd]
        exact hov3.grow g45
      | true =>
        simp [wops_cons, wops_if', dstOf, e4, e5, e10, e11, e12, hc9, hw2]
        refine hm s5 _ fun s6 g6 => ?_
        have g36 := g45.trans g6
        obtain ⟨p2, c2, rfl⟩ := (hov3.sl (sz := 5) lenK).form
        obtain ⟨p9, c9, s9, a1, a2, a3, a4, a5⟩ := app_lk (x := lkOf l[j]) (hov3.grow g36) (gs3.trans g36).n (by omega)
        simp only [encK] at a1
        simp [wops_cons, wops_if', dstOf, e4, e5, e10, e11, e12, hw2, encK, a1]
        have htb6 := htb3.grow g36
        have htb9 : Tb σ.n σ.n v1' s9 (addK (madeK (l.take j)) (lkOf l[j])) := htb6.but a3 (htb6.ne2 (hov3.grow g36)) hap3
        refine ⟨l.length - (j + 1), by omega, j + 1, rfl, by omega, rfl, v1', by rw [htk]; exact htb9, ?_, ?_, ?_⟩
        · rw [htk]
          unfold addK
          rw [hgd]
          exact a2
        · intro q hq hq2
          obtain ⟨q', h1, h2⟩ := a5
          rw [h1] at hq2
          cases hq2
          have := (htb6.2.2.2.ob hq).2.1
          omega
        · exact (gs3.trans g36).thenB a4 (Nat.le_refl _)
    · have hjl' : j = l.length := by omega
      subst hjl'
      rw [List.take_of_length_le (Nat.le_refl _)] at htb hov
      simp [wops_cons, e4, e5, e10, e11, e12]
      exact h _ v1 v2 s htb hov hap gs
  · refine ⟨_, 0, .slice none 0 0, .slice none 0 0, rfl, ?_⟩
    simp
    exact ⟨⟨by simp, Nat.le_refl _, by simp, OwnZ.nil⟩, Own.nil, (by intro j hj; cases hj), (Grow.refl σ).alloc _⟩
end Go.Sm
/- slices.Equal of spans, of locks. -/
set_option linter.unusedVariables false
set_option linter.unusedSimpArgs false
namespace Go.Sm
open Go Go.Proofs
set_option maxRecDepth 100000
set_option maxHeartbeats 4000000
theorem kl_sn (v : Sn) : KL [.int .u64, .int .u64] (encS v) := ⟨⟨_, rfl⟩, ⟨_, rfl⟩, trivial⟩
theorem encS_inj {a b : Sn} : encS a = encS b ↔ a = b := by
  constructor
  · intro h
    cases a; cases b
    simp [encS] at h
    simp [h]
  · rintro rfl; rfl
theorem neq_sn (a b : Sn) (σ : CSt) (x y : Operand) : binF Tryz.prog σ .neq 31 x y (.agg (encS a).toArray) (.agg (encS b).toArray) = .val (.bool (!decide (a = b))) σ := by
  obtain ⟨c, h1, h2, h3⟩ := bin_struct (P := Tryz.prog) (f := 2) (t := 31) (ks := [.int .u64, .int .u64]) (by kernel_rfl) (by kernel_rfl) (by omega) (by kernel_rfl) (by kernel_rfl) (kl_sn a) (kl_sn b) rfl rfl (σ := σ) (x := x) (y := y)
  have : c = decide (a = b) := by
    rw [encS_inj] at h3
    cases c <;> simp_all
  rw [h2, this]
theorem kl_lk (v : Lk) : KL [.int .i64, .str, .str, .int .u64, .int .u64] (encK v) := ⟨⟨_, rfl⟩, ⟨_, rfl⟩, ⟨_, rfl⟩, ⟨_, rfl⟩, ⟨_, rfl⟩, trivial⟩
theorem encK_inj {a b : Lk} : encK a = encK b ↔ a = b := by
  constructor
  · intro h
    obtain ⟨o, f, t, s⟩ := a
    obtain ⟨o', f', t', s'⟩ := b
    cases s; cases s'
    simp [encK] at h
    simp [h]
  · rintro rfl; rfl
theorem neq_lk (a b : Lk) (σ : CSt) (x y : Operand) : binF Tryz.prog σ .neq 33 x y (.agg (encK a).toArray) (.agg (encK b).toArray) = .val (.bool (!decide (a = b))) σ := by
  obtain ⟨c, h1, h2, h3⟩ := bin_struct (P := Tryz.prog) (f := 4) (t := 33) (ks := [.int .i64, .str, .str, .int .u64, .int .u64]) (by kernel_rfl) (by kernel_rfl) (by omega) (by kernel_rfl) (by kernel_rfl) (kl_lk a) (kl_lk b) rfl rfl (σ := σ) (x := x) (y := y)
  have : c = decide (a = b) := by
    rw [encK_inj] at h3
    cases c <;> simp_all
  rw [h2, this]
/-- slices.Equal of two rows of versions. -/
theorem equal_sn (l m : List Sn) (v u : Value) (σ : CSt) (hsl : Sl σ 31 2 encS v l) (hsm : Sl σ 31 2 encS u m) (hbig : l.length < 2 ^ 40) (Q : Out → CSt → Prop)
    (h : ∀ (σ' : CSt), Grow σ σ' → Q (.ret (.bool (decide (l = m))) false) σ') : W E1 (.fn 48 #[v, u] none) σ Q := by
  rw [W_fn (fn := Tryz.f48) Tryz.func48 rfl rfl rfl]
  by_cases hlen : l.length = m.length
  · rcases hsl with ⟨rfl, rfl⟩ | ⟨i, off, cap, row, ro, rfl, hg, hin, hrow, hle, hcap⟩
    · have hm : m = [] := List.eq_nil_of_length_eq_zero hlen.symm
      subst hm
      have hu : ∃ p c, u = .slice p 0 c := by
        rcases hsm with ⟨rfl, _⟩ | ⟨i2, off2, cap2, row2, ro2, rfl, _⟩
        · exact ⟨_, _, rfl⟩
        · exact ⟨_, _, rfl⟩
      obtain ⟨p, c, rfl⟩ := hu
      have := h σ (Grow.refl σ)
      simp [wops_cons]
      rw [W_loop]
      simpa [wops_cons] using this
    rcases hsm with ⟨rfl, rfl⟩ | ⟨i2, off2, cap2, row2, ro2, rfl, hg2, hin2, hrow2, hle2, hcap2⟩
    · have hl : l = [] := List.eq_nil_of_length_eq_zero hlen
      subst hl
      have := h σ (Grow.refl σ)
      simp [wops_cons]
      rw [W_loop]
      simpa [wops_cons] using this
    simp [wops_cons, hlen]
    refine W_loop_inv (fun n a σ' => ∃ tm k, a = ⟨tm, 26, [], false⟩ ∧ tm.get 0 = some (.slice (some ⟨i, off, none⟩) l.length cap) ∧ tm.get 1 = some (.slice (some ⟨i2, off2, none⟩) m.length cap2) ∧ tm.get 12 = some (.int .i64 l.length) ∧ tm.get 13 = some (.int .i64 (k : Nat)) ∧ tm.get 4 = some (.bool false) ∧ k ≤ l.length ∧ n = l.length - k ∧ l.take k = m.take k ∧ Grow σ σ') ?_ l.length _ _ ?_
    · rintro n a σ' ⟨tm, k, rfl, h0, h1, h12, h13, h4, hk, hn, htk, hgr⟩
      have hgi := hgr.get hg hin
      have hgi2 := hgr.get hg2 hin2
      by_cases hlt : k < l.length
      · have hlt2 : k < m.length := by omega
        have hld := row_get (enc := encS) (fun _ => rfl) hrow k hlt
        have hl1 := row_le hle k hlt
        have hld2 := row_get (enc := encS) (fun _ => rfl) hrow2 k hlt2
        have hl2 := row_le hle2 k hlt2
        have hw := i64n1 k (by omega)
        have hneq := neq_sn l[k] m[k]
        simp [wops_cons, h0, h1, h12, h13, h4, hlt]
        refine W_calm (by kernel_rfl) ?_
        simp [dops_cons, h0, h1, h12, h13, h4, hlt, hlt2, hgi, hgi2, hld, hld2, hl1, hl2, hneq]
        by_cases he : l[k] = m[k]
        · simp [wops_cons, he, h13, hw]
          refine ⟨_, ?_, h0, h1, h12, k + 1, by simp, h4, by omega, rfl, ?_, hgr⟩
          · omega
          · rw [List.take_succ_eq_append_getElem hlt, List.take_succ_eq_append_getElem hlt2, htk, he]
        · have hne : l ≠ m := by rintro rfl; exact he rfl
          have := h σ' hgr
          rw [decide_eq_false hne] at this
          simpa [wops_cons, he] using this
      · have hkl : k = l.length := by omega
        have he : l = m := by
          have := htk
          rwa [List.take_of_length_le (by omega), List.take_of_length_le (by omega)] at this
        have := h σ' hgr
        rw [decide_eq_true he] at this
        simpa [wops_cons, h12, h13, hlt] using this
    · refine ⟨_, 0, rfl, ?_⟩
      simp [hlen]
      exact Grow.refl σ
  · have hu : ∀ {x : Value} {l : List Sn}, Sl σ 31 2 encS x l → ∃ p c, x = .slice p l.length c := by
      rintro x l (⟨rfl, rfl⟩ | ⟨i, off, cap, row, ro, rfl, _⟩)
      · exact ⟨_, _, rfl⟩
      · exact ⟨_, _, rfl⟩
    obtain ⟨p, c, rfl⟩ := hu hsl
    obtain ⟨p', c', rfl⟩ := hu hsm
    have hne : l ≠ m := by rintro rfl; exact hlen rfl
    have := h σ (Grow.refl σ)
    rw [decide_eq_false hne] at this
    have hi : ¬ ((l.length : Int) = m.length) := by omega
    simpa [wops_cons, hi] using this


/-- slices.Equal of two rows of versions. -/
theorem equal_lk (l m : List Lk) (v u : Value) (σ : CSt) (hsl : Sl σ 33 5 encK v l) (hsm : Sl σ 33 5 encK u m) (hbig : l.length < 2 ^ 40) (Q : Out → CSt → Prop)
    (h : ∀ (σ' : CSt), Grow σ σ' → Q (.ret (.bool (decide (l = m))) false) σ') : W E1 (.fn 15 #[v, u] none) σ Q := by
  rw [W_fn (fn := Tryz.f15) Tryz.func15 rfl rfl rfl]
  by_cases hlen : l.length = m.length
  · rcases hsl with ⟨rfl, rfl⟩ | ⟨i, off, cap, row, ro, rfl, hg, hin, hrow, hle, hcap⟩
    · have hm : m = [] := List.eq_nil_of_length_eq_zero hlen.symm
      subst hm
      have hu : ∃ p c, u = .slice p 0 c := by
        rcases hsm with ⟨rfl, _⟩ | ⟨i2, off2, cap2, row2, ro2, rfl, _⟩
        · exact ⟨_, _, rfl⟩
        · exact ⟨_, _, rfl⟩
      obtain ⟨p, c, rfl⟩ := hu
      have := h σ (Grow.refl σ)
      simp [wops_cons]
      rw [W_loop]
      simpa [wops_cons] using this
    rcases hsm with ⟨rfl, rfl⟩ | ⟨i2, off2, cap2, row2, ro2, rfl, hg2, hin2, hrow2, hle2, hcap2⟩
    · have hl : l = [] := List.eq_nil_of_length_eq_zero hlen
      subst hl
      have := h σ (Grow.refl σ)
      simp [wops_cons]
      rw [W_loop]
      simpa [wops_cons] using this
    simp [wops_cons, hlen]
    refine W_loop_inv (fun n a σ' => ∃ tm k, a = ⟨tm, 26, [], false⟩ ∧ tm.get 0 = some (.slice (some ⟨i, off, none⟩) l.length cap) ∧ tm.get 1 = some (.slice (some ⟨i2, off2, none⟩) m.length cap2) ∧ tm.get 12 = some (.int .i64 l.length) ∧ tm.get 13 = some (.int .i64 (k : Nat)) ∧ tm.get 4 = some (.bool false) ∧ k ≤ l.length ∧ n = l.length - k ∧ l.take k = m.take k ∧ Grow σ σ') ?_ l.length _ _ ?_
    · rintro n a σ' ⟨tm, k, rfl, h0, h1, h12, h13, h4, hk, hn, htk, hgr⟩
      have hgi := hgr.get hg hin
      have hgi2 := hgr.get hg2 hin2
      by_cases hlt : k < l.length
      · have hlt2 : k < m.length := by omega
        have hld := row_get (enc := encK) (fun _ => rfl) hrow k hlt
        have hl1 := row_le hle k hlt
        have hld2 := row_get (enc := encK) (fun _ => rfl) hrow2 k hlt2
        have hl2 := row_le hle2 k hlt2
        have hw := i64n1 k (by omega)
        have hneq := neq_lk l[k] m[k]
        simp [wops_cons, h0, h1, h12, h13, h4, hlt]
        refine W_calm (by kernel_rfl) ?_
        simp [dops_cons, h0, h1, h12, h13, h4, hlt, hlt2, hgi, hgi2, hld, hld2, hl1, hl2, hneq]
        by_cases he : l[k] = m[k]
        · simp [wops_cons, he, h13, hw]
          refine ⟨_, ?_, h0, h1, h12, k + 1, by simp, h4, by omega, rfl, ?_, hgr⟩
          · omega
          · rw [List.take_succ_eq_append_getElem hlt, List.take_succ_eq_append_getElem hlt2, htk, he]
        · have hne : l ≠ m := by rintro rfl; exact he rfl
          have := h σ' hgr
          rw [decide_eq_false hne] at this
          simpa [wops_cons, he] using this
      · have hkl : k = l.length := by omega
        have he : l = m := by
          have := htk
          rwa [List.take_of_length_le (by omega), List.take_of_length_le (by omega)] at this
        have := h σ' hgr
        rw [decide_eq_true he] at this
        simpa [wops_cons, h12, h13, hlt] using this
    · refine ⟨_, 0, rfl, ?_⟩
      simp [hlen]
      exact Grow.refl σ
  · have hu : ∀ {x : Value} {l : List Lk}, Sl σ 33 5 encK x l → ∃ p c, x = .slice p l.length c := by
      rintro x l (⟨rfl, rfl⟩ | ⟨i, off, cap, row, ro, rfl, _⟩)
      · exact ⟨_, _, rfl⟩
      · exact ⟨_, _, rfl⟩
    obtain ⟨p, c, rfl⟩ := hu hsl
    obtain ⟨p', c', rfl⟩ := hu hsm
    have hne : l ≠ m := by rintro rfl; exact hlen rfl
    have := h σ (Grow.refl σ)
    rw [decide_eq_false hne] at this
    have hi : ¬ ((l.length : Int) = m.length) := by omega
    simpa [wops_cons, hi] using this


end Go.Sm
/- LockAgainst: the walk. -/
set_option linter.unusedVariables false
set_option linter.unusedSimpArgs false
namespace Go.Sm
open Go Go.Proofs
set_option maxRecDepth 100000
set_option maxHeartbeats 4000000
theorem awake_spec {f : FuncId} (hf : E1.gam f = some awakeG) {σ : CSt} (hn : gnone σ) {Q : Out → CSt → Prop} : W E1 (.fn f #[] none) σ Q = Q (.ret (.bool true) false) σ :=
  W_gam hf rfl (by unfold awakeG; rw [if_pos ⟨rfl, hn⟩])
theorem same_spec (l m : List Sn) (v u : Value) (σ : CSt) (hsl : Sl σ 31 2 encS v l) (hsm : Sl σ 31 2 encS u m) (hbig : l.length < 2 ^ 40) (Q : Out → CSt → Prop)
    (h : ∀ (σ' : CSt), Grow σ σ' → Q (.ret (.bool (decide (l = m))) false) σ') : W E1 (.fn 18 #[v, u] none) σ Q := by
  rw [W_fn (fn := Tryz.f18) Tryz.func18 rfl rfl rfl]
  obtain ⟨p, c, rfl⟩ := hsl.form
  obtain ⟨p', c', rfl⟩ := hsm.form
  simp [wops_cons]
  refine equal_sn l m _ _ σ hsl hsm hbig _ fun σ1 g1 => ?_
  simpa [wops_cons] using h σ1 g1
theorem madeK_ok {l : List LL} (hok : ∀ x ∈ l, x.ok) : ∀ x ∈ madeK l, x.sp.ok := fun x hx => by
  obtain ⟨y, hy, rfl⟩ := List.mem_map.1 (List.mem_filter.1 hx).1
  exact makeS_ok (hok y hy).2.2.2
theorem law_LockAgainst (l : List LL) (hok : ∀ x ∈ l, x.ok) (o k : Int) (ho0 : 0 ≤ o) (ho1 : o < 256) (hk0 : 0 ≤ k) (hk1 : k < 256) (v : Value) (σ : CSt) (hn : gnone σ) (hz : 0 < σ.n) (hsl : Sl σ 46 6 encL v l) : W E1 (.fn 3 #[v, .int .u8 o, .int .u8 k] none) σ isTrueP := by
  rw [W_fn (fn := Tryz.f3) Tryz.func3 rfl rfl rfl]
  obtain ⟨p, c, rfl⟩ := hsl.form
  simp [wops_cons]
  rw [awake_spec rfl hn]
  simp [wops_cons]
  by_cases hl : 30 < l.length
  · have hl' : (30 : Int) < l.length := by omega
    have hl3 : ¬ (l.length : Int) ≤ 30 := by omega
    simp [wops_cons, wops_if', dstOf, hl', hl3, isTrueP]
  have hl' : ¬ (30 : Int) < l.length := by omega
  have hl3 : (l.length : Int) ≤ 30 := by omega
  simp [wops_cons, wops_if', dstOf, hl', hl3]
  refine table_spec l hok _ σ hsl (by omega) _ fun i v1 v2 σ1 htb hov hap g1 => ?_
  have hml := madeK_le l
  have hmk := madeK_ok hok
  simp [wops_cons]
  refine all_spec σ.n i v1 _ σ1 htb (by omega) _ fun v3 σ2 ho3 g2 => ?_
  have hov2 := hov.grow g2
  simp [wops_cons]
  refine equal_lk _ _ _ _ σ2 (ho3.sl lenK) (hov2.sl lenK) (by omega) _ fun σ3 g3 => ?_
  have g13 := g2.trans g3
  have htb3 := htb.grow g13
  have hov3 := hov.grow g13
  have gs3 := g1.trans g13
  obtain ⟨p2, c2, rfl⟩ := (hov3.sl (sz := 5) lenK).form
  have hsl3 := hov3.sl (sz := 5) lenK
  generalize hL : madeK l = L at *
  have hwo : IntKind.i64.wrap (o.tmod 5) = o.tmod 5 := by
    have := Int.tmod_nonneg 5 ho0
    have := Int.tmod_lt_of_pos o (show (0 : Int) < 5 by decide)
    exact IntWalk.i64_in _ (by omega)
  simp [wops_cons, wops_if', dstOf]
  refine W_loop_J (fun n a s => ∃ tm j vo, a = ⟨tm, 70, [], false⟩ ∧ tm.get 1 = some (.int .u8 o) ∧ tm.get 2 = some (.int .u8 k) ∧ tm.get 7 = some (.pointer (some ⟨i, 0, none⟩)) ∧ tm.get 9 = some vo ∧ tm.get 28 = some (.slice p2 L.length c2) ∧ tm.get 29 = some (.int .i64 L.length) ∧ tm.get 30 = some (.int .i64 (j : Nat)) ∧ j ≤ L.length ∧ n = L.length - j ∧ Own σ3.n s 31 encS vo (agst (L.take j) (o.tmod 5) (keyOf (k.tmod 8))) ∧ Grow σ3 s)
    (fun out s => ∃ tm vo, out = .code (.exit 0) ⟨tm, 70, [], false⟩ ∧ tm.get 1 = some (.int .u8 o) ∧ tm.get 2 = some (.int .u8 k) ∧ tm.get 7 = some (.pointer (some ⟨i, 0, none⟩)) ∧ tm.get 9 = some vo ∧ Own σ3.n s 31 encS vo (agst L (o.tmod 5) (keyOf (k.tmod 8))) ∧ Grow σ3 s) ?_ L.length _ _ ?_ ?_
  · rintro n a s ⟨tm, j, vo, rfl, e1, e2, e7, e9, e28, e29, e30, hj, hnn, hovo, gs⟩
    obtain ⟨po, co, rfl⟩ := (hovo.sl (sz := 2) lenS).form
    by_cases hjl : j < L.length
    · obtain ⟨i', off, row, ro, rfl, hg, hin', hrow, hle⟩ := (hsl3.grow gs).at hjl
      have hld := row_get (enc := encK) lenK hrow j hjl
      have hl1 := row_le hle j hjl
      have hw2 := i64n1 j (by omega)
      have hjl' : (j : Int) < L.length := by omega
      have hg5 : Grow s ((s.alloc (.cells [.int .i64 0, .string ⟨#[]⟩, .string ⟨#[]⟩, .int .u64 0, .int .u64 0] 33 false)).put s.n (.cells (encK L[j]) 33 false)) := ((Grow.refl s).alloc _).put (Nat.le_refl _) _
      have hc5 : ((s.alloc (.cells [.int .i64 0, .string ⟨#[]⟩, .string ⟨#[]⟩, .int .u64 0, .int .u64 0] 33 false)).put s.n (.cells (encK L[j]) 33 false)).get s.n = some (.cells (encK L[j]) 33 false) := by simp
      have hn5 : ((s.alloc (.cells [.int .i64 0, .string ⟨#[]⟩, .string ⟨#[]⟩, .int .u64 0, .int .u64 0] 33 false)).put s.n (.cells (encK L[j]) 33 false)).n = s.n + 1 := by simp
      simp only [encK] at hg5 hc5 hn5
      simp [wops_cons, e1, e2, e7, e9, e28, e29, e30, hjl, hjl', hg, hld, hl1]
      simp [wops_cons, encK, e1, e2, e7, e9, e28, e29, e30]
      generalize (s.alloc (.cells [.int .i64 0, .string ⟨#[]⟩, .string ⟨#[]⟩, .int .u64 0, .int .u64 0] 33 false)).put s.n (.cells [.int .i64 L[j].owner, .string L[j].frm, .string L[j].to, .int .u64 L[j].sp.lo, .int .u64 L[j].sp.hi] 33 false) = s0 at hg5 hc5 hn5 ⊢
      refine key_spec k hk0 hk1 s0 _ fun s1 gk => ?_
      have hc6 := gk.get hc5 (by omega)
      have gs1 := (gs.trans hg5).trans gk
      have hov1 := (hovo.grow hg5).grow gk
      generalize hkk : keyOf (k.tmod 8) = kk at *
      generalize hoo : o.tmod 5 = oo at *
      have hal := Nat.le_trans (agst_le (L.take j) oo kk) (List.length_take_le j L)
      have htk : agst (L.take (j + 1)) oo kk = if (!decide (L[j].owner = oo) && (!klt kk L[j].frm && !klt L[j].to kk)) = true then agst (L.take j) oo kk ++ [L[j].sp] else agst (L.take j) oo kk := by
        rw [List.take_succ_eq_append_getElem hjl, agst_snoc]
      have hka : (klt L[j].frm kk || L[j].frm.toList == kk.toList) = !klt kk L[j].frm := kle_eq _ _
      have hkb : (klt kk L[j].to || kk.toList == L[j].to.toList) = !klt L[j].to kk := kle_eq _ _
      obtain ⟨p9, c9, s9, a1, a2, a3⟩ := app_sn (ts := #[35, 35]) ef35 (by simp) rfl rfl rfl (x := L[j].sp) hov1 gs1.n (by omega)
      have a3 := gs1.thenB a3 (Nat.le_refl _)
      simp only [encS] at a1
      by_cases c1 : L[j].owner = oo
      · simp [wops_cons, wops_if', dstOf, e1, e2, e7, e9, e28, e29, e30, hc6, hw2, c1, hwo, hoo]
        exact ⟨L.length - (j + 1), by omega, j + 1, rfl, by omega, rfl, by rw [htk]; simp [c1]; exact hov1, gs1⟩
      · cases c2 : klt kk L[j].frm with
        | true =>
          rw [c2] at hka
          simp [wops_cons, wops_if', dstOf, e1, e2, e7, e9, e28, e29, e30, hc6, hw2, c1, hka, hwo, hoo]
          exact ⟨L.length - (j + 1), by omega, j + 1, rfl, by omega, rfl, by rw [htk]; simp [c1, c2]; exact hov1, gs1⟩
        | false =>
          rw [c2] at hka
          cases c3 : klt L[j].to kk with
          | true =>
            rw [c3] at hkb
            simp [wops_cons, wops_if', dstOf, e1, e2, e7, e9, e28, e29, e30, hc6, hw2, c1, hka, hkb, hwo, hoo]
            exact ⟨L.length - (j + 1), by omega, j + 1, rfl, by omega, rfl, by rw [htk]; simp [c1, c2, c3]; exact hov1, gs1⟩
          | false =>
            rw [c3] at hkb
            simp [wops_cons, wops_if', dstOf, e1, e2, e7, e9, e28, e29, e30, hc6, hw2, c1, hka, hkb, a1, hwo, hoo]
            exact ⟨L.length - (j + 1), by omega, j + 1, rfl, by omega, rfl, by rw [htk]; simp [c1, c2, c3]; exact a2, a3⟩
    · have hjl' : j = L.length := by omega
      subst hjl'
      rw [List.take_of_length_le (Nat.le_refl _)] at hovo
      simp [wops_cons, e1, e2, e7, e9, e28, e29, e30]
      exact ⟨hovo, gs⟩
  · refine ⟨_, 0, .slice none 0 0, rfl, ?_⟩
    simp
    exact ⟨Own.nil, Grow.refl _⟩
  · rintro out s ⟨tm, vo, rfl, e1, e2, e7, e9, hovo, gs⟩
    obtain ⟨po, co, rfl⟩ := (hovo.sl (sz := 2) lenS).form
    simp [wops_cons, e1, e2, e7, e9, hwo]
    refine key_spec k hk0 hk1 s _ fun s1 gk => ?_
    have htb1 := (htb3.grow gs).grow gk
    simp [wops_cons, e1, e2, e7, e9, hwo]
    refine against_spec σ.n i v1 L _ _ hmk s1 htb1 (by omega) _ fun va r1 s2 hr1 hrok1 hrl1 hoa ga => ?_
    obtain ⟨pa, ca, rfl⟩ := (hoa.sl (sz := 2) lenS).form
    simp [wops_cons, e1, e2, e7, e9, hwo]
    have hg12 := gk.trans ga
    refine of_spec _ (fun x hx => ?_) _ s2 ((hovo.grow hg12).sl lenS) (by have := agst_le L (o.tmod 5) (keyOf (k.tmod 8)); omega) _ fun vb r2 s3 hr2 hrok2 hrl2 hob gb => ?_
    · obtain ⟨y, hy, rfl⟩ := List.mem_map.1 hx
      exact hmk y (List.mem_filter.1 hy).1
    obtain ⟨pb, cb, rfl⟩ := (hob.sl (sz := 2) lenS).form
    simp [wops_cons, e1, e2, e7, e9, hwo]
    refine same_spec _ _ _ _ s3 ((hoa.grow gb).sl lenS) (hob.sl lenS) (by omega) _ fun s4 g4 => ?_
    have : r1 = r2 := hr1.eq hr2 fun _ => Iff.rfl
    simp [wops_cons, isTrueP, this]
end Go.Sm
/- PlanHas: the walk. -/
set_option linter.unusedVariables false
set_option linter.unusedSimpArgs false
namespace Go.Sm
open Go Go.Proofs
set_option maxRecDepth 100000
set_option maxHeartbeats 4000000
/-- How many of the first ones lie in a row. -/
def cl (i lo len : Int) : Int := if i ≤ lo then 0 else if i - lo ≤ len then i - lo else len
theorem cl_step {i lo len : Int} (h : 0 ≤ len) : cl (i + 1) lo len = cl i lo len + (if lo ≤ i ∧ i < lo + len then 1 else 0) := by
  unfold cl
  split <;> split <;> split <;> (try split) <;> omega
theorem cl_rng {i lo len : Int} (h : 0 ≤ len) : 0 ≤ cl i lo len ∧ cl i lo len ≤ len := by
  unfold cl
  split
  · omega
  · split <;> omega
theorem cl_zero {lo len : Int} (h : 0 ≤ lo) : cl 0 lo len = 0 := by
  unfold cl
  rw [if_pos h]
theorem cl_all {i lo len : Int} (h : lo + len ≤ i) (h0 : 0 ≤ len) : cl i lo len = len := by
  unfold cl
  split
  · omega
  · split <;> omega
/-- Rows gone over, and a part of one more. -/
def cnt (X W Y H i k : Int) : Int := cl i X W * H + (if X ≤ i ∧ i < X + W then cl k Y H else 0)
theorem cnt_zero {X W Y H i : Int} (hY : 0 ≤ Y) : cnt X W Y H i 0 = cl i X W * H := by
  unfold cnt
  rw [cl_zero hY]
  split <;> omega
theorem cnt_step {X W Y H i k : Int} (hH : 0 ≤ H) : cnt X W Y H i (k + 1) = cnt X W Y H i k + (if (X ≤ i ∧ i < X + W) ∧ Y ≤ k ∧ k < Y + H then 1 else 0) := by
  unfold cnt
  rw [cl_step hH]
  by_cases h1 : X ≤ i ∧ i < X + W
  · rw [if_pos h1, if_pos h1]
    by_cases h2 : Y ≤ k ∧ k < Y + H
    · rw [if_pos h2, if_pos ⟨h1, h2⟩]; omega
    · rw [if_neg h2, if_neg (fun h => h2 h.2)]; omega
  · rw [if_neg h1, if_neg h1, if_neg (fun h => h1 h.1)]; omega
theorem cnt_row {X W Y H i k : Int} (hW : 0 ≤ W) (hH : 0 ≤ H) (hk : Y + H ≤ k) : cnt X W Y H i k = cl (i + 1) X W * H := by
  unfold cnt
  rw [cl_step hW, cl_all hk hH, Int.add_mul]
  split <;> simp
theorem cnt_rng {X W Y H i k : Int} (hW : 0 ≤ W) (hH : 0 ≤ H) (hW2 : W ≤ 1000) (hH2 : H ≤ 1000) : 0 ≤ cnt X W Y H i k ∧ cnt X W Y H i k ≤ 1001000 := by
  have h1 := cl_rng (i := i) (lo := X) hW
  have h2 := cl_rng (i := k) (lo := Y) hH
  have h3 := Int.mul_nonneg h1.1 hH
  have h4 : cl i X W * H ≤ 1000 * 1000 := Int.mul_le_mul (by omega) hH2 hH (by omega)
  unfold cnt
  split <;> omega
theorem has_eq (b : BB) (x y : Int) : hasX (boxOf b) x y = decide (b.x.tmod 40 ≤ x ∧ x ≤ b.x.tmod 40 + b.w.tmod 20 ∧ b.y.tmod 10 ≤ y ∧ y ≤ b.y.tmod 10 + b.h.tmod 6) := by
  unfold hasX boxOf
  congr 1
  apply propext
  constructor
  · rintro ⟨a, b, c, d⟩; exact ⟨a, c, b, d⟩
  · rintro ⟨a, b, c, d⟩; exact ⟨a, c, b, d⟩
theorem law_PlanHas (b : BB) (hb : b.ok) (x y : Int) (hx : -128 ≤ x ∧ x ≤ 127) (hy : -128 ≤ y ∧ y ≤ 127) (σ : CSt) (hn : gnone σ) (hz : 0 < σ.n) : W E1 (.fn 8 #[.agg (encB b).toArray, .int .i8 x, .int .i8 y] none) σ isTrueP := by
  rw [W_fn (fn := Tryz.f8) Tryz.func8 rfl rfl rfl]
  have hr := box_rng hb
  have g0 : Grow σ (σ.alloc (.cells (encB b) 63 false)) := (Grow.refl σ).alloc _
  have hc0 : (σ.alloc (.cells (encB b) 63 false)).get σ.n = some (.cells (encB b) 63 false) := ga_top rfl
  have hn0 : (σ.alloc (.cells (encB b) 63 false)).n = σ.n + 1 := by simp
  have hfb := fun x y => has_spec b hb x y
  simp only [encB] at g0 hc0 hn0 hfb
  simp [wops_cons, encB]
  generalize σ.alloc (.cells [.int .u8 b.x, .int .u8 b.y, .int .u8 b.w, .int .u8 b.h] 63 false) = s0 at g0 hc0 hn0 ⊢
  rw [awake_spec rfl (gnone_grow hn hz g0)]
  simp [wops_cons, wops_if', dstOf]
  generalize hX : b.x.tmod 40 = X at *
  generalize hW : b.w.tmod 20 = w at *
  generalize hY : b.y.tmod 10 = Y at *
  generalize hH : b.h.tmod 6 = h at *
  refine W_loop_J (fun n a s => ∃ tm, ∃ j : Nat, a = ⟨tm, 49, [], false⟩ ∧ tm.get 1 = some (.int .i8 x) ∧ tm.get 2 = some (.int .i8 y) ∧ tm.get 3 = some (.pointer (some ⟨σ.n, 0, none⟩)) ∧ tm.get 7 = some (.int .i64 (cl j X (w + 1) * (h + 1))) ∧ tm.get 12 = some (.int .i64 (j : Nat)) ∧ j ≤ 70 ∧ n = 70 - j ∧ Grow s0 s)
    (fun out s => ∃ tm, out = .code (.exit 0) ⟨tm, 49, [], false⟩ ∧ tm.get 1 = some (.int .i8 x) ∧ tm.get 2 = some (.int .i8 y) ∧ tm.get 3 = some (.pointer (some ⟨σ.n, 0, none⟩)) ∧ tm.get 7 = some (.int .i64 ((w + 1) * (h + 1))) ∧ Grow s0 s) ?_ 70 _ _ ?_ ?_
  · rintro n a s ⟨tm, j, rfl, e1, e2, e3, e7, e12, hj, hnn, gs⟩
    by_cases hjl : j < 70
    · have hjl' : (j : Int) < 70 := by omega
      have hwj := i64n1 j (by omega)
      simp [wops_cons, e1, e2, e3, e7, e12, hjl, hjl']
      refine W_loop_J (fun n a s => ∃ tm, ∃ k : Nat, a = ⟨tm, 49, [], false⟩ ∧ tm.get 1 = some (.int .i8 x) ∧ tm.get 2 = some (.int .i8 y) ∧ tm.get 3 = some (.pointer (some ⟨σ.n, 0, none⟩)) ∧ tm.get 7 = some (.int .i64 (cnt X (w + 1) Y (h + 1) j k)) ∧ tm.get 8 = some (.int .i64 (j : Nat)) ∧ tm.get 12 = some (.int .i64 (j : Nat)) ∧ tm.get 15 = some (.int .i64 (k : Nat)) ∧ k ≤ 20 ∧ n = 20 - k ∧ Grow s0 s)
        (fun out s => ∃ tm, out = .code (.exit 2) ⟨tm, 49, [], false⟩ ∧ tm.get 1 = some (.int .i8 x) ∧ tm.get 2 = some (.int .i8 y) ∧ tm.get 3 = some (.pointer (some ⟨σ.n, 0, none⟩)) ∧ tm.get 7 = some (.int .i64 (cl (j + 1) X (w + 1) * (h + 1))) ∧ tm.get 12 = some (.int .i64 (j : Nat)) ∧ Grow s0 s) ?_ 20 _ _ ?_ ?_
      · rintro n2 a2 t ⟨tm2, k, rfl, f1, f2, f3, f7, f8, f12, f15, hk, hnn2, gt⟩
        by_cases hkl : k < 20
        · have hkl' : (k : Int) < 20 := by omega
          have hwk := i64n1 k (by omega)
          have hct := gt.get hc0 (by omega)
          simp [wops_cons, f1, f2, f3, f7, f8, f12, f15, hkl, hkl', hct]
          refine hfb j k t _ fun t2 g2 => ?_
          have hst := cnt_step (X := X) (W := w + 1) (Y := Y) (H := h + 1) (i := j) (k := k) (by omega)
          have hrg := cnt_rng (X := X) (W := w + 1) (Y := Y) (H := h + 1) (i := j) (k := k) (by omega) (by omega) (by omega) (by omega)
          have hwc : IntKind.i64.wrap (cnt X (w + 1) Y (h + 1) j k + 1) = cnt X (w + 1) Y (h + 1) j k + 1 := IntWalk.i64_in _ (by omega)
          by_cases hh : X ≤ j ∧ (j : Int) ≤ X + w ∧ Y ≤ k ∧ (k : Int) ≤ Y + h
          · rw [if_pos (by omega)] at hst
            simp [wops_cons, f1, f2, f3, f7, f8, f12, f15, hh, hwk, hwc]
            exact ⟨20 - (k + 1), by omega, k + 1, by rw [Int.natCast_add, Int.natCast_one, hst], by omega, by omega, rfl, gt.trans g2⟩
          · rw [if_neg (by omega)] at hst
            simp [wops_cons, f1, f2, f3, f7, f8, f12, f15, hh, hwk, hwc]
            exact ⟨20 - (k + 1), by omega, k + 1, by rw [Int.natCast_add, Int.natCast_one, hst, Int.add_zero], by omega, by omega, rfl, gt.trans g2⟩
        · have hkl' : k = 20 := by omega
          subst hkl'
          simp [wops_cons, f1, f2, f3, f7, f8, f12, f15]
          exact ⟨cnt_row (by omega) (by omega) (by omega), gt⟩
      · refine ⟨_, 0, rfl, ?_⟩
        simp [e1, e2, e3, e7, e12]
        exact ⟨(cnt_zero (by omega)).symm, gs⟩
      · rintro out t ⟨tm2, rfl, f1, f2, f3, f7, f12, gt⟩
        simp [wops_cons, f1, f2, f3, f7, f12, hwj]
        exact ⟨70 - (j + 1), by omega, j + 1, by rw [Int.natCast_add, Int.natCast_one], by omega, by omega, rfl, gt⟩
    · have hjl' : j = 70 := by omega
      subst hjl'
      simp [wops_cons, e1, e2, e3, e7, e12]
      have hall : cl 70 X (w + 1) = w + 1 := cl_all (by omega) (by omega)
      exact ⟨by rw [hall], gs⟩
  · refine ⟨_, 0, rfl, ?_⟩
    simp
    have hze : cl 0 X (w + 1) = 0 := cl_zero (by omega)
    exact ⟨by rw [hze, Int.zero_mul], Grow.refl _⟩
  · rintro out s ⟨tm, rfl, e1, e2, e3, e7, gs⟩
    have hcs := gs.get hc0 (by omega)
    have hmul : 0 ≤ (w + 1) * (h + 1) ∧ (w + 1) * (h + 1) ≤ 20 * 20 := ⟨Int.mul_nonneg (by omega) (by omega), Int.mul_le_mul (by omega) (by omega) (by omega) (by omega)⟩
    have hcx : cellsX (boxOf b) = (w + 1) * (h + 1) := by
      unfold cellsX boxOf
      simp only [hX, hY, hW, hH]
      rw [show X + w - X + 1 = w + 1 by omega, show Y + h - Y + 1 = h + 1 by omega]
    have hwx : IntKind.i64.wrap x = x := IntWalk.i64_in _ (by omega)
    have hwy : IntKind.i64.wrap y = y := IntWalk.i64_in _ (by omega)
    have hbo := boxOf_ok hb
    have hm := bmake_spec b hb
    have hbh := bhas_spec (boxOf b) hbo x y (by omega) (by omega)
    have hce := cells_spec (boxOf b) hbo (by simp only [boxOf, hX, hY, hW, hH]; omega)
    have hhe := has_eq b x y
    rw [hX, hY, hW, hH] at hhe
    have hfe : ∀ {P : Program} {σ : CSt} {t : TypeId} {o o' : Operand}, binF P σ .eql t o o' (.float .f64 (fl ((w + 1) * (h + 1)))) (.float .f64 (fl ((w + 1) * (h + 1)))) = .val (.bool (decide ((w + 1) * (h + 1) = (w + 1) * (h + 1)))) σ := bin_feql (by omega) (by omega)
    rw [hcx] at hce
    simp only [encB] at hm
    simp [wops_cons, e1, e2, e3, e7]
    refine W_drawn (l := [0, 2, 3, 4, 5, 6, 8, 9, 10, 11, 12, 1, 7, 13, 14, 15, 16, 19, 20, 17, 18, 21, 22, 23]) (b := #[0, 1, 0, 4, 0, 16, 60, 127, 0, 0, 512, 0, 2048, 8191, 16383, 32767, 65535, 131071, 262143, 65535, 589823, 2097151, 4194303, 8388607]) (by kernel_rfl) (by kernel_rfl) (by kernel_rfl) ?_
    simp [dopsR_cons, dopsR_if, dstOf, opAt, isEff, again, befBits, isRead, Nat.add_assoc, e1, e2, e3, e7, hcs, cv71, cplxK, hwx, hwy]
    refine hm s _ fun s1 g1 => ?_
    have hc1 := (gs.trans g1).get hc0 (by omega)
    simp [dopsR_cons, dopsR_if, dstOf, opAt, isEff, again, befBits, isRead, Nat.add_assoc, e1, e2, e3, e7, hc1, cv71, cplxK, hwx, hwy]
    refine hbh s1 _ fun s2 g2 => ?_
    have hc2 := ((gs.trans g1).trans g2).get hc0 (by omega)
    simp [dopsR_cons, dopsR_if, dstOf, opAt, isEff, again, befBits, isRead, Nat.add_assoc, e1, e2, e3, e7, hc2, cv71, cplxK, hwx, hwy]
    refine hfb x y s2 _ fun s3 g3 => ?_
    have hc3 := (((gs.trans g1).trans g2).trans g3).get hc0 (by omega)
    rw [hhe]
    simp [dopsR_cons, dopsR_if, dstOf, opAt, isEff, again, befBits, isRead, Nat.add_assoc, e1, e2, e3, e7, hc3, cv71, cplxK, hwx, hwy, bin_booleq Tryz.underlying4]
    refine hm s3 _ fun s4 g4 => ?_
    have hc4 := ((((gs.trans g1).trans g2).trans g3).trans g4).get hc0 (by omega)
    simp [dopsR_cons, dopsR_if, dstOf, opAt, isEff, again, befBits, isRead, Nat.add_assoc, e1, e2, e3, e7, hc4, cv71, cplxK, hwx, hwy, bin_booleq Tryz.underlying4]
    refine hce s4 _ fun s5 g5 => ?_
    have hc5 := (((((gs.trans g1).trans g2).trans g3).trans g4).trans g5).get hc0 (by omega)
    simp [dopsR_cons, dopsR_if, wops_cons, dstOf, opAt, isEff, again, befBits, isRead, Nat.add_assoc, e1, e2, e3, e7, hc5, cv71, cplxK, hwx, hwy, bin_booleq Tryz.underlying4, hfe, isTrueP]
end Go.Sm
/- PlanCells: the walk. -/
set_option linter.unusedVariables false
set_option linter.unusedSimpArgs false
namespace Go.Sm
open Go Go.Proofs
set_option maxRecDepth 100000
set_option maxHeartbeats 4000000
theorem boxOf_le {b : BB} (hb : b.ok) : (boxOf b).x0 ≤ (boxOf b).x1 ∧ (boxOf b).y0 ≤ (boxOf b).y1 := by
  have := box_rng hb
  simp only [boxOf]
  omega
theorem mt_comm (a b : Bx) : mt a b = mt b a := by
  unfold mt
  rw [Int.max_comm a.x0, Int.max_comm a.y0, Int.min_comm a.x1, Int.min_comm a.y1]
theorem mtok_comm (a b : Bx) : mtok a b = mtok b a := by
  unfold mtok
  rw [mt_comm]
theorem mt_self (a : Bx) : mt a a = a := by
  unfold mt
  rw [Int.max_self, Int.max_self, Int.min_self, Int.min_self]
theorem mt_ok {a b : Bx} (ha : a.ok) (hb : b.ok) : (mt a b).ok := by
  simp only [Bx.ok, mt] at *
  omega
theorem cells_rng {a : Bx} (h : a.x0 ≤ a.x1 ∧ a.y0 ≤ a.y1) (ha : a.ok) : 1 ≤ cellsX a ∧ cellsX a ≤ 2000 * 2000 := by
  obtain ⟨a1, a2, a3, a4⟩ := ha
  unfold cellsX
  constructor
  · have := Int.mul_le_mul (show (1 : Int) ≤ a.x1 - a.x0 + 1 by omega) (show (1 : Int) ≤ a.y1 - a.y0 + 1 by omega) (by decide) (by omega)
    omega
  · exact Int.mul_le_mul (by omega) (by omega) (by omega) (by omega)
theorem cells_mt {a b : Bx} (h : mtok a b = true) : cellsX (mt a b) ≤ cellsX a ∧ cellsX (mt a b) ≤ cellsX b := by
  have h2 := of_decide_eq_true h
  simp only [mt] at h2
  unfold cellsX mt
  simp only
  exact ⟨Int.mul_le_mul (by omega) (by omega) (by omega) (by omega), Int.mul_le_mul (by omega) (by omega) (by omega) (by omega)⟩
theorem law_PlanCells (a b : BB) (ha : a.ok) (hb : b.ok) (σ : CSt) (hn : gnone σ) (hz : 0 < σ.n) : W E1 (.fn 11 #[.agg (encB a).toArray, .agg (encB b).toArray] none) σ isTrueP := by
  rw [W_fn (fn := Tryz.f11) Tryz.func11 rfl rfl rfl]
  have g0 : Grow σ ((σ.alloc (.cells (encB a) 63 false)).alloc (.cells (encB b) 63 false)) := ((Grow.refl σ).alloc _).alloc _
  have hca : ((σ.alloc (.cells (encB a) 63 false)).alloc (.cells (encB b) 63 false)).get σ.n = some (.cells (encB a) 63 false) := by rw [ga_old (by simp only [CSt.n_alloc]; omega), ga_top rfl]
  have hcb : ((σ.alloc (.cells (encB a) 63 false)).alloc (.cells (encB b) 63 false)).get (σ.n + 1) = some (.cells (encB b) 63 false) := by rw [ga_top (by simp only [CSt.n_alloc])]
  have hn0 : ((σ.alloc (.cells (encB a) 63 false)).alloc (.cells (encB b) 63 false)).n = σ.n + 2 := by simp
  have hma := bmake_spec a ha
  have hmb := bmake_spec b hb
  simp only [encB] at g0 hca hcb hn0 hma hmb
  simp [wops_cons, encB, Nat.add_assoc]
  generalize (σ.alloc (.cells [.int .u8 a.x, .int .u8 a.y, .int .u8 a.w, .int .u8 a.h] 63 false)).alloc (.cells [.int .u8 b.x, .int .u8 b.y, .int .u8 b.w, .int .u8 b.h] 63 false) = s0 at g0 hca hcb hn0 ⊢
  rw [awake_spec rfl (gnone_grow hn hz g0)]
  simp [wops_cons, wops_if', dstOf]
  have hxo := boxOf_ok ha
  have hyo := boxOf_ok hb
  have hxl := boxOf_le ha
  have hyl := boxOf_le hb
  generalize boxOf a = x at *
  generalize boxOf b = y at *
  refine W_cut (fun out s => ∃ tm q5 q6, out = .code .normal ⟨tm, 72, [], false⟩ ∧ tm.get 5 = some (.pointer (some ⟨q5, 0, none⟩)) ∧ tm.get 6 = some (.pointer (some ⟨q6, 0, none⟩)) ∧ s.get q5 = some (.cells (encX x) 68 false) ∧ s.get q6 = some (.cells (encX y) 68 false) ∧ q5 < s.n ∧ q6 < s.n) ?_ ?_
  · refine W_plans (ls := [[0, 2, 1, 3, 4, 5, 6, 7], [0, 2, 1, 3, 5, 4, 6, 7], [0, 2, 1, 4, 3, 5, 6, 7], [0, 2, 1, 4, 5, 3, 6, 7], [0, 2, 1, 5, 3, 4, 6, 7], [0, 2, 1, 5, 4, 3, 6, 7], [0, 2, 4, 1, 3, 5, 6, 7], [0, 2, 4, 1, 5, 3, 6, 7], [0, 2, 4, 5, 1, 3, 6, 7], [0, 2, 5, 1, 3, 4, 6, 7], [0, 2, 5, 1, 4, 3, 6, 7], [0, 2, 5, 4, 1, 3, 6, 7]]) (b := #[0, 1, 0, 7, 0, 0, 63, 127]) (by kernel_rfl) (by kernel_rfl) (by kernel_rfl) (by kernel_rfl) ?_
    intro ll hll
    simp only [List.mem_cons, List.not_mem_nil, or_false] at hll
    rcases hll with rfl | rfl | rfl | rfl | rfl | rfl | rfl | rfl | rfl | rfl | rfl | rfl
    · have hj0 : ¬ σ.n = s0.n := by omega
      have hj1 : ¬ σ.n + 1 = s0.n := by omega
      have hj2 : ¬ σ.n = s0.n + 1 := by omega
      have hj3 : ¬ σ.n + 1 = s0.n + 1 := by omega
      simp [dopsR_cons, opAt, isEff, again, befBits, isRead, Nat.add_assoc, hca, hcb, hj0, hj1, hj2, hj3]
      refine hma s0 _ fun s1 g1 => ?_
      have gn1 := g1.n
      have fac1 := g1.get hca (by omega)
      have fbc1 := g1.get hcb (by omega)
      have hk10 : ¬ σ.n = s1.n := by omega
      have hk11 : ¬ σ.n + 1 = s1.n := by omega
      have hk12 : ¬ σ.n = s1.n + 1 := by omega
      have hk13 : ¬ σ.n + 1 = s1.n + 1 := by omega
      simp [dopsR_cons, opAt, isEff, again, befBits, isRead, Nat.add_assoc, fac1, fbc1, hk10, hk11, hk12, hk13]
      refine hmb s1 _ fun s2 g2 => ?_
      have gn2 := g2.n
      have fac2 := g2.get fac1 (by omega)
      have fbc2 := g2.get fbc1 (by omega)
      have hk20 : ¬ σ.n = s2.n := by omega
      have hk21 : ¬ σ.n + 1 = s2.n := by omega
      have hk22 : ¬ σ.n = s2.n + 1 := by omega
      have hk23 : ¬ σ.n + 1 = s2.n + 1 := by omega
      simp [dopsR_cons, opAt, isEff, again, befBits, isRead, Nat.add_assoc, encX, hk20, hk21, hk22, hk23, fac2, fbc2]
    · have hj0 : ¬ σ.n = s0.n := by omega
      have hj1 : ¬ σ.n + 1 = s0.n := by omega
      have hj2 : ¬ σ.n = s0.n + 1 := by omega
      have hj3 : ¬ σ.n + 1 = s0.n + 1 := by omega
      simp [dopsR_cons, opAt, isEff, again, befBits, isRead, Nat.add_assoc, hca, hcb, hj0, hj1, hj2, hj3]
      refine hma s0 _ fun s1 g1 => ?_
      have gn1 := g1.n
      have fac1 := g1.get hca (by omega)
      have fbc1 := g1.get hcb (by omega)
      have hk10 : ¬ σ.n = s1.n := by omega
      have hk11 : ¬ σ.n + 1 = s1.n := by omega
      have hk12 : ¬ σ.n = s1.n + 1 := by omega
      have hk13 : ¬ σ.n + 1 = s1.n + 1 := by omega
      simp [dopsR_cons, opAt, isEff, again, befBits, isRead, Nat.add_assoc, fac1, fbc1, hk10, hk11, hk12, hk13]
      refine hmb s1 _ fun s2 g2 => ?_
      have gn2 := g2.n
      have fac2 := g2.get fac1 (by omega)
      have fbc2 := g2.get fbc1 (by omega)
      have hk20 : ¬ σ.n = s2.n := by omega
      have hk21 : ¬ σ.n + 1 = s2.n := by omega
      have hk22 : ¬ σ.n = s2.n + 1 := by omega
      have hk23 : ¬ σ.n + 1 = s2.n + 1 := by omega
      simp [dopsR_cons, opAt, isEff, again, befBits, isRead, Nat.add_assoc, encX, hk20, hk21, hk22, hk23, fac2, fbc2]
    · have hj0 : ¬ σ.n = s0.n := by omega
      have hj1 : ¬ σ.n + 1 = s0.n := by omega
      have hj2 : ¬ σ.n = s0.n + 1 := by omega
      have hj3 : ¬ σ.n + 1 = s0.n + 1 := by omega
      simp [dopsR_cons, opAt, isEff, again, befBits, isRead, Nat.add_assoc, hca, hcb, hj0, hj1, hj2, hj3]
      refine hma s0 _ fun s1 g1 => ?_
      have gn1 := g1.n
      have fac1 := g1.get hca (by omega)
      have fbc1 := g1.get hcb (by omega)
      have hk10 : ¬ σ.n = s1.n := by omega
      have hk11 : ¬ σ.n + 1 = s1.n := by omega
      have hk12 : ¬ σ.n = s1.n + 1 := by omega
      have hk13 : ¬ σ.n + 1 = s1.n + 1 := by omega
      simp [dopsR_cons, opAt, isEff, again, befBits, isRead, Nat.add_assoc, fac1, fbc1, hk10, hk11, hk12, hk13]
      obtain ⟨p4, hp4⟩ : ∃ p, p = s1.n := ⟨_, rfl⟩
      have gz4 : Grow s1 (s1.alloc (.cells [.complex .f64 0 0, .complex .f64 0 0] 68 false)) := (Grow.refl s1).alloc _
      have z4 : (s1.alloc (.cells [.complex .f64 0 0, .complex .f64 0 0] 68 false)).get p4 = some (.cells [.complex .f64 0 0, .complex .f64 0 0] 68 false) := ga_top (by omega)
      have nz4 : (s1.alloc (.cells [.complex .f64 0 0, .complex .f64 0 0] 68 false)).n = s1.n + 1 := by simp
      rw [← hp4]
      generalize s1.alloc (.cells [.complex .f64 0 0, .complex .f64 0 0] 68 false) = t4 at gz4 z4 nz4 ⊢
      have fa4 := gz4.get fac1 (by omega)
      have fb4 := gz4.get fbc1 (by omega)
      refine hmb t4 _ fun s2 g2 => ?_
      have gn2 := g2.n
      have fac2 := g2.get fa4 (by omega)
      have fbc2 := g2.get fb4 (by omega)
      have fz4c2 := g2.get z4 (by omega)
      have hk20 : ¬ σ.n = s2.n := by omega
      have hk21 : ¬ σ.n + 1 = s2.n := by omega
      have hk22 : ¬ σ.n = s2.n + 1 := by omega
      have hk23 : ¬ σ.n + 1 = s2.n + 1 := by omega
      have hl24 : ¬ p4 = s2.n := by omega
      have lt4 : p4 < s2.n := by omega
      have lq4 : p4 < s2.n + 1 := by omega
      have n14 : ¬ p4 = s2.n := by omega
      have n24 : ¬ s2.n = p4 := by omega
      have na4 : ¬ σ.n = p4 := by omega
      have nb4 : ¬ σ.n + 1 = p4 := by omega
      simp [dopsR_cons, opAt, isEff, again, befBits, isRead, Nat.add_assoc, encX, hk20, hk21, hk22, hk23, fac2, fbc2, fz4c2, lt4, lq4, n14, n24, na4, nb4]
    · have hj0 : ¬ σ.n = s0.n := by omega
      have hj1 : ¬ σ.n + 1 = s0.n := by omega
      have hj2 : ¬ σ.n = s0.n + 1 := by omega
      have hj3 : ¬ σ.n + 1 = s0.n + 1 := by omega
      simp [dopsR_cons, opAt, isEff, again, befBits, isRead, Nat.add_assoc, hca, hcb, hj0, hj1, hj2, hj3]
      refine hma s0 _ fun s1 g1 => ?_
      have gn1 := g1.n
      have fac1 := g1.get hca (by omega)
      have fbc1 := g1.get hcb (by omega)
      have hk10 : ¬ σ.n = s1.n := by omega
      have hk11 : ¬ σ.n + 1 = s1.n := by omega
      have hk12 : ¬ σ.n = s1.n + 1 := by omega
      have hk13 : ¬ σ.n + 1 = s1.n + 1 := by omega
      simp [dopsR_cons, opAt, isEff, again, befBits, isRead, Nat.add_assoc, fac1, fbc1, hk10, hk11, hk12, hk13]
      obtain ⟨p4, hp4⟩ : ∃ p, p = s1.n := ⟨_, rfl⟩
      have gz4 : Grow s1 (s1.alloc (.cells [.complex .f64 0 0, .complex .f64 0 0] 68 false)) := (Grow.refl s1).alloc _
      have z4 : (s1.alloc (.cells [.complex .f64 0 0, .complex .f64 0 0] 68 false)).get p4 = some (.cells [.complex .f64 0 0, .complex .f64 0 0] 68 false) := ga_top (by omega)
      have nz4 : (s1.alloc (.cells [.complex .f64 0 0, .complex .f64 0 0] 68 false)).n = s1.n + 1 := by simp
      rw [← hp4]
      generalize s1.alloc (.cells [.complex .f64 0 0, .complex .f64 0 0] 68 false) = t4 at gz4 z4 nz4 ⊢
      have fa4 := gz4.get fac1 (by omega)
      have fb4 := gz4.get fbc1 (by omega)
      obtain ⟨p5, hp5⟩ : ∃ p, p = p4 + 1 := ⟨_, rfl⟩
      have gz5 : Grow t4 (t4.alloc (.cells [.complex .f64 0 0, .complex .f64 0 0] 68 false)) := (Grow.refl t4).alloc _
      have z5 : (t4.alloc (.cells [.complex .f64 0 0, .complex .f64 0 0] 68 false)).get p5 = some (.cells [.complex .f64 0 0, .complex .f64 0 0] 68 false) := ga_top (by omega)
      have nz5 : (t4.alloc (.cells [.complex .f64 0 0, .complex .f64 0 0] 68 false)).n = t4.n + 1 := by simp
      rw [← hp5]
      generalize t4.alloc (.cells [.complex .f64 0 0, .complex .f64 0 0] 68 false) = t5 at gz5 z5 nz5 ⊢
      have fa5 := gz5.get fa4 (by omega)
      have fb5 := gz5.get fb4 (by omega)
      have fz45 := gz5.get z4 (by omega)
      refine hmb t5 _ fun s2 g2 => ?_
      have gn2 := g2.n
      have fac2 := g2.get fa5 (by omega)
      have fbc2 := g2.get fb5 (by omega)
      have fz4c2 := g2.get fz45 (by omega)
      have fz5c2 := g2.get z5 (by omega)
      have hk20 : ¬ σ.n = s2.n := by omega
      have hk21 : ¬ σ.n + 1 = s2.n := by omega
      have hk22 : ¬ σ.n = s2.n + 1 := by omega
      have hk23 : ¬ σ.n + 1 = s2.n + 1 := by omega
      have hl24 : ¬ p4 = s2.n := by omega
      have hl25 : ¬ p5 = s2.n := by omega
      have lt4 : p4 < s2.n := by omega
      have lq4 : p4 < s2.n + 1 := by omega
      have n14 : ¬ p4 = s2.n := by omega
      have n24 : ¬ s2.n = p4 := by omega
      have lt5 : p5 < s2.n := by omega
      have lq5 : p5 < s2.n + 1 := by omega
      have n15 : ¬ p5 = s2.n := by omega
      have n25 : ¬ s2.n = p5 := by omega
      have na4 : ¬ σ.n = p4 := by omega
      have nb4 : ¬ σ.n + 1 = p4 := by omega
      have na5 : ¬ σ.n = p5 := by omega
      have nb5 : ¬ σ.n + 1 = p5 := by omega
      have ne1 : ¬ p4 = p5 := by omega
      have ne2 : ¬ p5 = p4 := by omega
      simp [dopsR_cons, opAt, isEff, again, befBits, isRead, Nat.add_assoc, encX, hk20, hk21, hk22, hk23, fac2, fbc2, fz4c2, fz5c2, lt4, lq4, n14, n24, lt5, lq5, n15, n25, na4, nb4, na5, nb5, ne1, ne2]
    · have hj0 : ¬ σ.n = s0.n := by omega
      have hj1 : ¬ σ.n + 1 = s0.n := by omega
      have hj2 : ¬ σ.n = s0.n + 1 := by omega
      have hj3 : ¬ σ.n + 1 = s0.n + 1 := by omega
      simp [dopsR_cons, opAt, isEff, again, befBits, isRead, Nat.add_assoc, hca, hcb, hj0, hj1, hj2, hj3]
      refine hma s0 _ fun s1 g1 => ?_
      have gn1 := g1.n
      have fac1 := g1.get hca (by omega)
      have fbc1 := g1.get hcb (by omega)
      have hk10 : ¬ σ.n = s1.n := by omega
      have hk11 : ¬ σ.n + 1 = s1.n := by omega
      have hk12 : ¬ σ.n = s1.n + 1 := by omega
      have hk13 : ¬ σ.n + 1 = s1.n + 1 := by omega
      simp [dopsR_cons, opAt, isEff, again, befBits, isRead, Nat.add_assoc, fac1, fbc1, hk10, hk11, hk12, hk13]
      obtain ⟨p5, hp5⟩ : ∃ p, p = s1.n := ⟨_, rfl⟩
      have gz5 : Grow s1 (s1.alloc (.cells [.complex .f64 0 0, .complex .f64 0 0] 68 false)) := (Grow.refl s1).alloc _
      have z5 : (s1.alloc (.cells [.complex .f64 0 0, .complex .f64 0 0] 68 false)).get p5 = some (.cells [.complex .f64 0 0, .complex .f64 0 0] 68 false) := ga_top (by omega)
      have nz5 : (s1.alloc (.cells [.complex .f64 0 0, .complex .f64 0 0] 68 false)).n = s1.n + 1 := by simp
      rw [← hp5]
      generalize s1.alloc (.cells [.complex .f64 0 0, .complex .f64 0 0] 68 false) = t5 at gz5 z5 nz5 ⊢
      have fa5 := gz5.get fac1 (by omega)
      have fb5 := gz5.get fbc1 (by omega)
      refine hmb t5 _ fun s2 g2 => ?_
      have gn2 := g2.n
      have fac2 := g2.get fa5 (by omega)
      have fbc2 := g2.get fb5 (by omega)
      have fz5c2 := g2.get z5 (by omega)
      have hk20 : ¬ σ.n = s2.n := by omega
      have hk21 : ¬ σ.n + 1 = s2.n := by omega
      have hk22 : ¬ σ.n = s2.n + 1 := by omega
      have hk23 : ¬ σ.n + 1 = s2.n + 1 := by omega
      have hl25 : ¬ p5 = s2.n := by omega
      have lt5 : p5 < s2.n := by omega
      have lq5 : p5 < s2.n + 1 := by omega
      have n15 : ¬ p5 = s2.n := by omega
      have n25 : ¬ s2.n = p5 := by omega
      have na5 : ¬ σ.n = p5 := by omega
      have nb5 : ¬ σ.n + 1 = p5 := by omega
      simp [dopsR_cons, opAt, isEff, again, befBits, isRead, Nat.add_assoc, encX, hk20, hk21, hk22, hk23, fac2, fbc2, fz5c2, lt5, lq5, n15, n25, na5, nb5]
    · have hj0 : ¬ σ.n = s0.n := by omega
      have hj1 : ¬ σ.n + 1 = s0.n := by omega
      have hj2 : ¬ σ.n = s0.n + 1 := by omega
      have hj3 : ¬ σ.n + 1 = s0.n + 1 := by omega
      simp [dopsR_cons, opAt, isEff, again, befBits, isRead, Nat.add_assoc, hca, hcb, hj0, hj1, hj2, hj3]
      refine hma s0 _ fun s1 g1 => ?_
      have gn1 := g1.n
      have fac1 := g1.get hca (by omega)
      have fbc1 := g1.get hcb (by omega)
      have hk10 : ¬ σ.n = s1.n := by omega
      have hk11 : ¬ σ.n + 1 = s1.n := by omega
      have hk12 : ¬ σ.n = s1.n + 1 := by omega
      have hk13 : ¬ σ.n + 1 = s1.n + 1 := by omega
      simp [dopsR_cons, opAt, isEff, again, befBits, isRead, Nat.add_assoc, fac1, fbc1, hk10, hk11, hk12, hk13]
      obtain ⟨p5, hp5⟩ : ∃ p, p = s1.n := ⟨_, rfl⟩
      have gz5 : Grow s1 (s1.alloc (.cells [.complex .f64 0 0, .complex .f64 0 0] 68 false)) := (Grow.refl s1).alloc _
      have z5 : (s1.alloc (.cells [.complex .f64 0 0, .complex .f64 0 0] 68 false)).get p5 = some (.cells [.complex .f64 0 0, .complex .f64 0 0] 68 false) := ga_top (by omega)
      have nz5 : (s1.alloc (.cells [.complex .f64 0 0, .complex .f64 0 0] 68 false)).n = s1.n + 1 := by simp
      rw [← hp5]
      generalize s1.alloc (.cells [.complex .f64 0 0, .complex .f64 0 0] 68 false) = t5 at gz5 z5 nz5 ⊢
      have fa5 := gz5.get fac1 (by omega)
      have fb5 := gz5.get fbc1 (by omega)
      obtain ⟨p4, hp4⟩ : ∃ p, p = p5 + 1 := ⟨_, rfl⟩
      have gz4 : Grow t5 (t5.alloc (.cells [.complex .f64 0 0, .complex .f64 0 0] 68 false)) := (Grow.refl t5).alloc _
      have z4 : (t5.alloc (.cells [.complex .f64 0 0, .complex .f64 0 0] 68 false)).get p4 = some (.cells [.complex .f64 0 0, .complex .f64 0 0] 68 false) := ga_top (by omega)
      have nz4 : (t5.alloc (.cells [.complex .f64 0 0, .complex .f64 0 0] 68 false)).n = t5.n + 1 := by simp
      rw [← hp4]
      generalize t5.alloc (.cells [.complex .f64 0 0, .complex .f64 0 0] 68 false) = t4 at gz4 z4 nz4 ⊢
      have fa4 := gz4.get fa5 (by omega)
      have fb4 := gz4.get fb5 (by omega)
      have fz54 := gz4.get z5 (by omega)
      refine hmb t4 _ fun s2 g2 => ?_
      have gn2 := g2.n
      have fac2 := g2.get fa4 (by omega)
      have fbc2 := g2.get fb4 (by omega)
      have fz5c2 := g2.get fz54 (by omega)
      have fz4c2 := g2.get z4 (by omega)
      have hk20 : ¬ σ.n = s2.n := by omega
      have hk21 : ¬ σ.n + 1 = s2.n := by omega
      have hk22 : ¬ σ.n = s2.n + 1 := by omega
      have hk23 : ¬ σ.n + 1 = s2.n + 1 := by omega
      have hl24 : ¬ p4 = s2.n := by omega
      have hl25 : ¬ p5 = s2.n := by omega
      have lt4 : p4 < s2.n := by omega
      have lq4 : p4 < s2.n + 1 := by omega
      have n14 : ¬ p4 = s2.n := by omega
      have n24 : ¬ s2.n = p4 := by omega
      have lt5 : p5 < s2.n := by omega
      have lq5 : p5 < s2.n + 1 := by omega
      have n15 : ¬ p5 = s2.n := by omega
      have n25 : ¬ s2.n = p5 := by omega
      have na4 : ¬ σ.n = p4 := by omega
      have nb4 : ¬ σ.n + 1 = p4 := by omega
      have na5 : ¬ σ.n = p5 := by omega
      have nb5 : ¬ σ.n + 1 = p5 := by omega
      have ne1 : ¬ p4 = p5 := by omega
      have ne2 : ¬ p5 = p4 := by omega
      simp [dopsR_cons, opAt, isEff, again, befBits, isRead, Nat.add_assoc, encX, hk20, hk21, hk22, hk23, fac2, fbc2, fz5c2, fz4c2, lt4, lq4, n14, n24, lt5, lq5, n15, n25, na4, nb4, na5, nb5, ne1, ne2]
    · have hj0 : ¬ σ.n = s0.n := by omega
      have hj1 : ¬ σ.n + 1 = s0.n := by omega
      have hj2 : ¬ σ.n = s0.n + 1 := by omega
      have hj3 : ¬ σ.n + 1 = s0.n + 1 := by omega
      simp [dopsR_cons, opAt, isEff, again, befBits, isRead, Nat.add_assoc, hca, hcb, hj0, hj1, hj2, hj3]
      obtain ⟨p4, hp4⟩ : ∃ p, p = s0.n := ⟨_, rfl⟩
      have gz4 : Grow s0 (s0.alloc (.cells [.complex .f64 0 0, .complex .f64 0 0] 68 false)) := (Grow.refl s0).alloc _
      have z4 : (s0.alloc (.cells [.complex .f64 0 0, .complex .f64 0 0] 68 false)).get p4 = some (.cells [.complex .f64 0 0, .complex .f64 0 0] 68 false) := ga_top (by omega)
      have nz4 : (s0.alloc (.cells [.complex .f64 0 0, .complex .f64 0 0] 68 false)).n = s0.n + 1 := by simp
      rw [← hp4]
      generalize s0.alloc (.cells [.complex .f64 0 0, .complex .f64 0 0] 68 false) = t4 at gz4 z4 nz4 ⊢
      have fa4 := gz4.get hca (by omega)
      have fb4 := gz4.get hcb (by omega)
      refine hma t4 _ fun s1 g1 => ?_
      have gn1 := g1.n
      have fac1 := g1.get fa4 (by omega)
      have fbc1 := g1.get fb4 (by omega)
      have fz4c1 := g1.get z4 (by omega)
      have hk10 : ¬ σ.n = s1.n := by omega
      have hk11 : ¬ σ.n + 1 = s1.n := by omega
      have hk12 : ¬ σ.n = s1.n + 1 := by omega
      have hk13 : ¬ σ.n + 1 = s1.n + 1 := by omega
      have hl14 : ¬ p4 = s1.n := by omega
      simp [dopsR_cons, opAt, isEff, again, befBits, isRead, Nat.add_assoc, fac1, fbc1, fz4c1, hk10, hk11, hk12, hk13, hl14]
      refine hmb s1 _ fun s2 g2 => ?_
      have gn2 := g2.n
      have fac2 := g2.get fac1 (by omega)
      have fbc2 := g2.get fbc1 (by omega)
      have fz4c2 := g2.get fz4c1 (by omega)
      have hk20 : ¬ σ.n = s2.n := by omega
      have hk21 : ¬ σ.n + 1 = s2.n := by omega
      have hk22 : ¬ σ.n = s2.n + 1 := by omega
      have hk23 : ¬ σ.n + 1 = s2.n + 1 := by omega
      have hl24 : ¬ p4 = s2.n := by omega
      have lt4 : p4 < s2.n := by omega
      have lq4 : p4 < s2.n + 1 := by omega
      have n14 : ¬ p4 = s2.n := by omega
      have n24 : ¬ s2.n = p4 := by omega
      have na4 : ¬ σ.n = p4 := by omega
      have nb4 : ¬ σ.n + 1 = p4 := by omega
      simp [dopsR_cons, opAt, isEff, again, befBits, isRead, Nat.add_assoc, encX, hk20, hk21, hk22, hk23, fac2, fbc2, fz4c2, lt4, lq4, n14, n24, na4, nb4]
    · have hj0 : ¬ σ.n = s0.n := by omega
      have hj1 : ¬ σ.n + 1 = s0.n := by omega
      have hj2 : ¬ σ.n = s0.n + 1 := by omega
      have hj3 : ¬ σ.n + 1 = s0.n + 1 := by omega
      simp [dopsR_cons, opAt, isEff, again, befBits, isRead, Nat.add_assoc, hca, hcb, hj0, hj1, hj2, hj3]
      obtain ⟨p4, hp4⟩ : ∃ p, p = s0.n := ⟨_, rfl⟩
      have gz4 : Grow s0 (s0.alloc (.cells [.complex .f64 0 0, .complex .f64 0 0] 68 false)) := (Grow.refl s0).alloc _
      have z4 : (s0.alloc (.cells [.complex .f64 0 0, .complex .f64 0 0] 68 false)).get p4 = some (.cells [.complex .f64 0 0, .complex .f64 0 0] 68 false) := ga_top (by omega)
      have nz4 : (s0.alloc (.cells [.complex .f64 0 0, .complex .f64 0 0] 68 false)).n = s0.n + 1 := by simp
      rw [← hp4]
      generalize s0.alloc (.cells [.complex .f64 0 0, .complex .f64 0 0] 68 false) = t4 at gz4 z4 nz4 ⊢
      have fa4 := gz4.get hca (by omega)
      have fb4 := gz4.get hcb (by omega)
      refine hma t4 _ fun s1 g1 => ?_
      have gn1 := g1.n
      have fac1 := g1.get fa4 (by omega)
      have fbc1 := g1.get fb4 (by omega)
      have fz4c1 := g1.get z4 (by omega)
      have hk10 : ¬ σ.n = s1.n := by omega
      have hk11 : ¬ σ.n + 1 = s1.n := by omega
      have hk12 : ¬ σ.n = s1.n + 1 := by omega
      have hk13 : ¬ σ.n + 1 = s1.n + 1 := by omega
      have hl14 : ¬ p4 = s1.n := by omega
      simp [dopsR_cons, opAt, isEff, again, befBits, isRead, Nat.add_assoc, fac1, fbc1, fz4c1, hk10, hk11, hk12, hk13, hl14]
      obtain ⟨p5, hp5⟩ : ∃ p, p = s1.n := ⟨_, rfl⟩
      have gz5 : Grow s1 (s1.alloc (.cells [.complex .f64 0 0, .complex .f64 0 0] 68 false)) := (Grow.refl s1).alloc _
      have z5 : (s1.alloc (.cells [.complex .f64 0 0, .complex .f64 0 0] 68 false)).get p5 = some (.cells [.complex .f64 0 0, .complex .f64 0 0] 68 false) := ga_top (by omega)
      have nz5 : (s1.alloc (.cells [.complex .f64 0 0, .complex .f64 0 0] 68 false)).n = s1.n + 1 := by simp
      rw [← hp5]
      generalize s1.alloc (.cells [.complex .f64 0 0, .complex .f64 0 0] 68 false) = t5 at gz5 z5 nz5 ⊢
      have fa5 := gz5.get fac1 (by omega)
      have fb5 := gz5.get fbc1 (by omega)
      have fz45 := gz5.get fz4c1 (by omega)
      refine hmb t5 _ fun s2 g2 => ?_
      have gn2 := g2.n
      have fac2 := g2.get fa5 (by omega)
      have fbc2 := g2.get fb5 (by omega)
      have fz4c2 := g2.get fz45 (by omega)
      have fz5c2 := g2.get z5 (by omega)
      have hk20 : ¬ σ.n = s2.n := by omega
      have hk21 : ¬ σ.n + 1 = s2.n := by omega
      have hk22 : ¬ σ.n = s2.n + 1 := by omega
      have hk23 : ¬ σ.n + 1 = s2.n + 1 := by omega
      have hl24 : ¬ p4 = s2.n := by omega
      have hl25 : ¬ p5 = s2.n := by omega
      have lt4 : p4 < s2.n := by omega
      have lq4 : p4 < s2.n + 1 := by omega
      have n14 : ¬ p4 = s2.n := by omega
      have n24 : ¬ s2.n = p4 := by omega
      have lt5 : p5 < s2.n := by omega
      have lq5 : p5 < s2.n + 1 := by omega
      have n15 : ¬ p5 = s2.n := by omega
      have n25 : ¬ s2.n = p5 := by omega
      have na4 : ¬ σ.n = p4 := by omega
      have nb4 : ¬ σ.n + 1 = p4 := by omega
      have na5 : ¬ σ.n = p5 := by omega
      have nb5 : ¬ σ.n + 1 = p5 := by omega
      have ne1 : ¬ p4 = p5 := by omega
      have ne2 : ¬ p5 = p4 := by omega
      simp [dopsR_cons, opAt, isEff, again, befBits, isRead, Nat.add_assoc, encX, hk20, hk21, hk22, hk23, fac2, fbc2, fz4c2, fz5c2, lt4, lq4, n14, n24, lt5, lq5, n15, n25, na4, nb4, na5, nb5, ne1, ne2]
    · have hj0 : ¬ σ.n = s0.n := by omega
      have hj1 : ¬ σ.n + 1 = s0.n := by omega
      have hj2 : ¬ σ.n = s0.n + 1 := by omega
      have hj3 : ¬ σ.n + 1 = s0.n + 1 := by omega
      simp [dopsR_cons, opAt, isEff, again, befBits, isRead, Nat.add_assoc, hca, hcb, hj0, hj1, hj2, hj3]
      obtain ⟨p4, hp4⟩ : ∃ p, p = s0.n := ⟨_, rfl⟩
      have gz4 : Grow s0 (s0.alloc (.cells [.complex .f64 0 0, .complex .f64 0 0] 68 false)) := (Grow.refl s0).alloc _
      have z4 : (s0.alloc (.cells [.complex .f64 0 0, .complex .f64 0 0] 68 false)).get p4 = some (.cells [.complex .f64 0 0, .complex .f64 0 0] 68 false) := ga_top (by omega)
      have nz4 : (s0.alloc (.cells [.complex .f64 0 0, .complex .f64 0 0] 68 false)).n = s0.n + 1 := by simp
      rw [← hp4]
      generalize s0.alloc (.cells [.complex .f64 0 0, .complex .f64 0 0] 68 false) = t4 at gz4 z4 nz4 ⊢
      have fa4 := gz4.get hca (by omega)
      have fb4 := gz4.get hcb (by omega)
      obtain ⟨p5, hp5⟩ : ∃ p, p = p4 + 1 := ⟨_, rfl⟩
      have gz5 : Grow t4 (t4.alloc (.cells [.complex .f64 0 0, .complex .f64 0 0] 68 false)) := (Grow.refl t4).alloc _
      have z5 : (t4.alloc (.cells [.complex .f64 0 0, .complex .f64 0 0] 68 false)).get p5 = some (.cells [.complex .f64 0 0, .complex .f64 0 0] 68 false) := ga_top (by omega)
      have nz5 : (t4.alloc (.cells [.complex .f64 0 0, .complex .f64 0 0] 68 false)).n = t4.n + 1 := by simp
      rw [← hp5]
      generalize t4.alloc (.cells [.complex .f64 0 0, .complex .f64 0 0] 68 false) = t5 at gz5 z5 nz5 ⊢
      have fa5 := gz5.get fa4 (by omega)
      have fb5 := gz5.get fb4 (by omega)
      have fz45 := gz5.get z4 (by omega)
      refine hma t5 _ fun s1 g1 => ?_
      have gn1 := g1.n
      have fac1 := g1.get fa5 (by omega)
      have fbc1 := g1.get fb5 (by omega)
      have fz4c1 := g1.get fz45 (by omega)
      have fz5c1 := g1.get z5 (by omega)
      have hk10 : ¬ σ.n = s1.n := by omega
      have hk11 : ¬ σ.n + 1 = s1.n := by omega
      have hk12 : ¬ σ.n = s1.n + 1 := by omega
      have hk13 : ¬ σ.n + 1 = s1.n + 1 := by omega
      have hl14 : ¬ p4 = s1.n := by omega
      have hl15 : ¬ p5 = s1.n := by omega
      simp [dopsR_cons, opAt, isEff, again, befBits, isRead, Nat.add_assoc, fac1, fbc1, fz4c1, fz5c1, hk10, hk11, hk12, hk13, hl14, hl15]
      refine hmb s1 _ fun s2 g2 => ?_
      have gn2 := g2.n
      have fac2 := g2.get fac1 (by omega)
      have fbc2 := g2.get fbc1 (by omega)
      have fz4c2 := g2.get fz4c1 (by omega)
      have fz5c2 := g2.get fz5c1 (by omega)
      have hk20 : ¬ σ.n = s2.n := by omega
      have hk21 : ¬ σ.n + 1 = s2.n := by omega
      have hk22 : ¬ σ.n = s2.n + 1 := by omega
      have hk23 : ¬ σ.n + 1 = s2.n + 1 := by omega
      have hl24 : ¬ p4 = s2.n := by omega
      have hl25 : ¬ p5 = s2.n := by omega
      have lt4 : p4 < s2.n := by omega
      have lq4 : p4 < s2.n + 1 := by omega
      have n14 : ¬ p4 = s2.n := by omega
      have n24 : ¬ s2.n = p4 := by omega
      have lt5 : p5 < s2.n := by omega
      have lq5 : p5 < s2.n + 1 := by omega
      have n15 : ¬ p5 = s2.n := by omega
      have n25 : ¬ s2.n = p5 := by omega
      have na4 : ¬ σ.n = p4 := by omega
      have nb4 : ¬ σ.n + 1 = p4 := by omega
      have na5 : ¬ σ.n = p5 := by omega
      have nb5 : ¬ σ.n + 1 = p5 := by omega
      have ne1 : ¬ p4 = p5 := by omega
      have ne2 : ¬ p5 = p4 := by omega
      simp [dopsR_cons, opAt, isEff, again, befBits, isRead, Nat.add_assoc, encX, hk20, hk21, hk22, hk23, fac2, fbc2, fz4c2, fz5c2, lt4, lq4, n14, n24, lt5, lq5, n15, n25, na4, nb4, na5, nb5, ne1, ne2]
    · have hj0 : ¬ σ.n = s0.n := by omega
      have hj1 : ¬ σ.n + 1 = s0.n := by omega
      have hj2 : ¬ σ.n = s0.n + 1 := by omega
      have hj3 : ¬ σ.n + 1 = s0.n + 1 := by omega
      simp [dopsR_cons, opAt, isEff, again, befBits, isRead, Nat.add_assoc, hca, hcb, hj0, hj1, hj2, hj3]
      obtain ⟨p5, hp5⟩ : ∃ p, p = s0.n := ⟨_, rfl⟩
      have gz5 : Grow s0 (s0.alloc (.cells [.complex .f64 0 0, .complex .f64 0 0] 68 false)) := (Grow.refl s0).alloc _
      have z5 : (s0.alloc (.cells [.complex .f64 0 0, .complex .f64 0 0] 68 false)).get p5 = some (.cells [.complex .f64 0 0, .complex .f64 0 0] 68 false) := ga_top (by omega)
      have nz5 : (s0.alloc (.cells [.complex .f64 0 0, .complex .f64 0 0] 68 false)).n = s0.n + 1 := by simp
      rw [← hp5]
      generalize s0.alloc (.cells [.complex .f64 0 0, .complex .f64 0 0] 68 false) = t5 at gz5 z5 nz5 ⊢
      have fa5 := gz5.get hca (by omega)
      have fb5 := gz5.get hcb (by omega)
      refine hma t5 _ fun s1 g1 => ?_
      have gn1 := g1.n
      have fac1 := g1.get fa5 (by omega)
      have fbc1 := g1.get fb5 (by omega)
      have fz5c1 := g1.get z5 (by omega)
      have hk10 : ¬ σ.n = s1.n := by omega
      have hk11 : ¬ σ.n + 1 = s1.n := by omega
      have hk12 : ¬ σ.n = s1.n + 1 := by omega
      have hk13 : ¬ σ.n + 1 = s1.n + 1 := by omega
      have hl15 : ¬ p5 = s1.n := by omega
      simp [dopsR_cons, opAt, isEff, again, befBits, isRead, Nat.add_assoc, fac1, fbc1, fz5c1, hk10, hk11, hk12, hk13, hl15]
      refine hmb s1 _ fun s2 g2 => ?_
      have gn2 := g2.n
      have fac2 := g2.get fac1 (by omega)
      have fbc2 := g2.get fbc1 (by omega)
      have fz5c2 := g2.get fz5c1 (by omega)
      have hk20 : ¬ σ.n = s2.n := by omega
      have hk21 : ¬ σ.n + 1 = s2.n := by omega
      have hk22 : ¬ σ.n = s2.n + 1 := by omega
      have hk23 : ¬ σ.n + 1 = s2.n + 1 := by omega
      have hl25 : ¬ p5 = s2.n := by omega
      have lt5 : p5 < s2.n := by omega
      have lq5 : p5 < s2.n + 1 := by omega
      have n15 : ¬ p5 = s2.n := by omega
      have n25 : ¬ s2.n = p5 := by omega
      have na5 : ¬ σ.n = p5 := by omega
      have nb5 : ¬ σ.n + 1 = p5 := by omega
      simp [dopsR_cons, opAt, isEff, again, befBits, isRead, Nat.add_assoc, encX, hk20, hk21, hk22, hk23, fac2, fbc2, fz5c2, lt5, lq5, n15, n25, na5, nb5]
    · have hj0 : ¬ σ.n = s0.n := by omega
      have hj1 : ¬ σ.n + 1 = s0.n := by omega
      have hj2 : ¬ σ.n = s0.n + 1 := by omega
      have hj3 : ¬ σ.n + 1 = s0.n + 1 := by omega
      simp [dopsR_cons, opAt, isEff, again, befBits, isRead, Nat.add_assoc, hca, hcb, hj0, hj1, hj2, hj3]
      obtain ⟨p5, hp5⟩ : ∃ p, p = s0.n := ⟨_, rfl⟩
      have gz5 : Grow s0 (s0.alloc (.cells [.complex .f64 0 0, .complex .f64 0 0] 68 false)) := (Grow.refl s0).alloc _
      have z5 : (s0.alloc (.cells [.complex .f64 0 0, .complex .f64 0 0] 68 false)).get p5 = some (.cells [.complex .f64 0 0, .complex .f64 0 0] 68 false) := ga_top (by omega)
      have nz5 : (s0.alloc (.cells [.complex .f64 0 0, .complex .f64 0 0] 68 false)).n = s0.n + 1 := by simp
      rw [← hp5]
      generalize s0.alloc (.cells [.complex .f64 0 0, .complex .f64 0 0] 68 false) = t5 at gz5 z5 nz5 ⊢
      have fa5 := gz5.get hca (by omega)
      have fb5 := gz5.get hcb (by omega)
      refine hma t5 _ fun s1 g1 => ?_
      have gn1 := g1.n
      have fac1 := g1.get fa5 (by omega)
      have fbc1 := g1.get fb5 (by omega)
      have fz5c1 := g1.get z5 (by omega)
      have hk10 : ¬ σ.n = s1.n := by omega
      have hk11 : ¬ σ.n + 1 = s1.n := by omega
      have hk12 : ¬ σ.n = s1.n + 1 := by omega
      have hk13 : ¬ σ.n + 1 = s1.n + 1 := by omega
      have hl15 : ¬ p5 = s1.n := by omega
      simp [dopsR_cons, opAt, isEff, again, befBits, isRead, Nat.add_assoc, fac1, fbc1, fz5c1, hk10, hk11, hk12, hk13, hl15]
      obtain ⟨p4, hp4⟩ : ∃ p, p = s1.n := ⟨_, rfl⟩
      have gz4 : Grow s1 (s1.alloc (.cells [.complex .f64 0 0, .complex .f64 0 0] 68 false)) := (Grow.refl s1).alloc _
      have z4 : (s1.alloc (.cells [.complex .f64 0 0, .complex .f64 0 0] 68 false)).get p4 = some (.cells [.complex .f64 0 0, .complex .f64 0 0] 68 false) := ga_top (by omega)
      have nz4 : (s1.alloc (.cells [.complex .f64 0 0, .complex .f64 0 0] 68 false)).n = s1.n + 1 := by simp
      rw [← hp4]
      generalize s1.alloc (.cells [.complex .f64 0 0, .complex .f64 0 0] 68 false) = t4 at gz4 z4 nz4 ⊢
      have fa4 := gz4.get fac1 (by omega)
      have fb4 := gz4.get fbc1 (by omega)
      have fz54 := gz4.get fz5c1 (by omega)
      refine hmb t4 _ fun s2 g2 => ?_
      have gn2 := g2.n
      have fac2 := g2.get fa4 (by omega)
      have fbc2 := g2.get fb4 (by omega)
      have fz5c2 := g2.get fz54 (by omega)
      have fz4c2 := g2.get z4 (by omega)
      have hk20 : ¬ σ.n = s2.n := by omega
      have hk21 : ¬ σ.n + 1 = s2.n := by omega
      have hk22 : ¬ σ.n = s2.n + 1 := by omega
      have hk23 : ¬ σ.n + 1 = s2.n + 1 := by omega
      have hl24 : ¬ p4 = s2.n := by omega
      have hl25 : ¬ p5 = s2.n := by omega
      have lt4 : p4 < s2.n := by omega
      have lq4 : p4 < s2.n + 1 := by omega
      have n14 : ¬ p4 = s2.n := by omega
      have n24 : ¬ s2.n = p4 := by omega
      have lt5 : p5 < s2.n := by omega
      have lq5 : p5 < s2.n + 1 := by omega
      have n15 : ¬ p5 = s2.n := by omega
      have n25 : ¬ s2.n = p5 := by omega
      have na4 : ¬ σ.n = p4 := by omega
      have nb4 : ¬ σ.n + 1 = p4 := by omega
      have na5 : ¬ σ.n = p5 := by omega
      have nb5 : ¬ σ.n + 1 = p5 := by omega
      have ne1 : ¬ p4 = p5 := by omega
      have ne2 : ¬ p5 = p4 := by omega
      simp [dopsR_cons, opAt, isEff, again, befBits, isRead, Nat.add_assoc, encX, hk20, hk21, hk22, hk23, fac2, fbc2, fz5c2, fz4c2, lt4, lq4, n14, n24, lt5, lq5, n15, n25, na4, nb4, na5, nb5, ne1, ne2]
    · have hj0 : ¬ σ.n = s0.n := by omega
      have hj1 : ¬ σ.n + 1 = s0.n := by omega
      have hj2 : ¬ σ.n = s0.n + 1 := by omega
      have hj3 : ¬ σ.n + 1 = s0.n + 1 := by omega
      simp [dopsR_cons, opAt, isEff, again, befBits, isRead, Nat.add_assoc, hca, hcb, hj0, hj1, hj2, hj3]
      obtain ⟨p5, hp5⟩ : ∃ p, p = s0.n := ⟨_, rfl⟩
      have gz5 : Grow s0 (s0.alloc (.cells [.complex .f64 0 0, .complex .f64 0 0] 68 false)) := (Grow.refl s0).alloc _
      have z5 : (s0.alloc (.cells [.complex .f64 0 0, .complex .f64 0 0] 68 false)).get p5 = some (.cells [.complex .f64 0 0, .complex .f64 0 0] 68 false) := ga_top (by omega)
      have nz5 : (s0.alloc (.cells [.complex .f64 0 0, .complex .f64 0 0] 68 false)).n = s0.n + 1 := by simp
      rw [← hp5]
      generalize s0.alloc (.cells [.complex .f64 0 0, .complex .f64 0 0] 68 false) = t5 at gz5 z5 nz5 ⊢
      have fa5 := gz5.get hca (by omega)
      have fb5 := gz5.get hcb (by omega)
      obtain ⟨p4, hp4⟩ : ∃ p, p = p5 + 1 := ⟨_, rfl⟩
      have gz4 : Grow t5 (t5.alloc (.cells [.complex .f64 0 0, .complex .f64 0 0] 68 false)) := (Grow.refl t5).alloc _
      have z4 : (t5.alloc (.cells [.complex .f64 0 0, .complex .f64 0 0] 68 false)).get p4 = some (.cells [.complex .f64 0 0, .complex .f64 0 0] 68 false) := ga_top (by omega)
      have nz4 : (t5.alloc (.cells [.complex .f64 0 0, .complex .f64 0 0] 68 false)).n = t5.n + 1 := by simp
      rw [← hp4]
      generalize t5.alloc (.cells [.complex .f64 0 0, .complex .f64 0 0] 68 false) = t4 at gz4 z4 nz4 ⊢
      have fa4 := gz4.get fa5 (by omega)
      have fb4 := gz4.get fb5 (by omega)
      have fz54 := gz4.get z5 (by omega)
      refine hma t4 _ fun s1 g1 => ?_
      have gn1 := g1.n
      have fac1 := g1.get fa4 (by omega)
      have fbc1 := g1.get fb4 (by omega)
      have fz5c1 := g1.get fz54 (by omega)
      have fz4c1 := g1.get z4 (by omega)
      have hk10 : ¬ σ.n = s1.n := by omega
      have hk11 : ¬ σ.n + 1 = s1.n := by omega
      have hk12 : ¬ σ.n = s1.n + 1 := by omega
      have hk13 : ¬ σ.n + 1 = s1.n + 1 := by omega
      have hl14 : ¬ p4 = s1.n := by omega
      have hl15 : ¬ p5 = s1.n := by omega
      simp [dopsR_cons, opAt, isEff, again, befBits, isRead, Nat.add_assoc, fac1, fbc1, fz5c1, fz4c1, hk10, hk11, hk12, hk13, hl14, hl15]
      refine hmb s1 _ fun s2 g2 => ?_
      have gn2 := g2.n
      have fac2 := g2.get fac1 (by omega)
      have fbc2 := g2.get fbc1 (by omega)
      have fz5c2 := g2.get fz5c1 (by omega)
      have fz4c2 := g2.get fz4c1 (by omega)
      have hk20 : ¬ σ.n = s2.n := by omega
      have hk21 : ¬ σ.n + 1 = s2.n := by omega
      have hk22 : ¬ σ.n = s2.n + 1 := by omega
      have hk23 : ¬ σ.n + 1 = s2.n + 1 := by omega
      have hl24 : ¬ p4 = s2.n := by omega
      have hl25 : ¬ p5 = s2.n := by omega
      have lt4 : p4 < s2.n := by omega
      have lq4 : p4 < s2.n + 1 := by omega
      have n14 : ¬ p4 = s2.n := by omega
      have n24 : ¬ s2.n = p4 := by omega
      have lt5 : p5 < s2.n := by omega
      have lq5 : p5 < s2.n + 1 := by omega
      have n15 : ¬ p5 = s2.n := by omega
      have n25 : ¬ s2.n = p5 := by omega
      have na4 : ¬ σ.n = p4 := by omega
      have nb4 : ¬ σ.n + 1 = p4 := by omega
      have na5 : ¬ σ.n = p5 := by omega
      have nb5 : ¬ σ.n + 1 = p5 := by omega
      have ne1 : ¬ p4 = p5 := by omega
      have ne2 : ¬ p5 = p4 := by omega
      simp [dopsR_cons, opAt, isEff, again, befBits, isRead, Nat.add_assoc, encX, hk20, hk21, hk22, hk23, fac2, fbc2, fz5c2, fz4c2, lt4, lq4, n14, n24, lt5, lq5, n15, n25, na4, nb4, na5, nb5, ne1, ne2]
  · rintro out s ⟨tm, q5, q6, rfl, e5, e6, h5, h6, i5, i6⟩
    obtain ⟨Z, hZ⟩ : ∃ Z, Z = (if mtok x y then mt x y else zX) := ⟨_, rfl⟩
    have hmxy := bmeet_spec x y hxo hyo
    have hmxx := bmeet_spec x x hxo hxo
    have hmyx := bmeet_spec y x hyo hxo
    have hxx : mtok x x = true := by
      unfold mtok
      rw [mt_self]
      exact decide_eq_true hxl
    rw [mtok_comm y x, mt_comm y x] at hmyx
    rw [hxx, mt_self, if_pos rfl] at hmxx
    rw [← hZ] at hmxy hmyx
    have hZo : Z.ok := by
      rw [hZ]
      split
      · exact mt_ok hxo hyo
      · simp only [Bx.ok, zX]; omega
    have bxx := fun σ o o' => (bin_box x x hxo hxo σ o o').1
    have bzz := fun σ o o' => (bin_box Z Z hZo hZo σ o o').1
    simp only [encX] at h5 h6 hmxy hmxx hmyx bxx bzz
    simp [wops_cons, e5, e6, h5, h6]
    refine hmxy s _ fun s1 g1 => ?_
    have k5 := g1.get h5 i5
    have k6 := g1.get h6 i6
    have gn1 := g1.n
    have gA : Grow s1 ((s1.alloc (.cells [.complex .f64 0 0, .complex .f64 0 0] 68 false)).put s1.n (.cells (encX Z) 68 false)) := ((Grow.refl s1).alloc _).put (Nat.le_refl _) _
    have hA : ((s1.alloc (.cells [.complex .f64 0 0, .complex .f64 0 0] 68 false)).put s1.n (.cells (encX Z) 68 false)).get s1.n = some (.cells (encX Z) 68 false) := by simp
    have nA : ((s1.alloc (.cells [.complex .f64 0 0, .complex .f64 0 0] 68 false)).put s1.n (.cells (encX Z) 68 false)).n = s1.n + 1 := by simp
    simp only [encX] at gA hA nA
    simp [wops_cons, e5, e6, k5, k6, -W_region]
    rw [W_region]
    generalize (s1.alloc (.cells [.complex .f64 0 0, .complex .f64 0 0] 68 false)).put s1.n (.cells [.complex .f64 (fl Z.x0) (fl Z.y0), .complex .f64 (fl Z.x1) (fl Z.y1)] 68 false) = s2 at gA hA nA ⊢
    have gn2 := gA.n
    have k52 := gA.get k5 (by omega)
    have k62 := gA.get k6 (by omega)
    simp [wops_cons, e5, e6, k52, k62]
    refine hmxx s2 _ fun s3 g3 => ?_
    have gn3 := g3.n
    have k53 := g3.get k52 (by omega)
    have k63 := g3.get k62 (by omega)
    have k73 := g3.get hA (by omega)
    have gB : Grow s3 ((s3.alloc (.cells [.complex .f64 0 0, .complex .f64 0 0] 68 false)).put s3.n (.cells (encX x) 68 false)) := ((Grow.refl s3).alloc _).put (Nat.le_refl _) _
    have hB : ((s3.alloc (.cells [.complex .f64 0 0, .complex .f64 0 0] 68 false)).put s3.n (.cells (encX x) 68 false)).get s3.n = some (.cells (encX x) 68 false) := by simp
    have nB : ((s3.alloc (.cells [.complex .f64 0 0, .complex .f64 0 0] 68 false)).put s3.n (.cells (encX x) 68 false)).n = s3.n + 1 := by simp
    simp only [encX] at gB hB nB
    simp [wops_cons, e5, e6, -W_region]
    rw [W_region]
    generalize (s3.alloc (.cells [.complex .f64 0 0, .complex .f64 0 0] 68 false)).put s3.n (.cells [.complex .f64 (fl x.x0) (fl x.y0), .complex .f64 (fl x.x1) (fl x.y1)] 68 false) = s4 at gB hB nB ⊢
    have k54 := gB.get k53 (by omega)
    have k64 := gB.get k63 (by omega)
    have k74 := gB.get k73 (by omega)
    simp [wops_cons, e5, e6, k54, k64]
    refine hmyx s4 _ fun s5 g5 => ?_
    have gn5 := g5.n
    have k55 := g5.get k54 (by omega)
    have k65 := g5.get k64 (by omega)
    have k75 := g5.get k74 (by omega)
    have k95 := g5.get hB (by omega)
    have gC : Grow s5 ((s5.alloc (.cells [.complex .f64 0 0, .complex .f64 0 0] 68 false)).put s5.n (.cells (encX Z) 68 false)) := ((Grow.refl s5).alloc _).put (Nat.le_refl _) _
    have hC : ((s5.alloc (.cells [.complex .f64 0 0, .complex .f64 0 0] 68 false)).put s5.n (.cells (encX Z) 68 false)).get s5.n = some (.cells (encX Z) 68 false) := by simp
    have nC : ((s5.alloc (.cells [.complex .f64 0 0, .complex .f64 0 0] 68 false)).put s5.n (.cells (encX Z) 68 false)).n = s5.n + 1 := by simp
    simp only [encX] at gC hC nC
    simp [wops_cons, e5, e6, -W_region]
    generalize (s5.alloc (.cells [.complex .f64 0 0, .complex .f64 0 0] 68 false)).put s5.n (.cells [.complex .f64 (fl Z.x0) (fl Z.y0), .complex .f64 (fl Z.x1) (fl Z.y1)] 68 false) = s6 at gC hC nC ⊢
    have k56 := gC.get k55 (by omega)
    have k66 := gC.get k65 (by omega)
    have k76 := gC.get k75 (by omega)
    have k96 := gC.get k95 (by omega)
    refine W_drawn (l := [0, 1, 2, 3, 4, 5, 6, 7, 8, 9, 10, 11, 12, 13, 14, 15, 16, 17, 18, 19, 20, 21, 22, 23, 24, 26, 28, 25, 27, 29, 30, 31, 32, 33, 34, 35]) (b := #[0, 1, 3, 3, 15, 31, 63, 127, 127, 511, 1023, 2047, 4095, 4095, 16383, 32767, 65535, 131071, 262143, 524287, 1048575, 2097151, 4194303, 8388607, 16777215, 33554431, 16777215, 134217727, 16777215, 536870911, 1073741823, 2147483647, 4294967295, 8589934591, 17179869183, 34359738367]) (by kernel_rfl) (by kernel_rfl) (by kernel_rfl) ?_
    cases hmo : mtok x y with
    | false =>
      simp [dopsR_cons, wops_cons, dstOf, opAt, isEff, again, befBits, isRead, Nat.add_assoc, e5, e6, k56, k66, k76, k96, hC, bxx, bzz, bin_booleq Tryz.underlying4, isTrueP]
      repeat (rw [dopsR_if (by rfl) (by simp [dstOf])]; simp [dopsR_cons, wops_cons, dstOf, opAt, isEff, again, befBits, isRead, Nat.add_assoc, e5, e6, k56, k66, k76, k96, hC, bxx, bzz, bin_booleq Tryz.underlying4, isTrueP])
    | true =>
      have hZm : Z = mt x y := by rw [hZ, if_pos hmo]
      have hml := of_decide_eq_true hmo
      have hcz := cells_spec Z hZo (by rw [hZm]; exact hml)
      have hcx := cells_spec x hxo hxl
      have hcy := cells_spec y hyo hyl
      have rz := cells_rng (a := Z) (by rw [hZm]; exact hml) hZo
      have rx := cells_rng hxl hxo
      have ry := cells_rng hyl hyo
      have hle := cells_mt hmo
      rw [← hZm] at hle
      simp only [encX] at hcz hcx hcy
      have f1 : ∀ {P : Program} {σ : CSt} {t : TypeId} {o o' : Operand}, binF P σ .geq t o o' (.float .f64 (fl (cellsX Z))) (.float .f64 4607182418800017408) = .val (.bool (decide (1 ≤ cellsX Z))) σ := by
        intro P σ t o o'
        have := bin_fgeq (P := P) (σ := σ) (t := t) (x := o) (y := o') (a := cellsX Z) (b := 1) (by omega) (by decide)
        rw [fl_one] at this
        exact this
      have f2 : ∀ {f : OpR} {σ : CSt}, minF f σ (.float .f64 (fl (cellsX x))) (.float .f64 (fl (cellsX y))) = .val (.float .f64 (fl (min (cellsX x) (cellsX y)))) σ := minF_fl (by omega) (by omega)
      have f3 : ∀ {P : Program} {σ : CSt} {t : TypeId} {o o' : Operand}, binF P σ .leq t o o' (.float .f64 (fl (cellsX Z))) (.float .f64 (fl (min (cellsX x) (cellsX y)))) = .val (.bool (decide (cellsX Z ≤ min (cellsX x) (cellsX y)))) σ := bin_fleq (by omega) (by omega)
      have c1 : 1 ≤ cellsX Z := rz.1
      have c2 : cellsX Z ≤ min (cellsX x) (cellsX y) := by omega
      simp [dopsR_cons, wops_cons, dstOf, opAt, isEff, again, befBits, isRead, Nat.add_assoc, e5, e6, k56, k66, k76, k96, hC, bxx, bzz, bin_booleq Tryz.underlying4, isTrueP, c1, c2, f1, f2, f3, -callOp_min, callOp_minF]
      repeat (rw [dopsR_if (by rfl) (by simp [dstOf])]; simp [dopsR_cons, wops_cons, dstOf, opAt, isEff, again, befBits, isRead, Nat.add_assoc, e5, e6, k56, k66, k76, k96, hC, bxx, bzz, bin_booleq Tryz.underlying4, isTrueP, c1, c2, f1, f2, f3, -callOp_min, callOp_minF])
      refine hcz s6 _ fun s7 g7 => ?_
      have gn7 := g7.n
      have mq5A := g7.get k56 (by omega)
      have mq6A := g7.get k66 (by omega)
      have mz7A := g7.get k76 (by omega)
      have mx9A := g7.get k96 (by omega)
      have mzCA := g7.get hC (by omega)
      simp [dopsR_cons, wops_cons, dstOf, opAt, isEff, again, befBits, isRead, Nat.add_assoc, e5, e6, mq5A, mq6A, mz7A, mx9A, mzCA, bxx, bzz, bin_booleq Tryz.underlying4, isTrueP, c1, c2, f1, f2, f3, -callOp_min, callOp_minF]
      repeat (rw [dopsR_if (by rfl) (by simp [dstOf])]; simp [dopsR_cons, wops_cons, dstOf, opAt, isEff, again, befBits, isRead, Nat.add_assoc, e5, e6, mq5A, mq6A, mz7A, mx9A, mzCA, bxx, bzz, bin_booleq Tryz.underlying4, isTrueP, c1, c2, f1, f2, f3, -callOp_min, callOp_minF])
      refine hcz s7 _ fun s8 g8 => ?_
      have gn8 := g8.n
      have mq5B := g8.get mq5A (by omega)
      have mq6B := g8.get mq6A (by omega)
      have mz7B := g8.get mz7A (by omega)
      have mx9B := g8.get mx9A (by omega)
      have mzCB := g8.get mzCA (by omega)
      simp [dopsR_cons, wops_cons, dstOf, opAt, isEff, again, befBits, isRead, Nat.add_assoc, e5, e6, mq5B, mq6B, mz7B, mx9B, mzCB, bxx, bzz, bin_booleq Tryz.underlying4, isTrueP, c1, c2, f1, f2, f3, -callOp_min, callOp_minF]
      repeat (rw [dopsR_if (by rfl) (by simp [dstOf])]; simp [dopsR_cons, wops_cons, dstOf, opAt, isEff, again, befBits, isRead, Nat.add_assoc, e5, e6, mq5B, mq6B, mz7B, mx9B, mzCB, bxx, bzz, bin_booleq Tryz.underlying4, isTrueP, c1, c2, f1, f2, f3, -callOp_min, callOp_minF])
      refine hcx s8 _ fun s9 g9 => ?_
      have gn9 := g9.n
      have mq5C := g9.get mq5B (by omega)
      have mq6C := g9.get mq6B (by omega)
      have mz7C := g9.get mz7B (by omega)
      have mx9C := g9.get mx9B (by omega)
      have mzCC := g9.get mzCB (by omega)
      simp [dopsR_cons, wops_cons, dstOf, opAt, isEff, again, befBits, isRead, Nat.add_assoc, e5, e6, mq5C, mq6C, mz7C, mx9C, mzCC, bxx, bzz, bin_booleq Tryz.underlying4, isTrueP, c1, c2, f1, f2, f3, -callOp_min, callOp_minF]
      repeat (rw [dopsR_if (by rfl) (by simp [dstOf])]; simp [dopsR_cons, wops_cons, dstOf, opAt, isEff, again, befBits, isRead, Nat.add_assoc, e5, e6, mq5C, mq6C, mz7C, mx9C, mzCC, bxx, bzz, bin_booleq Tryz.underlying4, isTrueP, c1, c2, f1, f2, f3, -callOp_min, callOp_minF])
      refine hcy s9 _ fun s10 g10 => ?_
      have gn10 := g10.n
      have mq5D := g10.get mq5C (by omega)
      have mq6D := g10.get mq6C (by omega)
      have mz7D := g10.get mz7C (by omega)
      have mx9D := g10.get mx9C (by omega)
      have mzCD := g10.get mzCC (by omega)
      simp [dopsR_cons, wops_cons, dstOf, opAt, isEff, again, befBits, isRead, Nat.add_assoc, e5, e6, mq5D, mq6D, mz7D, mx9D, mzCD, bxx, bzz, bin_booleq Tryz.underlying4, isTrueP, c1, c2, f1, f2, f3, -callOp_min, callOp_minF]
      repeat (rw [dopsR_if (by rfl) (by simp [dstOf])]; simp [dopsR_cons, wops_cons, dstOf, opAt, isEff, again, befBits, isRead, Nat.add_assoc, e5, e6, mq5D, mq6D, mz7D, mx9D, mzCD, bxx, bzz, bin_booleq Tryz.underlying4, isTrueP, c1, c2, f1, f2, f3, -callOp_min, callOp_minF])
end Go.Sm
/- PlanSums, plain: the digits of what is drawn sum up to the cells. -/
set_option linter.unusedVariables false
set_option linter.unusedSimpArgs false
namespace Go.Sm
open Go Go.Proofs
set_option maxRecDepth 100000
set_option maxHeartbeats 4000000
/-- A byte's worth: that of a digit. -/
def dig (b : UInt8) : Int := if 48 ≤ b.toNat ∧ b.toNat ≤ 57 then (b.toNat : Int) - 48 else 0
def digs (l : List UInt8) : Int := (l.map dig).sum
theorem digs_app (a b : List UInt8) : digs (a ++ b) = digs a + digs b := by simp [digs]
theorem digs_chr (n : Nat) (h : n ≤ 9) : digs (chrB n) = n := by
  have : n = 0 ∨ n = 1 ∨ n = 2 ∨ n = 3 ∨ n = 4 ∨ n = 5 ∨ n = 6 ∨ n = 7 ∨ n = 8 ∨ n = 9 := by omega
  rcases this with rfl | rfl | rfl | rfl | rfl | rfl | rfl | rfl | rfl | rfl <;> rfl
/-- How many of the first columns one box has in a line. -/
def b2i (b : Bool) : Int := if b then 1 else 0
def rowN (b : Bx) (y : Int) : Nat → Int
  | 0 => 0
  | n + 1 => rowN b y n + b2i (hasX b n y)
def grdN (b : Bx) (wide high : Nat) : Nat → Int
  | 0 => 0
  | n + 1 => grdN b wide high n + rowN b ((high : Int) - 1 - n) wide
theorem rowN_cl (b : Bx) (hb : b.x0 ≤ b.x1) (y : Int) : ∀ n : Nat, 0 ≤ b.x0 → rowN b y n = if b.y0 ≤ y ∧ y ≤ b.y1 then cl n b.x0 (b.x1 - b.x0 + 1) else 0
  | 0, h => by
    rw [rowN]
    have : cl ((0 : Nat) : Int) b.x0 (b.x1 - b.x0 + 1) = 0 := cl_zero h
    rw [this]
    split <;> rfl
  | n + 1, h => by
    rw [rowN, rowN_cl b hb y n h]
    have hs := cl_step (i := n) (lo := b.x0) (len := b.x1 - b.x0 + 1) (by omega)
    rw [Int.natCast_add, Int.natCast_one, hs]
    unfold b2i hasX
    by_cases hy : b.y0 ≤ y ∧ y ≤ b.y1
    · rw [if_pos hy, if_pos hy]
      by_cases hx : b.x0 ≤ n ∧ (n : Int) ≤ b.x1
      · rw [if_pos (show b.x0 ≤ (n : Int) ∧ (n : Int) < b.x0 + (b.x1 - b.x0 + 1) by omega), if_pos (by simp only [decide_eq_true_eq]; omega)]
      · rw [if_neg (show ¬ (b.x0 ≤ (n : Int) ∧ (n : Int) < b.x0 + (b.x1 - b.x0 + 1)) by omega), if_neg (by simp only [decide_eq_true_eq]; omega)]
    · rw [if_neg hy, if_neg hy, if_neg (by simp only [decide_eq_true_eq]; omega)]
      rfl
theorem rowN_all (b : Bx) (hb : b.x0 ≤ b.x1) (y : Int) (wide : Nat) (h0 : 0 ≤ b.x0) (hw : b.x1 < wide) : rowN b y wide = if b.y0 ≤ y ∧ y ≤ b.y1 then b.x1 - b.x0 + 1 else 0 := by
  rw [rowN_cl b hb y wide h0, cl_all (by omega) (by omega)]
theorem grdN_cl (b : Bx) (hb : b.x0 ≤ b.x1 ∧ b.y0 ≤ b.y1) (wide high : Nat) (h0 : 0 ≤ b.x0 ∧ 0 ≤ b.y0) (hw : b.x1 < wide ∧ b.y1 < high) : ∀ n : Nat, grdN b wide high n = cl n ((high : Int) - 1 - b.y1) (b.y1 - b.y0 + 1) * (b.x1 - b.x0 + 1)
  | 0 => by
    have : cl ((0 : Nat) : Int) ((high : Int) - 1 - b.y1) (b.y1 - b.y0 + 1) = 0 := cl_zero (by omega)
    rw [grdN, this, Int.zero_mul]
  | n + 1 => by
    rw [grdN, grdN_cl b hb wide high h0 hw n, rowN_all b hb.1 _ wide h0.1 hw.1, Int.natCast_add, Int.natCast_one, cl_step (by omega), Int.add_mul]
    by_cases hy : b.y0 ≤ (high : Int) - 1 - n ∧ (high : Int) - 1 - n ≤ b.y1
    · rw [if_pos hy, if_pos (by omega), Int.one_mul]
    · rw [if_neg hy, if_neg (by omega), Int.zero_mul]
theorem grdN_all (b : Bx) (hb : b.x0 ≤ b.x1 ∧ b.y0 ≤ b.y1) (wide high : Nat) (h0 : 0 ≤ b.x0 ∧ 0 ≤ b.y0) (hw : b.x1 < wide ∧ b.y1 < high) : grdN b wide high high = cellsX b := by
  rw [grdN_cl b hb wide high h0 hw, cl_all (by omega) (by omega), Int.mul_comm]
  rfl
def sumI (f : Bx → Int) : List Bx → Int
  | [] => 0
  | b :: bs => f b + sumI f bs
theorem sumI_add (f g : Bx → Int) : ∀ bs, sumI (fun b => f b + g b) bs = sumI f bs + sumI g bs
  | [] => rfl
  | b :: bs => by
    simp only [sumI, sumI_add f g bs]
    omega
theorem sumI_zero : ∀ bs, sumI (fun _ => 0) bs = 0
  | [] => rfl
  | b :: bs => by simp [sumI, sumI_zero bs]
theorem sumI_congr {f g : Bx → Int} : ∀ {bs : List Bx}, (∀ b ∈ bs, f b = g b) → sumI f bs = sumI g bs
  | [], _ => rfl
  | b :: bs, h => by simp only [sumI]; rw [h b (by simp), sumI_congr fun c hc => h c (by simp [hc])]
theorem sumI_snoc (f : Bx → Int) : ∀ (bs : List Bx) (b : Bx), sumI f (bs ++ [b]) = sumI f bs + f b
  | [], b => by simp [sumI]
  | c :: bs, b => by
    simp only [List.cons_append, sumI, sumI_snoc f bs b]
    omega
theorem cntB_sum (x y : Int) : ∀ bs : List Bx, (cntB bs x y : Int) = sumI (fun b => b2i (hasX b x y)) bs
  | [] => rfl
  | b :: bs => by
    have ih := cntB_sum x y bs
    simp only [sumI]
    rw [← ih]
    unfold cntB b2i
    rw [List.filter_cons]
    split
    · simp only [List.length_cons]; omega
    · omega
theorem row_digs (bs : List Bx) (hl : bs.length ≤ 9) (y : Int) : ∀ n, digs (rowB bs 0 y n) = sumI (fun b => rowN b y n) bs
  | 0 => by
    rw [rowB]
    exact (sumI_zero bs).symm
  | n + 1 => by
    rw [rowB, digs_app, row_digs bs hl y n, digs_chr _ (Nat.le_trans (cntB_le _ _ _) hl), cntB_sum, Int.zero_add, ← sumI_add]
    rfl
theorem draw_digs (bs : List Bx) (hl : bs.length ≤ 9) (wide high : Nat) : ∀ n, digs (drawB bs 0 wide high n) = sumI (fun b => grdN b wide high n) bs
  | 0 => by
    rw [drawB]
    exact (sumI_zero bs).symm
  | n + 1 => by
    have h10 : digs [10] = 0 := rfl
    rw [drawB, digs_app, digs_app, draw_digs bs hl wide high n, row_digs bs hl, h10, Int.add_zero, ← sumI_add]
    rfl
theorem digs_sum (bs : List Bx) (hl : bs.length ≤ 9) (hb : ∀ b ∈ bs, (b.x0 ≤ b.x1 ∧ b.y0 ≤ b.y1) ∧ (0 ≤ b.x0 ∧ 0 ≤ b.y0) ∧ b.x1 < 60 ∧ b.y1 < 16) : digs (drawB bs 0 60 16 16) = sumI cellsX bs := by
  rw [draw_digs bs hl]
  exact sumI_congr fun b h => grdN_all b (hb b h).1 60 16 (hb b h).2.1 (hb b h).2.2
theorem digs_take (l : List UInt8) (j : Nat) (h : j < l.length) : digs (l.take (j + 1)) = digs (l.take j) + dig l[j] := by
  rw [List.take_succ_eq_append_getElem h, digs_app]
  simp [digs]
theorem dig_rng (b : UInt8) : 0 ≤ dig b ∧ dig b ≤ 9 := by
  unfold dig
  split <;> omega
theorem digs_rng : ∀ l : List UInt8, 0 ≤ digs l ∧ digs l ≤ 9 * l.length
  | [] => by simp [digs]
  | b :: l => by
    have := dig_rng b
    have := digs_rng l
    simp only [digs, List.map_cons, List.sum_cons, List.length_cons] at *
    omega
end Go.Sm
/- PlanSums: the walk. -/
set_option linter.unusedVariables false
set_option linter.unusedSimpArgs false
namespace Go.Sm
open Go Go.Proofs
set_option maxRecDepth 100000
set_option maxHeartbeats 4000000
/-- A box more. -/
theorem app_bx {b : Nat} {s1 : CSt} {l : List Bx} {x : Bx} {v : Value} (ho : Own b s1 68 encX v l) (hb : b ≤ s1.n) (hl : l.length < 2 ^ 36) :
    ∃ p9 c9 s9, appendOp Tryz.prog (s1.alloc (.cells (encX x) 68 false)) #[75, 75] v (.slice (some ⟨s1.n, 0, none⟩) 1 1) = some (.slice p9 (l.length + 1) c9, s9) ∧ Own b s9 68 encX (.slice p9 (l.length + 1) c9) (l ++ [x]) ∧ ButV v s1 s9 ∧ GrowB b s1 s9 := by
  have hga : Grow s1 (s1.alloc (.cells (encX x) 68 false)) := (Grow.refl s1).alloc _
  obtain ⟨v9, s9, a1, a2, a3, a4, a5⟩ := append_only (P := Tryz.prog) (ts := #[75, 75]) (e := 68) (sz := 2) (enc := encX) (l := l) (m := [x]) (b := b) ef75 (by simp) lenX cokX rfl (by decide) (by decide) rfl (σ := s1.alloc (.cells (encX x) 68 false))
    (ho.grow hga) (by simp; omega) (Sl.all (l := [x]) (i := s1.n) (cap := 1) (ro := false) lenX (by simp) (by simp) (.inr ⟨by simp, by simp [openCap]⟩)) (by show (_ + 1) * 32 ≤ _; omega) (by omega)
  obtain ⟨p9, c9, rfl⟩ := (a2.sl (sz := 2) lenX).form
  rw [List.length_append] at a1 a2
  refine ⟨p9, c9, s9, a1, a2, ⟨by have := a3.1; simp at this; omega, fun j hj hne => ?_⟩, (hga.toB hb).trans a3⟩
  rw [a4 j (by simp; omega) (fun i off n c h => by rintro rfl; exact hne (by rw [h]; rfl)), hga.old j hj]
theorem u76 : Tryz.prog.underlying 76 = some (.slice 5) := by kernel_rfl
theorem u5 : Tryz.prog.underlying 5 = some (.int .u8) := by kernel_rfl
theorem cv76 {σ : CSt} (l : List UInt8) (hl : l.length < 2 ^ 62) : convF Tryz.prog σ 9 76 (sv l) = .val (.slice (some ⟨σ.n, 0, none⟩) l.length openCap) (σ.alloc (.cells (l.map fun b => .int .u8 b.toNat) 5 false)) := convF_bytes u9 u76 u5 (by kernel_rfl) l hl
theorem sum_rng : ∀ {bs : List Bx}, (∀ b ∈ bs, 1 ≤ cellsX b ∧ cellsX b ≤ 2000 * 2000) → 0 ≤ sumI cellsX bs ∧ sumI cellsX bs ≤ 4000000 * bs.length
  | [], _ => by simp [sumI]
  | b :: bs, h => by
    have h1 := h b (by simp)
    have h2 := sum_rng (bs := bs) fun c hc => h c (by simp [hc])
    simp only [sumI, List.length_cons]
    omega
theorem law_PlanSums (l : List BB) (hok : ∀ x ∈ l, x.ok) (v : Value) (σ : CSt) (hn : gnone σ) (hz : 0 < σ.n) (hsl : Sl σ 63 4 encB v l) : W E1 (.fn 9 #[v] none) σ isTrueP := by
  rw [W_fn (fn := Tryz.f9) Tryz.func9 rfl rfl rfl]
  obtain ⟨p, c, rfl⟩ := hsl.form
  simp [wops_cons]
  rw [awake_spec rfl hn]
  simp [wops_cons]
  by_cases hl : 9 < l.length
  · have hl' : (9 : Int) < l.length := by omega
    have hl3 : ¬ (l.length : Int) ≤ 9 := by omega
    simp [wops_cons, wops_if', dstOf, hl', hl3, isTrueP]
  have hl' : ¬ (9 : Int) < l.length := by omega
  have hl3 : (l.length : Int) ≤ 9 := by omega
  simp [wops_cons, wops_if', dstOf, hl', hl3]
  refine W_loop_J (fun n a s => ∃ tm j vo, a = ⟨tm, 56, [], false⟩ ∧ tm.get 3 = some vo ∧ tm.get 4 = some (.float .f64 (fl (sumI cellsX ((l.map boxOf).take j)))) ∧ tm.get 15 = some (.slice p l.length c) ∧ tm.get 16 = some (.int .i64 l.length) ∧ tm.get 17 = some (.int .i64 (j : Nat)) ∧ j ≤ l.length ∧ n = l.length - j ∧ Own σ.n s 68 encX vo ((l.map boxOf).take j) ∧ Grow σ s)
    (fun out s => ∃ tm vo, out = .code (.exit 0) ⟨tm, 56, [], false⟩ ∧ tm.get 3 = some vo ∧ tm.get 4 = some (.float .f64 (fl (sumI cellsX (l.map boxOf)))) ∧ Own σ.n s 68 encX vo (l.map boxOf) ∧ Grow σ s) ?_ l.length _ _ ?_ ?_
  · rintro n a s ⟨tm, j, vo, rfl, e3, e4, e15, e16, e17, hj, hnn, hov, gs⟩
    obtain ⟨po, co, rfl⟩ := (hov.sl (sz := 2) lenX).form
    by_cases hjl : j < l.length
    · obtain ⟨i', off, row, ro, rfl, hg, hin', hrow, hle⟩ := (hsl.grow gs).at hjl
      have hld := row_get (enc := encB) lenB hrow j hjl
      have hl1 := row_le hle j hjl
      have hw2 := i64n1 j (by omega)
      have hjl' : (j : Int) < l.length := by omega
      have hbj := hok _ (List.getElem_mem hjl)
      have hg5 : Grow s ((s.alloc (.cells [.int .u8 0, .int .u8 0, .int .u8 0, .int .u8 0] 63 false)).put s.n (.cells (encB l[j]) 63 false)) := ((Grow.refl s).alloc _).put (Nat.le_refl _) _
      have hc5 : ((s.alloc (.cells [.int .u8 0, .int .u8 0, .int .u8 0, .int .u8 0] 63 false)).put s.n (.cells (encB l[j]) 63 false)).get s.n = some (.cells (encB l[j]) 63 false) := by simp
      have hn5 : ((s.alloc (.cells [.int .u8 0, .int .u8 0, .int .u8 0, .int .u8 0] 63 false)).put s.n (.cells (encB l[j]) 63 false)).n = s.n + 1 := by simp
      have hmk := bmake_spec l[j] hbj
      have hbo := boxOf_ok hbj
      have hbl := boxOf_le hbj
      have hcs := cells_spec (boxOf l[j]) hbo hbl
      have hcr := cells_rng hbl hbo
      have hjm : j < (l.map boxOf).length := by rw [List.length_map]; exact hjl
      have htk : (l.map boxOf).take (j + 1) = (l.map boxOf).take j ++ [boxOf l[j]] := by rw [List.take_succ_eq_append_getElem hjm, List.getElem_map]
      have hsr := sum_rng (bs := (l.map boxOf).take j) (fun b hb => by
        obtain ⟨x, hx, rfl⟩ := List.mem_map.1 (List.mem_of_mem_take hb)
        exact cells_rng (boxOf_le (hok x hx)) (boxOf_ok (hok x hx)))
      have hlt : ((l.map boxOf).take j).length = j := by rw [List.length_take, List.length_map]; omega
      generalize hB : (l.map boxOf).take j = B at *
      rw [hlt] at hsr
      have hadd : ∀ {P : Program} {σ : CSt} {t : TypeId} {o o' : Operand}, binF P σ .add t o o' (.float .f64 (fl (sumI cellsX B))) (.float .f64 (fl (cellsX (boxOf l[j])))) = .val (.float .f64 (fl (sumI cellsX ((l.map boxOf).take (j + 1))))) σ := by
        intro P σ t o o'
        rw [htk, sumI_snoc]
        exact bin_fadd (by omega) (by omega)
      simp only [encB] at hg5 hc5 hn5 hmk
      simp [wops_cons, e3, e4, e15, e16, e17, hjl, hjl', hg, hld, hl1]
      simp [wops_cons, encB, e3, e4, e15, e16, e17, -W_region]
      generalize (s.alloc (.cells [.int .u8 0, .int .u8 0, .int .u8 0, .int .u8 0] 63 false)).put s.n (.cells [.int .u8 l[j].x, .int .u8 l[j].y, .int .u8 l[j].w, .int .u8 l[j].h] 63 false) = s1 at hg5 hc5 hn5 ⊢
      simp [wops_cons, e3, e4, e15, e16, e17, hc5]
      refine hmk s1 _ fun s2 g2 => ?_
      have hc6 := g2.get hc5 (by omega)
      have gs2 := (gs.trans hg5).trans g2
      have gn2 := g2.n
      have hno : objOf (.slice po B.length co) ≠ some s.n := fun e => by have := (hov.z2 e).2.1; omega
      obtain ⟨p9, c9, s9, a1, a2, a3, a4⟩ := app_bx (x := boxOf l[j]) ((hov.grow hg5).grow g2) gs2.n (by omega)
      have hc9 : s9.get s.n = some (.cells [.int .u8 l[j].x, .int .u8 l[j].y, .int .u8 l[j].w, .int .u8 l[j].h] 63 false) := by
        rw [a3.2 s.n (by omega) hno]
        exact hc6
      have gs9 : Grow σ s9 := gs2.thenB a4 (Nat.le_refl _)
      rw [← htk] at a2
      simp [encX] at a1
      simp [wops_cons, encX, e3, e4, e15, e16, e17, a1, hc9]
      refine hmk s9 _ fun sA gA => ?_
      simp [wops_cons, e3, e4, e15, e16, e17]
      refine hcs sA _ fun sB gB => ?_
      simp [wops_cons, e3, e4, e15, e16, e17, hadd, hw2]
      have a2' := a2.grow (gA.trans gB)
      exact ⟨l.length - (j + 1), by omega, j + 1, rfl, rfl, by omega, by omega, a2', gs9.trans (gA.trans gB)⟩
    · have hjl' : j = l.length := by omega
      subst hjl'
      rw [List.take_of_length_le (by rw [List.length_map]; exact Nat.le_refl _)] at hov e4
      simp [wops_cons, e3, e4, e15, e16, e17]
      exact ⟨by simpa using hov, gs⟩
  · refine ⟨_, 0, .slice none 0 0, rfl, ?_⟩
    simp
    exact ⟨fl_zero.symm, Own.nil, Grow.refl _⟩
  · rintro out s ⟨tm, vo, rfl, e3, e4, hov, gs⟩
    obtain ⟨po, co, rfl⟩ := (hov.sl (sz := 2) lenX).form
    have hbs : ∀ b ∈ l.map boxOf, b.ok := fun b hb => by
      obtain ⟨x, hx, rfl⟩ := List.mem_map.1 hb
      exact boxOf_ok (hok x hx)
    have hbs2 : ∀ b ∈ l.map boxOf, (b.x0 ≤ b.x1 ∧ b.y0 ≤ b.y1) ∧ (0 ≤ b.x0 ∧ 0 ≤ b.y0) ∧ b.x1 < 60 ∧ b.y1 < 16 := fun b hb => by
      obtain ⟨x, hx, rfl⟩ := List.mem_map.1 hb
      have := box_rng (hok x hx)
      simp only [boxOf]
      omega
    have hll : (l.map boxOf).length ≤ 9 := by rw [List.length_map]; omega
    have hds := digs_sum (l.map boxOf) hll hbs2
    have hdl := drawB_len (l.map boxOf) 0 60 16 16
    have hsr := sum_rng (bs := l.map boxOf) (fun b hb => by
      obtain ⟨x, hx, rfl⟩ := List.mem_map.1 hb
      exact cells_rng (boxOf_le (hok x hx)) (boxOf_ok (hok x hx)))
    have hd := draw_spec (l.map boxOf) hbs (by omega) 0 (by omega) 60 16 (by omega) (by omega) _ s (hov.sl lenX)
    simp [wops_cons, e3, e4]
    rw [List.length_map] at hd
    refine hd _ fun s2 g2 => ?_
    rw [← hds] at e4
    rw [← hds] at hsr
    generalize drawB (l.map boxOf) 0 60 16 16 = D at *
    have hDl : D.length = 976 := hdl
    simp [wops_cons, e3, e4, cv76 D (by omega)]
    have hc3 : (s2.alloc (.cells (D.map fun b => .int .u8 b.toNat) 5 false)).get s2.n = some (.cells (D.map fun b => .int .u8 b.toNat) 5 false) := ga_top rfl
    have hn3 : s2.n < (s2.alloc (.cells (D.map fun b => .int .u8 b.toNat) 5 false)).n := by simp
    generalize s2.alloc (.cells (D.map fun b => .int .u8 b.toNat) 5 false) = s3 at hc3 hn3 ⊢
    generalize s2.n = q at *
    refine W_loop_J (fun n a t => ∃ tm, ∃ j : Nat, a = ⟨tm, 56, [], false⟩ ∧ tm.get 4 = some (.float .f64 (fl (digs D))) ∧ tm.get 7 = some (.int .i64 (digs (D.take j))) ∧ tm.get 34 = some (.slice (some ⟨q, 0, none⟩) D.length openCap) ∧ tm.get 35 = some (.int .i64 D.length) ∧ tm.get 36 = some (.int .i64 (j : Nat)) ∧ j ≤ D.length ∧ n = D.length - j ∧ Grow s3 t)
      (fun out t => ∃ tm, out = .code (.exit 2) ⟨tm, 56, [], false⟩ ∧ tm.get 4 = some (.float .f64 (fl (digs D))) ∧ tm.get 7 = some (.int .i64 (digs D)) ∧ Grow s3 t) ?_ D.length _ _ ?_ ?_
    · rintro n a t ⟨tm, j, rfl, e4, e7, e34, e35, e36, hj, hnn, gt⟩
      by_cases hjl : j < D.length
      · have hct := gt.get hc3 hn3
        have hw2 := i64n1 j (by omega)
        have hjl' : (j : Int) < D.length := by omega
        have hDj : (D.map fun b => Value.int .u8 (b.toNat : Int))[j]? = some (.int .u8 (D[j].toNat : Int)) := by simp [List.getElem?_eq_getElem hjl]
        have hdt := digs_take D j hjl
        have hdr := digs_rng (D.take j)
        rw [List.length_take_of_le hj] at hdr
        have hbt : D[j].toNat < 256 := D[j].toNat_lt
        generalize hb : D[j] = b at *
        generalize hrow : (D.map fun b => Value.int .u8 (b.toNat : Int)) = row at *
        simp [wops_cons, e4, e7, e34, e35, e36, hjl, hjl', hct, hDj]
        by_cases c1 : (48 : Int) ≤ (b.toNat : Int)
        · by_cases c2 : (b.toNat : Int) ≤ 57
          · have hdg : dig b = (b.toNat : Int) - 48 := by unfold dig; rw [if_pos (by omega)]
            have w1 : IntKind.u8.wrap ((b.toNat : Int) - 48) = (b.toNat : Int) - 48 := by rw [IntKind.wrap_u8]; omega
            have w2 : IntKind.i64.wrap ((b.toNat : Int) - 48) = (b.toNat : Int) - 48 := IntWalk.i64_in _ (by omega)
            have w3 : IntKind.i64.wrap (digs (D.take j) + ((b.toNat : Int) - 48)) = digs (D.take (j + 1)) := by rw [IntWalk.i64_in _ (by omega), hdt, hdg]
            simp [wops_cons, wops_if', dstOf, e4, e7, e34, e35, e36, c1, c2, w1, w2, w3, hw2]
            exact ⟨D.length - (j + 1), by omega, j + 1, rfl, by omega, by omega, rfl, gt⟩
          · have hdg : dig b = 0 := by unfold dig; rw [if_neg (by omega)]
            rw [hdg, Int.add_zero] at hdt
            simp [wops_cons, wops_if', dstOf, e4, e7, e34, e35, e36, c1, c2, hw2]
            exact ⟨D.length - (j + 1), by omega, j + 1, hdt.symm, by omega, by omega, rfl, gt⟩
        · have hdg : dig b = 0 := by unfold dig; rw [if_neg (by omega)]
          rw [hdg, Int.add_zero] at hdt
          simp [wops_cons, wops_if', dstOf, e4, e7, e34, e35, e36, c1, hw2]
          exact ⟨D.length - (j + 1), by omega, j + 1, hdt.symm, by omega, by omega, rfl, gt⟩
      · have hjl' : j = D.length := by omega
        subst hjl'
        rw [List.take_of_length_le (Nat.le_refl _)] at e7
        simp [wops_cons, e4, e7, e34, e35, e36]
        exact gt
    · refine ⟨_, 0, rfl, ?_⟩
      simp [e4]
      exact ⟨rfl, Grow.refl _⟩
    · rintro out t ⟨tm, rfl, e4, e7, gt⟩
      have hfe : ∀ {P : Program} {σ : CSt} {t : TypeId} {o o' : Operand}, binF P σ .eql t o o' (.float .f64 (fl (digs D))) (.float .f64 (fl (digs D))) = .val (.bool (decide (digs D = digs D))) σ := bin_feql (by omega) (by omega)
      simp [wops_cons, cv71, e4, e7, hfe, isTrueP]
end Go.Sm
/- Single plain arguments. -/
set_option linter.unusedVariables false
set_option linter.unusedSimpArgs false
namespace Go.Sm
open Go Go.WideShapes Go.ChangeShapes
section
variable {H : Type} {en : TypeId × Value → H} {P : Program} {w : World}
theorem open_one {base base' : Nat} {spare : Nat → Bool} {held : Bool} {t : TypeId} {f fuel : Nat} {ks : List PK} {v : Value} {x : DataW H × List MemPlace} {r : Reach}
    (hk : kindsF P f t = some ks) (hval : Value.okWide P w r base t v) (hd : DataW.trod en P w base' spare held fuel t v.cells.toList = some x) : ∃ xs, OkL ks xs ∧ v = wrapV P t xs := by
  have h := trod_kinds f t ks hk fuel _ x hd
  refine ⟨_, h, ?_⟩
  cases f with
  | zero => cases hk
  | succ f =>
    unfold kindsF at hk
    cases hu : P.underlying t with
    | none => rw [hu] at hk; cases hk
    | some d =>
      rw [hu] at hk
      cases d with
      | int k => obtain ⟨n, rfl⟩ := okWide_int hu hval; simp [wrapV, isAggT, hu, Value.cells]
      | bool => obtain ⟨n, rfl⟩ := okWide_bool hu hval; simp [wrapV, isAggT, hu, Value.cells]
      | string => obtain ⟨n, rfl⟩ := okWide_string hu hval; simp [wrapV, isAggT, hu, Value.cells]
      | struct fs => obtain ⟨cs, rfl, _⟩ := okWide_struct hu hval; simp [wrapV, isAggT, hu, Value.cells]
      | _ => cases hk
theorem open_i {base base' : Nat} {spare : Nat → Bool} {held : Bool} {t : TypeId} {fuel : Nat} {k : IntKind} {v : Value} {x : DataW H × List MemPlace} {r : Reach}
    (hk : P.underlying t = some (.int k)) (hval : Value.okWide P w r base t v) (hd : DataW.trod en P w base' spare held fuel t v.cells.toList = some x) : ∃ n, v = .int k n ∧ k.min ≤ n ∧ n ≤ k.max := by
  obtain ⟨xs, h, rfl⟩ := open_one (f := 1) (ks := [.int k]) (by simp [kindsF, hk]) hval hd
  match xs, h with
  | [a], ⟨⟨n, ha, hn⟩, _⟩ =>
    subst ha
    simp only [Lit.wf, Bool.and_eq_true, decide_eq_true_eq] at hn
    exact ⟨n, by simp [wrapV, isAggT, hk], hn⟩
theorem open_str {base base' : Nat} {spare : Nat → Bool} {held : Bool} {t : TypeId} {fuel : Nat} {v : Value} {x : DataW H × List MemPlace} {r : Reach}
    (hk : P.underlying t = some .string) (hval : Value.okWide P w r base t v) (hd : DataW.trod en P w base' spare held fuel t v.cells.toList = some x) : ∃ s, v = .string s ∧ s.size ≤ maxLen := by
  obtain ⟨xs, h, rfl⟩ := open_one (f := 1) (ks := [.str]) (by simp [kindsF, hk]) hval hd
  match xs, h with
  | [a], ⟨⟨n, ha, hn⟩, _⟩ =>
    subst ha
    exact ⟨n, by simp [wrapV, isAggT, hk], hn⟩
theorem open_st {α : Type} {enc : α → List Value} {ok : α → Prop} {base base' : Nat} {spare : Nat → Bool} {held : Bool} {t : TypeId} {f fuel : Nat} {ks : List PK} {v : Value} {x : DataW H × List MemPlace} {r : Reach}
    (hk : kindsF P f t = some ks) (ha : isAggT P t = true) (hen : ∀ r, OkL ks r → ∃ x, ok x ∧ r = enc x) (hval : Value.okWide P w r base t v) (hd : DataW.trod en P w base' spare held fuel t v.cells.toList = some x) : ∃ y, ok y ∧ v = .agg (enc y).toArray ∧ Sm.flat v = true := by
  obtain ⟨xs, h, rfl⟩ := open_one hk hval hd
  obtain ⟨y, h1, rfl⟩ := hen _ h
  refine ⟨y, h1, by simp [wrapV, ha], ?_⟩
  have := OkL.flat h
  simp only [wrapV, ha, if_true, Sm.flat]
  simpa using this
end
end Go.Sm
/- A box by small numbers, as a row of cells. -/
set_option linter.unusedVariables false
set_option linter.unusedSimpArgs false
namespace Go.Sm
open Go Go.Proofs Go.ChangeShapes Go.WideShapes Go.RowKit Go.ChangeAt
theorem okBB_of (r : List Value) (h : OkL [.int .u8, .int .u8, .int .u8, .int .u8] r) : ∃ x : BB, x.ok ∧ r = encB x := by
  match r, h with
  | [a, b, c, d], ⟨⟨n1, ha, h1⟩, ⟨n2, hb, h2⟩, ⟨n3, hc, h3⟩, ⟨n4, hd, h4⟩, _⟩ =>
    subst ha; subst hb; subst hc; subst hd
    simp only [Lit.wf, Bool.and_eq_true, decide_eq_true_eq] at h1 h2 h3 h4
    have e1 : IntKind.u8.min = 0 := rfl
    have e2 : IntKind.u8.max = 255 := rfl
    rw [e1, e2] at h1 h2 h3 h4
    exact ⟨⟨n1, n2, n3, n4⟩, by simp only [BB.ok]; omega, rfl⟩
end Go.Sm
