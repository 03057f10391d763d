/- Part E of the proof. -/
import Derived.Sort.LotD5
import Derived.Test.YtngpgkbkelcihaaGreatDoorPartC
import Derived.Test.YtngpgkbkelcihaaGreatDoorPartD
/- slices.IndexFunc, slices.DeleteFunc of 95. -/
set_option linter.unusedVariables false
set_option linter.unusedSimpArgs false
namespace Go.Sm
open Go Go.Proofs
set_option maxRecDepth 100000
set_option maxHeartbeats 4000000
theorem indexFn_95 (g : FuncId) (caps : Array Value) (hext : ∀ args s, extOf E1 (.func (.func g) #[] caps) args s = none) (p : RV → Bool) (Ok : CSt → Prop) (hog : ∀ s s', Ok s → Grow s s' → Ok s') (l : List RV) (v : Value) (σ : CSt) (hsl : Sl σ 95 2 encR v l) (hok : Ok σ)
    (hpred : ∀ x ∈ l, ∀ s Q, Ok s → (∀ s', Grow s s' → Q (.ret (.bool (p x)) false) s') → W E1 (.fn g (#[.agg (encR x).toArray] ++ caps) none) s Q) (hbig : l.length < 2 ^ 40) (Q : Out → CSt → Prop)
    (h : ∀ (r : Int) (σ' : CSt), ((r = -1 ∧ ∀ x ∈ l, p x = false) ∨ ∃ k : Nat, r = k ∧ ∃ hk : k < l.length, p l[k] = true ∧ ∀ i (hi : i < l.length), i < k → p l[i] = false) → Grow σ σ' → Q (.ret (.int .i64 r) false) σ') : W E1 (.fn 75 #[v, .func (.func g) #[] caps] none) σ Q := by
  rw [W_fn (fn := Tryz.f75) Tryz.func75 rfl rfl rfl]
  obtain ⟨pp, c, rfl⟩ := hsl.form
  simp [wops_cons]
  refine W_loop_inv (fun n a σ' => ∃ tm j, a = ⟨tm, 19, [], false⟩ ∧ tm.get 0 = some (.slice pp l.length c) ∧ tm.get 1 = some (.func (.func g) #[] caps) ∧ tm.get 7 = some (.int .i64 l.length) ∧ tm.get 8 = some (.int .i64 (j : Nat)) ∧ j ≤ l.length ∧ n = l.length - j ∧ (∀ i (h : i < l.length), i < j → p l[i] = false) ∧ Grow σ σ') ?_ l.length _ _ ?_
  · rintro n a σ1 ⟨tm, j, rfl, e0, e1, e7, e8, hj, hn, hno, hgr⟩
    by_cases hjl : j < l.length
    · obtain ⟨i, off, row, ro, rfl, hg, hin, hrow, hle⟩ := (hsl.grow hgr).at hjl
      have hld := row_get (enc := encR) lenR hrow j hjl
      have hl1 := row_le hle j hjl
      have hw2 := i64n1 j (by omega)
      simp [wops_cons, e0, e1, e7, e8, hjl, hg, hld, hl1, hext]
      have hpr := fun Q => hpred l[j] (List.getElem_mem hjl) σ1 Q (hog _ _ hok hgr)
      try simp at hpr
      refine hpr _ fun σ2 g2 => ?_
      cases hat : p l[j] with
      | true =>
        have := h j σ2 (.inr ⟨j, rfl, hjl, hat, hno⟩) (hgr.trans g2)
        simpa [wops_cons, hat] using this
      | false =>
        simp [wops_cons, hat, e0, e1, e7, e8, hw2]
        refine ⟨_, ?_, j + 1, rfl, by omega, rfl, fun i h hi => ?_, hgr.trans g2⟩
        · omega
        · by_cases e : i = j
          · subst e; exact hat
          · exact hno i h (by omega)
    · have hjl' : j = l.length := by omega
      have := h (-1) σ1 (.inl ⟨rfl, fun x hx => by
        obtain ⟨i, hi, rfl⟩ := List.mem_iff_getElem.1 hx
        exact hno i hi (by omega)⟩) hgr
      simpa [wops_cons, e0, e1, e7, e8, hjl] using this
  · refine ⟨_, 0, rfl, ?_⟩
    simp
    exact Grow.refl σ
theorem deleteFn_95 (g : FuncId) (caps : Array Value) (hext : ∀ args s, extOf E1 (.func (.func g) #[] caps) args s = none) (p : RV → Bool) (Ok : CSt → Prop) (b : Nat) (l : List RV) (v : Value) (σ : CSt) (hog : ∀ s s', Ok s → ButV v s s' → Ok s') (hown : OwnZ b σ 95 encR v l) (hok : Ok σ)
    (hpred : ∀ x ∈ l, ∀ s Q, Ok s → (∀ s', Grow s s' → Q (.ret (.bool (p x)) false) s') → W E1 (.fn g (#[.agg (encR x).toArray] ++ caps) none) s Q) (hbig : l.length < 2 ^ 38) (Q : Out → CSt → Prop)
    (h : ∀ (v' : Value) (σ' : CSt), OwnZ b σ' 95 encR v' (l.filter fun x => !p x) → (objOf v' = objOf v) → ButV v σ σ' → Q (.ret v' false) σ') : W E1 (.fn 59 #[v, .func (.func g) #[] caps] none) σ Q := by
  rw [W_fn (fn := Tryz.f59) Tryz.func59 rfl rfl rfl]
  obtain ⟨pp, c, rfl⟩ := (hown.sl (sz := 2) lenR).form
  simp [wops_cons]
  refine indexFn_95 g caps hext p Ok (fun s s' h1 h2 => hog s s' h1 h2.butV) l _ σ (hown.sl lenR) hok hpred (by omega) _ fun r σ1 hr g1 => ?_
  rcases hr with ⟨rfl, hall⟩ | ⟨k, rfl, hk, hpk, hno⟩
  · have hf : (l.filter fun x => !p x) = l := List.filter_eq_self.2 fun x hx => by simp [hall x hx]
    have := h _ σ1 (by rw [hf]; exact hown.grow g1) rfl g1.butV
    simpa [wops_cons] using this
  · have hk1 : ¬ ((k : Nat) : Int) = -1 := by omega
    have hwk := i64n1 k (by omega)
    rcases hown with ⟨h0, h1⟩ | ⟨i0, cap, zs, h0, hbi, hin, hg0, hzs, hcap⟩
    · rw [h1] at hk; simp at hk
    injection h0 with h0 _ h00
    subst h0
    subst h00
    have hcap : c = openCap := by
      rcases hcap with hc | ⟨hc, _⟩
      · exact hc
      · rw [hc] at hk; simp at hk
    subst hcap
    have hobj : objOf (.slice (some ⟨i0, 0, none⟩) l.length openCap) = some i0 := rfl
    simp [wops_cons, hk1, hwk]
    refine W_loop_J (fun n a s => ∃ (tm : Tr Value) (i j : Nat) (d : List RV), a = ⟨tm, 42, [], false⟩ ∧ tm.get 0 = some (.slice (some ⟨i0, 0, none⟩) l.length openCap) ∧ tm.get 1 = some (.func (.func g) #[] caps) ∧ tm.get 5 = some (.int .i64 (i : Nat)) ∧ tm.get 6 = some (.int .i64 (j : Nat)) ∧ j ≤ l.length ∧ n = l.length - j ∧ d.length = l.length ∧ d.take i = ((l.take j).filter fun x => !p x) ∧ i = ((l.take j).filter fun x => !p x).length ∧ d.drop j = l.drop j ∧ i < j ∧ s.get i0 = some (.cells (d.flatMap encR ++ zs) 95 false) ∧ ButV (.slice (some ⟨i0, 0, none⟩) l.length openCap) σ s)
      (fun o s => ∃ (tm : Tr Value) (i : Nat) (d : List RV), o = .code (.exit 0) ⟨tm, 42, [], false⟩ ∧ tm.get 0 = some (.slice (some ⟨i0, 0, none⟩) l.length openCap) ∧ tm.get 5 = some (.int .i64 (i : Nat)) ∧ d.length = l.length ∧ d.take i = (l.filter fun x => !p x) ∧ i = (l.filter fun x => !p x).length ∧ i < l.length ∧ s.get i0 = some (.cells (d.flatMap encR ++ zs) 95 false) ∧ ButV (.slice (some ⟨i0, 0, none⟩) l.length openCap) σ s) ?_ (l.length - (k + 1)) _ _ ?_ ?_
    · rintro n a s ⟨tm, i, j, d, rfl, e0, e1, e5, e6, hj, hn, hd, ht, hi, hdr, hij, hgs, hbs⟩
      by_cases hjl : j < l.length
      · have hjl' : (j : Int) < l.length := by omega
        have hjd : j < d.length := by omega
        have hdj := drop_get hjl hd hdr
        have hrow := rowZ lenR d zs
        have hrl : (d.flatMap encR ++ zs).length = d.length * 2 + zs.length := by rw [List.length_append, enc_length encR lenR]
        have hld := row_get (enc := encR) lenR hrow j hjd
        rw [Nat.zero_add, hdj] at hld
        have hset := fun x => enc_setZ lenR d i x (by omega) zs
        have hw6 := i64n1 j (by omega)
        have hw5 := i64n1 i (by omega)
        have hil : i < l.length := by omega
        have hsn := hbs.1
        generalize hrw : d.flatMap encR ++ zs = row at hgs hrow hrl hld hset
        have hle1 : j * 2 + 2 ≤ row.length := by omega
        have hle2 : i * 2 + 2 ≤ row.length := by omega
        have hne : ¬ i0 = s.n := by omega
        have hgw : Grow s ((s.alloc (.cells [.string ⟨#[]⟩, .slice none 0 0] 95 false)).put s.n (.cells (encR l[j]) 95 false)) := ((Grow.refl s).alloc _).put (Nat.le_refl _) _
        have hcw : ((s.alloc (.cells [.string ⟨#[]⟩, .slice none 0 0] 95 false)).put s.n (.cells (encR l[j]) 95 false)).get s.n = some (.cells (encR l[j]) 95 false) := by simp
        have htk : List.take 2 (encR l[j]) = encR l[j] := List.take_of_length_le (by rw [lenR]; exact Nat.le_refl _)
        have hlen2 : (encR l[j]).length = 2 := lenR _
        have hcok2 : cokL (encR l[j]) = true := cokR _
        have hnw : ((s.alloc (.cells [.string ⟨#[]⟩, .slice none 0 0] 95 false)).put s.n (.cells (encR l[j]) 95 false)).n = s.n + 1 := by simp
        simp [wops_cons, e0, e1, e5, e6, hjl, hjl', hgs, hld, hle1, hext, htk, hlen2, hcok2]
        generalize (s.alloc (.cells [.string ⟨#[]⟩, .slice none 0 0] 95 false)).put s.n (.cells (encR l[j]) 95 false) = s1 at hgw hcw hnw ⊢
        have hpr := fun Q => hpred l[j] (List.getElem_mem hjl) s1 Q (hog _ _ hok (hbs.trans hgw.butV))
        try simp at hpr
        refine hpr _ fun s2 g2 => ?_
        have g02 := hgw.trans g2
        have hgs2 := g02.get hgs (by omega)
        have hcw2 := g2.get hcw (by omega)
        have hb2 := hbs.trans g02.butV
        cases hp : p l[j] with
        | true =>
          obtain ⟨k1, k2, k3⟩ := take_filter_skip hjl ht hi hdr hp
          simp [wops_cons, e0, e1, e5, e6, hw6]
          exact ⟨n - 1, by omega, i, rfl, j + 1, rfl, by omega, by omega, d, hd, k1, k2, k3, by omega, by rw [hrw]; exact hgs2, hb2⟩
        | false =>
          obtain ⟨k0, k1, k2, k3⟩ := take_filter_step hjl hd ht hi hdr (by omega) hp
          have hset2 := hset l[j]
          have hil' : (i : Int) < l.length := by omega
          simp [wops_cons, e0, e1, e5, e6, hw5, hw6, hil, hil', hgs2, hcw2, htk, hlen2, hcok2, hle2]
          exact ⟨n - 1, by omega, i + 1, rfl, j + 1, rfl, by omega, by omega, d.set i l[j], k0, k1, k2, k3, by omega, by rw [← hset2, List.append_assoc], hb2.putV hobj _⟩
      · have hjl' : ¬ (j : Int) < l.length := by omega
        have hje : j = l.length := by omega
        rw [hje, List.take_length] at ht hi
        simp [wops_cons, e0, e1, e5, e6, hjl, hjl']
        exact ⟨i, rfl, d, hd, ht, hi, by omega, hgs, hbs⟩
    · have hft := first_take hk hno hpk
      refine ⟨_, k, k + 1, l, rfl, ?_⟩
      simp
      refine ⟨by omega, by rw [hft], by rw [hft]; simp; omega, ?_, ?_⟩
      · exact g1.get hg0 hin
      · exact g1.butV
    · rintro o s ⟨tm, i, d, rfl, e0, e5, hd, ht, hi, hil, hgs, hbs⟩
      have hzl : ((List.replicate (l.length - i) ([.string ⟨#[]⟩, .slice none 0 0] : List Value)).flatten).length = (l.length - i) * 2 := by
        rw [List.length_flatten]; simp
      have hzc : cokL ((List.replicate (l.length - i) ([.string ⟨#[]⟩, .slice none 0 0] : List Value)).flatten) = true := rep_cok _ _ rfl
      have hrl : (d.flatMap encR ++ zs).length = d.length * 2 + zs.length := by rw [List.length_append, enc_length encR lenR]
      have hcl := clearZ lenR d i (by omega) zs ((List.replicate (l.length - i) ([.string ⟨#[]⟩, .slice none 0 0] : List Value)).flatten) (by rw [hzl, hd])
      have hst : st (d.flatMap encR ++ zs) (i * 2) ((List.replicate (l.length - i) ([.string ⟨#[]⟩, .slice none 0 0] : List Value)).flatten) = some ((d.take i).flatMap encR ++ ((List.replicate (l.length - i) ([.string ⟨#[]⟩, .slice none 0 0] : List Value)).flatten ++ zs)) := by
        rw [← hcl]
        unfold st
        rw [if_pos (by rw [hzl, hrl, hd]; omega)]
      generalize hrw : d.flatMap encR ++ zs = row at hgs hrl hcl hst
      have hil' : ¬ l.length - i = 0 := by omega
      have hi2 : i ≤ l.length := by omega
      have hle3 : l.length * 2 ≤ row.length := by omega
      have hle4 : i * 2 ≤ row.length := by omega
      simp [wops_cons, e0, e5, sliceOp_open, sliceO, clearOp_K, clearK, hgs, hi2, hil', hst, hle3, hle4, -st_eq]
      rw [ht, hi]
      refine h _ _ (.inr ⟨i0, openCap, _, rfl, hbi, Nat.lt_of_lt_of_le hin hbs.1, by rw [CSt.get_put, if_pos rfl], ?_, .inl rfl⟩) rfl (hbs.putV hobj _)
      rw [cokL_append, hzs, ← hi, hzc]; rfl
end Go.Sm
/- Stores: Put. -/
set_option linter.unusedVariables false
set_option linter.unusedSimpArgs false
namespace Go.Sm
open Go Go.Proofs
set_option maxRecDepth 100000
set_option maxHeartbeats 4000000
theorem encR_set1 (R : List RV) (n : Nat) (h : n < R.length) (p : Option Addr) (m c : Nat) : (R.flatMap encR).take (n * 2 + 1) ++ .slice p m c :: (R.flatMap encR).drop (n * 2 + 1 + 1) = (R.set n ⟨R[n].key, p, m, c⟩).flatMap encR := by
  have h1 := enc_set encR (n := 2) lenR R n ⟨R[n].key, p, m, c⟩ h
  rw [← h1]
  have hl : (R.flatMap encR).length = R.length * 2 := enc_length encR lenR R
  have h2 : n * 2 < (R.flatMap encR).length := by omega
  have hrow : ((R.flatMap encR).drop 0).take (R.length * 2) = R.flatMap encR := by rw [List.drop_zero, List.take_of_length_le (by omega)]
  have h3 := row_cell (enc := encR) lenR hrow n 0 h (by omega)
  rw [Nat.zero_add, Nat.add_zero, List.getElem?_eq_getElem h2] at h3
  have h4 : (R.flatMap encR)[n * 2] = .string R[n].key := by simpa [encR] using h3
  rw [List.take_succ_eq_append_getElem h2, h4]
  simp [encR]
theorem hbits : ∀ j, j < 17 → Nat.testBit 131071 j = true := by decide
theorem put_store (b : Nat) (i : Nat) (S : Stl) (hk : KS S) (hc : ∀ s ∈ S, Srt s.2) (hcl : ∀ s ∈ S, s.2.length < 2 ^ 38) (k : ByteArray) (x : Ver) (σ : CSt) (hb : b ≤ σ.n) (hst : St b σ i S) (hbig : S.length < 2 ^ 38) (Q : Out → CSt → Prop)
    (h : ∀ (n : Nat) (σ' : CSt), Pos S k n → St b σ' i (putAt S k x n) → Fr stT b σ σ' → Q (.ret (.tuple #[]) false) σ') :
    W E1 (.fn 35 #[.pointer (some ⟨i, 0, none⟩), .string k, .agg (encV x).toArray] none) σ Q := by
  obtain ⟨vr, R, hbi, hin, hg, hown, hrw⟩ := hst
  rw [W_fn (fn := Tryz.f35) Tryz.func35 rfl rfl rfl]
  have hni : ¬ i = σ.n := by omega
  have hga : Grow σ (σ.alloc (.cells (encV x) 29 false)) := (Grow.refl σ).alloc _
  obtain ⟨pr, cr, rfl⟩ := (hown.sl (sz := 2) lenR).form
  have hl := hrw.1
  simp [wops_cons, encV, hg, hni]
  simp only [encV] at hga
  refine find_store S hk R _ k _ (hrw.grow hga) ((hown.grow hga).sl lenR) (by omega) _ fun n σ1 hp g1 => ?_
  have hg1 := hga.trans g1
  have hgi := hg1.get hg hin
  have hcell : σ1.get σ.n = some (.cells [.int .u64 x.at_, .string x.val, .bool x.gone] 29 false) := g1.get (by simp) (by simp)
  have hn1 : σ.n < σ1.n := by have := g1.n; simp at this; omega
  have hown1 := hown.grow hg1
  have hrw1 := hrw.grow hg1
  by_cases hfo : ∃ h : n < S.length, S[n].1 = k
  · obtain ⟨hnS, hkey⟩ := hfo
    rw [decide_eq_true ⟨hnS, hkey⟩]
    have hput : putAt S k x n = S.set n (k, putL S[n].2 x) := by
      unfold putAt
      rw [List.getElem?_eq_getElem hnS]
      simp only [hkey, if_true]
    have hnR : n < R.length := by omega
    obtain ⟨hkeyR, hslR⟩ := hrw1.2 n hnR hnS
    rcases hown1 with ⟨h1, h2⟩ | ⟨o, cap, zs, h1, hbo, hon, hgo, hzs, hcap⟩
    · rw [h2] at hnR; simp at hnR
    · cases h1
      have hrl : (R.flatMap encR).length = R.length * 2 := enc_length encR lenR R
      have hrow : ((R.flatMap encR ++ zs).drop 0).take (R.length * 2) = R.flatMap encR := by rw [List.drop_zero, ← hrl, List.take_left]
      have hrlz : (R.flatMap encR ++ zs).length = R.length * 2 + zs.length := by rw [List.length_append, hrl]
      have hsetz : ∀ (p : Option Addr) (m c : Nat), (R.flatMap encR ++ zs).take (n * 2 + 1) ++ .slice p m c :: (R.flatMap encR ++ zs).drop (n * 2 + 1 + 1) = (R.set n ⟨R[n].key, p, m, c⟩).flatMap encR ++ zs := fun p m c => by
        rw [List.take_append_of_le_length (by omega), List.drop_append_of_le_length (by omega), ← List.cons_append, ← List.append_assoc, encR_set1 R n hnR p m c]
      generalize R.flatMap encR ++ zs = row at hgo hrow hrlz hsetz
      have hcel := row_cell (enc := encR) lenR hrow n 1 hnR (by omega)
      rw [Nat.zero_add] at hcel
      have hcel2 : row[n * 2 + 1]? = some (.slice R[n].p R[n].n R[n].c) := hcel
      have hle2 : n * 2 + 1 + 1 ≤ row.length := by omega
      simp [wops_cons, hgi, hcell]
      refine W_drawn (l := [0, 1, 2, 3, 4, 5, 6, 7, 8, 9, 10, 11, 12, 13, 14, 15, 16, 17]) (b := #[0, 1, 3, 7, 0, 0, 32, 96, 224, 0, 992, 2016, 4064, 0, 16352, 32767, 65535, 131071]) (by kernel_rfl) (by kernel_rfl) (by kernel_rfl) ?_
      simp [dopsR_cons, opAt, isEff, again, befBits, isRead, Nat.add_assoc, hgi, hcell, hgo, hnR, hcel2, hrl, -List.length_flatMap]
      have hsrt := hc _ (List.getElem_mem hnS)
      have hlen := hcl _ (List.getElem_mem hnS)
      have hps := fun Q => put_spec S[n].2 hsrt (.slice R[n].p R[n].n R[n].c) x σ1 hslR (by omega) Q
      simp only [encV] at hps
      refine hps _ fun v2 σ2 h2 g2 => ?_
      obtain ⟨p2, c2, rfl⟩ := (h2.sl (sz := 3) (fun _ => rfl)).form
      have hgi2 := g2.get hgi (Nat.lt_of_lt_of_le hin hg1.n)
      have hgo2 := g2.get hgo hon
      have hcell2 := g2.get hcell hn1
      simp [dopsR_cons, opAt, isEff, again, befBits, isRead, Nat.add_assoc, hgi2, hgo2, hcell2, hnR, hcel2, hrl, hle2, hbits, -List.length_flatMap]
      rw [hsetz]
      have hR2 := (hrw1.grow g2).set n ⟨R[n].key, p2, (putL S[n].2 x).length, c2⟩ (k, putL S[n].2 x) (by rw [hkeyR, hkey]) (h2.sl (fun _ => rfl))
      have hoi : ¬ i = o := by
        intro e
        subst e
        rw [hgi] at hgo
        have h1 := Option.some.inj hgo
        injection h1 with _ h2
        exact absurd h2 (by decide)
      have hF : Fr stT b σ (σ2.put o (.cells ((R.set n ⟨R[n].key, p2, (putL S[n].2 x).length, c2⟩).flatMap encR ++ zs) 95 false)) := ((hg1.trans g2).fr (T := stT)).put hbo hgo2 (.inl rfl) _
      refine h n _ hp ?_ hF
      rw [hput]
      have hon2 := Nat.lt_of_lt_of_le hon g2.n
      have hin2 := Nat.lt_of_lt_of_le (Nat.lt_of_lt_of_le hin hg1.n) g2.n
      have hfr : Fr (fun t => t = 95) 0 σ2 (σ2.put o (.cells ((R.set n ⟨R[n].key, p2, (putL S[n].2 x).length, c2⟩).flatMap encR ++ zs) 95 false)) := (Fr.refl (fun t => t = 95) 0 σ2).put (Nat.zero_le _) hgo2 rfl _
      refine ⟨_, R.set n ⟨R[n].key, p2, (putL S[n].2 x).length, c2⟩, hbi, by simpa using hin2, by rw [CSt.get_put, if_neg hoi]; exact hgi2, .inr ⟨o, cr, zs, by simp, hbo, by simpa using hon2, by simp, hzs, ?_⟩, hR2.fr (by decide) hfr⟩
      rcases hcap with h | ⟨h, _⟩
      · exact .inl h
      · rw [h] at hnR; simp at hnR
  · have hput : putAt S k x n = S.take n ++ (k, putL [] x) :: S.drop n := by
      unfold putAt
      cases hn : S[n]? with
      | none => rfl
      | some s =>
        have hs : ¬ s.1 = k := fun e => hfo (by
          obtain ⟨h1, h2⟩ := List.getElem?_eq_some_iff.1 hn
          exact ⟨h1, by rw [h2]; exact e⟩)
        simp only [hs, if_false]
    rw [decide_eq_false hfo]
    have hnR : n ≤ R.length := by have := hp.le; omega
    have hg2a : Grow σ1 (σ1.alloc (.cells (encR ⟨k, none, 0, 0⟩) 95 false)) := (Grow.refl σ1).alloc _
    have hji : ∀ o off m c, Value.slice pr R.length cr = .slice (some ⟨o, off, none⟩) m c → o ≠ σ1.n := by
      rintro o off m c e
      rcases hown1 with ⟨h0, _⟩ | ⟨i', cap, _, h0, _, h1, _⟩
      · rw [h0] at e; cases e
      · rw [h0] at e; cases e; omega
    have hins := fun Q => ins_own_95 b R ⟨k, none, 0, 0⟩ n hnR (.slice pr R.length cr) _ (by have := hg1.n; simp; omega) (hown1.grow hg2a) σ1.n (by simp) hji (by omega) Q
    simp only [encR] at hins hg2a
    simp [wops_cons, hgi, hcell]
    refine hins _ fun v2 σ2 h2 g2 => ?_
    have hin1 := Nat.lt_of_lt_of_le hin hg1.n
    have hgi2 : σ2.get i = some (.cells [.slice pr R.length cr] 97 false) := g2.get (hg2a.get hgi hin1) (by simp; omega) (.inr fun row e ro he => by injection he with _ h2 _; rw [← h2]; decide)
    have hcell2 : σ2.get σ.n = some (.cells [.int .u64 x.at_, .string x.val, .bool x.gone] 29 false) := g2.get (hg2a.get hcell hn1) (by simp; omega) (.inr fun row e ro he => by injection he with _ h2 _; rw [← h2]; decide)
    have hRl : (R.take n ++ (⟨k, none, 0, 0⟩ : RV) :: R.drop n).length = R.length + 1 := by simp; omega
    have hRn : (R.take n ++ (⟨k, none, 0, 0⟩ : RV) :: R.drop n)[n]? = some ⟨k, none, 0, 0⟩ := by
      rw [List.getElem?_append_right (by simp; omega)]
      simp [Nat.min_eq_left hnR]
    have hrw2 := (((hrw1.grow hg2a).fr (T := fun t => t = 95) (by decide) g2)).ins n hnR ⟨k, none, 0, 0⟩ (k, []) rfl Sl.nil
    have hSset : (S.take n ++ ((k, []) : ByteArray × List Ver) :: S.drop n).set n (k, putL [] x) = S.take n ++ (k, putL [] x) :: S.drop n := by
      have h0 : n = (S.take n).length + 0 := by rw [List.length_take, Nat.min_eq_left hp.le, Nat.add_zero]
      conv => lhs; arg 2; rw [h0]
      rw [List.set_append_right _ _ (by omega)]
      simp
    generalize hR' : (R.take n ++ (⟨k, none, 0, 0⟩ : RV) :: R.drop n) = R' at h2 hRl hRn hrw2
    obtain ⟨hnR', hRn'⟩ := List.getElem?_eq_some_iff.1 hRn
    have hslR : Sl σ2 29 3 encV (.slice none 0 0) ([] : List Ver) := Sl.nil
    rcases h2 with ⟨h1, h2⟩ | ⟨o, cap, h1, hbo, hon, hgo, hcap⟩
    · rw [h2] at hnR'; simp at hnR'
    · subst h1
      have hrl : (R'.flatMap encR).length = R'.length * 2 := enc_length encR lenR R'
      have hrow : ((R'.flatMap encR).drop 0).take (R'.length * 2) = R'.flatMap encR := by rw [List.drop_zero, List.take_of_length_le (by omega)]
      have hcel := row_cell (enc := encR) lenR hrow n 1 hnR' (by omega)
      rw [Nat.zero_add, hRn'] at hcel
      have hcel2 : (R'.flatMap encR)[n * 2 + 1]? = some (.slice none 0 0) := hcel
      have hle2 : n * 2 + 1 + 1 ≤ R'.length * 2 := by omega
      have hoi : ¬ i = o := by
        intro e
        subst e
        rw [hgi2] at hgo
        have h1 := Option.some.inj hgo
        injection h1 with _ h2
        exact absurd h2 (by decide)
      have hni2 : ¬ σ.n = i := by omega
      have hoi2 : ¬ o = i := fun e => hoi e.symm
      have hin2 : i < σ2.n := by have := g2.1; simp at this; omega
      simp [wops_cons, hgi2, hcell2]
      refine W_drawn (l := [0, 1, 2, 3, 4, 5, 6, 7, 8, 9, 10, 11, 12, 13, 14, 15, 16, 17]) (b := #[0, 1, 3, 7, 0, 0, 32, 96, 224, 0, 992, 2016, 4064, 0, 16352, 32767, 65535, 131071]) (by kernel_rfl) (by kernel_rfl) (by kernel_rfl) ?_
      simp [dopsR_cons, opAt, isEff, again, befBits, isRead, Nat.add_assoc, hgi2, hcell2, hgo, hnR', hcel2, hrl, hoi, hoi2, hni2, -List.length_flatMap]
      have hgp : (σ2.put i (.cells [.slice (some ⟨o, 0, none⟩) R'.length cap] 97 false)).get o = some (.cells (R'.flatMap encR) 95 false) := by rw [CSt.get_put, if_neg hoi2]; exact hgo
      have hgip : (σ2.put i (.cells [.slice (some ⟨o, 0, none⟩) R'.length cap] 97 false)).get i = some (.cells [.slice (some ⟨o, 0, none⟩) R'.length cap] 97 false) := by rw [CSt.get_put, if_pos rfl]
      have hcep : (σ2.put i (.cells [.slice (some ⟨o, 0, none⟩) R'.length cap] 97 false)).get σ.n = some (.cells [.int .u64 x.at_, .string x.val, .bool x.gone] 29 false) := by rw [CSt.get_put, if_neg hni2]; exact hcell2
      have hFi : Fr (fun t => t = 97) 0 σ2 (σ2.put i (.cells [.slice (some ⟨o, 0, none⟩) R'.length cap] 97 false)) := (Fr.refl (fun t => t = 97) 0 σ2).put (Nat.zero_le _) hgi2 rfl _
      have hF3 : Fr stT b σ (σ2.put i (.cells [.slice (some ⟨o, 0, none⟩) R'.length cap] 97 false)) := ((((hg1.trans hg2a).fr (T := stT) (b := b)).trans (g2.mono (fun e he => .inl he) (Nat.le_refl _)))).put hbi hgi2 (.inr rfl) _
      have hrw3 := hrw2.fr (T := fun t => t = 97) (by decide) hFi
      have hn3 : (σ2.put i (.cells [.slice (some ⟨o, 0, none⟩) R'.length cap] 97 false)).n = σ2.n := rfl
      have hns2 : σ.n < σ2.n := by have := g2.1; simp at this; omega
      generalize hσ3 : σ2.put i (.cells [.slice (some ⟨o, 0, none⟩) R'.length cap] 97 false) = σ3 at hgp hgip hcep hF3 hrw3 hn3 ⊢
      have hps := fun Q => put_spec [] List.Pairwise.nil (.slice none 0 0) x σ3 Sl.nil (by simp) Q
      simp only [encV] at hps
      refine hps _ fun v4 σ4 h4 g4 => ?_
      obtain ⟨p4, c4, rfl⟩ := (h4.sl (sz := 3) (fun _ => rfl)).form
      have hgi4 := g4.get hgip (by omega)
      have hgo4 := g4.get hgp (by omega)
      have hcell4 := g4.get hcep (by omega)
      simp [dopsR_cons, opAt, isEff, again, befBits, isRead, Nat.add_assoc, hgi4, hgo4, hcell4, hnR', hcel2, hrl, hle2, hbits, -List.length_flatMap]
      have hset := encR_set1 R' n hnR' p4 (putL [] x).length c4
      rw [hRn'] at hset
      rw [hset]
      have hR4 := (hrw3.grow g4).set n ⟨k, p4, (putL [] x).length, c4⟩ (k, putL [] x) rfl (h4.sl (fun _ => rfl))
      rw [hSset, ← hput] at hR4
      have hF : Fr stT b σ (σ4.put o (.cells ((R'.set n ⟨k, p4, (putL [] x).length, c4⟩).flatMap encR) 95 false)) := (hF3.trans g4.fr).put hbo hgo4 (.inl rfl) _
      refine h n _ hp ?_ hF
      have hn4 := g4.n
      have hfr : Fr (fun t => t = 95) 0 σ4 (σ4.put o (.cells ((R'.set n ⟨k, p4, (putL [] x).length, c4⟩).flatMap encR) 95 false)) := (Fr.refl (fun t => t = 95) 0 σ4).put (Nat.zero_le _) hgo4 rfl _
      refine ⟨_, R'.set n ⟨k, p4, (putL [] x).length, c4⟩, hbi, by simp; omega, by rw [CSt.get_put, if_neg hoi]; exact hgi4, .inr ⟨o, cap, [], by simp, hbo, by simp; omega, by simp, rfl, ?_⟩, hR4.fr (by decide) hfr⟩
      rcases hcap with h | ⟨h, _⟩
      · exact .inl h
      · rw [h] at hnR'; simp at hnR'
end Go.Sm
/- ChainPuts: the walk. -/
set_option linter.unusedVariables false
set_option linter.unusedSimpArgs false
namespace Go.Sm
open Go Go.Proofs
set_option maxRecDepth 100000
set_option maxHeartbeats 2000000
theorem awake_spec {f : FuncId} (hf : E1.gam f = some awakeG) {σ : CSt} (hn : gnone σ) {Q : Out → CSt → Prop} : W E1 (.fn f #[] none) σ Q = Q (.ret (.bool true) false) σ :=
  W_gam hf rfl (by unfold awakeG; rw [if_pos ⟨rfl, hn⟩])
theorem at_ok (l : List VV) (h : ∀ x ∈ l, x.ok) : ∀ v ∈ l.map verOf, 0 ≤ v.at_ ∧ v.at_ < 256 := by
  intro v hv
  obtain ⟨x, hx, rfl⟩ := List.mem_map.1 hv
  rw [verOf_at]
  exact (h x hx).1
theorem law_ChainPuts (l : List VV) (hok : ∀ x ∈ l, x.ok) (v : Value) (σ : CSt) (hn : gnone σ) (hsl : Sl σ 34 3 encU v l) : W E1 (.fn 3 #[v] none) σ isTrueP := by
  rw [W_fn (fn := Tryz.f3) Tryz.func3 rfl rfl rfl]
  obtain ⟨p, c, rfl⟩ := hsl.form
  simp [wops_cons]
  rw [awake_spec rfl hn]
  simp [wops_cons]
  by_cases hl : 40 < l.length
  · have hl' : (40 : Int) < l.length := by omega
    simp [wops_cons, wops_if', dstOf, hl', isTrueP]
  · have hl' : ¬ (40 : Int) < l.length := by omega
    simp [wops_cons, wops_if', dstOf, hl']
    refine make_spec l hok _ σ hsl (by omega) _ fun v1 σ1 h1 g1 => ?_
    simp [wops_cons, wops_if', dstOf, hl']
    refine plain_spec l hok _ σ1 (hsl.grow g1) (by omega) _ fun v2 σ2 h2 g2 => ?_
    simp [wops_cons, wops_if', dstOf, hl']
    refine equal_ch _ _ v1 v2 σ2 (h1.grow g2) (h2.sl fun _ => rfl) (by have := make_len (l.map verOf); simp at this; omega) _ fun σ3 g3 => ?_
    rw [decide_eq_true (make_plain _ (at_ok l hok))]
    simp [wops_cons, wops_if', dstOf, hl', isTrueP]
end Go.Sm
/- ChainAt: the walk. -/
set_option linter.unusedVariables false
set_option linter.unusedSimpArgs false
namespace Go.Sm
open Go Go.Proofs
set_option maxRecDepth 100000
set_option maxHeartbeats 2000000
def zeroV : Ver := ⟨0, ⟨#[]⟩, false⟩
theorem encO_eq (o : Option Ver) : encO o = encV (o.getD zeroV) := by cases o <;> rfl
theorem retV2_eq (o : Option Ver) : retV2 o = .tuple #[.agg (encV (o.getD zeroV)).toArray, .bool o.isSome] := by cases o <;> rfl
theorem atL_snoc (c : List Ver) (v : Ver) (t : Int) : atL (c ++ [v]) t = if v.at_ ≤ t then some v else atL c t := by
  unfold atL
  rw [List.filter_append]
  by_cases h : v.at_ ≤ t <;> simp [h]
theorem take_snoc {α : Type} {l : List α} {k : Nat} (h : k < l.length) : l.take (k + 1) = l.take k ++ [l[k]] := List.take_succ_eq_append_getElem h
theorem plain_len (l : List Ver) (h : ∀ v ∈ l, 0 ≤ v.at_ ∧ v.at_ < 256) : (plainL l).length ≤ l.length := by rw [← make_plain l h]; exact make_len l
theorem plain_srt (l : List Ver) (h : ∀ v ∈ l, 0 ≤ v.at_ ∧ v.at_ < 256) : Srt (plainL l) := by rw [← make_plain l h]; exact makeL_srt l
theorem law_ChainAt (l : List VV) (hok : ∀ x ∈ l, x.ok) (t : Int) (ht0 : 0 ≤ t) (ht1 : t < 65536) (v : Value) (σ : CSt) (hn : gnone σ) (hsl : Sl σ 34 3 encU v l) : W E1 (.fn 5 #[v, .int .u16 t] none) σ isTrueP := by
  rw [W_fn (fn := Tryz.f5) Tryz.func5 rfl rfl rfl]
  obtain ⟨p, c, rfl⟩ := hsl.form
  simp [wops_cons]
  rw [awake_spec rfl hn]
  simp [wops_cons]
  by_cases hl : 40 < l.length
  · have hl' : (40 : Int) < l.length := by omega
    simp [wops_cons, hl', isTrueP]
  · have hl' : ¬ (40 : Int) < l.length := by omega
    have hT0 : 0 ≤ t.tmod 300 := Int.tmod_nonneg 300 ht0
    have hT1 : t.tmod 300 < 300 := Int.tmod_lt_of_pos t (by decide)
    have hwT : IntKind.u64.wrap (t.tmod 300) = t.tmod 300 := IntWalk.u64_in _ (by omega)
    have hsl0 := hsl.grow ((Grow.refl σ).alloc (.cells [.int .u64 0, .string ⟨#[]⟩, .bool false] 29 false))
    simp [wops_cons, hl']
    refine plain_spec l hok _ _ hsl0 (by omega) _ fun v1 σ1 h1 g1 => ?_
    have hpl := plain_len _ (at_ok l hok)
    rw [List.length_map] at hpl
    generalize hC : plainL (l.map verOf) = C at h1 hpl
    have hs1 := h1.sl (sz := 3) (fun _ => rfl)
    obtain ⟨p1, c1, rfl⟩ := hs1.form
    have hw0 := g1.get (i := σ.n) (o := .cells [.int .u64 0, .string ⟨#[]⟩, .bool false] 29 false) (by simp) (by simp)
    have hn1 : σ.n < σ1.n := by have := g1.n; simp at this; omega
    have hgr0 : Grow σ σ1 := ((Grow.refl σ).alloc _).trans g1
    simp [wops_cons]
    refine W_loop_inv (fun n a σ' => ∃ tm j, a = ⟨tm, 48, [], false⟩ ∧ tm.get 0 = some (.slice p l.length c) ∧ tm.get 1 = some (.int .u16 t) ∧ tm.get 5 = some (.pointer (some ⟨σ.n, 0, none⟩)) ∧ tm.get 6 = some (.bool (atL (C.take j) (t.tmod 300)).isSome) ∧ tm.get 17 = some (.slice p1 C.length c1) ∧
      tm.get 18 = some (.int .i64 C.length) ∧ tm.get 19 = some (.int .i64 (j : Nat)) ∧ j ≤ C.length ∧ n = C.length - j ∧ σ'.get σ.n = some (.cells (encO (atL (C.take j) (t.tmod 300))) 29 false) ∧ Own (σ.n + 1) σ' 29 encV (.slice p1 C.length c1) C ∧ Grow σ σ' ∧ σ.n < σ'.n) ?_ C.length _ _ ?_
    · rintro n a σ2 ⟨tm, j, rfl, h0, h1', h5, h6, h17, h18, h19, hj, hn, hlast, hs, hgr, hnn⟩
      by_cases hjl : j < C.length
      · obtain ⟨i, off, row, ro, rfl, hg, hin, hrow, hle⟩ := (hs.sl (sz := 3) (fun _ => rfl)).at hjl
        have hld := row_get (enc := encV) (fun _ => rfl) hrow j hjl
        have hl1 := row_le hle j hjl
        have hw2 := i64n1 j (by omega)
        have hgw : Grow σ2 ((σ2.alloc (.cells [.int .u64 0, .string ⟨#[]⟩, .bool false] 29 false)).put σ2.n (.cells [.int .u64 C[j].at_, .string C[j].val, .bool C[j].gone] 29 false)) := ((Grow.refl σ2).alloc _).put (Nat.le_refl _) _
        have hne : ¬ (σ.n = σ2.n) := by omega
        have hsn := take_snoc hjl
        have hcl : (encO (atL (C.take j) (t.tmod 300))).length = 3 := by rw [encO_eq]; rfl
        simp [wops_cons, h0, h1', h5, h6, h17, h18, h19, hjl, hg, hld, hl1]
        by_cases hat : C[j].at_ ≤ t.tmod 300
        · have hfin : atL (C.take (j + 1)) (t.tmod 300) = some C[j] := by rw [hsn, atL_snoc, if_pos hat]
          simp [wops_cons, encV, h0, h1', h5, h6, h17, h18, h19, hwT, hat, hlast, hne, hw2, hcl]
          refine ⟨_, ?_, j + 1, ?_, rfl, by omega, rfl, ?_, (hs.grow hgw).put (by omega) _, (hgr.trans hgw).put (Nat.le_refl _) _, by omega⟩
          · omega
          · rw [hfin]; rfl
          · rw [hfin, List.drop_of_length_le (by rw [hcl]; exact Nat.le_refl 3)]; rfl
        · have hfin : atL (C.take (j + 1)) (t.tmod 300) = atL (C.take j) (t.tmod 300) := by rw [hsn, atL_snoc, if_neg hat]
          simp [wops_cons, encV, h0, h1', h5, h6, h17, h18, h19, hwT, hat, hw2]
          refine ⟨_, ?_, j + 1, by rw [hfin], rfl, by omega, rfl, ?_, hs.grow hgw, hgr.trans hgw, by omega⟩
          · omega
          · simp [hne, hfin, hlast]
      · have hjl' : j = C.length := by omega
        subst hjl'
        rw [List.take_of_length_le (Nat.le_refl _)] at h6 hlast
        simp [wops_cons, h0, h1', h5, h6, h17, h18, h19]
        refine make_spec l hok _ σ2 (hsl.grow hgr) (by omega) _ fun v3 σ3 h3 g3 => ?_
        rw [make_plain _ (at_ok l hok), hC] at h3
        simp [wops_cons, h1', hwT]
        have hCs : Srt C := by rw [← hC]; exact plain_srt _ (at_ok l hok)
        refine at_spec C hCs v3 (t.tmod 300) σ3 h3 (by omega) _ fun σ4 g4 => ?_
        have hl4 := (g3.trans g4).get hlast hnn
        have hne : ¬ (σ.n = σ4.n) := by have := (g3.trans g4).n; omega
        rw [retV2_eq]
        rw [encO_eq] at hl4
        have hcmp := fun σ x y => (cmp_ver ((atL C (t.tmod 300)).getD zeroV) ((atL C (t.tmod 300)).getD zeroV) σ x y).1
        generalize (atL C (t.tmod 300)).getD zeroV = w at hl4 hcmp
        simp only [encV, decide_true] at hl4 hcmp
        simp [wops_cons, wops_if', dstOf, encV, h5, h6, hl4, hne, hcmp, bin_booleq Tryz.underlying4, isTrueP]
    · refine ⟨_, 0, rfl, ?_⟩
      simp
      exact ⟨rfl, hw0, h1, hgr0, hn1⟩
end Go.Sm
/- Stores: At, All. -/
set_option linter.unusedVariables false
set_option linter.unusedSimpArgs false
namespace Go.Sm
open Go Go.Proofs
set_option maxRecDepth 100000
set_option maxHeartbeats 4000000
def atS (S : Stl) (k : ByteArray) (n : Nat) (t : Int) : Option Ver := match S[n]? with
  | some s => if s.1 = k then atL s.2 t else none
  | none => none
theorem at_store (b : Nat) (i : Nat) (S : Stl) (hk : KS S) (hc : ∀ s ∈ S, Srt s.2) (hcl : ∀ s ∈ S, s.2.length < 2 ^ 38) (k : ByteArray) (t : Int) (σ : CSt) (hst : St b σ i S) (hbig : S.length < 2 ^ 38) (Q : Out → CSt → Prop)
    (h : ∀ (n : Nat) (σ' : CSt), Pos S k n → Grow σ σ' → Q (.ret (retV2 (atS S k n t)) false) σ') :
    W E1 (.fn 29 #[.pointer (some ⟨i, 0, none⟩), .string k, .int .u64 t] none) σ Q := by
  obtain ⟨vr, R, hbi, hin, hg, hown, hrw⟩ := hst
  rw [W_fn (fn := Tryz.f29) Tryz.func29 rfl rfl rfl]
  have hni : ¬ i = σ.n := by omega
  have hga : Grow σ (σ.alloc (.cells [.int .u64 0, .string ⟨#[]⟩, .bool false] 29 false)) := (Grow.refl σ).alloc _
  obtain ⟨pr, cr, rfl⟩ := (hown.sl (sz := 2) lenR).form
  have hl := hrw.1
  simp [wops_cons, hg, hni]
  refine find_store S hk R _ k _ (hrw.grow hga) ((hown.grow hga).sl lenR) (by omega) _ fun n σ1 hp g1 => ?_
  have hg1 := hga.trans g1
  have hgi := hg1.get hg hin
  have hcell : σ1.get σ.n = some (.cells [.int .u64 0, .string ⟨#[]⟩, .bool false] 29 false) := g1.get (by simp) (by simp)
  have hn1 : σ.n < σ1.n := by have := g1.n; simp at this; omega
  have hown1 := hown.grow hg1
  have hrw1 := hrw.grow hg1
  by_cases hfo : ∃ h : n < S.length, S[n].1 = k
  · obtain ⟨hnS, hkey⟩ := hfo
    rw [decide_eq_true ⟨hnS, hkey⟩]
    have hat : atS S k n t = atL S[n].2 t := by
      unfold atS
      rw [List.getElem?_eq_getElem hnS]
      simp only [hkey, if_true]
    have hnR : n < R.length := by omega
    obtain ⟨hkeyR, hslR⟩ := hrw1.2 n hnR hnS
    rcases hown1 with ⟨h1, h2⟩ | ⟨o, cap, zs, h1, hbo, hon, hgo, hzs, hcap⟩
    · rw [h2] at hnR; simp at hnR
    · cases h1
      have hrl : (R.flatMap encR).length = R.length * 2 := enc_length encR lenR R
      have hrow : ((R.flatMap encR ++ zs).drop 0).take (R.length * 2) = R.flatMap encR := by rw [List.drop_zero, ← hrl, List.take_left]
      have hrlz : (R.flatMap encR ++ zs).length = R.length * 2 + zs.length := by rw [List.length_append, hrl]
      generalize R.flatMap encR ++ zs = row at hgo hrow hrlz
      have hcel := row_cell (enc := encR) lenR hrow n 1 hnR (by omega)
      rw [Nat.zero_add] at hcel
      have hcel2 : row[n * 2 + 1]? = some (.slice R[n].p R[n].n R[n].c) := hcel
      simp [wops_cons, hgi, hcell, hgo, hnR, hcel2, hrl, -List.length_flatMap]
      refine at_spec S[n].2 (hc _ (List.getElem_mem hnS)) _ t σ1 hslR (by have := hcl _ (List.getElem_mem hnS); omega) _ fun σ2 g2 => ?_
      have hcell2 := g2.get hcell hn1
      have fin := fun o => h n _ hp ((hg1.trans g2).put (i := σ.n) (Nat.le_refl _) o)
      rw [hat, retV2_eq] at fin
      rw [retV2_eq]
      generalize (atL S[n].2 t).getD zeroV = w at fin ⊢
      have fin1 := fin (.cells (encV w) 29 false)
      simp only [encV] at fin1
      simpa [wops_cons, encV, hcell2] using fin1
  · rw [decide_eq_false hfo]
    have hat : atS S k n t = none := by
      unfold atS
      cases hn : S[n]? with
      | none => rfl
      | some s =>
        have hs : ¬ s.1 = k := fun e => hfo (by
          obtain ⟨h1, h2⟩ := List.getElem?_eq_some_iff.1 hn
          exact ⟨h1, by rw [h2]; exact e⟩)
        simp only [hs, if_false]
    have fin := h n _ hp (hg1.put (i := σ.n) (Nat.le_refl _) (.cells [.int .u64 0, .string ⟨#[]⟩, .bool false] 29 false))
    rw [hat] at fin
    simp only [retV2] at fin
    simpa [wops_cons, hgi, hcell] using fin
end Go.Sm
/- Stores: All, gone over. -/
set_option linter.unusedVariables false
set_option linter.unusedSimpArgs false
namespace Go.Sm
open Go Go.Proofs
set_option maxRecDepth 100000
set_option maxHeartbeats 4000000
/-- The store's objects are as they were. -/
def Kept (σ σ' : CSt) : Prop := σ.n ≤ σ'.n ∧ ∀ m, m < σ.n → ∀ row e ro, σ.get m = some (.cells row e ro) → (e = 95 ∨ e = 97 ∨ e = 29 ∨ e = 51) → σ'.get m = σ.get m
theorem Kept.sl {α : Type} {σ σ' : CSt} {e : TypeId} {sz : Nat} {enc : α → List Value} {v : Value} {l : List α} (hk : Kept σ σ') (h : Sl σ e sz enc v l) (he : e = 95 ∨ e = 97 ∨ e = 29 ∨ e = 51) : Sl σ' e sz enc v l := by
  rcases h with h | ⟨i, off, cap, row, ro, h1, h2, h3, h4⟩
  · exact .inl h
  · exact .inr ⟨i, off, cap, row, ro, h1, by rw [hk.2 i h3 _ _ _ h2 he]; exact h2, Nat.lt_of_lt_of_le h3 hk.1, h4⟩
theorem Grow.kept {σ σ' : CSt} (h : Grow σ σ') : Kept σ σ' := ⟨h.n, fun m hm _ _ _ _ _ => h.old m hm⟩
theorem hbits63 : ∀ j, j < 6 → Nat.testBit 63 j = true := by decide
theorem all_spec (b : Nat) (i : Nat) (S : Stl) (q L : Nat) (qo : Bool) (σ : CSt) (hst : St b σ i S) (hq : σ.get q = some (.cells [.pointer (some ⟨i, 0, none⟩)] 51 qo)) (hqn : q < σ.n) (hbig : S.length < 2 ^ 38) (hcl : ∀ s ∈ S, s.2.length < 2 ^ 38)
    (Inv : Nat → CSt → Prop) (Done : CSt → Prop) (hkept : ∀ j σ', Inv j σ' → Kept σ σ') (hgrow : ∀ j σ' σ'', Inv j σ' → Grow σ' σ'' → Inv j σ'') (h0 : Inv 0 σ)
    (hround : ∀ (j : Nat) (hj : j < S.length) (σ' : CSt) (v : Value) (b' : Nat) (Q' : Out → CSt → Prop), Inv j σ' → σ.n ≤ b' → b' ≤ σ'.n → Own b' σ' 29 encV v S[j].2 →
      (∀ (ok : Bool) σ'', (ok = true → Inv (j + 1) σ'') → (ok = false → Done σ'') → Q' (.ret (.bool ok) false) σ'') → W E1 (.round L #[.string S[j].1, v]) σ' Q')
    (Q : Out → CSt → Prop) (h1 : ∀ σ', Inv S.length σ' → Q (.ret (.tuple #[]) false) σ') (h2 : ∀ σ', Done σ' → Q (.ret (.tuple #[]) false) σ') :
    W E1 (.fn 56 #[.func (.yield L) #[] #[], .pointer (some ⟨q, 0, none⟩)] none) σ Q := by
  obtain ⟨vr, R, hbi, hin, hg, hown, hrw⟩ := hst
  rw [W_fn (fn := Tryz.f56) Tryz.func56 rfl rfl rfl]
  have hsR := hown.sl (sz := 2) lenR
  obtain ⟨pr, cr, rfl⟩ := hsR.form
  have hl := hrw.1
  simp [wops_cons, hq, hg]
  refine W_loop_inv (fun n a σ' => ∃ tm j, a = ⟨tm, 23, [], false⟩ ∧ tm.get 0 = some (.func (.yield L) #[] #[]) ∧ tm.get 8 = some (.slice pr R.length cr) ∧ tm.get 9 = some (.int .i64 R.length) ∧ tm.get 10 = some (.int .i64 (j : Nat)) ∧ j ≤ R.length ∧ n = R.length - j ∧ Inv j σ') ?_ R.length _ _ ?_
  · rintro n a σ1 ⟨tm, j, rfl, e0, e8, e9, e10, hj, hn, hinv⟩
    have hkp := hkept j σ1 hinv
    by_cases hjl : j < R.length
    · have hjS : j < S.length := by omega
      obtain ⟨o, off, row, ro, rfl, hgo, hon, hrow, hle⟩ := (hkp.sl hsR (.inl rfl)).at hjl
      have hld := row_get (enc := encR) lenR hrow j hjl
      have hl1 := row_le hle j hjl
      have hw2 := i64n1 j (by omega)
      obtain ⟨hkey, hch⟩ := hrw.2 j hjl hjS
      have hch1 := hkp.sl hch (.inr (.inr (.inl rfl)))
      have hgw : Grow σ1 ((σ1.alloc (.cells [.string ⟨#[]⟩, .slice none 0 0] 95 false)).put σ1.n (.cells [.string R[j].key, .slice R[j].p R[j].n R[j].c] 95 false)) := ((Grow.refl σ1).alloc _).put (Nat.le_refl _) _
      simp [wops_cons, e0, e8, e9, e10, hjl, hgo, hld, hl1]
      simp [wops_cons, encR, e0]
      refine W_drawn (l := [0, 1, 2, 3, 4, 5, 6, 7]) (b := #[0, 0, 2, 0, 8, 24, 63, 127]) (by kernel_rfl) (by kernel_rfl) (by kernel_rfl) ?_
      simp [dopsR_cons, opAt, isEff, again, befBits, isRead, Nat.add_assoc, e0]
      refine clone_29 S[j].2 _ _ (hch1.grow hgw) (by have := hcl _ (List.getElem_mem hjS); omega) _ fun v2 σ2 h2' g2 => ?_
      have hc2 := g2.get (i := σ1.n) (o := .cells [.string R[j].key, .slice R[j].p R[j].n R[j].c] 95 false) (by simp) (by simp)
      simp [dopsR_cons, opAt, isEff, again, befBits, isRead, Nat.add_assoc, e0, hc2]
      rw [hkey]
      refine hround j hjS σ2 v2 _ _ (hgrow j σ1 σ2 hinv (hgw.trans g2)) (by have := hkp.1; simp; omega) g2.n h2' fun ok σ3 ht hf => ?_
      cases ok with
      | true =>
        simp [wops_cons, dopsR_cons, opAt, isEff, again, befBits, isRead, Nat.add_assoc, e0, e8, e9, e10, hbits63, hw2]
        refine ⟨_, ?_, j + 1, rfl, by omega, rfl, ht rfl⟩
        omega
      | false =>
        simp [dopsR_cons, opAt, isEff, again, befBits, isRead, Nat.add_assoc, e0, hbits63]
        exact h2 σ3 (hf rfl)
    · have hjl' : j = R.length := by omega
      subst hjl'
      rw [hl] at hinv
      simp [wops_cons, e0, e8, e9, e10]
      exact h1 σ1 hinv
  · refine ⟨_, 0, rfl, ?_⟩
    simp
    exact h0
end Go.Sm
/- append to a slice of one's own: what else stays. -/
set_option linter.unusedVariables false
namespace Go.Sm
open Go
section
variable {α : Type} {P : Program} {σ : CSt} {e : TypeId} {sz b : Nat} {enc : α → List Value} {v x : Value} {l m : List α} {f : TF} {ts : Array TypeId}

theorem appendF_only (hsz : ∀ x, (enc x).length = sz) (hc : ∀ x, cokL (enc x) = true) (hfs : f.size = sz) (h0 : 0 < sz) (h1 : 0 < f.bytes) (h2 : f.zero.map List.length = some sz) (hown : Own b σ e enc v l) (hb : b ≤ σ.n)
    (hbig : (l.length + m.length) * f.bytes ≤ 2 ^ 47) (hl : l.length < 2 ^ 62) : ∃ v' σ', appendF σ e f v m.length (m.flatMap enc) = some (v', σ') ∧ Own b σ' e enc v' (l ++ m) ∧ GrowB b σ σ' ∧ (∀ j, j < σ.n → (∀ i off n c, v = .slice (some ⟨i, off, none⟩) n c → j ≠ i) → σ'.get j = σ.get j) ∧ (m ≠ [] → ∃ n c, v' = .slice (some ⟨σ.n, 0, none⟩) n c) := by
  have hml := enc_length enc hsz m
  have hll := enc_length enc hsz l
  have hcond : (m.flatMap enc).length = m.length * f.size ∧ cokL (m.flatMap enc) = true ∧ 0 < f.size ∧ 0 < f.bytes ∧ f.zero.map List.length = some f.size := by
    rw [hfs]; exact ⟨hml, cokL_enc hc m, h0, h1, h2⟩
  unfold appendF
  rw [if_pos hcond]
  rcases hown with ⟨rfl, rfl⟩ | ⟨i, cap, rfl, hbi, hin, hg, hcap⟩
  · by_cases hm : m.length = 0
    · have : m = [] := List.eq_nil_of_length_eq_zero hm
      subst this
      exact ⟨.slice none 0 0, σ, by simp, Own.nil, GrowB.refl b σ, fun _ _ _ => rfl, fun h => absurd rfl h⟩
    · refine ⟨.slice (some ⟨σ.n, 0, none⟩) m.length openCap, σ.alloc (.cells (m.flatMap enc) e false), ?_, .inr ⟨σ.n, openCap, rfl, hb, by simp, by simp, .inl rfl⟩, (GrowB.refl b σ).alloc hb _, fun j hj _ => by rw [CSt.get_alloc, if_neg (by omega)], fun _ => ⟨_, _, rfl⟩⟩
      simp only [hm, if_false]
      rw [if_pos (by simpa using hbig)]
  · by_cases hm : m.length = 0
    · have : m = [] := List.eq_nil_of_length_eq_zero hm
      subst this
      refine ⟨.slice (some ⟨i, 0, none⟩) l.length cap, σ, ?_, ?_, GrowB.refl b σ, fun _ _ _ => rfl, fun h => absurd rfl h⟩
      · simp only [List.length_nil, if_true]
        rw [if_pos]
        rcases hcap with rfl | ⟨rfl, rfl⟩
        · simp only [openCap]; omega
        · simp
      · rw [List.append_nil]
        exact .inr ⟨i, cap, rfl, hbi, hin, hg, hcap⟩
    · simp only [hm, if_false, hg]
      rcases hcap with rfl | ⟨rfl, rfl⟩
      · refine ⟨.slice (some ⟨σ.n, 0, none⟩) (l ++ m).length openCap, (σ.put i .dead).alloc (.cells ((l ++ m).flatMap enc) e false), ?_, .inr ⟨σ.n, openCap, rfl, hb, by simp, by simp, .inl rfl⟩, ((GrowB.refl b σ).put hbi _).alloc hb _, fun j hj hne => by rw [CSt.get_alloc, if_neg (by simp; omega), CSt.get_put, if_neg (hne _ _ _ _ rfl)], fun _ => ⟨_, _, rfl⟩⟩
        simp only [if_true, and_self]
        rw [if_neg, if_pos hbig]
        · have : ld (l.flatMap enc) 0 (l.length * f.size) = some (l.flatMap enc) := by
            rw [hfs, ← hll]
            unfold ld
            rw [if_pos (by omega), List.drop_zero, List.take_of_length_le (Nat.le_refl _)]
          rw [this]
          simp
        · rw [hll, hfs, Nat.add_mul]
          have : 0 < m.length * sz := Nat.mul_pos (by omega) h0
          omega
      · refine ⟨.slice (some ⟨σ.n, 0, none⟩) m.length openCap, σ.alloc (.cells (m.flatMap enc) e false), ?_, .inr ⟨σ.n, openCap, by simp, hb, by simp, by simp, .inl rfl⟩, (GrowB.refl b σ).alloc hb _, fun j hj _ => by rw [CSt.get_alloc, if_neg (by omega)], fun _ => ⟨_, _, rfl⟩⟩
        rw [if_neg (by simp [openCap]), if_neg (by rw [List.length_nil]; omega)]
        simp only [List.length_nil, Nat.zero_add, Nat.zero_mul] at hbig ⊢
        rw [if_pos hbig]
        simp [ld]
/-- append(s, x...), s one's own. -/
theorem append_only (hf : ts[0]?.bind (elemF P) = some (e, f)) (hu : (ts[1]?.bind (elemT P)).isSome = true) (hsz : ∀ x, (enc x).length = sz) (hc : ∀ x, cokL (enc x) = true) (hfs : f.size = sz) (h0 : 0 < sz) (h1 : 0 < f.bytes) (h2 : f.zero.map List.length = some sz)
    (hown : Own b σ e enc v l) (hb : b ≤ σ.n) (hx : Sl σ e sz enc x m) (hbig : (l.length + m.length) * f.bytes ≤ 2 ^ 47) (hl : l.length < 2 ^ 62) :
    ∃ v' σ', appendOp P σ ts v x = some (v', σ') ∧ Own b σ' e enc v' (l ++ m) ∧ GrowB b σ σ' ∧ (∀ j, j < σ.n → (∀ i off n c, v = .slice (some ⟨i, off, none⟩) n c → j ≠ i) → σ'.get j = σ.get j) ∧ (m ≠ [] → ∃ n c, v' = .slice (some ⟨σ.n, 0, none⟩) n c) := by
  obtain ⟨g1, g2⟩ := first_sl hsz hx
  obtain ⟨v', σ', g3, g4, g5⟩ := appendF_only hsz hc hfs h0 h1 h2 hown hb hbig hl
  refine ⟨v', σ', ?_, g4, g5⟩
  rw [appendOp_K (by rw [hf]; rfl) hu, hf]
  simp only [appK, g1, hfs, g2, Option.bind_some]
  exact g3
end
section
variable {P : Program} {σ : CSt} {ev : Operand → Value} {dst : Option Tmp} {ty : TypeId} {pos : String} {after : Array Edge} {g : Option (Nat × Bool)}
@[simp] theorem copE_lookup (t : TypeId) (m k : Operand) (ok : Bool) : cop P σ ev ⟨dst, .lookup t m k ok, ty, pos, after, g⟩ = OpR.ofV σ (lookupOp P σ t (ev m) (ev k) ok) := (rfl)
@[simp] theorem copE_mapUpdate (t : TypeId) (m k x : Operand) : cop P σ ev ⟨dst, .mapUpdate t m k x, ty, pos, after, g⟩ = OpR.ofS (updateOp P σ t (ev m) (ev k) (ev x)) := (rfl)
theorem copE_makeMap {t kt et : TypeId} (h : P.underlying t = some (.map kt et)) : cop P σ ev ⟨dst, .makeMap t none, ty, pos, after, g⟩ = .val (.map (some σ.n)) (σ.alloc (.map #[] 0)) := by
  simp only [cop, h]
end
end Go.Sm
set_option linter.unusedVariables false
set_option linter.unusedSimpArgs false
namespace Go.Sm
open Go Go.Proofs
set_option maxRecDepth 100000
set_option maxHeartbeats 1000000
attribute [local simp] sliceOp_open3 sliceOp_cap sliceOp_open sliceOp_nil appendOp_K appendOp_N copyOp_K
theorem ins_nil_29 (σ : CSt) (j : Nat) (new : List Value) (hj : j < σ.n) (hg : σ.get j = some (.cells new 29 false)) (hl : new.length = 3) (hc : cokL new = true) :
    W E0 (.fn 47 #[.slice none 0 0, .int .i64 0, .slice (some ⟨j, 0, none⟩) 1 1] none) σ (InsPost σ none 0 29 new 1) := by
  rw [W_fn (fn := Tryz.f47) Tryz.func47 rfl rfl rfl]
  have ht : new.take 3 = new := List.take_of_length_le (by omega)
  simp [wops_cons, hg, hl, hc, ht, appK, appendF]
  refine ⟨σ.n, new, openCap, rfl, by simp, by simp, .inl ⟨by omega, rfl⟩, fun y hy _ => ?_⟩
  simp
  omega
theorem ins_zero_29 (σ : CSt) (i j : Nat) (row new : List Value) (hi : i < σ.n) (hj : j < σ.n) (hij : i ≠ j) (hgi : σ.get i = some (.cells row 29 false)) (hg : σ.get j = some (.cells new 29 false)) (hl : new.length = 3) (hc : cokL new = true) :
    W E0 (.fn 47 #[.slice (some ⟨i, 0, none⟩) 0 0, .int .i64 0, .slice (some ⟨j, 0, none⟩) 1 1] none) σ (InsPost σ none 0 29 new 1) := by
  rw [W_fn (fn := Tryz.f47) Tryz.func47 rfl rfl rfl]
  have ht : new.take 3 = new := List.take_of_length_le (by omega)
  have h0 : (0 : Nat) ≠ openCap := by simp [openCap]
  have h1 : 0 < openCap := by simp [openCap]
  simp [wops_cons, hg, hgi, hl, hc, ht, appK, appendF, sliceC, h0, h1]
  refine ⟨σ.n, new, openCap, rfl, by simp, by simp, .inl ⟨by omega, rfl⟩, fun y hy _ => ?_⟩
  simp
  omega
theorem ins_end_29 (σ : CSt) (i j n k : Nat) (row new : List Value) (hi : i < σ.n) (hj : j < σ.n) (hij : i ≠ j) (hgi : σ.get i = some (.cells row 29 false)) (hg : σ.get j = some (.cells new 29 false)) (hl : new.length = 3) (hc : cokL new = true)
    (hn : n * 3 ≤ row.length) (hk : k * 3 ≤ row.length) (hb : (n + 1) * 32 ≤ 140737488355328) (hnk : n ≤ k) (hko : k < openCap) :
    W E0 (.fn 47 #[.slice (some ⟨i, 0, none⟩) n k, .int .i64 n, .slice (some ⟨j, 0, none⟩) 1 1] none) σ (InsPost σ (some i) k 29 (insRow 3 n n row new) (n + 1)) := by
  rw [W_fn (fn := Tryz.f47) Tryz.func47 rfl rfl rfl]
  have ht : new.take 3 = new := List.take_of_length_le (by omega)
  have h0 : k ≠ openCap := by omega
  by_cases hr : n + 1 ≤ k
  · have hst : st row (n * 3) new = some (wr row (n * 3) new) := st_wr (by omega)
    simp [wops_cons, hg, hgi, hl, hc, ht, appK, appendF, sliceC, h0, hko, hnk, hr, hst, -st_eq]
    refine ⟨i, wr row (n * 3) new, k, rfl, by simp, insA hl (by omega), .inr ⟨rfl, rfl, hr⟩, fun y hy hne => ?_⟩
    rw [CSt.get_put, if_neg]
    rintro rfl
    exact hne rfl
  · simp [wops_cons, hg, hgi, hl, hc, ht, appK, appendF, sliceC, h0, hko, hnk, hr, hn, hb]
    refine ⟨σ.n, _, openCap, rfl, by simp, insB hl hn, .inl ⟨Nat.le_refl _, rfl⟩, fun y hy hne => ?_⟩
    rw [CSt.get_alloc, if_neg (by omega)]
theorem ins_mid_29 (σ : CSt) (i j n a k : Nat) (row new : List Value) (hi : i < σ.n) (hj : j < σ.n) (hij : i ≠ j) (hgi : σ.get i = some (.cells row 29 false)) (hg : σ.get j = some (.cells new 29 false)) (hl : new.length = 3) (hc : cokL new = true)
    (hn : n * 3 ≤ row.length) (hk : k * 3 ≤ row.length) (hrc : cokL (row.take (n * 3)) = true) (ha : a < n) (hb : (n + 1) * 32 ≤ 140737488355328) (hn40 : n < 2 ^ 40) (hnk : n ≤ k) (hko : k < openCap) :
    W E0 (.fn 47 #[.slice (some ⟨i, 0, none⟩) n k, .int .i64 a, .slice (some ⟨j, 0, none⟩) 1 1] none) σ (InsPost σ (some i) k 29 (insRow 3 a n row new) (n + 1)) := by
  rw [W_fn (fn := Tryz.f47) Tryz.func47 rfl rfl rfl]
  have ht : new.take 3 = new := List.take_of_length_le (by omega)
  have h0 : k ≠ openCap := by omega
  have hle : a ≤ n := by omega
  have hne : a ≠ n := by omega
  have hw1 := i64n1 n (by omega)
  have hw2 := i64n1 a (by omega)
  have hlt : ¬ k < n ∧ ¬ (a : Int) = n := by omega
  have hnew : ld new 0 3 = some new := by simp [ld, hl, ht]
  have hp1 : (0 : Int) ≤ (n : Int) + 1 ∧ (0 : Int) ≤ (a : Int) + 1 ∧ ((n : Int) + 1).toNat = n + 1 ∧ ((a : Int) + 1).toNat = a + 1 := by omega
  by_cases hr : n + 1 ≤ k
  · have hI : ¬ ((k : Int) < n + 1) := by omega
    have hq : a ≤ k ∧ a + 1 ≤ k ∧ a ≤ n + 1 := by omega
    simp [wops_cons, hg, hgi, hl, hc, ht, appK, appendF, sliceC, h0, hko, hnk, hr, hle, hne, hlt.2, hw1, hw2, hp1, hI, hq, ha, -st_eq]
    rw [wres_ext (E := E0) (v := .bool false)]
    rotate_left
    · simp only [extOf_fn, E0X, extE]
      exact apartX_ne (Ne.symm hij) hg hgi (by omega)
    have hmin : min (n + 1 - a) (n - a) = n - a := by omega
    have hmul : (n - a) * 3 = n * 3 - a * 3 := by omega
    have hmin2 : min 1 (n + 1 - a) = 1 := by omega
    obtain ⟨seg, hseg⟩ : ∃ seg, seg = (row.drop (a * 3)).take (n * 3 - a * 3) := ⟨_, rfl⟩
    have hs1 : ld row (a * 3) ((n - a) * 3) = some seg := by rw [hmul, hseg]; simp; omega
    have hs2 : seg.length = (n - a) * 3 := by rw [hseg]; simp; omega
    have hs3 : cokL seg = true := by rw [hseg, ← List.drop_take]; exact cokL_drop hrc _
    have hs4 : st row ((a + 1) * 3) seg = some (wr row (a * 3 + 3) seg) := by rw [show (a + 1) * 3 = a * 3 + 3 by omega]; exact st_wr (by omega)
    have hs5 : (wr row (a * 3 + 3) seg).length = row.length := wr_length (by omega)
    have hs6 : st (wr row (a * 3 + 3) seg) (a * 3) new = some (wr (wr row (a * 3 + 3) seg) (a * 3) new) := st_wr (by omega)
    have hq2 : ¬ (k = a) ∧ ¬ (k = a + 1) ∧ ¬ (n - a = 0) := by omega
    simp only [Bool.not_false, wops_cons]
    simp [wops_cons, hg, hgi, hl, hc, ht]
    refine W_calm (by kernel_rfl) ?_
    simp [dops_cons, wops_cons, hg, hgi, hl, hc, ht, appK, appendF, sliceC, copyK, copyIK, h0, hko, hnk, hr, hle, hne, hlt.2, hw1, hw2, hp1, hI, hq, hq2, ha, hmin, hmin2, hs1, hs2, hs3, hs4, hs6, hnew, Ne.symm hij, -st_eq, -ld_eq]
    refine ⟨i, _, k, rfl, by simp; rfl, ?_, .inr ⟨rfl, rfl, hr⟩, fun y hy hne => ?_⟩
    · rw [hseg]; exact insD hl ha (by omega)
    · have : y ≠ i := by rintro rfl; exact hne rfl
      simp [this]
  · have hkn : k = n := by omega
    subst hkn
    have hI : ((k : Int) < k + 1) := by omega
    have hw3 : IntKind.i64.wrap ((k : Int) + 1 - a) = ((k + 1 - a : Nat) : Int) := by rw [IntWalk.i64_in _ (by omega)]; omega
    have hz1 : ((k + 1 - a : Nat) : Int) * 32 ≤ 140737488355328 := by omega
    have hz2 : ¬ (k + 1 - a = 0) := by omega
    have hz3 : ¬ (a + (k + 1 - a) ≤ k) := by omega
    have hz4 : a + (k + 1 - a) = k + 1 := by omega
    have hz5 : a * 3 ≤ row.length := by omega
    have hq : a ≤ k + 1 ∧ a + 1 ≤ k + 1 := by omega
    have hmin : min (k + 1 - a) (k - a) = k - a ∧ min (k - a) (k - a) = k - a := by omega
    have hmin2 : min 1 (k + 1 - a) = 1 := by omega
    have hjn : ¬ (j = σ.n) ∧ ¬ (i = σ.n) := by omega
    obtain ⟨z, hz⟩ : ∃ z, z = (List.replicate (k + 1 - a) [Value.int IntKind.u64 0, Value.string ⟨#[]⟩, Value.bool false]).flatten := ⟨_, rfl⟩
    have hzl : z.length = (k + 1 - a) * 3 := by rw [hz]; simp
    have hzc : cokL z = true := by rw [hz]; exact rep_cok _ _ rfl
    have hta : (row.take (a * 3)).length = a * 3 := by simp; omega
    have hrw : (row.take (a * 3) ++ z).length = k * 3 + 3 := by rw [List.length_append, hta, hzl]; omega
    have hc1 : st (row.take (a * 3) ++ z) (a * 3) new = some (wr (row.take (a * 3) ++ z) (a * 3) new) := st_wr (by omega)
    have hc2 : (wr (row.take (a * 3) ++ z) (a * 3) new).length = k * 3 + 3 := by rw [wr_length (by omega)]; exact hrw
    obtain ⟨seg, hseg⟩ : ∃ seg, seg = (row.drop (a * 3)).take (k * 3 - a * 3) := ⟨_, rfl⟩
    have hs1 : ld row (a * 3) ((k - a) * 3) = some seg := by rw [show (k - a) * 3 = k * 3 - a * 3 by omega, hseg]; simp; omega
    have hs2 : seg.length = (k - a) * 3 := by rw [hseg]; simp; omega
    have hs3 : cokL seg = true := by rw [hseg, ← List.drop_take]; exact cokL_drop hrc _
    have hs4 : st (wr (row.take (a * 3) ++ z) (a * 3) new) ((a + 1) * 3) seg = some (wr (wr (row.take (a * 3) ++ z) (a * 3) new) (a * 3 + 3) seg) := by rw [show (a + 1) * 3 = a * 3 + 3 by omega]; exact st_wr (by omega)
    have hq2 : ¬ (k = a) ∧ ¬ (k - a = 0) ∧ k + 1 - (a + 1) = k - a := by omega
    have hld : ld row 0 (a * 3) = some (row.take (a * 3)) := by simp [ld]; omega
    simp [wops_cons, hg, hgi, hl, hc, ht, appK, appendF, sliceC, h0, hko, hnk, hr, hn, hb, hle, hne, hlt.2, hw1, hw2, hw3, hz1, hz2, hz3, hz4, hz5, hp1, hI, hq, hq2, ha, appNK, sliceO, copyK, copyIK, ← hz, hzl, hzc, hc1, hnew, hmin, hmin2, hjn, hld, -st_eq, -ld_eq, -List.append_assoc]
    refine W_calm (by kernel_rfl) ?_
    simp [dops_cons, wops_cons, hg, hgi, hl, hc, ht, sliceC, h0, hko, hnk, hr, hn, hb, hle, hne, hlt.2, hw1, hw2, hp1, hI, hq, hq2, ha, sliceO, copyK, copyIK, hzl, hzc, hs1, hs2, hs3, hs4, hmin, hmin2, hjn, -st_eq, -ld_eq, -List.append_assoc]
    refine ⟨σ.n, _, openCap, rfl, by simp; rfl, ?_, .inl ⟨Nat.le_refl _, rfl⟩, fun y hy hne => ?_⟩
    · rw [hseg]; exact insC hl ha hn (by omega)
    · have : y ≠ σ.n := by omega
      simp [this]
/-- slices.Insert of a chain's versions. -/
theorem insW_29 : InsW E0 47 29 3 32 where
  nil := fun σ j new hj hg hl hc _ => ins_nil_29 σ j new hj hg hl hc
  zero := fun σ i j row new hi hj hij hgi hg hl hc _ => ins_zero_29 σ i j row new hi hj hij hgi hg hl hc
  some_ := fun σ i j n a k row new hi hj hij hgi hg hl hc hn hk hrc ha hb hn40 hnk hko => by
    by_cases he : a = n
    · subst he
      exact ins_end_29 σ i j a k row new hi hj hij hgi hg hl hc hn hk (by omega) hnk hko
    · exact ins_mid_29 σ i j n a k row new hi hj hij hgi hg hl hc hn hk hrc (by omega) (by omega) hn40 hnk hko
end Go.Sm
set_option linter.unusedVariables false
set_option linter.unusedSimpArgs false
namespace Go.Sm
open Go Go.Proofs
set_option maxRecDepth 100000
set_option maxHeartbeats 1000000
attribute [local simp] sliceOp_open3 sliceOp_cap sliceOp_open sliceOp_nil appendOp_K appendOp_N copyOp_K
theorem ins_nil_95 (σ : CSt) (j : Nat) (new : List Value) (hj : j < σ.n) (hg : σ.get j = some (.cells new 95 false)) (hl : new.length = 2) (hc : cokL new = true) :
    W E0 (.fn 58 #[.slice none 0 0, .int .i64 0, .slice (some ⟨j, 0, none⟩) 1 1] none) σ (InsPost σ none 0 95 new 1) := by
  rw [W_fn (fn := Tryz.f58) Tryz.func58 rfl rfl rfl]
  have ht : new.take 2 = new := List.take_of_length_le (by omega)
  simp [wops_cons, hg, hl, hc, ht, appK, appendF]
  refine ⟨σ.n, new, openCap, rfl, by simp, by simp, .inl ⟨by omega, rfl⟩, fun y hy _ => ?_⟩
  simp
  omega
theorem ins_zero_95 (σ : CSt) (i j : Nat) (row new : List Value) (hi : i < σ.n) (hj : j < σ.n) (hij : i ≠ j) (hgi : σ.get i = some (.cells row 95 false)) (hg : σ.get j = some (.cells new 95 false)) (hl : new.length = 2) (hc : cokL new = true) :
    W E0 (.fn 58 #[.slice (some ⟨i, 0, none⟩) 0 0, .int .i64 0, .slice (some ⟨j, 0, none⟩) 1 1] none) σ (InsPost σ none 0 95 new 1) := by
  rw [W_fn (fn := Tryz.f58) Tryz.func58 rfl rfl rfl]
  have ht : new.take 2 = new := List.take_of_length_le (by omega)
  have h0 : (0 : Nat) ≠ openCap := by simp [openCap]
  have h1 : 0 < openCap := by simp [openCap]
  simp [wops_cons, hg, hgi, hl, hc, ht, appK, appendF, sliceC, h0, h1]
  refine ⟨σ.n, new, openCap, rfl, by simp, by simp, .inl ⟨by omega, rfl⟩, fun y hy _ => ?_⟩
  simp
  omega
theorem ins_end_95 (σ : CSt) (i j n k : Nat) (row new : List Value) (hi : i < σ.n) (hj : j < σ.n) (hij : i ≠ j) (hgi : σ.get i = some (.cells row 95 false)) (hg : σ.get j = some (.cells new 95 false)) (hl : new.length = 2) (hc : cokL new = true)
    (hn : n * 2 ≤ row.length) (hk : k * 2 ≤ row.length) (hb : (n + 1) * 40 ≤ 140737488355328) (hnk : n ≤ k) (hko : k < openCap) :
    W E0 (.fn 58 #[.slice (some ⟨i, 0, none⟩) n k, .int .i64 n, .slice (some ⟨j, 0, none⟩) 1 1] none) σ (InsPost σ (some i) k 95 (insRow 2 n n row new) (n + 1)) := by
  rw [W_fn (fn := Tryz.f58) Tryz.func58 rfl rfl rfl]
  have ht : new.take 2 = new := List.take_of_length_le (by omega)
  have h0 : k ≠ openCap := by omega
  by_cases hr : n + 1 ≤ k
  · have hst : st row (n * 2) new = some (wr row (n * 2) new) := st_wr (by omega)
    simp [wops_cons, hg, hgi, hl, hc, ht, appK, appendF, sliceC, h0, hko, hnk, hr, hst, -st_eq]
    refine ⟨i, wr row (n * 2) new, k, rfl, by simp, insA hl (by omega), .inr ⟨rfl, rfl, hr⟩, fun y hy hne => ?_⟩
    rw [CSt.get_put, if_neg]
    rintro rfl
    exact hne rfl
  · simp [wops_cons, hg, hgi, hl, hc, ht, appK, appendF, sliceC, h0, hko, hnk, hr, hn, hb]
    refine ⟨σ.n, _, openCap, rfl, by simp, insB hl hn, .inl ⟨Nat.le_refl _, rfl⟩, fun y hy hne => ?_⟩
    rw [CSt.get_alloc, if_neg (by omega)]
theorem ins_mid_95 (σ : CSt) (i j n a k : Nat) (row new : List Value) (hi : i < σ.n) (hj : j < σ.n) (hij : i ≠ j) (hgi : σ.get i = some (.cells row 95 false)) (hg : σ.get j = some (.cells new 95 false)) (hl : new.length = 2) (hc : cokL new = true)
    (hn : n * 2 ≤ row.length) (hk : k * 2 ≤ row.length) (hrc : cokL (row.take (n * 2)) = true) (ha : a < n) (hb : (n + 1) * 40 ≤ 140737488355328) (hn40 : n < 2 ^ 40) (hnk : n ≤ k) (hko : k < openCap) :
    W E0 (.fn 58 #[.slice (some ⟨i, 0, none⟩) n k, .int .i64 a, .slice (some ⟨j, 0, none⟩) 1 1] none) σ (InsPost σ (some i) k 95 (insRow 2 a n row new) (n + 1)) := by
  rw [W_fn (fn := Tryz.f58) Tryz.func58 rfl rfl rfl]
  have ht : new.take 2 = new := List.take_of_length_le (by omega)
  have h0 : k ≠ openCap := by omega
  have hle : a ≤ n := by omega
  have hne : a ≠ n := by omega
  have hw1 := i64n1 n (by omega)
  have hw2 := i64n1 a (by omega)
  have hlt : ¬ k < n ∧ ¬ (a : Int) = n := by omega
  have hnew : ld new 0 2 = some new := by simp [ld, hl, ht]
  have hp1 : (0 : Int) ≤ (n : Int) + 1 ∧ (0 : Int) ≤ (a : Int) + 1 ∧ ((n : Int) + 1).toNat = n + 1 ∧ ((a : Int) + 1).toNat = a + 1 := by omega
  by_cases hr : n + 1 ≤ k
  · have hI : ¬ ((k : Int) < n + 1) := by omega
    have hq : a ≤ k ∧ a + 1 ≤ k ∧ a ≤ n + 1 := by omega
    simp [wops_cons, hg, hgi, hl, hc, ht, appK, appendF, sliceC, h0, hko, hnk, hr, hle, hne, hlt.2, hw1, hw2, hp1, hI, hq, ha, -st_eq]
    rw [wres_ext (E := E0) (v := .bool false)]
    rotate_left
    · simp only [extOf_fn, E0X, extE]
      exact apartX_ne (Ne.symm hij) hg hgi (by omega)
    have hmin : min (n + 1 - a) (n - a) = n - a := by omega
    have hmul : (n - a) * 2 = n * 2 - a * 2 := by omega
    have hmin2 : min 1 (n + 1 - a) = 1 := by omega
    obtain ⟨seg, hseg⟩ : ∃ seg, seg = (row.drop (a * 2)).take (n * 2 - a * 2) := ⟨_, rfl⟩
    have hs1 : ld row (a * 2) ((n - a) * 2) = some seg := by rw [hmul, hseg]; simp; omega
    have hs2 : seg.length = (n - a) * 2 := by rw [hseg]; simp; omega
    have hs3 : cokL seg = true := by rw [hseg, ← List.drop_take]; exact cokL_drop hrc _
    have hs4 : st row ((a + 1) * 2) seg = some (wr row (a * 2 + 2) seg) := by rw [show (a + 1) * 2 = a * 2 + 2 by omega]; exact st_wr (by omega)
    have hs5 : (wr row (a * 2 + 2) seg).length = row.length := wr_length (by omega)
    have hs6 : st (wr row (a * 2 + 2) seg) (a * 2) new = some (wr (wr row (a * 2 + 2) seg) (a * 2) new) := st_wr (by omega)
    have hq2 : ¬ (k = a) ∧ ¬ (k = a + 1) ∧ ¬ (n - a = 0) := by omega
    simp only [Bool.not_false, wops_cons]
    simp [wops_cons, hg, hgi, hl, hc, ht]
    refine W_calm (by kernel_rfl) ?_
    simp [dops_cons, wops_cons, hg, hgi, hl, hc, ht, appK, appendF, sliceC, copyK, copyIK, h0, hko, hnk, hr, hle, hne, hlt.2, hw1, hw2, hp1, hI, hq, hq2, ha, hmin, hmin2, hs1, hs2, hs3, hs4, hs6, hnew, Ne.symm hij, -st_eq, -ld_eq]
    refine ⟨i, _, k, rfl, by simp; rfl, ?_, .inr ⟨rfl, rfl, hr⟩, fun y hy hne => ?_⟩
    · rw [hseg]; exact insD hl ha (by omega)
    · have : y ≠ i := by rintro rfl; exact hne rfl
      simp [this]
  · have hkn : k = n := by omega
    subst hkn
    have hI : ((k : Int) < k + 1) := by omega
    have hw3 : IntKind.i64.wrap ((k : Int) + 1 - a) = ((k + 1 - a : Nat) : Int) := by rw [IntWalk.i64_in _ (by omega)]; omega
    have hz1 : ((k + 1 - a : Nat) : Int) * 40 ≤ 140737488355328 := by omega
    have hz2 : ¬ (k + 1 - a = 0) := by omega
    have hz3 : ¬ (a + (k + 1 - a) ≤ k) := by omega
    have hz4 : a + (k + 1 - a) = k + 1 := by omega
    have hz5 : a * 2 ≤ row.length := by omega
    have hq : a ≤ k + 1 ∧ a + 1 ≤ k + 1 := by omega
    have hmin : min (k + 1 - a) (k - a) = k - a ∧ min (k - a) (k - a) = k - a := by omega
    have hmin2 : min 1 (k + 1 - a) = 1 := by omega
    have hjn : ¬ (j = σ.n) ∧ ¬ (i = σ.n) := by omega
    obtain ⟨z, hz⟩ : ∃ z, z = (List.replicate (k + 1 - a) [Value.string ⟨#[]⟩, Value.slice none 0 0]).flatten := ⟨_, rfl⟩
    have hzl : z.length = (k + 1 - a) * 2 := by rw [hz]; simp
    have hzc : cokL z = true := by rw [hz]; exact rep_cok _ _ rfl
    have hta : (row.take (a * 2)).length = a * 2 := by simp; omega
    have hrw : (row.take (a * 2) ++ z).length = k * 2 + 2 := by rw [List.length_append, hta, hzl]; omega
    have hc1 : st (row.take (a * 2) ++ z) (a * 2) new = some (wr (row.take (a * 2) ++ z) (a * 2) new) := st_wr (by omega)
    have hc2 : (wr (row.take (a * 2) ++ z) (a * 2) new).length = k * 2 + 2 := by rw [wr_length (by omega)]; exact hrw
    obtain ⟨seg, hseg⟩ : ∃ seg, seg = (row.drop (a * 2)).take (k * 2 - a * 2) := ⟨_, rfl⟩
    have hs1 : ld row (a * 2) ((k - a) * 2) = some seg := by rw [show (k - a) * 2 = k * 2 - a * 2 by omega, hseg]; simp; omega
    have hs2 : seg.length = (k - a) * 2 := by rw [hseg]; simp; omega
    have hs3 : cokL seg = true := by rw [hseg, ← List.drop_take]; exact cokL_drop hrc _
    have hs4 : st (wr (row.take (a * 2) ++ z) (a * 2) new) ((a + 1) * 2) seg = some (wr (wr (row.take (a * 2) ++ z) (a * 2) new) (a * 2 + 2) seg) := by rw [show (a + 1) * 2 = a * 2 + 2 by omega]; exact st_wr (by omega)
    have hq2 : ¬ (k = a) ∧ ¬ (k - a = 0) ∧ k + 1 - (a + 1) = k - a := by omega
    have hld : ld row 0 (a * 2) = some (row.take (a * 2)) := by simp [ld]; omega
    simp [wops_cons, hg, hgi, hl, hc, ht, appK, appendF, sliceC, h0, hko, hnk, hr, hn, hb, hle, hne, hlt.2, hw1, hw2, hw3, hz1, hz2, hz3, hz4, hz5, hp1, hI, hq, hq2, ha, appNK, sliceO, copyK, copyIK, ← hz, hzl, hzc, hc1, hnew, hmin, hmin2, hjn, hld, -st_eq, -ld_eq, -List.append_assoc]
    refine W_calm (by kernel_rfl) ?_
    simp [dops_cons, wops_cons, hg, hgi, hl, hc, ht, sliceC, h0, hko, hnk, hr, hn, hb, hle, hne, hlt.2, hw1, hw2, hp1, hI, hq, hq2, ha, sliceO, copyK, copyIK, hzl, hzc, hs1, hs2, hs3, hs4, hmin, hmin2, hjn, -st_eq, -ld_eq, -List.append_assoc]
    refine ⟨σ.n, _, openCap, rfl, by simp; rfl, ?_, .inl ⟨Nat.le_refl _, rfl⟩, fun y hy hne => ?_⟩
    · rw [hseg]; exact insC hl ha hn (by omega)
    · have : y ≠ σ.n := by omega
      simp [this]
/-- slices.Insert of a chain's versions. -/
theorem insW_95 : InsW E0 58 95 2 40 where
  nil := fun σ j new hj hg hl hc _ => ins_nil_95 σ j new hj hg hl hc
  zero := fun σ i j row new hi hj hij hgi hg hl hc _ => ins_zero_95 σ i j row new hi hj hij hgi hg hl hc
  some_ := fun σ i j n a k row new hi hj hij hgi hg hl hc hn hk hrc ha hb hn40 hnk hko => by
    by_cases he : a = n
    · subst he
      exact ins_end_95 σ i j a k row new hi hj hij hgi hg hl hc hn hk (by omega) hnk hko
    · exact ins_mid_95 σ i j n a k row new hi hj hij hgi hg hl hc hn hk hrc (by omega) (by omega) hn40 hnk hko
end Go.Sm
/- The closed tests, reckoned. -/
namespace Go.Sm
open Go Go.Proofs
def isTrue : Out → CSt → Bool := fun o _ => match o with | .ret (.bool true) false => true | _ => false
def st0 : CSt := { h := ((Tr.nil : Tr CObj).set 0 (.cells [.int .u64 1, .int .u64 0] 0 true)), n := 256 }
set_option maxRecDepth 1000000
theorem aw14 : runB EV 20000 (.fn 14 #[] none) st0 isTrue = true := by kernel_rfl
theorem aw27 : runB EV 20000 (.fn 27 #[] none) st0 isTrue = true := by kernel_rfl
end Go.Sm
/- The environments are sound: what is taken as one step is so. -/
set_option linter.unusedVariables false
namespace Go.Sm
open Go Go.Proofs
set_option maxRecDepth 100000
theorem good_all : (Tryz.prog.funcs.toList.all fun fn => !(fn.name == "runtime.NumGoroutine")) = true := by kernel_rfl
theorem good_mixed : Tryz.prog.follows .mixedOrders = true := by kernel_rfl
theorem good : Good Tryz.prog := by
  refine ⟨fun f fn h _ => ?_, good_mixed⟩
  have := List.all_eq_true.1 good_all fn (by rw [Array.mem_toList_iff]; exact Array.mem_of_getElem? h)
  simpa using this
def isU8 (P : Program) (e : TypeId) : Bool := match P.underlying e with | some (.int .u8) => true | _ => false
theorem not_u8 {P : Program} {e : TypeId} (h : isU8 P e = false) : P.underlying e ≠ some (.int .u8) := by
  intro hh
  unfold isU8 at h
  rw [hh] at h
  cases h
theorem ext_ok {E : Env} (hP : E.P = Tryz.prog) (hx : E.ext = extE) : ExtOk E := by
  intro g args σ v h ρ w args' hR ha
  rw [hx] at h
  rw [hP] at hR ⊢
  unfold extE at h
  split at h
  · exact apart_ok (tS := 25) (tR := 4) (size := 3) Tryz.func68 (by kernel_rfl) (by kernel_rfl) (by kernel_rfl) (by kernel_rfl) (by kernel_rfl) (fun w => by kernel_rfl) (not_u8 (by kernel_rfl)) h hR ha
  · exact apart_ok (tS := 93) (tR := 4) (size := 2) Tryz.func73 (by kernel_rfl) (by kernel_rfl) (by kernel_rfl) (by kernel_rfl) (by kernel_rfl) (fun w => by kernel_rfl) (not_u8 (by kernel_rfl)) h hR ha
  · cases h
theorem gam0 : GamOk E0 := by
  intro f g h
  cases h
theorem gamV : GamOk EV := by
  intro f g h args σ v σ' hg Q hq
  change gamI f = some g at h
  unfold gamI at h
  split at h
  · cases h
    exact ins_gam (E := E0) good (ext_ok rfl rfl) gam0 (by exact ⟨_, Tryz.func47, rfl⟩) (by kernel_rfl) (by decide) insW_29 hg hq
  · cases h
    exact ins_gam (E := E0) good (ext_ok rfl rfl) gam0 (by exact ⟨_, Tryz.func58, rfl⟩) (by kernel_rfl) (by decide) insW_95 hg hq
  · cases h
theorem base0 : Base st0 := by
  refine ⟨rfl, fun i o h => ?_⟩
  simp only [st0, CSt.get, Tr.get_set] at h
  split at h
  · cases h
    rename_i hi
    subst hi
    exact ⟨by decide, _, _, rfl, by simp⟩
  · simp [Tr.get_nil] at h
theorem ext0 {σ : CSt} (h : gnone σ) : Ext st0 σ := by
  intro i o ho
  simp only [st0, CSt.get, Tr.get_set] at ho
  split at ho
  · rename_i hi
    subst hi
    cases ho
    exact h
  · simp [Tr.get_nil] at ho
theorem aw_ok {f : FuncId} (h : runB EV 20000 (.fn f #[] none) st0 isTrue = true) {args : Array Value} {σ σ' : CSt} {v : Value} (hg : awakeG args σ = some (v, σ')) {Q : Out → CSt → Prop} (hq : Q (.ret v false) σ') : SimFn Tryz.prog f args none σ Q := by
  unfold awakeG at hg
  split at hg
  · rename_i hc
    cases hg
    obtain ⟨rfl, hn⟩ := hc
    refine base_fn (E := EV) good (ext_ok rfl rfl) gamV base0 ((runB_W _ h).weaken fun o s ho => ?_) (by simp) rfl (ext0 hn) hq
    unfold isTrue at ho
    split at ho
    · rfl
    · cases ho
  · cases hg
theorem gam1 : GamOk E1 := by
  intro f g h args σ v σ' hg Q hq
  change gamL f = some g at h
  unfold gamL at h
  split at h
  · cases h
    exact ins_gam (E := E0) good (ext_ok rfl rfl) gam0 (by exact ⟨_, Tryz.func47, rfl⟩) (by kernel_rfl) (by decide) insW_29 hg hq
  · cases h
    exact ins_gam (E := E0) good (ext_ok rfl rfl) gam0 (by exact ⟨_, Tryz.func58, rfl⟩) (by kernel_rfl) (by decide) insW_95 hg hq
  · cases h; exact aw_ok aw14 hg hq
  · cases h; exact aw_ok aw27 hg hq
  · cases h
end Go.Sm
/- Single plain arguments. -/
set_option linter.unusedVariables false
set_option linter.unusedSimpArgs false
namespace Go.Sm
open Go Go.WideShapes Go.ChangeShapes
section
variable {H : Type} {en : TypeId × Value → H} {P : Program} {w : World}
theorem open_one {base base' : Nat} {spare : Nat → Bool} {held : Bool} {t : TypeId} {f fuel : Nat} {ks : List PK} {v : Value} {x : DataW H × List MemPlace} {r : Reach}
    (hk : kindsF P f t = some ks) (hval : Value.okWide P w r base t v) (hd : DataW.trod en P w base' spare held fuel t v.cells.toList = some x) : ∃ xs, OkL ks xs ∧ v = wrapV P t xs := by
  have h := trod_kinds f t ks hk fuel _ x hd
  refine ⟨_, h, ?_⟩
  cases f with
  | zero => cases hk
  | succ f =>
    unfold kindsF at hk
    cases hu : P.underlying t with
    | none => rw [hu] at hk; cases hk
    | some d =>
      rw [hu] at hk
      cases d with
      | int k => obtain ⟨n, rfl⟩ := okWide_int hu hval; simp [wrapV, isAggT, hu, Value.cells]
      | bool => obtain ⟨n, rfl⟩ := okWide_bool hu hval; simp [wrapV, isAggT, hu, Value.cells]
      | string => obtain ⟨n, rfl⟩ := okWide_string hu hval; simp [wrapV, isAggT, hu, Value.cells]
      | struct fs => obtain ⟨cs, rfl, _⟩ := okWide_struct hu hval; simp [wrapV, isAggT, hu, Value.cells]
      | _ => cases hk
theorem open_i {base base' : Nat} {spare : Nat → Bool} {held : Bool} {t : TypeId} {fuel : Nat} {k : IntKind} {v : Value} {x : DataW H × List MemPlace} {r : Reach}
    (hk : P.underlying t = some (.int k)) (hval : Value.okWide P w r base t v) (hd : DataW.trod en P w base' spare held fuel t v.cells.toList = some x) : ∃ n, v = .int k n ∧ k.min ≤ n ∧ n ≤ k.max := by
  obtain ⟨xs, h, rfl⟩ := open_one (f := 1) (ks := [.int k]) (by simp [kindsF, hk]) hval hd
  match xs, h with
  | [a], ⟨⟨n, ha, hn⟩, _⟩ =>
    subst ha
    simp only [Lit.wf, Bool.and_eq_true, decide_eq_true_eq] at hn
    exact ⟨n, by simp [wrapV, isAggT, hk], hn⟩
theorem open_str {base base' : Nat} {spare : Nat → Bool} {held : Bool} {t : TypeId} {fuel : Nat} {v : Value} {x : DataW H × List MemPlace} {r : Reach}
    (hk : P.underlying t = some .string) (hval : Value.okWide P w r base t v) (hd : DataW.trod en P w base' spare held fuel t v.cells.toList = some x) : ∃ s, v = .string s ∧ s.size ≤ maxLen := by
  obtain ⟨xs, h, rfl⟩ := open_one (f := 1) (ks := [.str]) (by simp [kindsF, hk]) hval hd
  match xs, h with
  | [a], ⟨⟨n, ha, hn⟩, _⟩ =>
    subst ha
    exact ⟨n, by simp [wrapV, isAggT, hk], hn⟩
theorem open_st {α : Type} {enc : α → List Value} {ok : α → Prop} {base base' : Nat} {spare : Nat → Bool} {held : Bool} {t : TypeId} {f fuel : Nat} {ks : List PK} {v : Value} {x : DataW H × List MemPlace} {r : Reach}
    (hk : kindsF P f t = some ks) (ha : isAggT P t = true) (hen : ∀ r, OkL ks r → ∃ x, ok x ∧ r = enc x) (hval : Value.okWide P w r base t v) (hd : DataW.trod en P w base' spare held fuel t v.cells.toList = some x) : ∃ y, ok y ∧ v = .agg (enc y).toArray ∧ Sm.flat v = true := by
  obtain ⟨xs, h, rfl⟩ := open_one hk hval hd
  obtain ⟨y, h1, rfl⟩ := hen _ h
  refine ⟨y, h1, by simp [wrapV, ha], ?_⟩
  have := OkL.flat h
  simp only [wrapV, ha, if_true, Sm.flat]
  simpa using this
end
end Go.Sm
/- Sorting strings: the heap. -/
set_option linter.unusedVariables false
set_option linter.unusedSimpArgs false
namespace Go.Sm
open Go Go.Proofs
set_option maxRecDepth 100000
set_option maxHeartbeats 4000000
theorem sift_unf {lt : ByteArray → ByteArray → Bool} {hi first r c ch cc : Nat} {d : Array ByteArray} (hc : c = 2 * r + 1) (hlt : c < hi) (hch : (ch = c ∧ ¬ (c + 1 < hi ∧ lt (aget d (first + c)) (aget d (first + c + 1)) = true)) ∨ (ch = c + 1 ∧ c + 1 < hi ∧ lt (aget d (first + c)) (aget d (first + c + 1)) = true)) (hcc : cc = first + ch) :
    Sort.siftDown lt hi first r d = if lt (aget d (first + r)) (aget d cc) = true then Sort.siftDown lt hi first ch (Sort.swp d (first + r) cc) else d := by
  subst hc; subst hcc
  conv => lhs; rw [Sort.siftDown]
  rw [dif_neg (by omega)]
  unfold aget at hch ⊢
  rcases hch with ⟨rfl, h⟩ | ⟨rfl, h1, h2⟩
  · rw [if_neg (by simpa using h)]
    cases lt d[first + r]! d[first + (2 * r + 1)]! <;> simp
  · have h2' : lt d[first + (2 * r + 1)]! d[first + (2 * r + 1) + 1]! = true := h2
    have e : 2 * r + 1 + 1 = 2 * r + 2 := rfl
    rw [if_pos (by simp [h2']; omega)]
    rw [dif_pos (by omega), e]
    cases lt d[first + r]! d[first + (2 * r + 2)]! <;> simp
theorem sift_s (n0 : Nat) (d : Array ByteArray) (hn0 : d.size = n0) (i cap : Nat) (pre post : List Value) (lo hi first : Nat) (σ : CSt) (hv : SV σ i pre post d) (hb : first + hi ≤ n0) (hbig : n0 < 2 ^ 40) (hlo : lo ≤ n0) (Q : Out → CSt → Prop)
    (h : ∀ σ', SV σ' i pre post (Sort.siftDown klt hi first lo d) → But i σ σ' → Q (.ret (.tuple #[]) false) σ') :
    W E1 (.fn 109 #[.slice (some ⟨i, pre.length, none⟩) n0 cap, .int .i64 lo, .int .i64 hi, .int .i64 first] none) σ Q := by
  rw [W_fn (fn := Tryz.f109) Tryz.func109 rfl rfl rfl]
  simp [wops_cons]
  refine W_loop_inv (fun n A σ' => ∃ tm r d', A = ⟨tm, 76, [], false⟩ ∧ tm.get 0 = some (.slice (some ⟨i, pre.length, none⟩) n0 cap) ∧ tm.get 1 = some (.int .i64 lo) ∧ tm.get 2 = some (.int .i64 hi) ∧ tm.get 3 = some (.int .i64 first) ∧ tm.get 8 = some (.int .i64 (r : Nat)) ∧ r ≤ n0 ∧ n = 2 ^ 40 - r ∧ Sort.siftDown klt hi first r d' = Sort.siftDown klt hi first lo d ∧ d'.size = n0 ∧ SV σ' i pre post d' ∧ But i σ σ') ?_ (2 ^ 40 - lo) _ _ ?_
  · rintro n A σ1 ⟨tm, r, d1, rfl, e0, e1, e2, e3, e8, hr, rfl, hfin, hsz, hv1, hg1⟩
    obtain ⟨c, hc⟩ : ∃ c, c = 2 * r + 1 := ⟨_, rfl⟩
    have hw2 : IntKind.i64.wrap (2 * (r : Int)) = 2 * (r : Int) := IntWalk.i64_in _ (by omega)
    have hwc : IntKind.i64.wrap (2 * (r : Int) + 1) = (c : Int) := by rw [IntWalk.i64_in _ (by omega)]; omega
    by_cases hch : c < hi
    · have hch' : ¬ (hi : Int) ≤ c := by omega
      have hwc1 : IntKind.i64.wrap ((c : Int) + 1) = ((c + 1 : Nat) : Int) := i64n1 c (by omega)
      obtain ⟨c1, hc1⟩ : ∃ c1, c1 = c + 1 := ⟨_, rfl⟩
      rw [← hc1] at hwc1
      obtain ⟨p, hp⟩ : ∃ p, p = first + r := ⟨_, rfl⟩
      obtain ⟨q, hq⟩ : ∃ q, q = first + c := ⟨_, rfl⟩
      obtain ⟨q1, hq1⟩ : ∃ q1, q1 = q + 1 := ⟨_, rfl⟩
      have hwp : IntKind.i64.wrap ((first : Int) + r) = (p : Int) := by rw [IntWalk.i64_in _ (by omega)]; omega
      have hwq : IntKind.i64.wrap ((first : Int) + c) = (q : Int) := by rw [IntWalk.i64_in _ (by omega)]; omega
      have hwqc : IntKind.i64.wrap ((first : Int) + c1) = (q1 : Int) := by rw [IntWalk.i64_in _ (by omega)]; omega
      have hwq1 : IntKind.i64.wrap ((q : Int) + 1) = (q1 : Int) := by rw [IntWalk.i64_in _ (by omega)]; omega
      have hgi := hv1.1
      have hpd : p < n0 := by omega
      have hqd : q < n0 := by omega
      have hunf : ∀ ch cc, cc = first + ch → ((ch = c ∧ ¬ (c + 1 < hi ∧ klt (aget d1 (first + c)) (aget d1 (first + c + 1)) = true)) ∨ (ch = c + 1 ∧ c + 1 < hi ∧ klt (aget d1 (first + c)) (aget d1 (first + c + 1)) = true)) → Sort.siftDown klt hi first r d1 = if klt (aget d1 p) (aget d1 cc) = true then Sort.siftDown klt hi first ch (Sort.swp d1 p cc) else d1 := fun ch cc h1 h2 => by rw [hp]; exact sift_unf hc hch h2 h1
      rw [← hq, ← hq1] at hunf
      by_cases hc1h : c1 < hi
      · have hq1d : q1 < n0 := by omega
        have hc1h' : (c1 : Int) < hi := by omega
        have hrq := rowS_get (pre := pre) (post := post) (d := d1) (j := q) (by omega)
        have hrq1 := rowS_get (pre := pre) (post := post) (d := d1) (j := q1) (by omega)
        simp [wops_cons, dops_cons, dops_if, dstOf, -st_eq, -ld_eq, -Nat.not_lt, e0, e1, e2, e3, e8, hw2, hwc, hch, hch']
        refine W_calm (by kernel_rfl) ?_
        simp [wops_cons, dops_cons, dops_if, dstOf, -st_eq, -ld_eq, -Nat.not_lt, e0, e1, e2, e3, e8, hwc1, hc1h, hc1h', hwq, hwq1, hqd, hq1d, hgi, hrq, hrq1]
        refine less_s _ _ _ _ ?_
        cases hl1 : klt (aget d1 q) (aget d1 q1)
        ·
          have hrp := rowS_get (pre := pre) (post := post) (d := d1) (j := p) (by omega)
          have hrch := rowS_get (pre := pre) (post := post) (d := d1) (j := q) (by omega)
          try simp [wops_cons, dops_cons, dops_if, dstOf, -st_eq, -ld_eq, -Nat.not_lt, e0, e1, e2, e3, e8, hwc1]
          refine W_calm (by kernel_rfl) ?_
          simp [wops_cons, dops_cons, dops_if, dstOf, -st_eq, -ld_eq, -Nat.not_lt, e0, e1, e2, e3, e8, hwp, hwq, hwq1, hpd, hqd, hqd, hgi, hrp, hrch, hwc1]
          refine less_s _ _ _ _ ?_
          cases hl2 : klt (aget d1 p) (aget d1 q)
          · simp [wops_cons, dops_cons, dops_if, dstOf, -st_eq, -ld_eq, -Nat.not_lt, e0, e1, e2, e3, e8, hl2]
            refine h σ1 ?_ hg1
            rw [← hfin, hunf c q hq (.inl ⟨rfl, by simp [hl1]⟩), hl2]
            simpa using hv1
          ·
            have hst1 := rowS_st (pre := pre) (post := post) (d := d1) (j := p) (by first | omega | (simp; omega)) (aget d1 q)
            have hst2 := rowS_st (pre := pre) (post := post) (d := aset d1 p (aget d1 q)) (j := q) (by first | omega | (simp; omega)) (aget d1 p)
            simp [wops_cons, dops_cons, dops_if, dstOf, -st_eq, -ld_eq, -Nat.not_lt, e0, e1, e2, e3, e8, hl2]
            refine W_calm (by kernel_rfl) ?_
            simp [wops_cons, dops_cons, dops_if, dstOf, -st_eq, -ld_eq, -Nat.not_lt, e0, e1, e2, e3, e8, hwp, hwq, hwq1, hpd, hqd, hqd, hgi, hrp, hrch, hst1, hst2, hwc1]
            rw [← swp_aset]
            refine ⟨_, ?_, c, rfl, by omega, rfl, _, ?_, by simpa using hsz, (hv1.put _).put _, (hg1.putL _).putL _⟩
            · omega
            · rw [← hfin, hunf c q hq (.inl ⟨rfl, by simp [hl1]⟩), hl2]
              simp
        ·
          have hrp := rowS_get (pre := pre) (post := post) (d := d1) (j := p) (by omega)
          have hrch := rowS_get (pre := pre) (post := post) (d := d1) (j := q1) (by omega)
          try simp [wops_cons, dops_cons, dops_if, dstOf, -st_eq, -ld_eq, -Nat.not_lt, e0, e1, e2, e3, e8, hwc1]
          refine W_calm (by kernel_rfl) ?_
          simp [wops_cons, dops_cons, dops_if, dstOf, -st_eq, -ld_eq, -Nat.not_lt, e0, e1, e2, e3, e8, hwp, hwq, hwq1, hpd, hqd, hq1d, hwqc, hgi, hrp, hrch, hwc1]
          refine less_s _ _ _ _ ?_
          cases hl2 : klt (aget d1 p) (aget d1 q1)
          · simp [wops_cons, dops_cons, dops_if, dstOf, -st_eq, -ld_eq, -Nat.not_lt, e0, e1, e2, e3, e8, hl2]
            refine h σ1 ?_ hg1
            rw [← hfin, hunf c1 q1 (by omega) (.inr ⟨hc1, by omega, hl1⟩), hl2]
            simpa using hv1
          ·
            have hst1 := rowS_st (pre := pre) (post := post) (d := d1) (j := p) (by first | omega | (simp; omega)) (aget d1 q1)
            have hst2 := rowS_st (pre := pre) (post := post) (d := aset d1 p (aget d1 q1)) (j := q1) (by first | omega | (simp; omega)) (aget d1 p)
            simp [wops_cons, dops_cons, dops_if, dstOf, -st_eq, -ld_eq, -Nat.not_lt, e0, e1, e2, e3, e8, hl2]
            refine W_calm (by kernel_rfl) ?_
            simp [wops_cons, dops_cons, dops_if, dstOf, -st_eq, -ld_eq, -Nat.not_lt, e0, e1, e2, e3, e8, hwp, hwq, hwq1, hpd, hqd, hq1d, hwqc, hgi, hrp, hrch, hst1, hst2, hwc1]
            rw [← swp_aset]
            refine ⟨_, ?_, c1, rfl, by omega, rfl, _, ?_, by simpa using hsz, (hv1.put _).put _, (hg1.putL _).putL _⟩
            · omega
            · rw [← hfin, hunf c1 q1 (by omega) (.inr ⟨hc1, by omega, hl1⟩), hl2]
              simp
      · have hc1h' : ¬ (c1 : Int) < hi := by omega
        simp [wops_cons, dops_cons, dops_if, dstOf, -st_eq, -ld_eq, -Nat.not_lt, e0, e1, e2, e3, e8, hw2, hwc, hch, hch']
        refine W_calm (by kernel_rfl) ?_
        simp [wops_cons, dops_cons, dops_if, dstOf, -st_eq, -ld_eq, -Nat.not_lt, e0, e1, e2, e3, e8, hwc1, hc1h, hc1h', hwq, hwq1, hqd, hgi]
        have hrp := rowS_get (pre := pre) (post := post) (d := d1) (j := p) (by omega)
        have hrch := rowS_get (pre := pre) (post := post) (d := d1) (j := q) (by omega)
        try simp [wops_cons, dops_cons, dops_if, dstOf, -st_eq, -ld_eq, -Nat.not_lt, e0, e1, e2, e3, e8, hwc1]
        refine W_calm (by kernel_rfl) ?_
        simp [wops_cons, dops_cons, dops_if, dstOf, -st_eq, -ld_eq, -Nat.not_lt, e0, e1, e2, e3, e8, hwp, hwq, hwq1, hpd, hqd, hqd, hgi, hrp, hrch, hwc1]
        refine less_s _ _ _ _ ?_
        cases hl2 : klt (aget d1 p) (aget d1 q)
        · simp [wops_cons, dops_cons, dops_if, dstOf, -st_eq, -ld_eq, -Nat.not_lt, e0, e1, e2, e3, e8, hl2]
          refine h σ1 ?_ hg1
          rw [← hfin, hunf c q hq (.inl ⟨rfl, by omega⟩), hl2]
          simpa using hv1
        ·
          have hst1 := rowS_st (pre := pre) (post := post) (d := d1) (j := p) (by first | omega | (simp; omega)) (aget d1 q)
          have hst2 := rowS_st (pre := pre) (post := post) (d := aset d1 p (aget d1 q)) (j := q) (by first | omega | (simp; omega)) (aget d1 p)
          simp [wops_cons, dops_cons, dops_if, dstOf, -st_eq, -ld_eq, -Nat.not_lt, e0, e1, e2, e3, e8, hl2]
          refine W_calm (by kernel_rfl) ?_
          simp [wops_cons, dops_cons, dops_if, dstOf, -st_eq, -ld_eq, -Nat.not_lt, e0, e1, e2, e3, e8, hwp, hwq, hwq1, hpd, hqd, hqd, hgi, hrp, hrch, hst1, hst2, hwc1]
          rw [← swp_aset]
          refine ⟨_, ?_, c, rfl, by omega, rfl, _, ?_, by simpa using hsz, (hv1.put _).put _, (hg1.putL _).putL _⟩
          · omega
          · rw [← hfin, hunf c q hq (.inl ⟨rfl, by omega⟩), hl2]
            simp
    · have hch' : (hi : Int) ≤ c := by omega
      have : Sort.siftDown klt hi first r d1 = d1 := by rw [Sort.siftDown, dif_pos (by omega)]
      rw [this] at hfin
      subst hfin
      simp [wops_cons, dops_cons, dops_if, dstOf, -st_eq, -ld_eq, -Nat.not_lt, e0, e1, e2, e3, e8, hw2, hwc, hch, hch']
      exact h σ1 hv1 hg1
  · refine ⟨_, lo, d, rfl, ?_⟩
    simp
    exact ⟨hlo, hn0, hv, But.refl i σ⟩
end Go.Sm
/- Sorting strings: the heap; the row turned round. -/
set_option linter.unusedVariables false
set_option linter.unusedSimpArgs false
namespace Go.Sm
open Go Go.Proofs
set_option maxRecDepth 100000
set_option maxHeartbeats 4000000
theorem sift_size (lt : ByteArray → ByteArray → Bool) (hi first r : Nat) (d : Array ByteArray) : (Sort.siftDown lt hi first r d).size = d.size := by
  fun_induction Sort.siftDown lt hi first r d <;> simp_all
theorem build_size (lt : ByteArray → ByteArray → Bool) (hi first : Nat) : ∀ (k : Nat) (d : Array ByteArray), (Sort.heapBuild lt hi first k d).size = d.size
  | 0, d => rfl
  | k + 1, d => by rw [Sort.heapBuild, build_size lt hi first k, sift_size]
theorem heap_s (n0 : Nat) (d : Array ByteArray) (hn0 : d.size = n0) (i cap : Nat) (pre post : List Value) (a b : Nat) (σ : CSt) (hv : SV σ i pre post d) (hb : b ≤ n0) (hbig : n0 < 2 ^ 40) (ha : a ≤ b) (Q : Out → CSt → Prop)
    (h : ∀ σ', SV σ' i pre post (Sort.heapSort klt d a b) → But i σ σ' → Q (.ret (.tuple #[]) false) σ') :
    W E1 (.fn 89 #[.slice (some ⟨i, pre.length, none⟩) n0 cap, .int .i64 a, .int .i64 b] none) σ Q := by
  rw [W_fn (fn := Tryz.f89) Tryz.func89 rfl rfl rfl]
  obtain ⟨hi, hhi⟩ : ∃ hi, hi = b - a := ⟨_, rfl⟩
  obtain ⟨K, hK⟩ : ∃ K, K = (hi - 1) / 2 + 1 := ⟨_, rfl⟩
  have hw1 : IntKind.i64.wrap ((b : Int) - a) = (hi : Int) := by rw [IntWalk.i64_in _ (by omega)]; omega
  have hw2 : IntKind.i64.wrap ((hi : Int) - 1) = (hi : Int) - 1 := IntWalk.i64_in _ (by omega)
  have hw3 : IntKind.i64.wrap (((hi : Int) - 1).tdiv 2) = (K : Int) - 1 := by
    rw [IntWalk.i64_quo' _ _ (by omega)]
    by_cases h0 : hi = 0
    · rw [hK, h0]; decide
    · have e : (hi : Int) - 1 = ((hi - 1 : Nat) : Int) := by omega
      rw [e, Int.tdiv_eq_ediv_of_nonneg (by omega)]
      omega
  have hpost : Sort.heapSort klt d a b = Sort.heapPop klt a hi (Sort.heapBuild klt hi a K d) := by rw [Sort.heapSort, hK, hhi]
  simp [wops_cons, dops_cons, dops_if, dstOf, -st_eq, -ld_eq, -Nat.not_lt, hw1, hw2, hw3]
  refine W_loop_inv (fun n A σ' => ∃ tm k d', A = ⟨tm, 56, [], false⟩ ∧ tm.get 0 = some (.slice (some ⟨i, pre.length, none⟩) n0 cap) ∧ tm.get 6 = some (.int .i64 (a : Nat)) ∧ tm.get 7 = some (.int .i64 0) ∧ tm.get 8 = some (.int .i64 (hi : Nat)) ∧ tm.get 9 = some (.int .i64 ((k : Nat) - 1)) ∧ k ≤ K ∧ n = k ∧ Sort.heapBuild klt hi a k d' = Sort.heapBuild klt hi a K d ∧ d'.size = n0 ∧ SV σ' i pre post d' ∧ But i σ σ') ?_ K _ _ ?_
  · rintro n A σ1 ⟨tm, k, d1, rfl, e0, e6, e7, e8, e9, hk, hn, hfin, hsz, hv1, hg1⟩
    cases k with
    | zero =>
      rw [Sort.heapBuild] at hfin
      subst hfin
      have hm : ¬ (0 : Int) ≤ -1 := by omega
      simp [wops_cons, dops_cons, dops_if, dstOf, -st_eq, -ld_eq, -Nat.not_lt, e0, e6, e7, e8, e9, hw2, hm]
      refine W_loop_inv (fun n A σ' => ∃ tm k d', A = ⟨tm, 56, [], false⟩ ∧ tm.get 0 = some (.slice (some ⟨i, pre.length, none⟩) n0 cap) ∧ tm.get 6 = some (.int .i64 (a : Nat)) ∧ tm.get 7 = some (.int .i64 0) ∧ tm.get 10 = some (.int .i64 ((k : Nat) - 1)) ∧ k ≤ hi ∧ n = k ∧ Sort.heapPop klt a k d' = Sort.heapSort klt d a b ∧ d'.size = n0 ∧ SV σ' i pre post d' ∧ But i σ σ') ?_ hi _ _ ?_
      · rintro n A σ2 ⟨tm, k, d2, rfl, e0, e6, e7, e10, hk, hn, hfin2, hsz2, hv2, hg2⟩
        cases k with
        | zero =>
          rw [Sort.heapPop] at hfin2
          subst hfin2
          simp [wops_cons, dops_cons, dops_if, dstOf, -st_eq, -ld_eq, -Nat.not_lt, e0, e6, e7, e10]
          exact h σ2 hv2 hg2
        | succ k =>
          have ek : ((k + 1 : Nat) : Int) - 1 = (k : Int) := by omega
          rw [ek] at e10
          obtain ⟨p, hp⟩ : ∃ p, p = a + k := ⟨_, rfl⟩
          have hwp : IntKind.i64.wrap ((a : Int) + k) = (p : Int) := by rw [IntWalk.i64_in _ (by omega)]; omega
          have hwk : IntKind.i64.wrap ((k : Int) - 1) = (k : Int) - 1 := IntWalk.i64_in _ (by omega)
          have hpd : p < n0 := by omega
          have had : a < n0 := by omega
          have hgi := hv2.1
          have hrp := rowS_get (pre := pre) (post := post) (d := d2) (j := p) (by omega)
          have hra := rowS_get (pre := pre) (post := post) (d := d2) (j := a) (by omega)
          have hst1 := rowS_st (pre := pre) (post := post) (d := d2) (j := a) (by first | omega | (simp; omega)) (aget d2 p)
          have hst2 := rowS_st (pre := pre) (post := post) (d := aset d2 a (aget d2 p)) (j := p) (by first | omega | (simp; omega)) (aget d2 a)
          simp [wops_cons, dops_cons, dops_if, dstOf, -st_eq, -ld_eq, -Nat.not_lt, e0, e6, e7, e10]
          refine W_calm (by kernel_rfl) ?_
          simp [wops_cons, dops_cons, dops_if, dstOf, -st_eq, -ld_eq, -Nat.not_lt, e0, e6, e7, e10, hwp, hpd, had, hgi, hrp, hra, hst1, hst2]
          rw [← swp_aset]
          have hsz3 : (Sort.swp d2 a p).size = n0 := by simp [hsz2]
          refine sift_s n0 (Sort.swp d2 a p) hsz3 i cap pre post 0 k a _ ((hv2.put (aset d2 a (aget d2 p))).put _) (by omega) (by omega) (by omega) _ fun σ3 hv3 hg3 => ?_
          simp [wops_cons, dops_cons, dops_if, dstOf, -st_eq, -ld_eq, -Nat.not_lt, e0, e6, e7, e10, hwk]
          refine ⟨k, by omega, k, rfl, by omega, rfl, _, ?_, ?_, hv3, ((hg2.putL _).putL _).trans hg3⟩
          · rw [← hfin2, Sort.heapPop, hp]
          · rw [sift_size]; exact hsz3
      · refine ⟨_, hi, Sort.heapBuild klt hi a K d, rfl, ?_⟩
        simp [e0, e6, e7]
        exact ⟨hpost.symm, hsz, hv1, hg1⟩
    | succ k =>
      have ek : ((k + 1 : Nat) : Int) - 1 = (k : Int) := by omega
      rw [ek] at e9
      have hwk : IntKind.i64.wrap ((k : Int) - 1) = (k : Int) - 1 := IntWalk.i64_in _ (by omega)
      simp [wops_cons, dops_cons, dops_if, dstOf, -st_eq, -ld_eq, -Nat.not_lt, e0, e6, e7, e8, e9]
      refine sift_s n0 d1 hsz i cap pre post k hi a _ hv1 (by omega) (by omega) (by omega) _ fun σ3 hv3 hg3 => ?_
      simp [wops_cons, dops_cons, dops_if, dstOf, -st_eq, -ld_eq, -Nat.not_lt, e0, e6, e7, e8, e9, hwk]
      refine ⟨k, by omega, k, rfl, by omega, rfl, _, ?_, ?_, hv3, hg1.trans hg3⟩
      · rw [← hfin, Sort.heapBuild]
      · rw [sift_size]; exact hsz
  · refine ⟨_, K, d, rfl, ?_⟩
    simp
    exact ⟨hn0, hv, But.refl i σ⟩
theorem rev_s (n0 : Nat) (d : Array ByteArray) (hn0 : d.size = n0) (i cap : Nat) (pre post : List Value) (a b : Nat) (σ : CSt) (hv : SV σ i pre post d) (hb : b ≤ n0) (hbig : n0 < 2 ^ 40) (ha : a < b) (Q : Out → CSt → Prop)
    (h : ∀ σ', SV σ' i pre post (Sort.reverseRange d a b) → But i σ σ' → Q (.ret (.tuple #[]) false) σ') :
    W E1 (.fn 92 #[.slice (some ⟨i, pre.length, none⟩) n0 cap, .int .i64 a, .int .i64 b] none) σ Q := by
  rw [W_fn (fn := Tryz.f92) Tryz.func92 rfl rfl rfl]
  have hw1 : IntKind.i64.wrap ((b : Int) - 1) = ((b - 1 : Nat) : Int) := i64p b (by omega) (by omega)
  simp [wops_cons, dops_cons, dops_if, dstOf, -st_eq, -ld_eq, -Nat.not_lt, hw1]
  refine W_loop_inv (fun n A σ' => ∃ tm x y d', A = ⟨tm, 32, [], false⟩ ∧ tm.get 0 = some (.slice (some ⟨i, pre.length, none⟩) n0 cap) ∧ tm.get 6 = some (.int .i64 (x : Nat)) ∧ tm.get 7 = some (.int .i64 (y : Nat)) ∧ y < b ∧ x ≤ b ∧ n = y ∧ Sort.reverseLoop x y d' = Sort.reverseRange d a b ∧ d'.size = n0 ∧ SV σ' i pre post d' ∧ But i σ σ') ?_ (b - 1) _ _ ?_
  · rintro n A σ1 ⟨tm, x, y, d1, rfl, e0, e6, e7, hy, hx, hn, hfin, hsz, hv1, hg1⟩
    by_cases hxy : x < y
    · have hxy' : (x : Int) < y := by omega
      have hxd : x < n0 := by omega
      have hyd : y < n0 := by omega
      have hw2 := i64n1 x (by omega)
      have hw3 := i64p y (by omega) (by omega)
      have hgi := hv1.1
      have hrx := rowS_get (pre := pre) (post := post) (d := d1) (j := x) (by omega)
      have hry := rowS_get (pre := pre) (post := post) (d := d1) (j := y) (by omega)
      have hst1 := rowS_st (pre := pre) (post := post) (d := d1) (j := x) (by first | omega | (simp; omega)) (aget d1 y)
      have hst2 := rowS_st (pre := pre) (post := post) (d := aset d1 x (aget d1 y)) (j := y) (by first | omega | (simp; omega)) (aget d1 x)
      simp [wops_cons, dops_cons, dops_if, dstOf, -st_eq, -ld_eq, -Nat.not_lt, e0, e6, e7, hxy, hxy']
      refine W_calm (by kernel_rfl) ?_
      simp [wops_cons, dops_cons, dops_if, dstOf, -st_eq, -ld_eq, -Nat.not_lt, e0, e6, e7, hxd, hyd, hgi, hrx, hry, hst1, hst2, hw2, hw3]
      rw [← swp_aset]
      refine ⟨y - 1, by omega, x + 1, rfl, y - 1, rfl, by omega, by omega, rfl, _, ?_, by simp [hsz], (hv1.put _).put _, (hg1.putL _).putL _⟩
      rw [← hfin]
      conv => rhs; rw [Sort.reverseLoop]
      rw [if_pos hxy]
    · have hxy' : ¬ (x : Int) < y := by omega
      rw [Sort.reverseLoop, if_neg hxy] at hfin
      subst hfin
      simp [wops_cons, dops_cons, dops_if, dstOf, -st_eq, -ld_eq, -Nat.not_lt, e0, e6, e7, hxy, hxy']
      exact h σ1 hv1 hg1
  · refine ⟨_, a, b - 1, d, rfl, ?_⟩
    simp
    exact ⟨by omega, by omega, rfl, hn0, hv, But.refl i σ⟩
end Go.Sm
/- Bits; a string's byte. -/
set_option linter.unusedVariables false
set_option linter.unusedSimpArgs false
namespace Go.Sm
open Go
section
variable {P : Program} {σ : CSt} {ev : Operand → Value} {dst : Option Tmp} {ty : TypeId} {pos : String} {after : Array Edge} {g : Option (Nat × Bool)}
variable {t : TypeId} {x y : Operand} {k k' : IntKind} {a b : Int} {s u : ByteArray}
def andI (k : IntKind) (a b : Int) : Int := k.wrap ((BitVec.ofInt k.bits a &&& BitVec.ofInt k.bits b).toNat)
def orI (k : IntKind) (a b : Int) : Int := k.wrap ((BitVec.ofInt k.bits a ||| BitVec.ofInt k.bits b).toNat)
def xorI (k : IntKind) (a b : Int) : Int := k.wrap ((BitVec.ofInt k.bits a ^^^ BitVec.ofInt k.bits b).toNat)
@[simp] theorem bin_and : binF P σ .and t x y (.int k a) (.int k b) = .val (.int k (andI k a b)) σ := by simp [binF, eqGuard, binOp, Op.intBits, andI]
@[simp] theorem bin_or : binF P σ .or t x y (.int k a) (.int k b) = .val (.int k (orI k a b)) σ := by simp [binF, eqGuard, binOp, Op.intBits, orI]
@[simp] theorem bin_xor : binF P σ .xor t x y (.int k a) (.int k b) = .val (.int k (xorI k a b)) σ := by simp [binF, eqGuard, binOp, Op.intBits, xorI]
theorem u64_rng (n : Int) : 0 ≤ IntKind.u64.wrap n ∧ IntKind.u64.wrap n < 2 ^ 64 := by
  have h : IntKind.u64.wrap n = n % 2 ^ 64 := by simp [IntKind.wrap, IntKind.bits, IntKind.signed]
  rw [h]
  omega
/-- s[i], of a string. -/
def idxS (fl : OpR) (ok : Bool) (σ : CSt) : Value → Value → OpR
  | .string s, .int _ n => if ok = true ∧ 0 ≤ n then (match s[n.toNat]? with | some b => .val (.int .u8 b.toNat) σ | none => fl) else fl
  | _, _ => fl
@[simp] theorem copE_index (ix : Operand) : cop P σ ev ⟨dst, .index t x ix, ty, pos, after, g⟩ = idxS (flatOp P σ ev ⟨dst, .index t x ix, ty, pos, after, g⟩) (strT P t) σ (ev x) (ev ix) := by
  unfold idxS
  split
  · rename_i s k n hx hi
    split
    · rename_i h
      split
      · rename_i b hb
        have ht : P.underlying t = some .string := by
          have := h.1
          unfold strT at this
          split at this
          · assumption
          · cases this
        show flatOp P σ ev _ = _
        unfold flatOp
        simp [Op.operands, hx, hi, Sm.flat, flat0, execOp, pureRun_bind, Instr.index, asIntOf, pureRun_underlying, ht, h.2, hb]
      · rfl
    · rfl
  · rfl
/-- min, max of two. -/
def minK (fl : OpR) (σ : CSt) : Value → Value → OpR
  | .int k a, .int _ b => .val (.int k (if b < a then b else a)) σ
  | _, _ => fl
def maxK (fl : OpR) (σ : CSt) : Value → Value → OpR
  | .int k a, .int _ b => .val (.int k (if a < b then b else a)) σ
  | _, _ => fl
@[simp] theorem callOp_min {ts : Array TypeId} : callOp P σ ev ⟨dst, .call ⟨.builtin .min, #[x, y], ts⟩, ty, pos, after, g⟩ ⟨.builtin .min, #[x, y], ts⟩ = minK (flatOp P σ ev ⟨dst, .call ⟨.builtin .min, #[x, y], ts⟩, ty, pos, after, g⟩) σ (ev x) (ev y) := by
  unfold minK
  split
  · rename_i k a k' b hx hy
    show flatOp P σ ev _ = _
    unfold flatOp
    have ho : (⟨.builtin .min, #[x, y], ts⟩ : Call).operands = #[x, y] := by simp [Call.operands]
    simp [Op.operands, ho, hx, hy, Sm.flat, flat0, execOp, pureRun_bind, resolve, invoke, builtin, Builtin.min_, Builtin.min2]
  · rfl
@[simp] theorem callOp_max {ts : Array TypeId} : callOp P σ ev ⟨dst, .call ⟨.builtin .max, #[x, y], ts⟩, ty, pos, after, g⟩ ⟨.builtin .max, #[x, y], ts⟩ = maxK (flatOp P σ ev ⟨dst, .call ⟨.builtin .max, #[x, y], ts⟩, ty, pos, after, g⟩) σ (ev x) (ev y) := by
  unfold maxK
  split
  · rename_i k a k' b hx hy
    show flatOp P σ ev _ = _
    unfold flatOp
    have ho : (⟨.builtin .max, #[x, y], ts⟩ : Call).operands = #[x, y] := by simp [Call.operands]
    simp [Op.operands, ho, hx, hy, Sm.flat, flat0, execOp, pureRun_bind, resolve, invoke, builtin, Builtin.max_, Builtin.max2]
  · rfl
end
end Go.Sm
/- Sorting: bits.Len, the draws, the patterns broken. -/
set_option linter.unusedVariables false
set_option linter.unusedSimpArgs false
namespace Go.Sm
open Go Go.Proofs
set_option maxRecDepth 100000
set_option maxHeartbeats 4000000
def len8 : ByteArray := ⟨#[0, 1, 2, 2, 3, 3, 3, 3, 4, 4, 4, 4, 4, 4, 4, 4, 5, 5, 5, 5, 5, 5, 5, 5, 5, 5, 5, 5, 5, 5, 5, 5, 6, 6, 6, 6, 6, 6, 6, 6, 6, 6, 6, 6, 6, 6, 6, 6, 6, 6, 6, 6, 6, 6, 6, 6, 6, 6, 6, 6, 6, 6, 6, 6, 7, 7, 7, 7, 7, 7, 7, 7, 7, 7, 7, 7, 7, 7, 7, 7, 7, 7, 7, 7, 7, 7, 7, 7, 7, 7, 7, 7, 7, 7, 7, 7, 7, 7, 7, 7, 7, 7, 7, 7, 7, 7, 7, 7, 7, 7, 7, 7, 7, 7, 7, 7, 7, 7, 7, 7, 7, 7, 7, 7, 7, 7, 7, 7, 8, 8, 8, 8, 8, 8, 8, 8, 8, 8, 8, 8, 8, 8, 8, 8, 8, 8, 8, 8, 8, 8, 8, 8, 8, 8, 8, 8, 8, 8, 8, 8, 8, 8, 8, 8, 8, 8, 8, 8, 8, 8, 8, 8, 8, 8, 8, 8, 8, 8, 8, 8, 8, 8, 8, 8, 8, 8, 8, 8, 8, 8, 8, 8, 8, 8, 8, 8, 8, 8, 8, 8, 8, 8, 8, 8, 8, 8, 8, 8, 8, 8, 8, 8, 8, 8, 8, 8, 8, 8, 8, 8, 8, 8, 8, 8, 8, 8, 8, 8, 8, 8, 8, 8, 8, 8, 8, 8, 8, 8, 8, 8, 8, 8, 8, 8, 8, 8, 8, 8, 8, 8, 8, 8, 8, 8, 8, 8]⟩
theorem len8_ok : ∀ b : Fin 256, len8[b.val]? = some (UInt8.ofNat (Sort.bitsLen b.val)) ∧ Sort.bitsLen b.val ≤ 8 := by decide +kernel
theorem bitsLen_shift (k x : Nat) (h : 2 ^ k ≤ x) : Sort.bitsLen x = Sort.bitsLen (x / 2 ^ k) + k := by
  have hp : 0 < 2 ^ k := Nat.two_pow_pos k
  have key : ∀ m, Sort.bitsLen x ≤ m + k ↔ Sort.bitsLen (x / 2 ^ k) ≤ m := fun m => by
    rw [Sort.bitsLen_le_iff, Sort.bitsLen_le_iff, Nat.div_lt_iff_lt_mul hp, Nat.pow_add]
  have hk : k < Sort.bitsLen x := by
    apply Nat.lt_of_not_le
    rw [Sort.bitsLen_le_iff]
    omega
  have h1 := (key (Sort.bitsLen (x / 2 ^ k))).2 (Nat.le_refl _)
  have h2 := (key (Sort.bitsLen x - k)).1 (by omega)
  omega
theorem fdiv_nat (x m : Nat) : ((x : Nat) : Int).fdiv (m : Int) = ((x / m : Nat) : Int) := by rw [Int.fdiv_eq_ediv_of_nonneg _ (by omega)]; rfl
theorem len64_spec (x : Nat) (hx : x < 2 ^ 62) (σ : CSt) (Q : Out → CSt → Prop) (h : Q (.ret (.int .i64 (Sort.bitsLen x)) false) σ) : W E1 (.fn 98 #[.int .u64 x] none) σ Q := by
  rw [W_fn (fn := Tryz.f98) Tryz.func98 rfl rfl rfl]
  have s32 : ((x : Nat) : Int).fdiv (2 ^ min 32 IntKind.u64.bits) = ((x / 4294967296 : Nat) : Int) := fdiv_nat x 4294967296
  have fin : ∀ (y c : Nat), y < 256 → Sort.bitsLen x = Sort.bitsLen y + c → c < 100 → len8[y]? = some (UInt8.ofNat (Sort.bitsLen y)) ∧ IntKind.u8.wrap (y : Int) = y ∧ IntKind.i64.wrap ((Sort.bitsLen y : Nat) : Int) = (Sort.bitsLen y : Nat) ∧ IntKind.i64.wrap ((c : Int) + (Sort.bitsLen y : Nat)) = (Sort.bitsLen x : Nat) ∧ ((UInt8.ofNat (Sort.bitsLen y)).toNat = Sort.bitsLen y) := by
    intro y c hy hb hc
    obtain ⟨h1, h2⟩ := len8_ok ⟨y, hy⟩
    simp only at h1 h2
    refine ⟨h1, IntWalk.u8_in _ (by omega), IntWalk.i64_in _ (by omega), by rw [IntWalk.i64_in _ (by omega)]; omega, ?_⟩
    rw [UInt8.toNat_ofNat_of_lt' (by show _ < 256; omega)]
  unfold len8 at fin
  have w8 : IntKind.i64.wrap 8 = 8 := by decide
  have w16 : IntKind.i64.wrap 16 = 16 := by decide
  have w24 : IntKind.i64.wrap 24 = 24 := by decide
  have w32 : IntKind.i64.wrap 32 = 32 := by decide
  have w40 : IntKind.i64.wrap 40 = 40 := by decide
  have w48 : IntKind.i64.wrap 48 = 48 := by decide
  have w56 : IntKind.i64.wrap 56 = 56 := by decide
  by_cases h32 : 4294967296 ≤ x
  · have b32 := bitsLen_shift 32 x (by simpa using h32)
    have h32' : (4294967296 : Int) ≤ x := by omega
    obtain ⟨y, hy⟩ : ∃ y, y = x / 4294967296 := ⟨_, rfl⟩
    rw [← hy] at s32
    simp only [Nat.reducePow] at b32
    rw [← hy] at b32
    have hyx : y < 2 ^ 32 := by omega
    have s16 : ((y : Nat) : Int).fdiv (2 ^ min 16 IntKind.u64.bits) = ((y / 65536 : Nat) : Int) := fdiv_nat y 65536
    by_cases h16 : 65536 ≤ y
    · have b16 := bitsLen_shift 16 y (by simpa using h16)
      have h16' : (65536 : Int) ≤ y := by omega
      obtain ⟨z, hz⟩ : ∃ z, z = y / 65536 := ⟨_, rfl⟩
      rw [← hz] at s16
      simp only [Nat.reducePow] at b16
      rw [← hz] at b16
      have hzx : z < 65536 := by omega
      have s8 : ((z : Nat) : Int).fdiv (2 ^ min 8 IntKind.u64.bits) = ((z / 256 : Nat) : Int) := fdiv_nat z 256
      by_cases h8 : 256 ≤ z
      · have b8 := bitsLen_shift 8 z (by simpa using h8)
        have h8' : (256 : Int) ≤ z := by omega
        obtain ⟨u, hu⟩ : ∃ u, u = z / 256 := ⟨_, rfl⟩
        rw [← hu] at s8
        simp only [Nat.reducePow] at b8
        rw [← hu] at b8
        obtain ⟨f1, f2, f3, f4, f5⟩ := fin u (32 + 16 + 8) (by omega) (by omega) (by omega)
        simp at f4
        simp [wops_cons, idxS, h32, h32', h16, h16', h8, h8', s32, s16, s8, f1, f2, f3, f4, f5, w8, w16, w24, w32, w40, w48, w56]
        exact h
      · have h8' : ¬ (256 : Int) ≤ z := by omega
        obtain ⟨f1, f2, f3, f4, f5⟩ := fin z (32 + 16) (by omega) (by omega) (by omega)
        simp at f4
        simp [wops_cons, idxS, h32, h32', h16, h16', h8, h8', s32, s16, s8, f1, f2, f3, f4, f5, w8, w16, w24, w32, w40, w48, w56]
        exact h
    · have h16' : ¬ (65536 : Int) ≤ y := by omega
      have b16 : Sort.bitsLen y = Sort.bitsLen y + 0 := rfl
      have hzx : y < 65536 := by omega
      have s8 : ((y : Nat) : Int).fdiv (2 ^ min 8 IntKind.u64.bits) = ((y / 256 : Nat) : Int) := fdiv_nat y 256
      by_cases h8 : 256 ≤ y
      · have b8 := bitsLen_shift 8 y (by simpa using h8)
        have h8' : (256 : Int) ≤ y := by omega
        obtain ⟨u, hu⟩ : ∃ u, u = y / 256 := ⟨_, rfl⟩
        rw [← hu] at s8
        simp only [Nat.reducePow] at b8
        rw [← hu] at b8
        obtain ⟨f1, f2, f3, f4, f5⟩ := fin u (32 + 8) (by omega) (by omega) (by omega)
        simp at f4
        simp [wops_cons, idxS, h32, h32', h16, h16', h8, h8', s32, s16, s8, f1, f2, f3, f4, f5, w8, w16, w24, w32, w40, w48, w56]
        exact h
      · have h8' : ¬ (256 : Int) ≤ y := by omega
        obtain ⟨f1, f2, f3, f4, f5⟩ := fin y (32) (by omega) (by omega) (by omega)
        simp at f4
        simp [wops_cons, idxS, h32, h32', h16, h16', h8, h8', s32, s16, s8, f1, f2, f3, f4, f5, w8, w16, w24, w32, w40, w48, w56]
        exact h
  · have h32' : ¬ (4294967296 : Int) ≤ x := by omega
    have b32 : Sort.bitsLen x = Sort.bitsLen x + 0 := rfl
    have hyx : x < 2 ^ 32 := by omega
    have s16 : ((x : Nat) : Int).fdiv (2 ^ min 16 IntKind.u64.bits) = ((x / 65536 : Nat) : Int) := fdiv_nat x 65536
    by_cases h16 : 65536 ≤ x
    · have b16 := bitsLen_shift 16 x (by simpa using h16)
      have h16' : (65536 : Int) ≤ x := by omega
      obtain ⟨z, hz⟩ : ∃ z, z = x / 65536 := ⟨_, rfl⟩
      rw [← hz] at s16
      simp only [Nat.reducePow] at b16
      rw [← hz] at b16
      have hzx : z < 65536 := by omega
      have s8 : ((z : Nat) : Int).fdiv (2 ^ min 8 IntKind.u64.bits) = ((z / 256 : Nat) : Int) := fdiv_nat z 256
      by_cases h8 : 256 ≤ z
      · have b8 := bitsLen_shift 8 z (by simpa using h8)
        have h8' : (256 : Int) ≤ z := by omega
        obtain ⟨u, hu⟩ : ∃ u, u = z / 256 := ⟨_, rfl⟩
        rw [← hu] at s8
        simp only [Nat.reducePow] at b8
        rw [← hu] at b8
        obtain ⟨f1, f2, f3, f4, f5⟩ := fin u (0 + 16 + 8) (by omega) (by omega) (by omega)
        simp at f4
        simp [wops_cons, idxS, h32, h32', h16, h16', h8, h8', s32, s16, s8, f1, f2, f3, f4, f5, w8, w16, w24, w32, w40, w48, w56]
        exact h
      · have h8' : ¬ (256 : Int) ≤ z := by omega
        obtain ⟨f1, f2, f3, f4, f5⟩ := fin z (0 + 16) (by omega) (by omega) (by omega)
        simp at f4
        simp [wops_cons, idxS, h32, h32', h16, h16', h8, h8', s32, s16, s8, f1, f2, f3, f4, f5, w8, w16, w24, w32, w40, w48, w56]
        exact h
    · have h16' : ¬ (65536 : Int) ≤ x := by omega
      have b16 : Sort.bitsLen x = Sort.bitsLen x + 0 := rfl
      have hzx : x < 65536 := by omega
      have s8 : ((x : Nat) : Int).fdiv (2 ^ min 8 IntKind.u64.bits) = ((x / 256 : Nat) : Int) := fdiv_nat x 256
      by_cases h8 : 256 ≤ x
      · have b8 := bitsLen_shift 8 x (by simpa using h8)
        have h8' : (256 : Int) ≤ x := by omega
        obtain ⟨u, hu⟩ : ∃ u, u = x / 256 := ⟨_, rfl⟩
        rw [← hu] at s8
        simp only [Nat.reducePow] at b8
        rw [← hu] at b8
        obtain ⟨f1, f2, f3, f4, f5⟩ := fin u (0 + 8) (by omega) (by omega) (by omega)
        simp at f4
        simp [wops_cons, idxS, h32, h32', h16, h16', h8, h8', s32, s16, s8, f1, f2, f3, f4, f5, w8, w16, w24, w32, w40, w48, w56]
        exact h
      · have h8' : ¬ (256 : Int) ≤ x := by omega
        obtain ⟨f1, f2, f3, f4, f5⟩ := fin x (0) (by omega) (by omega) (by omega)
        simp at f4
        simp [wops_cons, idxS, h32, h32', h16, h16', h8, h8', s32, s16, s8, f1, f2, f3, f4, f5, w8, w16, w24, w32, w40, w48, w56]
        exact h
theorem len_spec (x : Nat) (hx : x < 2 ^ 62) (σ : CSt) (Q : Out → CSt → Prop) (h : Q (.ret (.int .i64 (Sort.bitsLen x)) false) σ) : W E1 (.fn 72 #[.int .u64 x] none) σ Q := by
  rw [W_fn (fn := Tryz.f72) Tryz.func72 rfl rfl rfl]
  simp [wops_cons]
  refine len64_spec x hx _ _ ?_
  simpa [wops_cons] using h
theorem nextPow_spec (x : Nat) (h0 : 0 < x) (hx : x < 2 ^ 40) (σ : CSt) (Q : Out → CSt → Prop) (h : ∀ m : Nat, 0 < m → m ≤ 2 * x → Q (.ret (.int .u64 m) false) σ) : W E1 (.fn 110 #[.int .i64 x] none) σ Q := by
  rw [W_fn (fn := Tryz.f110) Tryz.func110 rfl rfl rfl]
  have hw : IntKind.u64.wrap (x : Int) = x := IntWalk.u64_in _ (by omega)
  simp [wops_cons, hw]
  refine len_spec x (by omega) _ _ ?_
  have h1 := Sort.two_pow_bitsLen_le h0
  have h2 : Sort.bitsLen x ≤ 40 := (Sort.bitsLen_le_iff x 40).2 hx
  have h3 : min (Sort.bitsLen x) IntKind.u64.bits = Sort.bitsLen x := Nat.min_eq_left (by show _ ≤ 64; omega)
  have h4 : IntKind.u64.wrap ((2 : Int) ^ Sort.bitsLen x) = ((2 ^ Sort.bitsLen x : Nat) : Int) := by
    have e : (2 : Int) ^ Sort.bitsLen x = ((2 ^ Sort.bitsLen x : Nat) : Int) := by simp
    rw [e]
    generalize 2 ^ Sort.bitsLen x = m at h1
    exact IntWalk.u64_in _ (by omega)
  have h5 := Nat.two_pow_pos (Sort.bitsLen x)
  generalize hm : 2 ^ Sort.bitsLen x = m at h1 h4 h5
  have := h m h5 h1
  simpa [wops_cons, h3, h4] using this
theorem next_spec (p : Nat) (r : Int) (σ : CSt) (hp : σ.get p = some (.cells [.int .u64 r] 166 false)) (Q : Out → CSt → Prop)
    (h : ∀ (r' : Int) (σ' : CSt), 0 ≤ r' → r' < 2 ^ 64 → σ'.get p = some (.cells [.int .u64 r'] 166 false) → σ'.n = σ.n → (∀ j, j ≠ p → σ'.get j = σ.get j) → Q (.ret (.int .u64 r') false) σ') : W E1 (.fn 111 #[.pointer (some ⟨p, 0, none⟩)] none) σ Q := by
  rw [W_fn (fn := Tryz.f111) Tryz.func111 rfl rfl rfl]
  simp [wops_cons]
  refine W_calm (by kernel_rfl) ?_
  simp [wops_cons, dops_cons, hp]
  refine W_calm (by kernel_rfl) ?_
  simp [wops_cons, dops_cons, hp]
  refine W_calm (by kernel_rfl) ?_
  simp [wops_cons, dops_cons, hp]
  refine h _ _ ?_ ?_ (by simp) (by simp) (fun j hj => by simp [CSt.get_put, hj])
  · exact (u64_rng _).1
  · exact (u64_rng _).2
theorem andI_lt (a : Int) (m : Nat) (h0 : 0 ≤ a) (ha : a < 2 ^ 64) (hm : 0 < m) (hb : m < 2 ^ 62) : ∃ r : Nat, andI .u64 a ((m - 1 : Nat) : Int) = r ∧ r < m := by
  refine ⟨a.toNat &&& (m - 1), ?_, Nat.lt_of_le_of_lt Nat.and_le_right (by omega)⟩
  unfold andI
  have e1 : (BitVec.ofInt IntKind.u64.bits a).toNat = a.toNat := by
    rw [BitVec.toNat_ofInt]
    show (a % ((2 ^ 64 : Nat) : Int)).toNat = _
    rw [Int.emod_eq_of_lt h0 (by simpa using ha)]
  have e2 : (BitVec.ofInt IntKind.u64.bits ((m - 1 : Nat) : Int)).toNat = m - 1 := by
    rw [BitVec.toNat_ofInt]
    show (((m - 1 : Nat) : Int) % ((2 ^ 64 : Nat) : Int)).toNat = _
    rw [Int.emod_eq_of_lt (by omega) (by omega)]
    rfl
  rw [BitVec.toNat_and, e1, e2]
  have := Nat.and_le_right (n := a.toNat) (m := m - 1)
  exact IntWalk.u64_in _ (by omega)
theorem swp_permS {d : Array ByteArray} {a b i j : Nat} (h1 : a ≤ i) (h2 : i < b) (h3 : a ≤ j) (h4 : j < b) (h5 : b ≤ d.size) : Sort.PermIn a b d (Sort.swp d i j) := Sort.swp_permIn d a b i j h1 h2 h3 h4 h5
theorem break_s (n0 : Nat) (d : Array ByteArray) (hn0 : d.size = n0) (i cap : Nat) (pre post : List Value) (a b : Nat) (σ : CSt) (hv : SV σ i pre post d) (hb : b ≤ n0) (hbig : n0 < 2 ^ 40) (ha : a ≤ b) (Q : Out → CSt → Prop)
    (h : ∀ σ' d', Sort.PermIn a b d d' → SV σ' i pre post d' → But i σ σ' → Q (.ret (.tuple #[]) false) σ') :
    W E1 (.fn 90 #[.slice (some ⟨i, pre.length, none⟩) n0 cap, .int .i64 a, .int .i64 b] none) σ Q := by
  rw [W_fn (fn := Tryz.f90) Tryz.func90 rfl rfl rfl]
  obtain ⟨len, hlen⟩ : ∃ len, len = b - a := ⟨_, rfl⟩
  have hw1 : IntKind.i64.wrap ((b : Int) - a) = (len : Int) := by rw [IntWalk.i64_in _ (by omega)]; omega
  by_cases h8 : 8 ≤ len
  · have h8' : (8 : Int) ≤ len := by omega
    obtain ⟨q, hq⟩ : ∃ q, q = len / 4 := ⟨_, rfl⟩
    have hw2 : IntKind.u64.wrap (len : Int) = len := IntWalk.u64_in _ (by omega)
    have hw3 : IntKind.i64.wrap ((len : Int).tdiv 4) = (q : Int) := by rw [IntWalk.i64_quo _ _ (by omega)]; omega
    have hw3' : IntKind.i64.wrap ((len : Int) / 4) = (q : Int) := by rw [IntWalk.i64_in _ (by omega)]; omega
    have hw4 : IntKind.i64.wrap ((q : Int) * 2) = (q : Int) * 2 := IntWalk.i64_in _ (by omega)
    have hw5 : IntKind.i64.wrap ((a : Int) + (q : Int) * 2) = ((a + q * 2 : Nat) : Int) := by rw [IntWalk.i64_in _ (by omega)]; omega
    obtain ⟨m0, hm0⟩ : ∃ m0, m0 = a + q * 2 := ⟨_, rfl⟩
    rw [← hm0] at hw5
    have hw6 : IntKind.i64.wrap ((m0 : Int) - 1) = ((m0 - 1 : Nat) : Int) := i64p m0 (by omega) (by omega)
    have hw7 : IntKind.i64.wrap ((m0 : Int) + 1) = ((m0 + 1 : Nat) : Int) := i64n1 m0 (by omega)
    simp [wops_cons, dops_cons, dops_if, dstOf, -Nat.not_lt, hw1, h8, h8', hw2]
    have hga : But i σ ((σ.alloc (.cells [.int .u64 0] 166 false)).put σ.n (.cells [.int .u64 len] 166 false)) := ((But.refl i σ).alloc _).put (Nat.le_refl _) _
    have hin := hv.2
    refine nextPow_spec len (by omega) (by omega) _ _ fun m hm hm2 => ?_
    simp [wops_cons, dops_cons, dops_if, dstOf, -st_eq, -ld_eq, -Nat.not_lt, hw1, hw3, hw3', hw4, hw5, hw6]
    refine W_loop_inv (fun n A σ' => ∃ tm k d' r, A = ⟨tm, 65, [], false⟩ ∧ tm.get 0 = some (.slice (some ⟨i, pre.length, none⟩) n0 cap) ∧ tm.get 1 = some (.int .i64 (a : Nat)) ∧ tm.get 6 = some (.int .i64 (len : Nat)) ∧ tm.get 7 = some (.pointer (some ⟨σ.n, 0, none⟩)) ∧ tm.get 8 = some (.int .u64 (m : Nat)) ∧ tm.get 9 = some (.int .i64 (k : Nat)) ∧ m0 - 1 ≤ k ∧ n = m0 + 2 - k ∧ k ≤ m0 + 2 ∧ Sort.PermIn a b d d' ∧ d'.size = n0 ∧ σ'.get σ.n = some (.cells [.int .u64 r] 166 false) ∧ SV σ' i pre post d' ∧ But i σ σ') ?_ 3 _ _ ?_
    · rintro n A σ1 ⟨tm, k, d1, r, rfl, e0, e1, e6, e7, e8, e9, hk, hn, hk2, hpm, hsz, hx, hv1, hg1⟩
      by_cases hkm : k ≤ m0 + 1
      · have hkm' : (k : Int) ≤ ((m0 + 1 : Nat) : Int) := by omega
        have hkm2 : (k : Int) ≤ (m0 : Int) + 1 := by omega
        simp [wops_cons, dops_cons, dops_if, dstOf, -st_eq, -ld_eq, -Nat.not_lt, e0, e1, e6, e7, e8, e9, hw3, hw3', hw4, hw5, hw7, hkm, hkm', hkm2]
        refine next_spec σ.n r σ1 hx _ fun r' σ2 hr0 hr1 hx2 hn2 hoth => ?_
        have hm1 : IntKind.u64.wrap ((m : Int) - 1) = ((m - 1 : Nat) : Int) := by rw [IntWalk.u64_in _ (by omega)]; omega
        obtain ⟨o, ho, hom⟩ := andI_lt r' m hr0 hr1 hm (by omega)
        have hwo : IntKind.i64.wrap (o : Int) = (o : Int) := IntWalk.i64_in _ (by omega)
        have hv2 : SV σ2 i pre post d1 := ⟨by rw [hoth i (by omega)]; exact hv1.1, by rw [hn2]; exact hv1.2⟩
        have hg2 : But i σ σ2 := ⟨by rw [hn2]; exact hg1.1, fun j hj hne => by rw [hoth j (by omega)]; exact hg1.2 j hj hne⟩
        have hgi := hv2.1
        have hwk := i64n1 k (by omega)
        by_cases hol : len ≤ o
        · have hol' : (len : Int) ≤ o := by omega
          obtain ⟨o2, ho2⟩ : ∃ o2, o2 = o - len := ⟨_, rfl⟩
          have hwo2 : IntKind.i64.wrap ((o : Int) - len) = (o2 : Int) := by rw [IntWalk.i64_in _ (by omega)]; omega
          simp [wops_cons, dops_cons, dops_if, dstOf, -st_eq, -ld_eq, -Nat.not_lt, e0, e1, e6, e7, e8, e9, hm1, ho, hwo, hol, hol', hwo2]
          refine W_calm (by kernel_rfl) ?_
          obtain ⟨p, hp⟩ : ∃ p, p = a + o2 := ⟨_, rfl⟩
          have hwp : IntKind.i64.wrap ((a : Int) + (o2 : Nat)) = (p : Int) := by rw [IntWalk.i64_in _ (by omega)]; omega
          have hpd : p < n0 := by omega
          have hkd : k < n0 := by omega
          have hrp := rowS_get (pre := pre) (post := post) (d := d1) (j := p) (by omega)
          have hrk := rowS_get (pre := pre) (post := post) (d := d1) (j := k) (by omega)
          have hst1 := rowS_st (pre := pre) (post := post) (d := d1) (j := k) (by first | omega | (simp; omega)) (aget d1 p)
          have hst2 := rowS_st (pre := pre) (post := post) (d := aset d1 k (aget d1 p)) (j := p) (by first | omega | (simp; omega)) (aget d1 k)
          simp [wops_cons, dops_cons, dops_if, dstOf, -st_eq, -ld_eq, -Nat.not_lt, e0, e1, e6, e7, e8, e9, hwp, hpd, hkd, hgi, hrp, hrk, hst1, hst2, hwk]
          rw [← swp_aset]
          refine ⟨m0 + 2 - (k + 1), by omega, k + 1, rfl, by omega, rfl, by omega, _, Sort.permIn_trans _ _ _ _ _ hpm (swp_permS (by omega) (by omega) (by omega) (by omega) (by omega)), by simp [hsz], ⟨r', ?_⟩, (hv2.put _).put _, (hg2.putL _).putL _⟩
          rw [if_neg (by omega), if_neg (by omega)]
          exact hx2
        · have hol' : ¬ (len : Int) ≤ o := by omega
          simp [wops_cons, dops_cons, dops_if, dstOf, -st_eq, -ld_eq, -Nat.not_lt, e0, e1, e6, e7, e8, e9, hm1, ho, hwo, hol, hol']
          refine W_calm (by kernel_rfl) ?_
          obtain ⟨p, hp⟩ : ∃ p, p = a + o := ⟨_, rfl⟩
          have hwp : IntKind.i64.wrap ((a : Int) + (o : Nat)) = (p : Int) := by rw [IntWalk.i64_in _ (by omega)]; omega
          have hpd : p < n0 := by omega
          have hkd : k < n0 := by omega
          have hrp := rowS_get (pre := pre) (post := post) (d := d1) (j := p) (by omega)
          have hrk := rowS_get (pre := pre) (post := post) (d := d1) (j := k) (by omega)
          have hst1 := rowS_st (pre := pre) (post := post) (d := d1) (j := k) (by first | omega | (simp; omega)) (aget d1 p)
          have hst2 := rowS_st (pre := pre) (post := post) (d := aset d1 k (aget d1 p)) (j := p) (by first | omega | (simp; omega)) (aget d1 k)
          simp [wops_cons, dops_cons, dops_if, dstOf, -st_eq, -ld_eq, -Nat.not_lt, e0, e1, e6, e7, e8, e9, hwp, hpd, hkd, hgi, hrp, hrk, hst1, hst2, hwk]
          rw [← swp_aset]
          refine ⟨m0 + 2 - (k + 1), by omega, k + 1, rfl, by omega, rfl, by omega, _, Sort.permIn_trans _ _ _ _ _ hpm (swp_permS (by omega) (by omega) (by omega) (by omega) (by omega)), by simp [hsz], ⟨r', ?_⟩, (hv2.put _).put _, (hg2.putL _).putL _⟩
          rw [if_neg (by omega), if_neg (by omega)]
          exact hx2
      · have hkm' : ¬ (k : Int) ≤ ((m0 + 1 : Nat) : Int) := by omega
        have hkm2 : ¬ (k : Int) ≤ (m0 : Int) + 1 := by omega
        simp [wops_cons, dops_cons, dops_if, dstOf, -st_eq, -ld_eq, -Nat.not_lt, e0, e1, e6, e7, e8, e9, hw3, hw3', hw4, hw5, hw7, hkm, hkm', hkm2]
        exact h σ1 d1 hpm hv1 hg1
    · refine ⟨_, m0 - 1, d, len, rfl, ?_⟩
      simp
      exact ⟨by omega, by omega, Sort.permIn_refl d a b, hn0, ⟨by rw [CSt.get_put, if_neg (by omega), CSt.get_alloc, if_neg (by omega)]; exact hv.1, by simp; omega⟩, hga⟩
  · have h8' : ¬ (8 : Int) ≤ len := by omega
    simp [wops_cons, dops_cons, dops_if, dstOf, -st_eq, -ld_eq, -Nat.not_lt, hw1, h8, h8']
    exact h σ d (Sort.permIn_refl d a b) hv (But.refl i σ)
end Go.Sm
/- Sorting strings: the pivot. -/
set_option linter.unusedVariables false
set_option linter.unusedSimpArgs false
namespace Go.Sm
open Go Go.Proofs
set_option maxRecDepth 100000
set_option maxHeartbeats 4000000
/-- But for a counter. -/
def Cnt (p : Nat) (σ σ' : CSt) : Prop := σ'.n = σ.n ∧ (∀ j, j ≠ p → σ'.get j = σ.get j) ∧ ∃ s : Int, σ'.get p = some (.cells [.int .i64 s] 3 false)
theorem Cnt.trans {p : Nat} {a b c : CSt} (h : Cnt p a b) (h' : Cnt p b c) : Cnt p a c := ⟨by rw [h'.1, h.1], fun j hj => by rw [h'.2.1 j hj, h.2.1 j hj], h'.2.2⟩
theorem SV.cnt {p i : Nat} {pre post : List Value} {d : Array ByteArray} {σ σ' : CSt} (h : SV σ i pre post d) (hs : Cnt p σ σ') (hne : i ≠ p) : SV σ' i pre post d := ⟨by rw [hs.2.1 i hne]; exact h.1, by rw [hs.1]; exact h.2⟩
theorem order2_s (n0 : Nat) (d : Array ByteArray) (hn0 : d.size = n0) (i cap : Nat) (pre post : List Value) (a b p : Nat) (σ : CSt) (hv : SV σ i pre post d) (ha : a < n0) (hb : b < n0) (hip : i ≠ p) (s : Int) (hp : σ.get p = some (.cells [.int .i64 s] 3 false)) (Q : Out → CSt → Prop)
    (h : ∀ (x y : Nat) σ', (x = a ∧ y = b) ∨ (x = b ∧ y = a) → Cnt p σ σ' → Q (.ret (.tuple #[.int .i64 x, .int .i64 y]) false) σ') :
    W E1 (.fn 119 #[.slice (some ⟨i, pre.length, none⟩) n0 cap, .int .i64 a, .int .i64 b, .pointer (some ⟨p, 0, none⟩)] none) σ Q := by
  rw [W_fn (fn := Tryz.f119) Tryz.func119 rfl rfl rfl]
  have hgi := hv.1
  have hra := rowS_get (pre := pre) (post := post) (d := d) (j := a) (by omega)
  have hrb := rowS_get (pre := pre) (post := post) (d := d) (j := b) (by omega)
  simp [wops_cons, dops_cons, dops_if, dstOf, -st_eq, -ld_eq, -Nat.not_lt]
  refine W_calm (by kernel_rfl) ?_
  simp [wops_cons, dops_cons, dops_if, dstOf, -st_eq, -ld_eq, -Nat.not_lt, ha, hb, hgi, hra, hrb]
  refine less_s _ _ _ _ ?_
  cases hl : klt (aget d b) (aget d a)
  · simp [wops_cons, dops_cons, dops_if, dstOf, -st_eq, -ld_eq, -Nat.not_lt]
    exact h a b σ (.inl ⟨rfl, rfl⟩) ⟨rfl, fun _ _ => rfl, s, hp⟩
  · simp [wops_cons, dops_cons, dops_if, dstOf, -Nat.not_lt, hp]
    refine h b a _ (.inr ⟨rfl, rfl⟩) ⟨by simp, fun j hj => by simp [CSt.get_put, hj], ?_⟩
    exact ⟨_, by rw [CSt.get_put, if_pos rfl]⟩
theorem median_s (n0 : Nat) (d : Array ByteArray) (hn0 : d.size = n0) (i cap : Nat) (pre post : List Value) (a b c p : Nat) (σ : CSt) (hv : SV σ i pre post d) (ha : a < n0) (hb : b < n0) (hc : c < n0) (hip : i ≠ p) (s : Int) (hp : σ.get p = some (.cells [.int .i64 s] 3 false)) (Q : Out → CSt → Prop)
    (h : ∀ (x : Nat) σ', x = a ∨ x = b ∨ x = c → Cnt p σ σ' → Q (.ret (.int .i64 x) false) σ') :
    W E1 (.fn 113 #[.slice (some ⟨i, pre.length, none⟩) n0 cap, .int .i64 a, .int .i64 b, .int .i64 c, .pointer (some ⟨p, 0, none⟩)] none) σ Q := by
  rw [W_fn (fn := Tryz.f113) Tryz.func113 rfl rfl rfl]
  simp [wops_cons, dops_cons, dops_if, dstOf, -st_eq, -ld_eq, -Nat.not_lt]
  refine order2_s n0 d hn0 i cap pre post a b p σ hv ha hb hip s hp _ fun x y σ1 hxy h1 => ?_
  obtain ⟨s1, hs1⟩ := h1.2.2
  simp [wops_cons, dops_cons, dops_if, dstOf, -st_eq, -ld_eq, -Nat.not_lt]
  refine order2_s n0 d hn0 i cap pre post y c p σ1 (hv.cnt h1 hip) (by omega) hc hip s1 hs1 _ fun z w σ2 hzw h2 => ?_
  obtain ⟨s2, hs2⟩ := h2.2.2
  simp [wops_cons, dops_cons, dops_if, dstOf, -st_eq, -ld_eq, -Nat.not_lt]
  refine order2_s n0 d hn0 i cap pre post x z p σ2 (hv.cnt (h1.trans h2) hip) (by omega) (by omega) hip s2 hs2 _ fun u v σ3 huv h3 => ?_
  simp [wops_cons, dops_cons, dops_if, dstOf, -st_eq, -ld_eq, -Nat.not_lt]
  exact h v σ3 (by omega) ((h1.trans h2).trans h3)
theorem medadj_s (n0 : Nat) (d : Array ByteArray) (hn0 : d.size = n0) (i cap : Nat) (pre post : List Value) (a p : Nat) (σ : CSt) (hv : SV σ i pre post d) (ha0 : 0 < a) (ha : a + 1 < n0) (hbig : n0 < 2 ^ 40) (hip : i ≠ p) (s : Int) (hp : σ.get p = some (.cells [.int .i64 s] 3 false)) (Q : Out → CSt → Prop)
    (h : ∀ (x : Nat) σ', a - 1 ≤ x → x ≤ a + 1 → Cnt p σ σ' → Q (.ret (.int .i64 x) false) σ') :
    W E1 (.fn 112 #[.slice (some ⟨i, pre.length, none⟩) n0 cap, .int .i64 a, .pointer (some ⟨p, 0, none⟩)] none) σ Q := by
  rw [W_fn (fn := Tryz.f112) Tryz.func112 rfl rfl rfl]
  have hw1 := i64p a (by omega) (by omega)
  obtain ⟨a1, ha1⟩ : ∃ a1, a1 = a + 1 := ⟨_, rfl⟩
  have hw2 : IntKind.i64.wrap ((a : Int) + 1) = (a1 : Int) := by rw [i64n1 a (by omega), ha1]
  simp [wops_cons, dops_cons, dops_if, dstOf, -st_eq, -ld_eq, -Nat.not_lt, hw1, hw2]
  refine median_s n0 d hn0 i cap pre post (a - 1) a a1 p σ hv (by omega) (by omega) (by omega) hip s hp _ fun x σ1 hx h1 => ?_
  simp [wops_cons, dops_cons, dops_if, dstOf, -st_eq, -ld_eq, -Nat.not_lt]
  exact h x σ1 (by omega) (by omega) h1
theorem piv_ar {n0 a b len q x y z : Nat} (hb : b ≤ n0) (hlen : len = b - a) (hq : q = len / 4) (hx : x = a + q) (hy : y = a + q * 2) (hz : z = a + q * 3) (hab : a < b) : a ≤ x ∧ a ≤ y ∧ a ≤ z ∧ x < b ∧ y < b ∧ z < b ∧ x < n0 ∧ y < n0 ∧ z < n0 ∧ (8 ≤ len → a < x ∧ a < y ∧ a < z ∧ 0 < x ∧ 0 < y ∧ 0 < z ∧ x + 1 < b ∧ y + 1 < b ∧ z + 1 < b ∧ x + 1 < n0 ∧ y + 1 < n0 ∧ z + 1 < n0) := by omega
theorem piv_in {n0 a b x x' : Nat} (hb : b ≤ n0) (h1 : a < x) (h2 : x + 1 < b) (h3 : x - 1 ≤ x') (h4 : x' ≤ x + 1) : a ≤ x' ∧ x' < b ∧ x' < n0 := by omega
theorem piv_or {a b x y z u : Nat} (hu : u = x ∨ u = y ∨ u = z) (hx : a ≤ x ∧ x < b) (hy : a ≤ y ∧ y < b) (hz : a ≤ z ∧ z < b) : a ≤ u ∧ u < b := by omega
theorem pivot_s (n0 : Nat) (d : Array ByteArray) (hn0 : d.size = n0) (i cap : Nat) (pre post : List Value) (a b : Nat) (σ : CSt) (hv : SV σ i pre post d) (hb : b ≤ n0) (hbig : n0 < 2 ^ 40) (hab : a < b) (Q : Out → CSt → Prop)
    (h : ∀ (x : Nat) (hint : Int) σ', a ≤ x → x < b → (hint = 0 ∨ hint = 1 ∨ hint = 2) → SV σ' i pre post d → But i σ σ' → Q (.ret (.tuple #[.int .i64 x, .int .i64 hint]) false) σ') :
    W E1 (.fn 91 #[.slice (some ⟨i, pre.length, none⟩) n0 cap, .int .i64 a, .int .i64 b] none) σ Q := by
  rw [W_fn (fn := Tryz.f91) Tryz.func91 rfl rfl rfl]
  obtain ⟨len, hlen⟩ : ∃ len, len = b - a := ⟨_, rfl⟩
  have hw1 : IntKind.i64.wrap ((b : Int) - a) = (len : Int) := by rw [IntWalk.i64_in _ (by omega)]; omega
  obtain ⟨q, hq⟩ : ∃ q, q = len / 4 := ⟨_, rfl⟩
  have hw3 : IntKind.i64.wrap ((len : Int).tdiv 4) = (q : Int) := by rw [IntWalk.i64_quo _ _ (by omega)]; omega
  have hw3' : IntKind.i64.wrap ((len : Int) / 4) = (q : Int) := by rw [IntWalk.i64_in _ (by omega)]; omega
  obtain ⟨x, hx⟩ : ∃ x, x = a + q := ⟨_, rfl⟩
  obtain ⟨y, hy⟩ : ∃ y, y = a + q * 2 := ⟨_, rfl⟩
  obtain ⟨z, hz⟩ : ∃ z, z = a + q * 3 := ⟨_, rfl⟩
  have hm1 : IntKind.i64.wrap (q : Int) = (q : Int) := IntWalk.i64_in _ (by omega)
  have hm1' : IntKind.i64.wrap ((q : Int) * 1) = (q : Int) := by rw [IntWalk.i64_in _ (by omega)]; omega
  have hm2 : IntKind.i64.wrap ((q : Int) * 2) = (q : Int) * 2 := IntWalk.i64_in _ (by omega)
  have hm3 : IntKind.i64.wrap ((q : Int) * 3) = (q : Int) * 3 := IntWalk.i64_in _ (by omega)
  have hwx : IntKind.i64.wrap ((a : Int) + q) = (x : Int) := by rw [IntWalk.i64_in _ (by omega)]; omega
  have hwy : IntKind.i64.wrap ((a : Int) + (q : Int) * 2) = (y : Int) := by rw [IntWalk.i64_in _ (by omega)]; omega
  have hwz : IntKind.i64.wrap ((a : Int) + (q : Int) * 3) = (z : Int) := by rw [IntWalk.i64_in _ (by omega)]; omega
  obtain ⟨ax, ay, az, xb, yb, zb, xn, yn, zn, hA⟩ := piv_ar hb hlen hq hx hy hz hab
  have hin := hv.2
  have hip : i ≠ σ.n := Nat.ne_of_lt hin
  have hga : But i σ (σ.alloc (.cells [.int .i64 0] 3 false)) := (But.refl i σ).alloc _
  have hva : SV (σ.alloc (.cells [.int .i64 0] 3 false)) i pre post d := ⟨by rw [CSt.get_alloc, if_neg hip]; exact hv.1, by simp; omega⟩
  have hpa : (σ.alloc (.cells [.int .i64 0] 3 false)).get σ.n = some (.cells [.int .i64 0] 3 false) := by simp
  have hsw : ∀ {s : CSt}, Cnt σ.n (σ.alloc (.cells [.int .i64 0] 3 false)) s → But i σ s := fun hs => ⟨by rw [hs.1]; exact hga.1, fun j hj hne => by rw [hs.2.1 j (by omega)]; exact hga.2 j hj hne⟩
  have hend : ∀ (u : Nat) (s1 : CSt) (s : Int), a ≤ u → u < b → Cnt σ.n (σ.alloc (.cells [.int .i64 0] 3 false)) s1 → (s = 0 ∨ s = 1 ∨ s = 2) → Q (.ret (.tuple #[.int .i64 u, .int .i64 s]) false) s1 := fun u s1 s h1 h2 h3 h4 => h u s s1 h1 h2 h4 (hva.cnt h3 hip) (hsw h3)
  by_cases h8 : 8 ≤ len
  · have h8' : (8 : Int) ≤ len := by omega
    obtain ⟨lax, lay, laz, x0, y0, z0, x1b, y1b, z1b, x1n, y1n, z1n⟩ := hA h8
    by_cases h50 : 50 ≤ len
    · have h50' : (50 : Int) ≤ len := by omega
      simp [wops_cons, dops_cons, dops_if, dstOf, -st_eq, -ld_eq, -Nat.not_lt, hw1, hw3, hw3', hm1, hm1', hm2, hm3, hwx, hwy, hwz, h8, h8', h50, h50']
      refine medadj_s n0 d hn0 i cap pre post x σ.n _ hva x0 x1n hbig hip 0 hpa _ fun x' σ1 hx1 hx2 h1 => ?_
      obtain ⟨s1, hs1⟩ := h1.2.2
      simp [wops_cons, dops_cons, dops_if, dstOf, -st_eq, -ld_eq, -Nat.not_lt]
      refine medadj_s n0 d hn0 i cap pre post y σ.n _ (hva.cnt h1 hip) y0 y1n hbig hip s1 hs1 _ fun y' σ2 hy1 hy2 h2 => ?_
      obtain ⟨s2, hs2⟩ := h2.2.2
      have h12 := h1.trans h2
      simp [wops_cons, dops_cons, dops_if, dstOf, -st_eq, -ld_eq, -Nat.not_lt]
      refine medadj_s n0 d hn0 i cap pre post z σ.n _ (hva.cnt h12 hip) z0 z1n hbig hip s2 hs2 _ fun z' σ3 hz1 hz2 h3 => ?_
      obtain ⟨s3, hs3⟩ := h3.2.2
      have h13 := h12.trans h3
      simp [wops_cons, dops_cons, dops_if, dstOf, -st_eq, -ld_eq, -Nat.not_lt]
      obtain ⟨k1, k2, k3⟩ := piv_in hb lax x1b hx1 hx2
      obtain ⟨k4, k5, k6⟩ := piv_in hb lay y1b hy1 hy2
      obtain ⟨k7, k8, k9⟩ := piv_in hb laz z1b hz1 hz2
      have hpb := fun u hu => piv_or (u := u) hu ⟨k1, k2⟩ ⟨k4, k5⟩ ⟨k7, k8⟩
      refine median_s n0 d hn0 i cap pre post x' y' z' σ.n _ (hva.cnt h13 hip) k3 k6 k9 hip s3 hs3 _ fun u σ4 hu h4 => ?_
      obtain ⟨s4, hs4⟩ := ((h13.trans h4)).2.2
      replace hpb := hpb u hu
      by_cases h0 : s4 = 0
      · simp [wops_cons, dops_cons, dops_if, dstOf, -Nat.not_lt, hs4, h0]
        exact hend u σ4 1 hpb.1 hpb.2 (h13.trans h4) (.inr (.inl rfl))
      · by_cases h12' : s4 = 12
        · simp [wops_cons, dops_cons, dops_if, dstOf, -Nat.not_lt, hs4, h0, h12']
          exact hend u σ4 2 hpb.1 hpb.2 (h13.trans h4) (.inr (.inr rfl))
        · simp [wops_cons, dops_cons, dops_if, dstOf, -Nat.not_lt, hs4, h0, h12']
          exact hend u σ4 0 hpb.1 hpb.2 (h13.trans h4) (.inl rfl)
    · have h50' : ¬ (50 : Int) ≤ len := by omega
      simp [wops_cons, dops_cons, dops_if, dstOf, -st_eq, -ld_eq, -Nat.not_lt, hw1, hw3, hw3', hm1, hm1', hm2, hm3, hwx, hwy, hwz, h8, h8', h50, h50']
      have hpb := fun u hu => piv_or (u := u) hu ⟨ax, xb⟩ ⟨ay, yb⟩ ⟨az, zb⟩
      refine median_s n0 d hn0 i cap pre post x y z σ.n _ hva xn yn zn hip 0 hpa _ fun u σ4 hu h4 => ?_
      obtain ⟨s4, hs4⟩ := (h4).2.2
      replace hpb := hpb u hu
      by_cases h0 : s4 = 0
      · simp [wops_cons, dops_cons, dops_if, dstOf, -Nat.not_lt, hs4, h0]
        exact hend u σ4 1 hpb.1 hpb.2 h4 (.inr (.inl rfl))
      · by_cases h12' : s4 = 12
        · simp [wops_cons, dops_cons, dops_if, dstOf, -Nat.not_lt, hs4, h0, h12']
          exact hend u σ4 2 hpb.1 hpb.2 h4 (.inr (.inr rfl))
        · simp [wops_cons, dops_cons, dops_if, dstOf, -Nat.not_lt, hs4, h0, h12']
          exact hend u σ4 0 hpb.1 hpb.2 h4 (.inl rfl)
  · have h8' : ¬ (8 : Int) ≤ len := by omega
    simp [wops_cons, dops_cons, dops_if, dstOf, -st_eq, -ld_eq, -Nat.not_lt, hw1, hw3, hw3', hm1, hm1', hm2, hm3, hwx, hwy, hwz, h8, h8']
    exact hend y _ 1 ay yb ⟨rfl, fun _ _ => rfl, 0, hpa⟩ (.inr (.inl rfl))
end Go.Sm
/- Sorting strings: partial insertion sort. -/
set_option linter.unusedVariables false
set_option linter.unusedSimpArgs false
namespace Go.Sm
open Go Go.Proofs
set_option maxRecDepth 100000
set_option maxHeartbeats 4000000
section
variable {lt : ByteArray → ByteArray → Bool}
theorem shiftDown_size : ∀ (j : Nat) (d : Array ByteArray), (Sort.shiftDown lt j d).size = d.size
  | 0, d => rfl
  | j + 1, d => by
    rw [Sort.shiftDown]
    split
    · rfl
    · rw [shiftDown_size j]; simp
theorem shiftUp_size (b j : Nat) (d : Array ByteArray) : (Sort.shiftUp lt b j d).size = d.size := by
  fun_induction Sort.shiftUp lt b j d <;> simp_all
theorem scanSorted_rng (d : Array ByteArray) (b i : Nat) : i ≤ b → i ≤ Sort.scanSorted lt d b i ∧ Sort.scanSorted lt d b i ≤ b := by
  fun_induction Sort.scanSorted lt d b i with
  | case1 i h ih => intro h1; simp at h; have := ih (by omega); omega
  | case2 i h => intro h1; omega
end
theorem pins_ar {a b n0 k s2 : Nat} (h1 : a + 1 ≤ k) (h2 : k < b) (h3 : b ≤ n0) : 0 < k ∧ k < n0 ∧ k - 1 < n0 ∧ k ≤ n0 := by omega
theorem partIns_s (n0 : Nat) (d : Array ByteArray) (hn0 : d.size = n0) (i cap : Nat) (pre post : List Value) (a b : Nat) (σ : CSt) (hv : SV σ i pre post d) (hb : b ≤ n0) (hbig : n0 < 2 ^ 40) (hab : a < b) (Q : Out → CSt → Prop)
    (h : ∀ σ', SV σ' i pre post (Sort.partialInsertionSort klt d a b).1 → But i σ σ' → Q (.ret (.bool (Sort.partialInsertionSort klt d a b).2) false) σ') :
    W E1 (.fn 93 #[.slice (some ⟨i, pre.length, none⟩) n0 cap, .int .i64 a, .int .i64 b] none) σ Q := by
  rw [W_fn (fn := Tryz.f93) Tryz.func93 rfl rfl rfl]
  unfold Sort.partialInsertionSort at h
  have hwa := i64n1 a (by omega)
  simp [wops_cons, dops_cons, dops_if, dstOf, -st_eq, -ld_eq, -Nat.not_lt, hwa]
  refine W_loop_inv (fun n A σ' => ∃ tm k s d', A = ⟨tm, 133, [], false⟩ ∧ tm.get 0 = some (.slice (some ⟨i, pre.length, none⟩) n0 cap) ∧ tm.get 1 = some (.int .i64 a) ∧ tm.get 2 = some (.int .i64 b) ∧ tm.get 6 = some (.bool false) ∧ tm.get 7 = some (.int .i64 (k : Nat)) ∧ tm.get 8 = some (.int .i64 (s : Nat)) ∧ a + 1 ≤ k ∧ k ≤ b ∧ s ≤ 5 ∧ n = 5 - s ∧ d'.size = n0 ∧ Sort.partialIns klt a b (5 - s) k d' = Sort.partialIns klt a b 5 (a + 1) d ∧ SV σ' i pre post d' ∧ But i σ σ') ?_ 5 _ _ ?_
  · rintro n A σ1 ⟨tm, k, s, d1, rfl, e0, e1, e2, e6, e7, e8, hak, hkb, hs5, hn, hsz, hfin, hv1, hg1⟩
    by_cases hs : s < 5
    · have hs' : (s : Int) < 5 := by omega
      obtain ⟨s', hs'5⟩ : ∃ s', 5 - s = s' + 1 := ⟨4 - s, by omega⟩
      rw [hs'5, Sort.partialIns] at hfin
      have hsc := scanSorted_rng (lt := klt) d1 b k hkb
      simp [wops_cons, dops_cons, dops_if, dstOf, -st_eq, -ld_eq, -Nat.not_lt, e0, e1, e2, e6, e7, e8, hs, hs']
      refine W_loop_J (fun n' A σ' => ∃ tm k', A = ⟨tm, 133, [], false⟩ ∧ tm.get 0 = some (.slice (some ⟨i, pre.length, none⟩) n0 cap) ∧ tm.get 1 = some (.int .i64 a) ∧ tm.get 2 = some (.int .i64 b) ∧ tm.get 6 = some (.bool false) ∧ tm.get 7 = some (.int .i64 (k' : Nat)) ∧ tm.get 8 = some (.int .i64 (s : Nat)) ∧ a + 1 ≤ k' ∧ k' ≤ b ∧ n' = b - k' ∧ Sort.scanSorted klt d1 b k' = Sort.scanSorted klt d1 b k ∧ σ' = σ1)
        (fun o σ' => ∃ tm, o = .code (.exit 2) ⟨tm, 133, [], false⟩ ∧ tm.get 0 = some (.slice (some ⟨i, pre.length, none⟩) n0 cap) ∧ tm.get 1 = some (.int .i64 a) ∧ tm.get 2 = some (.int .i64 b) ∧ tm.get 6 = some (.bool false) ∧ tm.get 7 = some (.int .i64 (Sort.scanSorted klt d1 b k : Nat)) ∧ tm.get 8 = some (.int .i64 (s : Nat)) ∧ σ' = σ1) ?_ (b - k) _ _ ?_ ?_
      · rintro n' A σ2 ⟨tm, k', rfl, e0, e1, e2, e6, e7, e8, hak', hkb', hn', hsc', rfl⟩
        have hgi := hv1.1
        by_cases hkb2 : k' < b
        · have hkb2' : (k' : Int) < b := by omega
          obtain ⟨r0, r1, r2, r3⟩ := pins_ar (s2 := 0) hak' hkb2 hb
          have hwk := i64p k' (by omega) (by omega)
          have hwk1 := i64n1 k' (by omega)
          have hr1 := rowS_get (pre := pre) (post := post) (d := d1) (j := k') (by omega)
          have hr0 := rowS_get (pre := pre) (post := post) (d := d1) (j := k' - 1) (by omega)
          simp [wops_cons, dops_cons, dops_if, dstOf, -st_eq, -ld_eq, -Nat.not_lt, e0, e1, e2, e6, e7, e8, hkb2, hkb2']
          refine W_calm (by kernel_rfl) ?_
          simp [wops_cons, dops_cons, dops_if, dstOf, -st_eq, -ld_eq, -Nat.not_lt, e0, e1, e2, e6, e7, e8, hkb2, hkb2', hwk, r1, r2, hgi, hr1, hr0]
          refine less_s _ _ _ _ ?_
          cases hl : klt (aget d1 k') (aget d1 (k' - 1))
          · simp [wops_cons, dops_cons, dops_if, dstOf, -st_eq, -ld_eq, -Nat.not_lt, e0, e1, e2, e6, e7, e8, hl, hwk1]
            refine ⟨_, ?_, k' + 1, rfl, by omega, by omega, rfl, ?_⟩
            · omega
            · rw [← hsc']
              conv => rhs; rw [Sort.scanSorted]
              unfold aget at hl
              rw [if_pos (by simp [hl, hkb2])]
          · simp [wops_cons, dops_cons, dops_if, dstOf, -st_eq, -ld_eq, -Nat.not_lt, e0, e1, e2, e6, e7, e8, hl]
            rw [← hsc', Sort.scanSorted, if_neg]
            unfold aget at hl
            simp [hl]
        · have hkb2' : ¬ (k' : Int) < b := by omega
          simp [wops_cons, dops_cons, dops_if, dstOf, -st_eq, -ld_eq, -Nat.not_lt, e0, e1, e2, e6, e7, e8, hkb2, hkb2']
          refine W_calm (by kernel_rfl) ?_
          simp [wops_cons, dops_cons, dops_if, dstOf, -st_eq, -ld_eq, -Nat.not_lt, e0, e1, e2, e6, e7, e8, hkb2, hkb2']
          rw [← hsc', Sort.scanSorted, if_neg]
          simp [hkb2]
      · refine ⟨_, k, rfl, ?_⟩
        simp [e0, e1, e2, e6, e7, e8]
        exact ⟨hak, hkb⟩
      · rintro o σ2 ⟨tm, rfl, e0, e1, e2, e6, e7, e8, rfl⟩
        generalize hsk : Sort.scanSorted klt d1 b k = m at hsc hfin e7
        obtain ⟨hm0, hm1⟩ := hsc
        by_cases hmb : m = b
        · rw [if_pos hmb] at hfin
          rw [← hfin] at h
          simp only at h
          simp [wops_cons, dops_cons, dops_if, dstOf, -st_eq, -ld_eq, -Nat.not_lt, e0, e1, e2, e6, e7, e8, hmb]
          exact h σ2 hv1 hg1
        · have hmb' : ¬ (m : Int) = b := by omega
          have hmb2 : m < b := by omega
          rw [if_neg hmb] at hfin
          have hwba : IntKind.i64.wrap ((b : Int) - a) = ((b - a : Nat) : Int) := by rw [IntWalk.i64_in _ (by omega)]; omega
          by_cases h50 : b - a < 50
          · rw [if_pos h50] at hfin
            rw [← hfin] at h
            simp only at h
            have h50' : ((b - a : Nat) : Int) < 50 := by omega
            simp [wops_cons, dops_cons, dops_if, dstOf, -st_eq, -ld_eq, -Nat.not_lt, e0, e1, e2, e6, e7, e8, hmb, hmb', hwba, h50']
            exact h σ2 hv1 hg1
          · rw [if_neg h50] at hfin
            have h50' : ¬ ((b - a : Nat) : Int) < 50 := by omega
            obtain ⟨r0, r1, r2, r3⟩ := pins_ar (s2 := 0) (show a + 1 ≤ m by omega) hmb2 hb
            have hwm := i64p m (by omega) (by omega)
            have hwm1 := i64n1 m (by omega)
            have hws := i64n1 s (by omega)
            have hwma : IntKind.i64.wrap ((m : Int) - a) = ((m - a : Nat) : Int) := by rw [IntWalk.i64_in _ (by omega)]; omega
            have hwbm : IntKind.i64.wrap ((b : Int) - m) = ((b - m : Nat) : Int) := by rw [IntWalk.i64_in _ (by omega)]; omega
            have hgi := hv1.1
            have hr1 := rowS_get (pre := pre) (post := post) (d := d1) (j := m) (by omega)
            have hr0 := rowS_get (pre := pre) (post := post) (d := d1) (j := m - 1) (by omega)
            have hst1 := rowS_st (pre := pre) (post := post) (d := d1) (j := m) (by first | omega | (simp; omega)) (aget d1 (m - 1))
            have hst2 := rowS_st (pre := pre) (post := post) (d := aset d1 m (aget d1 (m - 1))) (j := (m - 1)) (by first | omega | (simp; omega)) (aget d1 m)
            simp [wops_cons, dops_cons, dops_if, dstOf, -st_eq, -ld_eq, -Nat.not_lt, e0, e1, e2, e6, e7, e8, hmb, hmb', hwba, h50']
            refine W_calm (by kernel_rfl) ?_
            simp [wops_cons, dops_cons, dops_if, dstOf, -st_eq, -ld_eq, -Nat.not_lt, e0, e1, e2, e6, e7, e8, hwm, r1, r2, hgi, hr1, hr0, hst1, hst2, hwma]
            rw [← swp_aset]
            have hv3 : SV ((σ2.put i (.cells (rowD encS pre post (aset d1 m (aget d1 (m - 1)))) 9 false)).put i (.cells (rowD encS pre post (Sort.swp d1 m (m - 1))) 9 false)) i pre post (Sort.swp d1 m (m - 1)) := (hv1.put _).put _
            have hg3 : But i σ ((σ2.put i (.cells (rowD encS pre post (aset d1 m (aget d1 (m - 1)))) 9 false)).put i (.cells (rowD encS pre post (Sort.swp d1 m (m - 1))) 9 false)) := (hg1.putL _).putL _
            generalize ((σ2.put i (.cells (rowD encS pre post (aset d1 m (aget d1 (m - 1)))) 9 false)).put i (.cells (rowD encS pre post (Sort.swp d1 m (m - 1))) 9 false)) = σ3 at hv3 hg3 ⊢
            have hsz3 : (Sort.swp d1 m (m - 1)).size = n0 := by simp [hsz]
            generalize Sort.swp d1 m (m - 1) = d3 at hv3 hsz3 hfin
            simp only [ge_iff_le] at hfin
            by_cases hma : 2 ≤ m - a
            · have hma' : (2 : Int) ≤ ((m - a : Nat) : Int) := by omega
              rw [if_pos hma] at hfin
              simp [wops_cons, dops_cons, dops_if, dstOf, -st_eq, -ld_eq, -Nat.not_lt, e0, e1, e2, e6, e7, e8, hma, hma', hwm]
              refine W_loop_J (fun n' A σ' => ∃ tm j d', A = ⟨tm, 133, [], false⟩ ∧ tm.get 0 = some (.slice (some ⟨i, pre.length, none⟩) n0 cap) ∧ tm.get 1 = some (.int .i64 a) ∧ tm.get 2 = some (.int .i64 b) ∧ tm.get 6 = some (.bool false) ∧ tm.get 7 = some (.int .i64 (m : Nat)) ∧ tm.get 8 = some (.int .i64 (s : Nat)) ∧ tm.get 9 = some (.int .i64 (j : Nat)) ∧ j ≤ m - 1 ∧ n' = j ∧ d'.size = n0 ∧ Sort.shiftDown klt j d' = Sort.shiftDown klt (m - 1) d3 ∧ SV σ' i pre post d' ∧ But i σ σ')
                (fun o σ' => ∃ tm, o = .code (.exit 4) ⟨tm, 133, [], false⟩ ∧ tm.get 0 = some (.slice (some ⟨i, pre.length, none⟩) n0 cap) ∧ tm.get 1 = some (.int .i64 a) ∧ tm.get 2 = some (.int .i64 b) ∧ tm.get 6 = some (.bool false) ∧ tm.get 7 = some (.int .i64 (m : Nat)) ∧ tm.get 8 = some (.int .i64 (s : Nat)) ∧ SV σ' i pre post (Sort.shiftDown klt (m - 1) d3) ∧ But i σ σ') ?_ (m - 1) _ _ ?_ ?_
              · rintro n' A σ4 ⟨tm, j, d4, rfl, e0, e1, e2, e6, e7, e8, e9, hj, hn', hsz4, hfin4, hv4, hg4⟩
                cases j with
                | zero =>
                  rw [Sort.shiftDown] at hfin4
                  rw [hfin4] at hv4
                  simp [wops_cons, dops_cons, dops_if, dstOf, -st_eq, -ld_eq, -Nat.not_lt, e0, e1, e2, e6, e7, e8, e9]
                  exact ⟨hv4, hg4⟩
                | succ j =>
                  have hj1 : j + 1 < n0 := by omega
                  have hj0 : j < n0 := by omega
                  have hwj := i64n j (by omega)
                  have hi1 : (j : Int) + 1 < n0 := by omega
                  have hi0 : (0 : Int) ≤ (j : Int) + 1 := by omega
                  have hi2 : (1 : Int) ≤ (j : Int) + 1 := by omega
                  have hgi := hv4.1
                  have hr1 := rowS_get (pre := pre) (post := post) (d := d4) (j := j + 1) (by omega)
                  have hr0 := rowS_get (pre := pre) (post := post) (d := d4) (j := j) (by omega)
                  have hst1 := rowS_st (pre := pre) (post := post) (d := d4) (j := (j + 1)) (by first | omega | (simp; omega)) (aget d4 j)
                  have hst2 := rowS_st (pre := pre) (post := post) (d := aset d4 (j + 1) (aget d4 j)) (j := j) (by first | omega | (simp; omega)) (aget d4 (j + 1))
                  simp [wops_cons, dops_cons, dops_if, dstOf, -st_eq, -ld_eq, -Nat.not_lt, e0, e1, e2, e6, e7, e8, e9, hi2]
                  refine W_calm (by kernel_rfl) ?_
                  simp [wops_cons, dops_cons, dops_if, dstOf, -st_eq, -ld_eq, -Nat.not_lt, e0, e1, e2, e6, e7, e8, e9, hj1, hj0, hwj, hi1, hi0, hgi, hr1, hr0]
                  refine less_s _ _ _ _ ?_
                  rw [Sort.shiftDown] at hfin4
                  cases hl : klt (aget d4 (j + 1)) (aget d4 j)
                  · unfold aget at hl
                    rw [if_pos (by simp [hl])] at hfin4
                    rw [hfin4] at hv4
                    simp [wops_cons, dops_cons, dops_if, dstOf, -st_eq, -ld_eq, -Nat.not_lt, e0, e1, e2, e6, e7, e8, e9]
                    exact ⟨hv4, hg4⟩
                  · have hl2 := hl
                    unfold aget at hl2
                    rw [if_neg (by simp [hl2])] at hfin4
                    simp [wops_cons, dops_cons, dops_if, dstOf, -st_eq, -ld_eq, -Nat.not_lt, e0, e1, e2, e6, e7, e8, e9, hl]
                    refine W_calm (by kernel_rfl) ?_
                    simp [wops_cons, dops_cons, dops_if, dstOf, -st_eq, -ld_eq, -Nat.not_lt, e0, e1, e2, e6, e7, e8, e9, hj1, hj0, hwj, hi1, hi0, hgi, hr1, hr0, hst1, hst2]
                    rw [← swp_aset]
                    exact ⟨j, by omega, j, rfl, by omega, rfl, _, by simp [hsz4], hfin4, (hv4.put _).put _, (hg4.putL _).putL _⟩
              · refine ⟨_, m - 1, d3, rfl, ?_⟩
                simp [e0, e1, e2, e6, e7, e8]
                exact ⟨hsz3, hv3, hg3⟩
              · rintro o σ4 ⟨tm, rfl, e0, e1, e2, e6, e7, e8, hv4, hg4⟩
                have hsz4 : (Sort.shiftDown klt (m - 1) d3).size = n0 := by rw [shiftDown_size]; exact hsz3
                generalize Sort.shiftDown klt (m - 1) d3 = d4 at hv4 hsz4 hfin
                by_cases hbm : 2 ≤ b - m
                · have hbm' : (2 : Int) ≤ ((b - m : Nat) : Int) := by omega
                  rw [if_pos hbm] at hfin
                  simp [wops_cons, dops_cons, dops_if, dstOf, -st_eq, -ld_eq, -Nat.not_lt, e0, e1, e2, e6, e7, e8, hwbm, hbm, hbm', hwm1]
                  refine W_loop_J (fun n' A σ' => ∃ tm j d', A = ⟨tm, 133, [], false⟩ ∧ tm.get 0 = some (.slice (some ⟨i, pre.length, none⟩) n0 cap) ∧ tm.get 1 = some (.int .i64 a) ∧ tm.get 2 = some (.int .i64 b) ∧ tm.get 6 = some (.bool false) ∧ tm.get 7 = some (.int .i64 (m : Nat)) ∧ tm.get 8 = some (.int .i64 (s : Nat)) ∧ tm.get 10 = some (.int .i64 (j : Nat)) ∧ m + 1 ≤ j ∧ j ≤ b ∧ n' = b - j ∧ d'.size = n0 ∧ Sort.shiftUp klt b j d' = Sort.shiftUp klt b (m + 1) d4 ∧ SV σ' i pre post d' ∧ But i σ σ')
                    (fun o σ' => ∃ tm, o = .code (.exit 6) ⟨tm, 133, [], false⟩ ∧ tm.get 0 = some (.slice (some ⟨i, pre.length, none⟩) n0 cap) ∧ tm.get 1 = some (.int .i64 a) ∧ tm.get 2 = some (.int .i64 b) ∧ tm.get 6 = some (.bool false) ∧ tm.get 7 = some (.int .i64 (m : Nat)) ∧ tm.get 8 = some (.int .i64 (s : Nat)) ∧ SV σ' i pre post (Sort.shiftUp klt b (m + 1) d4) ∧ But i σ σ') ?_ (b - (m + 1)) _ _ ?_ ?_
                  · rintro n' A σ5 ⟨tm, j, d5, rfl, e0, e1, e2, e6, e7, e8, e10, hj, hjb, hn', hsz5, hfin5, hv5, hg5⟩
                    by_cases hjlt : j < b
                    · have hjlt' : (j : Int) < b := by omega
                      have hj1 : j < n0 := by omega
                      have hj0 : j - 1 < n0 := by omega
                      have hwj := i64p j (by omega) (by omega)
                      have hwj1 := i64n1 j (by omega)
                      have hgi := hv5.1
                      have hr1 := rowS_get (pre := pre) (post := post) (d := d5) (j := j) (by omega)
                      have hr0 := rowS_get (pre := pre) (post := post) (d := d5) (j := j - 1) (by omega)
                      have hst1 := rowS_st (pre := pre) (post := post) (d := d5) (j := j) (by first | omega | (simp; omega)) (aget d5 (j - 1))
                      have hst2 := rowS_st (pre := pre) (post := post) (d := aset d5 j (aget d5 (j - 1))) (j := (j - 1)) (by first | omega | (simp; omega)) (aget d5 j)
                      simp [wops_cons, dops_cons, dops_if, dstOf, -st_eq, -ld_eq, -Nat.not_lt, e0, e1, e2, e6, e7, e8, e10, hjlt, hjlt']
                      refine W_calm (by kernel_rfl) ?_
                      simp [wops_cons, dops_cons, dops_if, dstOf, -st_eq, -ld_eq, -Nat.not_lt, e0, e1, e2, e6, e7, e8, e10, hj1, hj0, hwj, hgi, hr1, hr0]
                      refine less_s _ _ _ _ ?_
                      rw [Sort.shiftUp, if_pos hjlt] at hfin5
                      cases hl : klt (aget d5 j) (aget d5 (j - 1))
                      · unfold aget at hl
                        rw [if_pos (by simp [hl])] at hfin5
                        rw [hfin5] at hv5
                        simp [wops_cons, dops_cons, dops_if, dstOf, -st_eq, -ld_eq, -Nat.not_lt, e0, e1, e2, e6, e7, e8, e10]
                        exact ⟨hv5, hg5⟩
                      · have hl2 := hl
                        unfold aget at hl2
                        rw [if_neg (by simp [hl2])] at hfin5
                        simp [wops_cons, dops_cons, dops_if, dstOf, -st_eq, -ld_eq, -Nat.not_lt, e0, e1, e2, e6, e7, e8, e10, hl]
                        refine W_calm (by kernel_rfl) ?_
                        simp [wops_cons, dops_cons, dops_if, dstOf, -st_eq, -ld_eq, -Nat.not_lt, e0, e1, e2, e6, e7, e8, e10, hj1, hj0, hwj, hwj1, hgi, hr1, hr0, hst1, hst2]
                        rw [← swp_aset]
                        exact ⟨b - (j + 1), by omega, j + 1, rfl, by omega, by omega, rfl, _, by simp [hsz5], hfin5, (hv5.put _).put _, (hg5.putL _).putL _⟩
                    · have hjlt' : ¬ (j : Int) < b := by omega
                      rw [Sort.shiftUp, if_neg hjlt] at hfin5
                      rw [hfin5] at hv5
                      simp [wops_cons, dops_cons, dops_if, dstOf, -st_eq, -ld_eq, -Nat.not_lt, e0, e1, e2, e6, e7, e8, e10, hjlt, hjlt']
                      exact ⟨hv5, hg5⟩
                  · refine ⟨_, m + 1, d4, rfl, ?_⟩
                    simp [e0, e1, e2, e6, e7, e8]
                    exact ⟨by omega, hsz4, hv4, hg4⟩
                  · rintro o σ5 ⟨tm, rfl, e0, e1, e2, e6, e7, e8, hv5, hg5⟩
                    have hsz5 : (Sort.shiftUp klt b (m + 1) d4).size = n0 := by rw [shiftUp_size]; exact hsz4
                    simp [wops_cons, dops_cons, dops_if, dstOf, -st_eq, -ld_eq, -Nat.not_lt, e0, e1, e2, e6, e7, e8, hws]
                    exact ⟨n - 1, by omega, m, rfl, s + 1, rfl, by omega, by omega, by omega, by omega, _, hsz5, by rw [← hfin]; congr 1; omega, hv5, hg5⟩
                · have hbm' : ¬ (2 : Int) ≤ ((b - m : Nat) : Int) := by omega
                  rw [if_neg hbm] at hfin
                  simp [wops_cons, dops_cons, dops_if, dstOf, -st_eq, -ld_eq, -Nat.not_lt, e0, e1, e2, e6, e7, e8, hwbm, hbm, hbm', hws]
                  exact ⟨n - 1, by omega, m, rfl, s + 1, rfl, by omega, by omega, by omega, by omega, _, hsz4, by rw [← hfin]; congr 1; omega, hv4, hg4⟩
            · have hma' : ¬ (2 : Int) ≤ ((m - a : Nat) : Int) := by omega
              rw [if_neg hma] at hfin
              simp [wops_cons, dops_cons, dops_if, dstOf, -st_eq, -ld_eq, -Nat.not_lt, e0, e1, e2, e6, e7, e8, hma, hma']
              have hv4 := hv3
              have hg4 := hg3
              have hsz4 := hsz3
              generalize d3 = d4 at hv4 hsz4 hfin
              generalize σ3 = σ4 at hv4 hg4 ⊢
              by_cases hbm : 2 ≤ b - m
              · have hbm' : (2 : Int) ≤ ((b - m : Nat) : Int) := by omega
                rw [if_pos hbm] at hfin
                simp [wops_cons, dops_cons, dops_if, dstOf, -st_eq, -ld_eq, -Nat.not_lt, e0, e1, e2, e6, e7, e8, hwbm, hbm, hbm', hwm1]
                refine W_loop_J (fun n' A σ' => ∃ tm j d', A = ⟨tm, 133, [], false⟩ ∧ tm.get 0 = some (.slice (some ⟨i, pre.length, none⟩) n0 cap) ∧ tm.get 1 = some (.int .i64 a) ∧ tm.get 2 = some (.int .i64 b) ∧ tm.get 6 = some (.bool false) ∧ tm.get 7 = some (.int .i64 (m : Nat)) ∧ tm.get 8 = some (.int .i64 (s : Nat)) ∧ tm.get 10 = some (.int .i64 (j : Nat)) ∧ m + 1 ≤ j ∧ j ≤ b ∧ n' = b - j ∧ d'.size = n0 ∧ Sort.shiftUp klt b j d' = Sort.shiftUp klt b (m + 1) d4 ∧ SV σ' i pre post d' ∧ But i σ σ')
                  (fun o σ' => ∃ tm, o = .code (.exit 6) ⟨tm, 133, [], false⟩ ∧ tm.get 0 = some (.slice (some ⟨i, pre.length, none⟩) n0 cap) ∧ tm.get 1 = some (.int .i64 a) ∧ tm.get 2 = some (.int .i64 b) ∧ tm.get 6 = some (.bool false) ∧ tm.get 7 = some (.int .i64 (m : Nat)) ∧ tm.get 8 = some (.int .i64 (s : Nat)) ∧ SV σ' i pre post (Sort.shiftUp klt b (m + 1) d4) ∧ But i σ σ') ?_ (b - (m + 1)) _ _ ?_ ?_
                · rintro n' A σ5 ⟨tm, j, d5, rfl, e0, e1, e2, e6, e7, e8, e10, hj, hjb, hn', hsz5, hfin5, hv5, hg5⟩
                  by_cases hjlt : j < b
                  · have hjlt' : (j : Int) < b := by omega
                    have hj1 : j < n0 := by omega
                    have hj0 : j - 1 < n0 := by omega
                    have hwj := i64p j (by omega) (by omega)
                    have hwj1 := i64n1 j (by omega)
                    have hgi := hv5.1
                    have hr1 := rowS_get (pre := pre) (post := post) (d := d5) (j := j) (by omega)
                    have hr0 := rowS_get (pre := pre) (post := post) (d := d5) (j := j - 1) (by omega)
                    have hst1 := rowS_st (pre := pre) (post := post) (d := d5) (j := j) (by first | omega | (simp; omega)) (aget d5 (j - 1))
                    have hst2 := rowS_st (pre := pre) (post := post) (d := aset d5 j (aget d5 (j - 1))) (j := (j - 1)) (by first | omega | (simp; omega)) (aget d5 j)
                    simp [wops_cons, dops_cons, dops_if, dstOf, -st_eq, -ld_eq, -Nat.not_lt, e0, e1, e2, e6, e7, e8, e10, hjlt, hjlt']
                    refine W_calm (by kernel_rfl) ?_
                    simp [wops_cons, dops_cons, dops_if, dstOf, -st_eq, -ld_eq, -Nat.not_lt, e0, e1, e2, e6, e7, e8, e10, hj1, hj0, hwj, hgi, hr1, hr0]
                    refine less_s _ _ _ _ ?_
                    rw [Sort.shiftUp, if_pos hjlt] at hfin5
                    cases hl : klt (aget d5 j) (aget d5 (j - 1))
                    · unfold aget at hl
                      rw [if_pos (by simp [hl])] at hfin5
                      rw [hfin5] at hv5
                      simp [wops_cons, dops_cons, dops_if, dstOf, -st_eq, -ld_eq, -Nat.not_lt, e0, e1, e2, e6, e7, e8, e10]
                      exact ⟨hv5, hg5⟩
                    · have hl2 := hl
                      unfold aget at hl2
                      rw [if_neg (by simp [hl2])] at hfin5
                      simp [wops_cons, dops_cons, dops_if, dstOf, -st_eq, -ld_eq, -Nat.not_lt, e0, e1, e2, e6, e7, e8, e10, hl]
                      refine W_calm (by kernel_rfl) ?_
                      simp [wops_cons, dops_cons, dops_if, dstOf, -st_eq, -ld_eq, -Nat.not_lt, e0, e1, e2, e6, e7, e8, e10, hj1, hj0, hwj, hwj1, hgi, hr1, hr0, hst1, hst2]
                      rw [← swp_aset]
                      exact ⟨b - (j + 1), by omega, j + 1, rfl, by omega, by omega, rfl, _, by simp [hsz5], hfin5, (hv5.put _).put _, (hg5.putL _).putL _⟩
                  · have hjlt' : ¬ (j : Int) < b := by omega
                    rw [Sort.shiftUp, if_neg hjlt] at hfin5
                    rw [hfin5] at hv5
                    simp [wops_cons, dops_cons, dops_if, dstOf, -st_eq, -ld_eq, -Nat.not_lt, e0, e1, e2, e6, e7, e8, e10, hjlt, hjlt']
                    exact ⟨hv5, hg5⟩
                · refine ⟨_, m + 1, d4, rfl, ?_⟩
                  simp [e0, e1, e2, e6, e7, e8]
                  exact ⟨by omega, hsz4, hv4, hg4⟩
                · rintro o σ5 ⟨tm, rfl, e0, e1, e2, e6, e7, e8, hv5, hg5⟩
                  have hsz5 : (Sort.shiftUp klt b (m + 1) d4).size = n0 := by rw [shiftUp_size]; exact hsz4
                  simp [wops_cons, dops_cons, dops_if, dstOf, -st_eq, -ld_eq, -Nat.not_lt, e0, e1, e2, e6, e7, e8, hws]
                  exact ⟨n - 1, by omega, m, rfl, s + 1, rfl, by omega, by omega, by omega, by omega, _, hsz5, by rw [← hfin]; congr 1; omega, hv5, hg5⟩
              · have hbm' : ¬ (2 : Int) ≤ ((b - m : Nat) : Int) := by omega
                rw [if_neg hbm] at hfin
                simp [wops_cons, dops_cons, dops_if, dstOf, -st_eq, -ld_eq, -Nat.not_lt, e0, e1, e2, e6, e7, e8, hwbm, hbm, hbm', hws]
                exact ⟨n - 1, by omega, m, rfl, s + 1, rfl, by omega, by omega, by omega, by omega, _, hsz4, by rw [← hfin]; congr 1; omega, hv4, hg4⟩
    · have hs' : ¬ (s : Int) < 5 := by omega
      have hs0 : 5 - s = 0 := by omega
      rw [hs0, Sort.partialIns] at hfin
      rw [← hfin] at h
      simp only at h
      simp [wops_cons, dops_cons, dops_if, dstOf, -st_eq, -ld_eq, -Nat.not_lt, e0, e1, e2, e6, e7, e8, hs, hs']
      exact h σ1 hv1 hg1
  · refine ⟨_, a + 1, 0, d, rfl, ?_⟩
    simp
    exact ⟨by omega, hn0, hv, But.refl i σ⟩
end Go.Sm
/- Sorting strings: the partitions. -/
set_option linter.unusedVariables false
set_option linter.unusedSimpArgs false
namespace Go.Sm
open Go Go.Proofs
set_option maxRecDepth 100000
set_option maxHeartbeats 4000000
theorem guard_ar {i j i2 j2 : Nat} (h1 : i ≤ i2) (h2 : j2 ≤ j) (h : ¬ j2 < i2) : (j2 - 1) + 1 - (i2 + 1) < j + 1 - i := by omega
theorem part_s (n0 : Nat) (d : Array ByteArray) (hn0 : d.size = n0) (i cap : Nat) (pre post : List Value) (a b pv : Nat) (σ : CSt) (hv : SV σ i pre post d) (hb : b ≤ n0) (hbig : n0 < 2 ^ 40) (hab : a < b) (hpv : pv < b) (Q : Out → CSt → Prop)
    (h : ∀ σ', SV σ' i pre post (Sort.partition klt d a b pv).2.2 → But i σ σ' → Q (.ret (.tuple #[.int .i64 (Sort.partition klt d a b pv).1, .bool (Sort.partition klt d a b pv).2.1]) false) σ') :
    W E1 (.fn 96 #[.slice (some ⟨i, pre.length, none⟩) n0 cap, .int .i64 a, .int .i64 b, .int .i64 pv] none) σ Q := by
  rw [W_fn (fn := Tryz.f96) Tryz.func96 rfl rfl rfl]
  have had : a < n0 := by omega
  have hpd : pv < n0 := by omega
  have hwb := i64p b (by omega) (by omega)
  obtain ⟨a1, ha1⟩ : ∃ a1, a1 = a + 1 := ⟨_, rfl⟩
  have hwa : IntKind.i64.wrap ((a : Int) + 1) = (a1 : Int) := by rw [i64n1 a (by omega), ha1]
  obtain ⟨b1, hb1⟩ : ∃ b1, b1 = b - 1 := ⟨_, rfl⟩
  rw [← hb1] at hwb
  have hb1n : b1 < n0 := by omega
  have h1a : 1 ≤ a1 := by omega
  have hgi := hv.1
  have hra := rowS_get (pre := pre) (post := post) (d := d) (j := a) (by omega)
  have hrp := rowS_get (pre := pre) (post := post) (d := d) (j := pv) (by omega)
  have hst1 := rowS_st (pre := pre) (post := post) (d := d) (j := a) (by first | omega | (simp; omega)) (aget d pv)
  have hst2 := rowS_st (pre := pre) (post := post) (d := aset d a (aget d pv)) (j := pv) (by first | omega | (simp; omega)) (aget d a)
  unfold Sort.partition at h
  rw [← ha1, ← hb1] at h
  simp [wops_cons, dops_cons, dops_if, dstOf, -st_eq, -ld_eq, -Nat.not_lt]
  refine W_calm (by kernel_rfl) ?_
  simp [wops_cons, dops_cons, dops_if, dstOf, -st_eq, -ld_eq, -Nat.not_lt, had, hpd, hgi, hra, hrp, hst1, hst2, hwa, hwb]
  rw [← swp_aset]
  have hv1 : SV ((σ.put i (.cells (rowD encS pre post (aset d a (aget d pv))) 9 false)).put i (.cells (rowD encS pre post (Sort.swp d a pv)) 9 false)) i pre post (Sort.swp d a pv) := (hv.put _).put _
  have hg1 : But i σ ((σ.put i (.cells (rowD encS pre post (aset d a (aget d pv))) 9 false)).put i (.cells (rowD encS pre post (Sort.swp d a pv)) 9 false)) := (((But.refl i σ)).putL _).putL _
  have hsz1 : (Sort.swp d a pv).size = n0 := by simp [hn0]
  generalize ((σ.put i (.cells (rowD encS pre post (aset d a (aget d pv))) 9 false)).put i (.cells (rowD encS pre post (Sort.swp d a pv)) 9 false)) = σ1 at hv1 hg1 ⊢
  generalize Sort.swp d a pv = d1 at hv1 hsz1 h
  clear hst1 hst2
  have e0 := True.intro
  have e1 := True.intro
  have eI := True.intro
  have eJ := True.intro
  refine W_loop_J (fun n A s => ∃ tm k, A = ⟨tm, 168, [], false⟩ ∧ tm.get 0 = some (.slice (some ⟨i, pre.length, none⟩) n0 cap) ∧ tm.get 1 = some (.int .i64 a) ∧ tm.get 10 = some (.int .i64 (k : Nat)) ∧ tm.get 11 = some (.int .i64 (b1 : Nat)) ∧ a1 ≤ k ∧ k ≤ max a1 (b1 + 1) ∧ n = b1 + 1 - k ∧ Sort.scanUp (fun x => klt x d1[a]!) d1 b1 k = Sort.scanUp (fun x => klt x d1[a]!) d1 b1 a1 ∧ s = σ1)
    (fun o s => ∃ tm x, o = .code (.exit 0) ⟨tm, 168, [], false⟩ ∧ tm.get 0 = some (.slice (some ⟨i, pre.length, none⟩) n0 cap) ∧ tm.get 1 = some (.int .i64 a) ∧ tm.get 10 = some (.int .i64 (x : Nat)) ∧ tm.get 11 = some (.int .i64 (b1 : Nat)) ∧ x = Sort.scanUp (fun x => klt x d1[a]!) d1 b1 a1 ∧ a1 ≤ x ∧ x ≤ max a1 (b1 + 1) ∧ s = σ1) ?_ (b1 + 1 - a1) _ _ ?_ ?_
  · rintro n A s ⟨tm, k, rfl, e0, e1, eI, eJ, hk0, hk1, hn, hsc, hs⟩
    rw [hs]
    have hgi := hv1.1
    by_cases hkj : k ≤ b1
    · have hkj' : (k : Int) ≤ (b1 : Nat) := by omega
      have hkd : k < n0 := by omega
      have hwk := i64n1 k (by omega)
      have hrk := rowS_get (pre := pre) (post := post) (d := d1) (j := k) (by omega)
      have hra := rowS_get (pre := pre) (post := post) (d := d1) (j := a) (by omega)
      simp [wops_cons, dops_cons, dops_if, dstOf, -st_eq, -ld_eq, -Nat.not_lt, e0, e1, eI, eJ, hkj, hkj']
      refine W_calm (by kernel_rfl) ?_
      simp [wops_cons, dops_cons, dops_if, dstOf, -st_eq, -ld_eq, -Nat.not_lt, e0, e1, eI, eJ, hkj, hkj', hkd, had, hgi, hrk, hra]
      refine less_s _ _ _ _ ?_
      cases hl : klt (aget d1 k) (aget d1 a)
      ·
        unfold aget at hl
        have hend : k = Sort.scanUp (fun x => klt x d1[a]!) d1 b1 a1 := by rw [← hsc, Sort.scanUp, if_neg (by simp [hl])]
        simp [wops_cons, dops_cons, dops_if, dstOf, -st_eq, -ld_eq, -Nat.not_lt, e0, e1, eI, eJ]
        exact ⟨k, rfl, hend, hk0, by omega⟩
      ·
        have hl2 := hl
        unfold aget at hl2
        have hgo : Sort.scanUp (fun x => klt x d1[a]!) d1 b1 (k + 1) = Sort.scanUp (fun x => klt x d1[a]!) d1 b1 a1 := by
          rw [← hsc]
          conv => rhs; rw [Sort.scanUp]
          rw [if_pos (by simp [hl2, hkj])]
        simp [wops_cons, dops_cons, dops_if, dstOf, -st_eq, -ld_eq, -Nat.not_lt, e0, e1, eI, eJ, hl, hwk]
        exact ⟨_, by omega, k + 1, rfl, by omega, by omega, rfl, hgo⟩
    · have hkj' : ¬ (k : Int) ≤ (b1 : Nat) := by omega
      have hend : k = Sort.scanUp (fun x => klt x d1[a]!) d1 b1 a1 := by rw [← hsc, Sort.scanUp, if_neg (by simp [hkj])]
      simp [wops_cons, dops_cons, dops_if, dstOf, -st_eq, -ld_eq, -Nat.not_lt, e0, e1, eI, eJ, hkj, hkj']
      refine W_calm (by kernel_rfl) ?_
      simp [wops_cons, dops_cons, dops_if, dstOf, -st_eq, -ld_eq, -Nat.not_lt, e0, e1, eI, eJ, hkj, hkj']
      exact ⟨k, rfl, hend, hk0, by omega⟩
  · refine ⟨_, a1, rfl, ?_⟩
    simp [e0, e1, eI, eJ]
    try omega
  rintro o s ⟨tm, x, rfl, e0, e1, eI, eJ, hx, hx0, hx1, hs⟩
  rw [hs]
  simp [wops_cons, dops_cons, dops_if, dstOf, -st_eq, -ld_eq, -Nat.not_lt]
  refine W_loop_J (fun n A s => ∃ tm k, A = ⟨tm, 168, [], false⟩ ∧ tm.get 0 = some (.slice (some ⟨i, pre.length, none⟩) n0 cap) ∧ tm.get 1 = some (.int .i64 a) ∧ tm.get 10 = some (.int .i64 (x : Nat)) ∧ tm.get 11 = some (.int .i64 (k : Nat)) ∧ k ≤ b1 ∧ n = k ∧ Sort.scanDown (fun x => !klt x d1[a]!) d1 x k = Sort.scanDown (fun x => !klt x d1[a]!) d1 x b1 ∧ s = σ1)
    (fun o s => ∃ tm y, o = .code (.exit 2) ⟨tm, 168, [], false⟩ ∧ tm.get 0 = some (.slice (some ⟨i, pre.length, none⟩) n0 cap) ∧ tm.get 1 = some (.int .i64 a) ∧ tm.get 10 = some (.int .i64 (x : Nat)) ∧ tm.get 11 = some (.int .i64 (y : Nat)) ∧ y = Sort.scanDown (fun x => !klt x d1[a]!) d1 x b1 ∧ y ≤ b1 ∧ s = σ1) ?_ (b1) _ _ ?_ ?_
  · rintro n A s ⟨tm, k, rfl, e0, e1, eI, eJ, hk0, hn, hsc, hs⟩
    rw [hs]
    have hgi := hv1.1
    by_cases hkj : x ≤ k
    · obtain ⟨k2, hk2⟩ : ∃ k2, k = k2 + 1 := ⟨k - 1, by omega⟩
      have hkj' : (x : Int) ≤ (k : Nat) := by omega
      have hkd : k < n0 := by omega
      have hwk := i64p k (by omega) (by omega)
      have hrk := rowS_get (pre := pre) (post := post) (d := d1) (j := k) (by omega)
      have hra := rowS_get (pre := pre) (post := post) (d := d1) (j := a) (by omega)
      simp [wops_cons, dops_cons, dops_if, dstOf, -st_eq, -ld_eq, -Nat.not_lt, e0, e1, eI, eJ, hkj, hkj']
      refine W_calm (by kernel_rfl) ?_
      simp [wops_cons, dops_cons, dops_if, dstOf, -st_eq, -ld_eq, -Nat.not_lt, e0, e1, eI, eJ, hkj, hkj', hkd, had, hgi, hrk, hra]
      refine less_s _ _ _ _ ?_
      cases hl : klt (aget d1 k) (aget d1 a)
      ·
        have hl2 := hl
        unfold aget at hl2
        have hgo : Sort.scanDown (fun x => !klt x d1[a]!) d1 x (k - 1) = Sort.scanDown (fun x => !klt x d1[a]!) d1 x b1 := by
          rw [← hsc, hk2]
          conv => rhs; rw [Sort.scanDown]
          rw [if_pos (by rw [← hk2]; simp [hl2, hkj])]
          rfl
        simp [wops_cons, dops_cons, dops_if, dstOf, -st_eq, -ld_eq, -Nat.not_lt, e0, e1, eI, eJ, hl, hwk]
        exact ⟨_, by omega, k - 1, rfl, by omega, rfl, hgo⟩
      ·
        unfold aget at hl
        have hend : k = Sort.scanDown (fun x => !klt x d1[a]!) d1 x b1 := by rw [← hsc, hk2, Sort.scanDown, if_neg (by rw [← hk2]; simp [hl])]
        simp [wops_cons, dops_cons, dops_if, dstOf, -st_eq, -ld_eq, -Nat.not_lt, e0, e1, eI, eJ]
        exact ⟨k, rfl, hend, hk0⟩
    · have hkj' : ¬ (x : Int) ≤ (k : Nat) := by omega
      have hend : k = Sort.scanDown (fun x => !klt x d1[a]!) d1 x b1 := by
        rw [← hsc]
        cases k with
        | zero => rfl
        | succ k => rw [Sort.scanDown, if_neg (by simp; omega)]
      simp [wops_cons, dops_cons, dops_if, dstOf, -st_eq, -ld_eq, -Nat.not_lt, e0, e1, eI, eJ, hkj, hkj']
      refine W_calm (by kernel_rfl) ?_
      simp [wops_cons, dops_cons, dops_if, dstOf, -st_eq, -ld_eq, -Nat.not_lt, e0, e1, eI, eJ, hkj, hkj']
      exact ⟨k, rfl, hend, hk0⟩
  · refine ⟨_, b1, rfl, ?_⟩
    simp [e0, e1, eI, eJ]
  rintro o s ⟨tm, y, rfl, e0, e1, eI, eJ, hy, hy1, hs⟩
  rw [hs]
  simp only [gt_iff_lt] at h
  rw [← hx, ← hy] at h
  by_cases hxy : y < x
  · have hxy' : (y : Int) < x := by omega
    rw [if_pos hxy] at h
    simp only at h
    have hyd : y < n0 := by omega
    have hgi := hv1.1
    have hra := rowS_get (pre := pre) (post := post) (d := d1) (j := a) (by omega)
    have hry := rowS_get (pre := pre) (post := post) (d := d1) (j := y) (by omega)
    have hst1 := rowS_st (pre := pre) (post := post) (d := d1) (j := y) (by first | omega | (simp; omega)) (aget d1 a)
    have hst2 := rowS_st (pre := pre) (post := post) (d := aset d1 y (aget d1 a)) (j := a) (by first | omega | (simp; omega)) (aget d1 y)
    simp [wops_cons, dops_cons, dops_if, dstOf, -st_eq, -ld_eq, -Nat.not_lt, e0, e1, eI, eJ, hxy, hxy']
    refine W_calm (by kernel_rfl) ?_
    simp [wops_cons, dops_cons, dops_if, dstOf, -st_eq, -ld_eq, -Nat.not_lt, e0, e1, eI, eJ, had, hyd, hgi, hra, hry, hst1, hst2]
    rw [← swp_aset]
    exact h _ ((hv1.put _).put _) ((hg1.putL _).putL _)
  · have hxy' : ¬ (y : Int) < x := by omega
    rw [if_neg hxy] at h
    simp only at h
    have hyd : y < n0 := by omega
    have hxd : x < n0 := by omega
    have hwx := i64n1 x (by omega)
    have hwy := i64p y (by omega) (by omega)
    have hgi := hv1.1
    have hrx := rowS_get (pre := pre) (post := post) (d := d1) (j := x) (by omega)
    have hry := rowS_get (pre := pre) (post := post) (d := d1) (j := y) (by omega)
    have hst1 := rowS_st (pre := pre) (post := post) (d := d1) (j := x) (by first | omega | (simp; omega)) (aget d1 y)
    have hst2 := rowS_st (pre := pre) (post := post) (d := aset d1 x (aget d1 y)) (j := y) (by first | omega | (simp; omega)) (aget d1 x)
    simp [wops_cons, dops_cons, dops_if, dstOf, -st_eq, -ld_eq, -Nat.not_lt, e0, e1, eI, eJ, hxy, hxy']
    refine W_calm (by kernel_rfl) ?_
    simp [wops_cons, dops_cons, dops_if, dstOf, -st_eq, -ld_eq, -Nat.not_lt, e0, e1, eI, eJ, hxd, hyd, hgi, hrx, hry, hst1, hst2, hwx, hwy]
    rw [← swp_aset]
    have hv2 : SV ((σ1.put i (.cells (rowD encS pre post (aset d1 x (aget d1 y))) 9 false)).put i (.cells (rowD encS pre post (Sort.swp d1 x y)) 9 false)) i pre post (Sort.swp d1 x y) := (hv1.put _).put _
    have hg2 : But i σ ((σ1.put i (.cells (rowD encS pre post (aset d1 x (aget d1 y))) 9 false)).put i (.cells (rowD encS pre post (Sort.swp d1 x y)) 9 false)) := ((hg1).putL _).putL _
    have hsz2 : (Sort.swp d1 x y).size = n0 := by simp [hsz1]
    generalize ((σ1.put i (.cells (rowD encS pre post (aset d1 x (aget d1 y))) 9 false)).put i (.cells (rowD encS pre post (Sort.swp d1 x y)) 9 false)) = σ2 at hv2 hg2 ⊢
    generalize Sort.swp d1 x y = d2 at hv2 hsz2 h
    clear hst1 hst2
    refine W_loop_J (fun n A s => ∃ tm u v d', A = ⟨tm, 168, [], false⟩ ∧ tm.get 0 = some (.slice (some ⟨i, pre.length, none⟩) n0 cap) ∧ tm.get 1 = some (.int .i64 a) ∧ tm.get 10 = some (.int .i64 (u : Nat)) ∧ tm.get 11 = some (.int .i64 (v : Nat)) ∧ 1 ≤ u ∧ v < n0 ∧ n = v + 1 - u ∧ d'.size = n0 ∧ Sort.partLoop klt a u v d' = Sort.partLoop klt a (x + 1) (y - 1) d2 ∧ SV s i pre post d' ∧ But i σ s)
      (fun o s => ∃ tm, o = .code (.exit 4) ⟨tm, 168, [], false⟩ ∧ tm.get 0 = some (.slice (some ⟨i, pre.length, none⟩) n0 cap) ∧ tm.get 1 = some (.int .i64 a) ∧ tm.get 11 = some (.int .i64 ((Sort.partLoop klt a (x + 1) (y - 1) d2).1 : Nat)) ∧ (Sort.partLoop klt a (x + 1) (y - 1) d2).1 < n0 ∧ (Sort.partLoop klt a (x + 1) (y - 1) d2).2.size = n0 ∧ SV s i pre post (Sort.partLoop klt a (x + 1) (y - 1) d2).2 ∧ But i σ s) ?_ (y - 1 + 1 - (x + 1)) _ _ ?_ ?_
    · rintro n A σ3 ⟨tm, u, v, d3, rfl, e0, e1, eI, eJ, hu, hvn, hn, hsz3, hfin, hv3, hg3⟩
      rw [Sort.partLoop_eq] at hfin
      simp [wops_cons, dops_cons, dops_if, dstOf, -st_eq, -ld_eq, -Nat.not_lt]
      refine W_loop_J (fun n A s => ∃ tm k, A = ⟨tm, 168, [], false⟩ ∧ tm.get 0 = some (.slice (some ⟨i, pre.length, none⟩) n0 cap) ∧ tm.get 1 = some (.int .i64 a) ∧ tm.get 10 = some (.int .i64 (k : Nat)) ∧ tm.get 11 = some (.int .i64 (v : Nat)) ∧ u ≤ k ∧ k ≤ max u (v + 1) ∧ n = v + 1 - k ∧ Sort.scanUp (fun x => klt x d3[a]!) d3 v k = Sort.scanUp (fun x => klt x d3[a]!) d3 v u ∧ s = σ3)
        (fun o s => ∃ tm x, o = .code (.exit 6) ⟨tm, 168, [], false⟩ ∧ tm.get 0 = some (.slice (some ⟨i, pre.length, none⟩) n0 cap) ∧ tm.get 1 = some (.int .i64 a) ∧ tm.get 10 = some (.int .i64 (x : Nat)) ∧ tm.get 11 = some (.int .i64 (v : Nat)) ∧ x = Sort.scanUp (fun x => klt x d3[a]!) d3 v u ∧ u ≤ x ∧ x ≤ max u (v + 1) ∧ s = σ3) ?_ (v + 1 - u) _ _ ?_ ?_
      · rintro n A s ⟨tm, k, rfl, e0, e1, eI, eJ, hk0, hk1, hn, hsc, hs⟩
        rw [hs]
        have hgi := hv3.1
        by_cases hkj : k ≤ v
        · have hkj' : (k : Int) ≤ (v : Nat) := by omega
          have hkd : k < n0 := by omega
          have hwk := i64n1 k (by omega)
          have hrk := rowS_get (pre := pre) (post := post) (d := d3) (j := k) (by omega)
          have hra := rowS_get (pre := pre) (post := post) (d := d3) (j := a) (by omega)
          simp [wops_cons, dops_cons, dops_if, dstOf, -st_eq, -ld_eq, -Nat.not_lt, e0, e1, eI, eJ, hkj, hkj']
          refine W_calm (by kernel_rfl) ?_
          simp [wops_cons, dops_cons, dops_if, dstOf, -st_eq, -ld_eq, -Nat.not_lt, e0, e1, eI, eJ, hkj, hkj', hkd, had, hgi, hrk, hra]
          refine less_s _ _ _ _ ?_
          cases hl : klt (aget d3 k) (aget d3 a)
          ·
            unfold aget at hl
            have hend : k = Sort.scanUp (fun x => klt x d3[a]!) d3 v u := by rw [← hsc, Sort.scanUp, if_neg (by simp [hl])]
            simp [wops_cons, dops_cons, dops_if, dstOf, -st_eq, -ld_eq, -Nat.not_lt, e0, e1, eI, eJ]
            exact ⟨k, rfl, hend, hk0, by omega⟩
          ·
            have hl2 := hl
            unfold aget at hl2
            have hgo : Sort.scanUp (fun x => klt x d3[a]!) d3 v (k + 1) = Sort.scanUp (fun x => klt x d3[a]!) d3 v u := by
              rw [← hsc]
              conv => rhs; rw [Sort.scanUp]
              rw [if_pos (by simp [hl2, hkj])]
            simp [wops_cons, dops_cons, dops_if, dstOf, -st_eq, -ld_eq, -Nat.not_lt, e0, e1, eI, eJ, hl, hwk]
            exact ⟨_, by omega, k + 1, rfl, by omega, by omega, rfl, hgo⟩
        · have hkj' : ¬ (k : Int) ≤ (v : Nat) := by omega
          have hend : k = Sort.scanUp (fun x => klt x d3[a]!) d3 v u := by rw [← hsc, Sort.scanUp, if_neg (by simp [hkj])]
          simp [wops_cons, dops_cons, dops_if, dstOf, -st_eq, -ld_eq, -Nat.not_lt, e0, e1, eI, eJ, hkj, hkj']
          refine W_calm (by kernel_rfl) ?_
          simp [wops_cons, dops_cons, dops_if, dstOf, -st_eq, -ld_eq, -Nat.not_lt, e0, e1, eI, eJ, hkj, hkj']
          exact ⟨k, rfl, hend, hk0, by omega⟩
      · refine ⟨_, u, rfl, ?_⟩
        simp [e0, e1, eI, eJ]
        try omega
      rintro o s ⟨tm, p, rfl, e0, e1, eI, eJ, hp, hp0, hp1, hs⟩
      rw [hs]
      simp [wops_cons, dops_cons, dops_if, dstOf, -st_eq, -ld_eq, -Nat.not_lt]
      refine W_loop_J (fun n A s => ∃ tm k, A = ⟨tm, 168, [], false⟩ ∧ tm.get 0 = some (.slice (some ⟨i, pre.length, none⟩) n0 cap) ∧ tm.get 1 = some (.int .i64 a) ∧ tm.get 10 = some (.int .i64 (p : Nat)) ∧ tm.get 11 = some (.int .i64 (k : Nat)) ∧ k ≤ v ∧ n = k ∧ Sort.scanDown (fun x => !klt x d3[a]!) d3 p k = Sort.scanDown (fun x => !klt x d3[a]!) d3 p v ∧ s = σ3)
        (fun o s => ∃ tm y, o = .code (.exit 8) ⟨tm, 168, [], false⟩ ∧ tm.get 0 = some (.slice (some ⟨i, pre.length, none⟩) n0 cap) ∧ tm.get 1 = some (.int .i64 a) ∧ tm.get 10 = some (.int .i64 (p : Nat)) ∧ tm.get 11 = some (.int .i64 (y : Nat)) ∧ y = Sort.scanDown (fun x => !klt x d3[a]!) d3 p v ∧ y ≤ v ∧ s = σ3) ?_ (v) _ _ ?_ ?_
      · rintro n A s ⟨tm, k, rfl, e0, e1, eI, eJ, hk0, hn, hsc, hs⟩
        rw [hs]
        have hgi := hv3.1
        by_cases hkj : p ≤ k
        · obtain ⟨k2, hk2⟩ : ∃ k2, k = k2 + 1 := ⟨k - 1, by omega⟩
          have hkj' : (p : Int) ≤ (k : Nat) := by omega
          have hkd : k < n0 := by omega
          have hwk := i64p k (by omega) (by omega)
          have hrk := rowS_get (pre := pre) (post := post) (d := d3) (j := k) (by omega)
          have hra := rowS_get (pre := pre) (post := post) (d := d3) (j := a) (by omega)
          simp [wops_cons, dops_cons, dops_if, dstOf, -st_eq, -ld_eq, -Nat.not_lt, e0, e1, eI, eJ, hkj, hkj']
          refine W_calm (by kernel_rfl) ?_
          simp [wops_cons, dops_cons, dops_if, dstOf, -st_eq, -ld_eq, -Nat.not_lt, e0, e1, eI, eJ, hkj, hkj', hkd, had, hgi, hrk, hra]
          refine less_s _ _ _ _ ?_
          cases hl : klt (aget d3 k) (aget d3 a)
          ·
            have hl2 := hl
            unfold aget at hl2
            have hgo : Sort.scanDown (fun x => !klt x d3[a]!) d3 p (k - 1) = Sort.scanDown (fun x => !klt x d3[a]!) d3 p v := by
              rw [← hsc, hk2]
              conv => rhs; rw [Sort.scanDown]
              rw [if_pos (by rw [← hk2]; simp [hl2, hkj])]
              rfl
            simp [wops_cons, dops_cons, dops_if, dstOf, -st_eq, -ld_eq, -Nat.not_lt, e0, e1, eI, eJ, hl, hwk]
            exact ⟨_, by omega, k - 1, rfl, by omega, rfl, hgo⟩
          ·
            unfold aget at hl
            have hend : k = Sort.scanDown (fun x => !klt x d3[a]!) d3 p v := by rw [← hsc, hk2, Sort.scanDown, if_neg (by rw [← hk2]; simp [hl])]
            simp [wops_cons, dops_cons, dops_if, dstOf, -st_eq, -ld_eq, -Nat.not_lt, e0, e1, eI, eJ]
            exact ⟨k, rfl, hend, hk0⟩
        · have hkj' : ¬ (p : Int) ≤ (k : Nat) := by omega
          have hend : k = Sort.scanDown (fun x => !klt x d3[a]!) d3 p v := by
            rw [← hsc]
            cases k with
            | zero => rfl
            | succ k => rw [Sort.scanDown, if_neg (by simp; omega)]
          simp [wops_cons, dops_cons, dops_if, dstOf, -st_eq, -ld_eq, -Nat.not_lt, e0, e1, eI, eJ, hkj, hkj']
          refine W_calm (by kernel_rfl) ?_
          simp [wops_cons, dops_cons, dops_if, dstOf, -st_eq, -ld_eq, -Nat.not_lt, e0, e1, eI, eJ, hkj, hkj']
          exact ⟨k, rfl, hend, hk0⟩
      · refine ⟨_, v, rfl, ?_⟩
        simp [e0, e1, eI, eJ]
      rintro o s ⟨tm, q, rfl, e0, e1, eI, eJ, hq, hq1, hs⟩
      rw [hs]
      rw [← hp, ← hq] at hfin
      by_cases hpq : q < p
      · have hpq' : (q : Int) < p := by omega
        rw [if_pos hpq] at hfin
        have hf1 : q = (Sort.partLoop klt a (x + 1) (y - 1) d2).1 := by rw [← hfin]
        have hf2 : d3 = (Sort.partLoop klt a (x + 1) (y - 1) d2).2 := by rw [← hfin]
        simp [wops_cons, dops_cons, dops_if, dstOf, -st_eq, -ld_eq, -Nat.not_lt, e0, e1, eI, eJ, hpq, hpq']
        rw [← hf1, ← hf2]
        exact ⟨rfl, by omega, hsz3, hv3, hg3⟩
      · have hpq' : ¬ (q : Int) < p := by omega
        rw [if_neg hpq] at hfin
        have hpd : p < n0 := by omega
        have hqd : q < n0 := by omega
        have hwp := i64n1 p (by omega)
        have hwq := i64p q (by omega) (by omega)
        have hgi := hv3.1
        have hrp := rowS_get (pre := pre) (post := post) (d := d3) (j := p) (by omega)
        have hrq := rowS_get (pre := pre) (post := post) (d := d3) (j := q) (by omega)
        have hst1 := rowS_st (pre := pre) (post := post) (d := d3) (j := p) (by first | omega | (simp; omega)) (aget d3 q)
        have hst2 := rowS_st (pre := pre) (post := post) (d := aset d3 p (aget d3 q)) (j := q) (by first | omega | (simp; omega)) (aget d3 p)
        simp [wops_cons, dops_cons, dops_if, dstOf, -st_eq, -ld_eq, -Nat.not_lt, e0, e1, eI, eJ, hpq, hpq']
        refine W_calm (by kernel_rfl) ?_
        simp [wops_cons, dops_cons, dops_if, dstOf, -st_eq, -ld_eq, -Nat.not_lt, e0, e1, eI, eJ, hpd, hqd, hgi, hrp, hrq, hst1, hst2, hwp, hwq]
        rw [← swp_aset]
        refine ⟨_, ?_, p + 1, rfl, q - 1, rfl, by omega, by omega, rfl, _, by simp [hsz3], hfin, (hv3.put _).put _, (hg3.putL _).putL _⟩
        rw [hn]
        exact guard_ar hp0 hq1 hpq
    · refine ⟨_, x + 1, y - 1, d2, rfl, ?_⟩
      simp [e0, e1]
      exact ⟨by omega, hsz2, hv2, hg2⟩
    · rintro o σ4 ⟨tm, rfl, e0, e1, eJ, hjn, hsz4, hv4, hg4⟩
      generalize (Sort.partLoop klt a (x + 1) (y - 1) d2).1 = w at hjn eJ h
      generalize (Sort.partLoop klt a (x + 1) (y - 1) d2).2 = d4 at hsz4 hv4 h
      have hgi := hv4.1
      have hra := rowS_get (pre := pre) (post := post) (d := d4) (j := a) (by omega)
      have hrw := rowS_get (pre := pre) (post := post) (d := d4) (j := w) (by omega)
      have hst1 := rowS_st (pre := pre) (post := post) (d := d4) (j := w) (by first | omega | (simp; omega)) (aget d4 a)
      have hst2 := rowS_st (pre := pre) (post := post) (d := aset d4 w (aget d4 a)) (j := a) (by first | omega | (simp; omega)) (aget d4 w)
      simp [wops_cons, dops_cons, dops_if, dstOf, -st_eq, -ld_eq, -Nat.not_lt, e0, e1, eJ]
      refine W_calm (by kernel_rfl) ?_
      simp [wops_cons, dops_cons, dops_if, dstOf, -st_eq, -ld_eq, -Nat.not_lt, e0, e1, eJ, had, hjn, hgi, hra, hrw, hst1, hst2]
      rw [← swp_aset]
      exact h _ ((hv4.put _).put _) ((hg4.putL _).putL _)
theorem partEq_s (n0 : Nat) (d : Array ByteArray) (hn0 : d.size = n0) (i cap : Nat) (pre post : List Value) (a b pv : Nat) (σ : CSt) (hv : SV σ i pre post d) (hb : b ≤ n0) (hbig : n0 < 2 ^ 40) (hab : a < b) (hpv : pv < b) (Q : Out → CSt → Prop)
    (h : ∀ σ', SV σ' i pre post (Sort.partitionEqual klt d a b pv).2 → But i σ σ' → Q (.ret (.int .i64 (Sort.partitionEqual klt d a b pv).1) false) σ') :
    W E1 (.fn 95 #[.slice (some ⟨i, pre.length, none⟩) n0 cap, .int .i64 a, .int .i64 b, .int .i64 pv] none) σ Q := by
  rw [W_fn (fn := Tryz.f95) Tryz.func95 rfl rfl rfl]
  have had : a < n0 := by omega
  have hpd : pv < n0 := by omega
  have hwb := i64p b (by omega) (by omega)
  obtain ⟨a1, ha1⟩ : ∃ a1, a1 = a + 1 := ⟨_, rfl⟩
  have hwa : IntKind.i64.wrap ((a : Int) + 1) = (a1 : Int) := by rw [i64n1 a (by omega), ha1]
  obtain ⟨b1, hb1⟩ : ∃ b1, b1 = b - 1 := ⟨_, rfl⟩
  rw [← hb1] at hwb
  have hb1n : b1 < n0 := by omega
  have h1a : 1 ≤ a1 := by omega
  have hgi := hv.1
  have hra := rowS_get (pre := pre) (post := post) (d := d) (j := a) (by omega)
  have hrp := rowS_get (pre := pre) (post := post) (d := d) (j := pv) (by omega)
  have hst1 := rowS_st (pre := pre) (post := post) (d := d) (j := a) (by first | omega | (simp; omega)) (aget d pv)
  have hst2 := rowS_st (pre := pre) (post := post) (d := aset d a (aget d pv)) (j := pv) (by first | omega | (simp; omega)) (aget d a)
  unfold Sort.partitionEqual at h
  rw [← ha1, ← hb1] at h
  simp [wops_cons, dops_cons, dops_if, dstOf, -st_eq, -ld_eq, -Nat.not_lt]
  refine W_calm (by kernel_rfl) ?_
  simp [wops_cons, dops_cons, dops_if, dstOf, -st_eq, -ld_eq, -Nat.not_lt, had, hpd, hgi, hra, hrp, hst1, hst2, hwa, hwb]
  rw [← swp_aset]
  have hv1 : SV ((σ.put i (.cells (rowD encS pre post (aset d a (aget d pv))) 9 false)).put i (.cells (rowD encS pre post (Sort.swp d a pv)) 9 false)) i pre post (Sort.swp d a pv) := (hv.put _).put _
  have hg1 : But i σ ((σ.put i (.cells (rowD encS pre post (aset d a (aget d pv))) 9 false)).put i (.cells (rowD encS pre post (Sort.swp d a pv)) 9 false)) := (((But.refl i σ)).putL _).putL _
  have hsz1 : (Sort.swp d a pv).size = n0 := by simp [hn0]
  generalize ((σ.put i (.cells (rowD encS pre post (aset d a (aget d pv))) 9 false)).put i (.cells (rowD encS pre post (Sort.swp d a pv)) 9 false)) = σ1 at hv1 hg1 ⊢
  generalize Sort.swp d a pv = d1 at hv1 hsz1 h
  clear hst1 hst2
  refine W_loop_J (fun n A s => ∃ tm u v d', A = ⟨tm, 84, [], false⟩ ∧ tm.get 0 = some (.slice (some ⟨i, pre.length, none⟩) n0 cap) ∧ tm.get 1 = some (.int .i64 a) ∧ tm.get 9 = some (.int .i64 (u : Nat)) ∧ tm.get 10 = some (.int .i64 (v : Nat)) ∧ 1 ≤ u ∧ v < n0 ∧ n = v + 1 - u ∧ d'.size = n0 ∧ Sort.partEqLoop klt a u v d' = Sort.partEqLoop klt a a1 b1 d1 ∧ SV s i pre post d' ∧ But i σ s)
    (fun o s => ∃ tm, o = .code (.exit 0) ⟨tm, 84, [], false⟩ ∧ tm.get 9 = some (.int .i64 ((Sort.partEqLoop klt a a1 b1 d1).1 : Nat)) ∧ SV s i pre post (Sort.partEqLoop klt a a1 b1 d1).2 ∧ But i σ s) ?_ (b1 + 1 - a1) _ _ ?_ ?_
  · rintro n A σ3 ⟨tm, u, v, d3, rfl, e0, e1, eI, eJ, hu, hvn, hn, hsz3, hfin, hv3, hg3⟩
    rw [Sort.partEqLoop_eq] at hfin
    simp [wops_cons, dops_cons, dops_if, dstOf, -st_eq, -ld_eq, -Nat.not_lt]
    refine W_loop_J (fun n A s => ∃ tm k, A = ⟨tm, 84, [], false⟩ ∧ tm.get 0 = some (.slice (some ⟨i, pre.length, none⟩) n0 cap) ∧ tm.get 1 = some (.int .i64 a) ∧ tm.get 9 = some (.int .i64 (k : Nat)) ∧ tm.get 10 = some (.int .i64 (v : Nat)) ∧ u ≤ k ∧ k ≤ max u (v + 1) ∧ n = v + 1 - k ∧ Sort.scanUp (fun x => !klt d3[a]! x) d3 v k = Sort.scanUp (fun x => !klt d3[a]! x) d3 v u ∧ s = σ3)
      (fun o s => ∃ tm x, o = .code (.exit 2) ⟨tm, 84, [], false⟩ ∧ tm.get 0 = some (.slice (some ⟨i, pre.length, none⟩) n0 cap) ∧ tm.get 1 = some (.int .i64 a) ∧ tm.get 9 = some (.int .i64 (x : Nat)) ∧ tm.get 10 = some (.int .i64 (v : Nat)) ∧ x = Sort.scanUp (fun x => !klt d3[a]! x) d3 v u ∧ u ≤ x ∧ x ≤ max u (v + 1) ∧ s = σ3) ?_ (v + 1 - u) _ _ ?_ ?_
    · rintro n A s ⟨tm, k, rfl, e0, e1, eI, eJ, hk0, hk1, hn, hsc, hs⟩
      rw [hs]
      have hgi := hv3.1
      by_cases hkj : k ≤ v
      · have hkj' : (k : Int) ≤ (v : Nat) := by omega
        have hkd : k < n0 := by omega
        have hwk := i64n1 k (by omega)
        have hrk := rowS_get (pre := pre) (post := post) (d := d3) (j := k) (by omega)
        have hra := rowS_get (pre := pre) (post := post) (d := d3) (j := a) (by omega)
        simp [wops_cons, dops_cons, dops_if, dstOf, -st_eq, -ld_eq, -Nat.not_lt, e0, e1, eI, eJ, hkj, hkj']
        refine W_calm (by kernel_rfl) ?_
        simp [wops_cons, dops_cons, dops_if, dstOf, -st_eq, -ld_eq, -Nat.not_lt, e0, e1, eI, eJ, hkj, hkj', hkd, had, hgi, hrk, hra]
        refine less_s _ _ _ _ ?_
        cases hl : klt (aget d3 a) (aget d3 k)
        ·
          have hl2 := hl
          unfold aget at hl2
          have hgo : Sort.scanUp (fun x => !klt d3[a]! x) d3 v (k + 1) = Sort.scanUp (fun x => !klt d3[a]! x) d3 v u := by
            rw [← hsc]
            conv => rhs; rw [Sort.scanUp]
            rw [if_pos (by simp [hl2, hkj])]
          simp [wops_cons, dops_cons, dops_if, dstOf, -st_eq, -ld_eq, -Nat.not_lt, e0, e1, eI, eJ, hl, hwk]
          exact ⟨_, by omega, k + 1, rfl, by omega, by omega, rfl, hgo⟩
        ·
          unfold aget at hl
          have hend : k = Sort.scanUp (fun x => !klt d3[a]! x) d3 v u := by rw [← hsc, Sort.scanUp, if_neg (by simp [hl])]
          simp [wops_cons, dops_cons, dops_if, dstOf, -st_eq, -ld_eq, -Nat.not_lt, e0, e1, eI, eJ]
          exact ⟨k, rfl, hend, hk0, by omega⟩
      · have hkj' : ¬ (k : Int) ≤ (v : Nat) := by omega
        have hend : k = Sort.scanUp (fun x => !klt d3[a]! x) d3 v u := by rw [← hsc, Sort.scanUp, if_neg (by simp [hkj])]
        simp [wops_cons, dops_cons, dops_if, dstOf, -st_eq, -ld_eq, -Nat.not_lt, e0, e1, eI, eJ, hkj, hkj']
        refine W_calm (by kernel_rfl) ?_
        simp [wops_cons, dops_cons, dops_if, dstOf, -st_eq, -ld_eq, -Nat.not_lt, e0, e1, eI, eJ, hkj, hkj']
        exact ⟨k, rfl, hend, hk0, by omega⟩
    · refine ⟨_, u, rfl, ?_⟩
      simp [e0, e1, eI, eJ]
      try omega
    rintro o s ⟨tm, p, rfl, e0, e1, eI, eJ, hp, hp0, hp1, hs⟩
    rw [hs]
    simp [wops_cons, dops_cons, dops_if, dstOf, -st_eq, -ld_eq, -Nat.not_lt]
    refine W_loop_J (fun n A s => ∃ tm k, A = ⟨tm, 84, [], false⟩ ∧ tm.get 0 = some (.slice (some ⟨i, pre.length, none⟩) n0 cap) ∧ tm.get 1 = some (.int .i64 a) ∧ tm.get 9 = some (.int .i64 (p : Nat)) ∧ tm.get 10 = some (.int .i64 (k : Nat)) ∧ k ≤ v ∧ n = k ∧ Sort.scanDown (fun x => klt d3[a]! x) d3 p k = Sort.scanDown (fun x => klt d3[a]! x) d3 p v ∧ s = σ3)
      (fun o s => ∃ tm y, o = .code (.exit 4) ⟨tm, 84, [], false⟩ ∧ tm.get 0 = some (.slice (some ⟨i, pre.length, none⟩) n0 cap) ∧ tm.get 1 = some (.int .i64 a) ∧ tm.get 9 = some (.int .i64 (p : Nat)) ∧ tm.get 10 = some (.int .i64 (y : Nat)) ∧ y = Sort.scanDown (fun x => klt d3[a]! x) d3 p v ∧ y ≤ v ∧ s = σ3) ?_ (v) _ _ ?_ ?_
    · rintro n A s ⟨tm, k, rfl, e0, e1, eI, eJ, hk0, hn, hsc, hs⟩
      rw [hs]
      have hgi := hv3.1
      by_cases hkj : p ≤ k
      · obtain ⟨k2, hk2⟩ : ∃ k2, k = k2 + 1 := ⟨k - 1, by omega⟩
        have hkj' : (p : Int) ≤ (k : Nat) := by omega
        have hkd : k < n0 := by omega
        have hwk := i64p k (by omega) (by omega)
        have hrk := rowS_get (pre := pre) (post := post) (d := d3) (j := k) (by omega)
        have hra := rowS_get (pre := pre) (post := post) (d := d3) (j := a) (by omega)
        simp [wops_cons, dops_cons, dops_if, dstOf, -st_eq, -ld_eq, -Nat.not_lt, e0, e1, eI, eJ, hkj, hkj']
        refine W_calm (by kernel_rfl) ?_
        simp [wops_cons, dops_cons, dops_if, dstOf, -st_eq, -ld_eq, -Nat.not_lt, e0, e1, eI, eJ, hkj, hkj', hkd, had, hgi, hrk, hra]
        refine less_s _ _ _ _ ?_
        cases hl : klt (aget d3 a) (aget d3 k)
        ·
          unfold aget at hl
          have hend : k = Sort.scanDown (fun x => klt d3[a]! x) d3 p v := by rw [← hsc, hk2, Sort.scanDown, if_neg (by rw [← hk2]; simp [hl])]
          simp [wops_cons, dops_cons, dops_if, dstOf, -st_eq, -ld_eq, -Nat.not_lt, e0, e1, eI, eJ]
          exact ⟨k, rfl, hend, hk0⟩
        ·
          have hl2 := hl
          unfold aget at hl2
          have hgo : Sort.scanDown (fun x => klt d3[a]! x) d3 p (k - 1) = Sort.scanDown (fun x => klt d3[a]! x) d3 p v := by
            rw [← hsc, hk2]
            conv => rhs; rw [Sort.scanDown]
            rw [if_pos (by rw [← hk2]; simp [hl2, hkj])]
            rfl
          simp [wops_cons, dops_cons, dops_if, dstOf, -st_eq, -ld_eq, -Nat.not_lt, e0, e1, eI, eJ, hl, hwk]
          exact ⟨_, by omega, k - 1, rfl, by omega, rfl, hgo⟩
      · have hkj' : ¬ (p : Int) ≤ (k : Nat) := by omega
        have hend : k = Sort.scanDown (fun x => klt d3[a]! x) d3 p v := by
          rw [← hsc]
          cases k with
          | zero => rfl
          | succ k => rw [Sort.scanDown, if_neg (by simp; omega)]
        simp [wops_cons, dops_cons, dops_if, dstOf, -st_eq, -ld_eq, -Nat.not_lt, e0, e1, eI, eJ, hkj, hkj']
        refine W_calm (by kernel_rfl) ?_
        simp [wops_cons, dops_cons, dops_if, dstOf, -st_eq, -ld_eq, -Nat.not_lt, e0, e1, eI, eJ, hkj, hkj']
        exact ⟨k, rfl, hend, hk0⟩
    · refine ⟨_, v, rfl, ?_⟩
      simp [e0, e1, eI, eJ]
    rintro o s ⟨tm, q, rfl, e0, e1, eI, eJ, hq, hq1, hs⟩
    rw [hs]
    rw [← hp, ← hq] at hfin
    by_cases hpq : q < p
    · have hpq' : (q : Int) < p := by omega
      rw [if_pos hpq] at hfin
      have hf1 : p = (Sort.partEqLoop klt a a1 b1 d1).1 := by rw [← hfin]
      have hf2 : d3 = (Sort.partEqLoop klt a a1 b1 d1).2 := by rw [← hfin]
      simp [wops_cons, dops_cons, dops_if, dstOf, -st_eq, -ld_eq, -Nat.not_lt, e0, e1, eI, eJ, hpq, hpq']
      rw [← hf1, ← hf2]
      exact ⟨rfl, hv3, hg3⟩
    · have hpq' : ¬ (q : Int) < p := by omega
      rw [if_neg hpq] at hfin
      have hpd : p < n0 := by omega
      have hqd : q < n0 := by omega
      have hwp := i64n1 p (by omega)
      have hwq := i64p q (by omega) (by omega)
      have hgi := hv3.1
      have hrp := rowS_get (pre := pre) (post := post) (d := d3) (j := p) (by omega)
      have hrq := rowS_get (pre := pre) (post := post) (d := d3) (j := q) (by omega)
      have hst1 := rowS_st (pre := pre) (post := post) (d := d3) (j := p) (by first | omega | (simp; omega)) (aget d3 q)
      have hst2 := rowS_st (pre := pre) (post := post) (d := aset d3 p (aget d3 q)) (j := q) (by first | omega | (simp; omega)) (aget d3 p)
      simp [wops_cons, dops_cons, dops_if, dstOf, -st_eq, -ld_eq, -Nat.not_lt, e0, e1, eI, eJ, hpq, hpq']
      refine W_calm (by kernel_rfl) ?_
      simp [wops_cons, dops_cons, dops_if, dstOf, -st_eq, -ld_eq, -Nat.not_lt, e0, e1, eI, eJ, hpd, hqd, hgi, hrp, hrq, hst1, hst2, hwp, hwq]
      rw [← swp_aset]
      refine ⟨_, ?_, p + 1, rfl, q - 1, rfl, by omega, by omega, rfl, _, by simp [hsz3], hfin, (hv3.put _).put _, (hg3.putL _).putL _⟩
      rw [hn]
      exact guard_ar hp0 hq1 hpq
  · refine ⟨_, a1, b1, d1, rfl, ?_⟩
    simp
    exact ⟨h1a, hb1n, hsz1, hv1, hg1⟩
  · rintro o σ4 ⟨tm, rfl, eI, hv4, hg4⟩
    simp [wops_cons, dops_cons, dops_if, dstOf, -st_eq, -ld_eq, -Nat.not_lt, eI]
    exact h σ4 hv4 hg4
end Go.Sm
/- Sorting strings: pdqsort. -/
set_option linter.unusedVariables false
set_option linter.unusedSimpArgs false
namespace Go.Sm
open Go Go.Proofs
set_option maxRecDepth 100000
set_option maxHeartbeats 4000000
theorem swo_klt : Sort.SWO klt where
  irrefl x := bl_irrefl _
  trans x y z h h' := bl_trans h h'
  ntrans x y z h h' := by
    cases hc : klt x z with
    | false => rfl
    | true =>
      exfalso
      cases hyx : klt y x with
      | true => exact absurd (bl_trans hyx hc) (by unfold klt at h'; rw [h']; simp)
      | false =>
        have e : x = y := ba_list_inj (bl_tri h hyx)
        rw [e, h'] at hc; cases hc
theorem pdq_ar {a b x : Nat} (h1 : a ≤ x) (h2 : x < b) : ((b - 1) - (x - a) : Nat) = b - 1 - (x - a) ∧ a ≤ b - 1 - (x - a) ∧ b - 1 - (x - a) < b := by omega
/-- What is left to be done. -/
structure Left (a b : Nat) (d : Array ByteArray) (n0 a' b' : Nat) (d' : Array ByteArray) : Prop where
  le : a' ≤ b'
  hi : b' ≤ n0
  sz : d'.size = n0
  bel : Sort.Below klt a' b' d'
  fin : ∀ R, Sort.PermIn a' b' d' R → Sort.SortedIn klt a' b' R → Sort.PermIn a b d R ∧ Sort.SortedIn klt a b R
theorem Left.perm {a b n0 a' b' : Nat} {d d' d2 : Array ByteArray} (h : Left a b d n0 a' b' d') (hp : Sort.PermIn a' b' d' d2) : Left a b d n0 a' b' d2 :=
  ⟨h.le, h.hi, by rw [hp.1]; exact h.sz, h.bel.perm (by rw [h.sz]; exact h.hi) hp, fun R h1 h2 => h.fin R (Sort.permIn_trans _ _ _ _ _ hp h1) h2⟩
theorem pdq_s (n0 i cap : Nat) (pre post : List Value) (hbig : n0 < 2 ^ 40) : ∀ (m a b l : Nat) (d : Array ByteArray) (σ : CSt) (Q : Out → CSt → Prop), b - a ≤ m → d.size = n0 → SV σ i pre post d → a ≤ b → b ≤ n0 → l < 2 ^ 40 → Sort.Below klt a b d →
    (∀ σ' d', Sort.PermIn a b d d' → Sort.SortedIn klt a b d' → SV σ' i pre post d' → But i σ σ' → Q (.ret (.tuple #[]) false) σ') →
    W E1 (.fn 71 #[.slice (some ⟨i, pre.length, none⟩) n0 cap, .int .i64 a, .int .i64 b, .int .i64 l] none) σ Q := by
  intro m
  induction m using Nat.strongRecOn with
  | _ m IH =>
  intro a b l d σ Q hm hn0 hv hab hb hl40 hbel h
  rw [W_fn (fn := Tryz.f71) Tryz.func71 rfl rfl rfl]
  simp [wops_cons, dops_cons, dops_if, dstOf, -st_eq, -ld_eq, -Nat.not_lt]
  refine W_loop_inv (fun n A s => ∃ tm a' b' l' wb wp d', A = ⟨tm, 134, [], false⟩ ∧ tm.get 0 = some (.slice (some ⟨i, pre.length, none⟩) n0 cap) ∧ tm.get 1 = some (.int .i64 (a' : Nat)) ∧ tm.get 2 = some (.int .i64 (b' : Nat)) ∧ tm.get 3 = some (.int .i64 (l' : Nat)) ∧ tm.get 8 = some (.bool wb) ∧ tm.get 9 = some (.bool wp) ∧ b' - a' ≤ m ∧ n = b' - a' ∧ l' < 2 ^ 40 ∧ Left a b d n0 a' b' d' ∧ SV s i pre post d' ∧ But i σ s) ?_ (b - a) _ _ ?_
  · rintro n A σ1 ⟨tm, a', b', l', wb, wp, d1, rfl, e0, e1, e2, e3, e8, e9, hsub, hn, hl', hL, hv1, hg1⟩
    have hab' := hL.le
    have hbn := hL.hi
    have hw1 : IntKind.i64.wrap ((b' : Int) - a') = ((b' - a' : Nat) : Int) := by rw [IntWalk.i64_in _ (by omega)]; omega
    obtain ⟨len, hlen⟩ : ∃ len, len = b' - a' := ⟨_, rfl⟩
    rw [← hlen] at hw1 hsub hn
    by_cases h12 : len ≤ 12
    · have h12' : (len : Int) ≤ 12 := by omega
      simp [wops_cons, dops_cons, dops_if, dstOf, -st_eq, -ld_eq, -Nat.not_lt, e0, e1, e2, e3, hw1, h12, h12']
      refine insSort_n n0 d1 hL.sz i cap pre post a' b' σ1 hv1 hbn hbig hab' _ fun σ2 hv2 hg2 => ?_
      have hi := Sort.insertionSort_holds (lt := klt) swo_klt d1 a' b' hab' (by rw [hL.sz]; exact hbn)
      obtain ⟨f1, f2⟩ := hL.fin _ hi.1 hi.2
      simp [wops_cons, dops_cons, dops_if, dstOf, -st_eq, -ld_eq, -Nat.not_lt]
      exact h σ2 _ f1 f2 hv2 (hg1.trans hg2)
    · have h12' : ¬ (len : Int) ≤ 12 := by omega
      by_cases hl0 : l' = 0
      · have hl0' : (l' : Int) = 0 := by omega
        simp [wops_cons, dops_cons, dops_if, dstOf, -st_eq, -ld_eq, -Nat.not_lt, e0, e1, e2, e3, hw1, h12, h12', hl0, hl0']
        refine heap_s n0 d1 hL.sz i cap pre post a' b' σ1 hv1 hbn hbig hab' _ fun σ2 hv2 hg2 => ?_
        have hi := Sort.heapSort_holds (lt := klt) swo_klt d1 a' b' hab' (by rw [hL.sz]; exact hbn)
        obtain ⟨f1, f2⟩ := hL.fin _ hi.1 hi.2
        simp [wops_cons, dops_cons, dops_if, dstOf, -st_eq, -ld_eq, -Nat.not_lt]
        exact h σ2 _ f1 f2 hv2 (hg1.trans hg2)
      · have hl0' : ¬ (l' : Int) = 0 := by omega
        have hwl := i64p l' (by omega) (by omega)
        simp [wops_cons, dops_cons, dops_if, dstOf, -st_eq, -ld_eq, -Nat.not_lt, -W_condK, W_cond_t, W_cond_f, e0, e1, e2, e3, e8, hw1, h12, h12', hl0, hl0']
        refine W_cut (fun o s => ∃ tm l'' d', o = .code .normal ⟨tm, 134, [], false⟩ ∧ tm.get 0 = some (.slice (some ⟨i, pre.length, none⟩) n0 cap) ∧ tm.get 1 = some (.int .i64 (a' : Nat)) ∧ tm.get 2 = some (.int .i64 (b' : Nat)) ∧ tm.get 3 = some (.int .i64 (l'' : Nat)) ∧ tm.get 8 = some (.bool wb) ∧ tm.get 9 = some (.bool wp) ∧ tm.get 10 = some (.int .i64 (len : Nat)) ∧ l'' < 2 ^ 40 ∧ Left a b d n0 a' b' d' ∧ SV s i pre post d' ∧ But i σ s) ?_ ?_
        · cases wb with
          | true =>
            simp [wops_cons, dops_cons, dops_if, dstOf, -st_eq, -ld_eq, -Nat.not_lt, e0, e1, e2, e3, e8, e9]
            exact ⟨l', rfl, hl', d1, hL, hv1, hg1⟩
          | false =>
            simp [wops_cons, dops_cons, dops_if, dstOf, -st_eq, -ld_eq, -Nat.not_lt, e0, e1, e2, e3, e8, e9]
            refine break_s n0 d1 hL.sz i cap pre post a' b' σ1 hv1 hbn hbig hab' _ fun σ2 d2 hp2 hv2 hg2 => ?_
            simp [wops_cons, dops_cons, dops_if, dstOf, -st_eq, -ld_eq, -Nat.not_lt, e0, e1, e2, e3, e8, e9, hwl]
            exact ⟨l' - 1, rfl, by omega, d2, hL.perm hp2, hv2, hg1.trans hg2⟩
        · clear e0 e1 e2 e3 e8 e9 hl' hL hv1 hg1 hwl hl0 hl0'
          rintro o σ2 ⟨tm, l2, d2, rfl, e0, e1, e2, e3, e8, e9, e10, hl2, hL, hv2, hg2⟩
          have hab2 : a' < b' := by omega
          simp [wops_cons, dops_cons, dops_if, dstOf, -st_eq, -ld_eq, -Nat.not_lt, -W_condK, W_cond_t, W_cond_f, e0, e1, e2]
          refine pivot_s n0 d2 hL.sz i cap pre post a' b' σ2 hv2 hbn hbig hab2 _ fun p hint σ3 hp0 hp1 hhint hv3 hg3' => ?_
          have hg3 := hg2.trans hg3'
          simp [wops_cons, dops_cons, dops_if, dstOf, -st_eq, -ld_eq, -Nat.not_lt, -W_condK, W_cond_t, W_cond_f]
          refine W_cut (fun o s => ∃ tm p' hint' d', o = .code .normal ⟨tm, 134, [], false⟩ ∧ tm.get 0 = some (.slice (some ⟨i, pre.length, none⟩) n0 cap) ∧ tm.get 1 = some (.int .i64 (a' : Nat)) ∧ tm.get 2 = some (.int .i64 (b' : Nat)) ∧ tm.get 3 = some (.int .i64 (l2 : Nat)) ∧ tm.get 8 = some (.bool wb) ∧ tm.get 9 = some (.bool wp) ∧ tm.get 10 = some (.int .i64 (len : Nat)) ∧ tm.get 11 = some (.int .i64 (p' : Nat)) ∧ tm.get 12 = some (.int .i64 hint') ∧ a' ≤ p' ∧ p' < b' ∧ Left a b d n0 a' b' d' ∧ SV s i pre post d' ∧ But i σ s) ?_ ?_
          · by_cases hh2 : hint = 2
            · subst hh2
              simp [wops_cons, dops_cons, dops_if, dstOf, -st_eq, -ld_eq, -Nat.not_lt, e0, e1, e2, e3, e8, e9, e10]
              refine rev_s n0 d2 hL.sz i cap pre post a' b' σ3 hv3 hbn hbig hab2 _ fun σ4 hv4 hg4 => ?_
              have hr := Sort.reverseRange_holds (α := ByteArray) d2 a' b' hab' (by rw [hL.sz]; exact hbn)
              obtain ⟨q0, q1, q2⟩ := pdq_ar hp0 hp1
              have hwb1 := i64p b' (by omega) (by omega)
              have hwpa : IntKind.i64.wrap ((p : Int) - a') = ((p - a' : Nat) : Int) := by rw [IntWalk.i64_in _ (by omega)]; omega
              have hwpb : IntKind.i64.wrap (((b' - 1 : Nat) : Int) - ((p - a' : Nat) : Int)) = ((b' - 1 - (p - a') : Nat) : Int) := by rw [IntWalk.i64_in _ (by omega)]; omega
              simp [wops_cons, dops_cons, dops_if, dstOf, -st_eq, -ld_eq, -Nat.not_lt, e0, e1, e2, e3, e8, e9, e10, hwb1, hwpa, hwpb]
              exact ⟨_, rfl, q1, q2, _, hL.perm hr, hv4, hg3.trans hg4⟩
            · simp [wops_cons, dops_cons, dops_if, dstOf, -st_eq, -ld_eq, -Nat.not_lt, e0, e1, e2, e3, e8, e9, e10, hh2]
              exact ⟨p, rfl, hp0, hp1, d2, hL, hv3, hg3⟩
          · clear e0 e1 e2 e3 e8 e9 e10 hL hv2 hg2 hv3 hg3 hg3' hp0 hp1 hhint
            rintro o σ4 ⟨tm, p, hint, d4, rfl, e0, e1, e2, e3, e8, e9, e10, e11, e12, hp0, hp1, hL, hv4, hg4⟩
            simp [wops_cons, dops_cons, dops_if, dstOf, -st_eq, -ld_eq, -Nat.not_lt, -W_condK, W_cond_t, W_cond_f, -W_region]
            refine W_cut (fun o s => ∃ tm g, o = .code .normal ⟨tm, 134, [], false⟩ ∧ tm.get 0 = some (.slice (some ⟨i, pre.length, none⟩) n0 cap) ∧ tm.get 1 = some (.int .i64 (a' : Nat)) ∧ tm.get 2 = some (.int .i64 (b' : Nat)) ∧ tm.get 3 = some (.int .i64 (l2 : Nat)) ∧ tm.get 8 = some (.bool wb) ∧ tm.get 9 = some (.bool wp) ∧ tm.get 10 = some (.int .i64 (len : Nat)) ∧ tm.get 11 = some (.int .i64 (p : Nat)) ∧ tm.get 68 = some (.bool g) ∧ s = σ4) ?_ ?_
            · cases wb with
              | false =>
                simp [wops_cons, dops_cons, dops_if, dstOf, -st_eq, -ld_eq, -Nat.not_lt, wops_if', e0, e1, e2, e3, e8, e9, e10, e11, e12]
              | true =>
                cases wp with
                | false => simp [wops_cons, dops_cons, dops_if, dstOf, -st_eq, -ld_eq, -Nat.not_lt, wops_if', e0, e1, e2, e3, e8, e9, e10, e11, e12]
                | true => simp [wops_cons, dops_cons, dops_if, dstOf, -st_eq, -ld_eq, -Nat.not_lt, wops_if', e0, e1, e2, e3, e8, e9, e10, e11, e12]; omega
            · clear e0 e1 e2 e3 e8 e9 e10 e11 e12
              rintro o s ⟨tm, g, rfl, e0, e1, e2, e3, e8, e9, e10, e11, e68, hs⟩
              rw [hs]
              clear hs s
              simp [wops_cons, dops_cons, dops_if, dstOf, -st_eq, -ld_eq, -Nat.not_lt, -W_condK, W_cond_t, W_cond_f, -W_region]
              refine W_cut (fun o s => (o = .code .ret ⟨.nil, 134, [], false⟩ ∧ False) ∨ (∃ tm, o = .code .ret ⟨tm, 134, [], false⟩ ∧ Q (.ret (.tuple #[]) false) s) ∨ ∃ tm d', o = .code .normal ⟨tm, 134, [], false⟩ ∧ tm.get 0 = some (.slice (some ⟨i, pre.length, none⟩) n0 cap) ∧ tm.get 1 = some (.int .i64 (a' : Nat)) ∧ tm.get 2 = some (.int .i64 (b' : Nat)) ∧ tm.get 3 = some (.int .i64 (l2 : Nat)) ∧ tm.get 8 = some (.bool wb) ∧ tm.get 9 = some (.bool wp) ∧ tm.get 10 = some (.int .i64 (len : Nat)) ∧ tm.get 11 = some (.int .i64 (p : Nat)) ∧ Left a b d n0 a' b' d' ∧ SV s i pre post d' ∧ But i σ s) ?_ ?_
              · cases g with
                | false =>
                  simp [wops_cons, dops_cons, dops_if, dstOf, -st_eq, -ld_eq, -Nat.not_lt, e0, e1, e2, e3, e8, e9, e10, e11, e68]
                  exact ⟨d4, hL, hv4, hg4⟩
                | true =>
                  simp [wops_cons, dops_cons, dops_if, dstOf, -st_eq, -ld_eq, -Nat.not_lt, e0, e1, e2, e3, e8, e9, e10, e11, e68]
                  refine partIns_s n0 d4 hL.sz i cap pre post a' b' σ4 hv4 hbn hbig hab2 _ fun σ5 hv5 hg5 => ?_
                  obtain ⟨f1, f2⟩ := Sort.partialInsertionSort_holds (lt := klt) swo_klt d4 a' b' hab2 (by rw [hL.sz]; exact hbn) hL.bel
                  generalize (Sort.partialInsertionSort klt d4 a' b').1 = d5 at f1 f2 hv5
                  generalize (Sort.partialInsertionSort klt d4 a' b').2 = r5 at f2
                  cases r5 with
                  | true =>
                    obtain ⟨f3, f4⟩ := hL.fin _ f1 (f2 rfl)
                    simp [wops_cons, dops_cons, dops_if, dstOf, -st_eq, -ld_eq, -Nat.not_lt, e0, e1, e2, e3, e8, e9, e10, e11, e68]
                    exact h σ5 d5 f3 f4 hv5 (hg4.trans hg5)
                  | false =>
                    simp [wops_cons, dops_cons, dops_if, dstOf, -st_eq, -ld_eq, -Nat.not_lt, e0, e1, e2, e3, e8, e9, e10, e11, e68]
                    exact ⟨d5, hL.perm f1, hv5, hg4.trans hg5⟩
              · clear e0 e1 e2 e3 e8 e9 e10 e11 e68 hL hv4 hg4
                rintro o σ5 (⟨rfl, h0⟩ | ⟨tm, rfl, hq⟩ | ⟨tm, d5, rfl, e0, e1, e2, e3, e8, e9, e10, e11, hL, hv5, hg5⟩)
                · exact h0.elim
                · simp [wops_cons, dops_cons, dops_if, dstOf, -st_eq, -ld_eq, -Nat.not_lt]
                  exact hq
                have hpn : p < n0 := by omega
                simp [wops_cons, dops_cons, dops_if, dstOf, -st_eq, -ld_eq, -Nat.not_lt, -W_condK, W_cond_t, W_cond_f, -W_region]
                refine W_cut (fun o s => ∃ tm g, o = .code .normal ⟨tm, 134, [], false⟩ ∧ tm.get 0 = some (.slice (some ⟨i, pre.length, none⟩) n0 cap) ∧ tm.get 1 = some (.int .i64 (a' : Nat)) ∧ tm.get 2 = some (.int .i64 (b' : Nat)) ∧ tm.get 3 = some (.int .i64 (l2 : Nat)) ∧ tm.get 8 = some (.bool wb) ∧ tm.get 9 = some (.bool wp) ∧ tm.get 10 = some (.int .i64 (len : Nat)) ∧ tm.get 11 = some (.int .i64 (p : Nat)) ∧ tm.get 87 = some (.bool g) ∧ (g = true → 0 < a' ∧ klt (aget d5 (a' - 1)) (aget d5 p) = false) ∧ s = σ5) ?_ ?_
                · refine W_calm (by kernel_rfl) ?_
                  have hgi := hv5.1
                  have hsz5 := hL.sz
                  by_cases ha0 : 0 < a'
                  · have ha0' : (0 : Int) < a' := by omega
                    have han : a' - 1 < n0 := by omega
                    have hwa := i64p a' ha0 (by omega)
                    have hra := rowS_get (pre := pre) (post := post) (d := d5) (j := a' - 1) (by omega)
                    have hrp := rowS_get (pre := pre) (post := post) (d := d5) (j := p) (by omega)
                    simp [wops_cons, dops_cons, dops_if, dstOf, -st_eq, -ld_eq, -Nat.not_lt, e0, e1, e2, e3, e8, e9, e10, e11, ha0, ha0', hwa, han, hpn, hgi, hra, hrp]
                    refine less_s _ _ _ _ ?_
                    cases hl : klt (aget d5 (a' - 1)) (aget d5 p)
                    · simp [wops_cons, dops_cons, dops_if, dstOf, -st_eq, -ld_eq, -Nat.not_lt, e0, e1, e2, e3, e8, e9, e10, e11, hl, ha0]
                    · simp [wops_cons, dops_cons, dops_if, dstOf, -st_eq, -ld_eq, -Nat.not_lt, e0, e1, e2, e3, e8, e9, e10, e11, hl, ha0]
                  · have ha0' : ¬ (0 : Int) < a' := by omega
                    simp [wops_cons, dops_cons, dops_if, dstOf, -st_eq, -ld_eq, -Nat.not_lt, e0, e1, e2, e3, e8, e9, e10, e11, ha0, ha0']
                · clear e0 e1 e2 e3 e8 e9 e10 e11
                  rintro o s ⟨tm, g, rfl, e0, e1, e2, e3, e8, e9, e10, e11, e87, hg, hs⟩
                  rw [hs]
                  clear hs s
                  cases g with
                  | true =>
                    obtain ⟨ha0, hnl⟩ := hg rfl
                    simp [wops_cons, dops_cons, dops_if, dstOf, -st_eq, -ld_eq, -Nat.not_lt, e0, e1, e2, e3, e8, e9, e10, e11, e87]
                    refine partEq_s n0 d5 hL.sz i cap pre post a' b' p σ5 hv5 hbn hbig hab2 hp1 _ fun σ6 hv6 hg6 => ?_
                    have hre := Sort.round_eq (lt := klt) (d4 := (Sort.partitionEqual klt d5 a' b' p).2) (mid := (Sort.partitionEqual klt d5 a' b' p).1) swo_klt (Sort.partitionEqual_holds klt) ha0 hp0 hp1 (by rw [hL.sz]; exact hbn) hL.bel hnl rfl
                    generalize (Sort.partitionEqual klt d5 a' b' p).2 = d6 at hre hv6
                    generalize (Sort.partitionEqual klt d5 a' b' p).1 = mid at hre
                    obtain ⟨k1, k2, k3, k4, k5⟩ := hre
                    simp [wops_cons, dops_cons, dops_if, dstOf, -st_eq, -ld_eq, -Nat.not_lt, e0, e1, e2, e3, e8, e9, e10, e11]
                    exact ⟨b' - mid, by omega, mid, rfl, b', rfl, l2, rfl, by omega, rfl, hl2, d6, ⟨k2, hbn, by rw [k3]; exact hL.sz, k4, fun R r1 r2 => hL.fin R (k5 R r1 r2).1 (k5 R r1 r2).2⟩, hv6, hg5.trans hg6⟩
                  | false =>
                    simp [wops_cons, dops_cons, dops_if, dstOf, -st_eq, -ld_eq, -Nat.not_lt, e0, e1, e2, e3, e8, e9, e10, e11, e87]
                    refine part_s n0 d5 hL.sz i cap pre post a' b' p σ5 hv5 hbn hbig hab2 hp1 _ fun σ6 hv6 hg6 => ?_
                    have hre := Sort.round_part (lt := klt) (d4 := (Sort.partition klt d5 a' b' p).2.2) (mid := (Sort.partition klt d5 a' b' p).1) (ap := (Sort.partition klt d5 a' b' p).2.1) swo_klt (Sort.partition_holds klt) hp0 hp1 (by rw [hL.sz]; exact hbn) hL.bel rfl
                    generalize (Sort.partition klt d5 a' b' p).2.2 = d6 at hre hv6
                    generalize (Sort.partition klt d5 a' b' p).2.1 = al at hre ⊢
                    generalize (Sort.partition klt d5 a' b' p).1 = mid at hre
                    obtain ⟨k1, k2, k3, k4, k5, k6, k7⟩ := hre
                    have hw5 : IntKind.i64.wrap ((mid : Int) - a') = ((mid - a' : Nat) : Int) := by rw [IntWalk.i64_in _ (by omega)]; omega
                    have hw6 : IntKind.i64.wrap ((b' : Int) - mid) = ((b' - mid : Nat) : Int) := by rw [IntWalk.i64_in _ (by omega)]; omega
                    have hw7 : IntKind.i64.wrap ((len : Int) / 8) = ((len / 8 : Nat) : Int) := by rw [IntWalk.i64_in _ (by omega)]; omega
                    obtain ⟨mid1, hm1⟩ : ∃ mid1, mid1 = mid + 1 := ⟨_, rfl⟩
                    have hw8 : IntKind.i64.wrap ((mid : Int) + 1) = (mid1 : Int) := by rw [i64n1 mid (by omega), hm1]
                    have hsz6 : d6.size = n0 := by rw [k3]; exact hL.sz
                    rw [← hm1] at k5 k6 k7
                    obtain ⟨th, hth⟩ : ∃ th, th = len / 8 := ⟨_, rfl⟩
                    rw [← hth] at hw7
                    by_cases hlr : mid - a' < b' - mid
                    · have hlr' : ((mid - a' : Nat) : Int) < ((b' - mid : Nat) : Int) := by omega
                      simp [wops_cons, dops_cons, dops_if, dstOf, -st_eq, -ld_eq, -Nat.not_lt, e0, e1, e2, e3, e8, e9, e10, e11, hw5, hw6, hw7, hlr, hlr']
                      refine IH (mid - a') (by omega) a' mid l2 d6 σ6 _ (Nat.le_refl _) hsz6 hv6 k1 (by omega) hl2 k4 fun σ7 d7 hp7 hs7 hv7 hg7 => ?_
                      obtain ⟨j1, j2⟩ := k6 d7 hp7 hs7
                      simp [wops_cons, dops_cons, dops_if, dstOf, -st_eq, -ld_eq, -Nat.not_lt, e0, e1, e2, e3, e8, e9, e10, e11, hw8]
                      exact ⟨b' - mid1, by omega, mid1, rfl, b', rfl, l2, rfl, by omega, by omega, rfl, hl2, d7, ⟨by omega, hbn, by rw [hp7.1]; exact hsz6, j1, fun R r1 r2 => hL.fin R (j2 R r1 r2).1 (j2 R r1 r2).2⟩, hv7, (hg5.trans hg6).trans hg7⟩
                    · have hlr' : ¬ ((mid - a' : Nat) : Int) < ((b' - mid : Nat) : Int) := by omega
                      simp [wops_cons, dops_cons, dops_if, dstOf, -st_eq, -ld_eq, -Nat.not_lt, e0, e1, e2, e3, e8, e9, e10, e11, hw5, hw6, hw7, hlr, hlr', hw8]
                      refine IH (b' - mid1) (by omega) mid1 b' l2 d6 σ6 _ (Nat.le_refl _) hsz6 hv6 (by omega) hbn hl2 k5 fun σ7 d7 hp7 hs7 hv7 hg7 => ?_
                      obtain ⟨j1, j2⟩ := k7 d7 hp7 hs7
                      simp [wops_cons, dops_cons, dops_if, dstOf, -st_eq, -ld_eq, -Nat.not_lt, e0, e1, e2, e3, e8, e9, e10, e11]
                      exact ⟨mid - a', by omega, a', rfl, mid, rfl, l2, rfl, by omega, by omega, rfl, hl2, d7, ⟨k1, by omega, by rw [hp7.1]; exact hsz6, j1, fun R r1 r2 => hL.fin R (j2 R r1 r2).1 (j2 R r1 r2).2⟩, hv7, (hg5.trans hg6).trans hg7⟩
  · refine ⟨_, a, b, l, true, true, d, rfl, ?_⟩
    simp
    exact ⟨by omega, hl40, ⟨hab, hb, hn0, hbel, fun R h1 h2 => ⟨h1, h2⟩⟩, hv, But.refl i σ⟩
end Go.Sm
/- Sorting strings: slices.Sort. -/
set_option linter.unusedVariables false
set_option linter.unusedSimpArgs false
namespace Go.Sm
open Go Go.Proofs
set_option maxRecDepth 100000
set_option maxHeartbeats 4000000
theorem permIn_all_list {d d' : Array ByteArray} (h : Sort.PermIn 0 d.size d d') : d'.toList.Perm d.toList := by
  have h1 := h.2.2
  have e1 : d.extract 0 d.size = d := by simp
  have e2 : d'.extract 0 d.size = d' := by rw [← h.1]; simp
  rwa [e1, e2] at h1
theorem sortedIn_all {d' : Array ByteArray} (h : Sort.SortedIn klt 0 d'.size d') : d'.toList.Pairwise fun x y => klt y x = false := by
  rw [List.pairwise_iff_getElem]
  intro i j hi hj hij
  have := h i j (Nat.zero_le _) hij (by simpa using hj)
  rw [getElem!_pos d' i (by simpa using hi), getElem!_pos d' j (by simpa using hj)] at this
  simpa using this
theorem But.growB {b i : Nat} {σ σ' : CSt} (h : But i σ σ') (hi : b ≤ i) (hb : b ≤ σ.n) : GrowB b σ σ' := ⟨h.1, fun j hj => h.2 j (by omega) (by omega)⟩
theorem sort_own (b : Nat) (l : List ByteArray) (v : Value) (σ : CSt) (hb : b ≤ σ.n) (hown : Own b σ 9 encS v l) (hbig : l.length < 2 ^ 38) (Q : Out → CSt → Prop)
    (h : ∀ (l' : List ByteArray) (σ' : CSt), l'.Perm l → (l'.Pairwise fun x y => klt y x = false) → Own b σ' 9 encS v l' → GrowB b σ σ' → Q (.ret (.tuple #[]) false) σ') :
    W E1 (.fn 54 #[v] none) σ Q := by
  rw [W_fn (fn := Tryz.f54) Tryz.func54 rfl rfl rfl]
  rcases hown with ⟨rfl, rfl⟩ | ⟨i, cap, rfl, hbi, hin, hg, hcap⟩
  · have fin := h [] σ (List.Perm.refl _) List.Pairwise.nil Own.nil (GrowB.refl b σ)
    have hw : IntKind.u64.wrap 0 = 0 := by decide
    have hl : Sort.bitsLen 0 = 0 := rfl
    have hw0 : IntKind.i64.wrap 0 = 0 := by decide
    have hwo : IntKind.i64.wrap 1 = 1 := by decide
    simp [wops_cons, hw]
    refine len_spec 0 (by omega) _ _ ?_
    simp [wops_cons, hl]
    rw [W_fn (fn := Tryz.f71) Tryz.func71 rfl rfl rfl]
    simp [wops_cons]
    rw [W_loop]
    simp [wops_cons, hw0]
    rw [W_fn (fn := Tryz.f88) Tryz.func88 rfl rfl rfl]
    simp [wops_cons]
    rw [W_loop]
    simpa [wops_cons, hwo] using fin
  · have hw : IntKind.u64.wrap (l.length : Int) = l.length := IntWalk.u64_in _ (by omega)
    have hbl : Sort.bitsLen l.length < 2 ^ 40 := by
      have := (Sort.bitsLen_le_iff l.length 40).2 (by omega)
      omega
    have hd : l.toArray.size = l.length := by simp
    have hv : SV σ i [] [] l.toArray := ⟨by simpa [rowD] using hg, hin⟩
    simp [wops_cons, hw]
    refine len_spec l.length (by omega) _ _ ?_
    simp [wops_cons]
    refine pdq_s l.length i cap [] [] (by omega) l.length 0 l.length _ l.toArray σ _ (by omega) hd hv (by omega) (Nat.le_refl _) hbl (.inl rfl) fun σ' d' hp hs hv' hg' => ?_
    simp [wops_cons]
    rw [← hd] at hp hs
    have hsz := hp.1
    rw [← hsz] at hs
    have hlen : d'.toList.length = l.length := by simp [hsz]
    refine h d'.toList σ' (by simpa using permIn_all_list hp) (sortedIn_all hs) (.inr ⟨i, cap, by rw [hlen], hbi, hv'.2, by simpa [rowD] using hv'.1, ?_⟩) (hg'.growB hbi hb)
    rcases hcap with h1 | ⟨h1, h2⟩
    · exact .inl h1
    · exact .inr ⟨List.eq_nil_of_length_eq_zero (by rw [hlen, h1]; rfl), h2⟩
end Go.Sm
