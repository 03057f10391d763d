/- Part F of the proof. -/
import Derived.Test.YtkcljmaklingoaaGreatDoorPartD
import Derived.Test.YtkcljmaklingoaaGreatDoorPartE
/- Versions, writes, records compared. -/
set_option linter.unusedVariables false
set_option linter.unusedSimpArgs false
namespace Go.Sm
open Go Go.Proofs
set_option maxRecDepth 100000
set_option maxHeartbeats 4000000
theorem kl_ver (v : Ver) : KL [.int .u64, .str, .bool] (encV v) := ⟨⟨_, rfl⟩, ⟨_, rfl⟩, ⟨_, rfl⟩, trivial⟩
theorem encV_inj {a b : Ver} : encV a = encV b ↔ a = b := by
  constructor
  · intro h
    cases a; cases b
    simp [encV] at h
    simp [h]
  · rintro rfl; rfl
theorem cmp_ver (a b : Ver) (σ : CSt) (x y : Operand) : binF Tryz.prog σ .eql 33 x y (.agg (encV a).toArray) (.agg (encV b).toArray) = .val (.bool (decide (a = b))) σ ∧ binF Tryz.prog σ .neq 33 x y (.agg (encV a).toArray) (.agg (encV b).toArray) = .val (.bool (!decide (a = b))) σ := by
  obtain ⟨c, h1, h2, h3⟩ := bin_struct (P := Tryz.prog) (f := 2) (t := 33) (ks := [.int .u64, .str, .bool]) (by kernel_rfl) (by kernel_rfl) (by omega) (by kernel_rfl) (by kernel_rfl) (kl_ver a) (kl_ver b) rfl rfl (σ := σ) (x := x) (y := y)
  have : c = decide (a = b) := by
    rw [encV_inj] at h3
    cases c <;> simp_all
  rw [h1, h2, this]
  exact ⟨rfl, rfl⟩
theorem neq_ver (a b : Ver) (σ : CSt) (x y : Operand) : binF Tryz.prog σ .neq 33 x y (.agg (encV a).toArray) (.agg (encV b).toArray) = .val (.bool (!decide (a = b))) σ := (cmp_ver a b σ x y).2
theorem kl_wr (v : Wri) : KL [.str, .int .u64, .str, .bool] (encWr v) := ⟨⟨_, rfl⟩, ⟨_, rfl⟩, ⟨_, rfl⟩, ⟨_, rfl⟩, trivial⟩
theorem encWr_inj {a b : Wri} : encWr a = encWr b ↔ a = b := by
  constructor
  · intro h
    obtain ⟨k, x⟩ := a; obtain ⟨k2, y⟩ := b
    cases x; cases y
    simp [encWr] at h
    simp [h]
  · rintro rfl; rfl
theorem cmp_wr (a b : Wri) (σ : CSt) (x y : Operand) : binF Tryz.prog σ .eql 90 x y (.agg (encWr a).toArray) (.agg (encWr b).toArray) = .val (.bool (decide (a = b))) σ ∧ binF Tryz.prog σ .neq 90 x y (.agg (encWr a).toArray) (.agg (encWr b).toArray) = .val (.bool (!decide (a = b))) σ := by
  obtain ⟨c, h1, h2, h3⟩ := bin_struct (P := Tryz.prog) (f := 3) (t := 90) (ks := [.str, .int .u64, .str, .bool]) (by kernel_rfl) (by kernel_rfl) (by omega) (by kernel_rfl) (by kernel_rfl) (kl_wr a) (kl_wr b) rfl rfl (σ := σ) (x := x) (y := y)
  have : c = decide (a = b) := by
    rw [encWr_inj] at h3
    cases c <;> simp_all
  rw [h1, h2, this]
  exact ⟨rfl, rfl⟩
theorem neq_wr (a b : Wri) (σ : CSt) (x y : Operand) : binF Tryz.prog σ .neq 90 x y (.agg (encWr a).toArray) (.agg (encWr b).toArray) = .val (.bool (!decide (a = b))) σ := (cmp_wr a b σ x y).2
/-- slices.Equal of two rows of versions. -/
theorem equal_wr (l m : List Wri) (v u : Value) (σ : CSt) (hsl : Sl σ 90 4 encWr v l) (hsm : Sl σ 90 4 encWr u m) (hbig : l.length < 2 ^ 40) (Q : Out → CSt → Prop)
    (h : ∀ (σ' : CSt), Grow σ σ' → Q (.ret (.bool (decide (l = m))) false) σ') : W E1 (.fn 48 #[v, u] none) σ Q := by
  rw [W_fn (fn := Tryz.f48) Tryz.func48 rfl rfl rfl]
  by_cases hlen : l.length = m.length
  · rcases hsl with ⟨rfl, rfl⟩ | ⟨i, off, cap, row, ro, rfl, hg, hin, hrow, hle, hcap⟩
    · have hm : m = [] := List.eq_nil_of_length_eq_zero hlen.symm
      subst hm
      have hu : ∃ p c, u = .slice p 0 c := by
        rcases hsm with ⟨rfl, _⟩ | ⟨i2, off2, cap2, row2, ro2, rfl, _⟩
        · exact ⟨_, _, rfl⟩
        · exact ⟨_, _, rfl⟩
      obtain ⟨p, c, rfl⟩ := hu
      have := h σ (Grow.refl σ)
      simp [wops_cons]
      rw [W_loop]
      simpa [wops_cons] using this
    rcases hsm with ⟨rfl, rfl⟩ | ⟨i2, off2, cap2, row2, ro2, rfl, hg2, hin2, hrow2, hle2, hcap2⟩
    · have hl : l = [] := List.eq_nil_of_length_eq_zero hlen
      subst hl
      have := h σ (Grow.refl σ)
      simp [wops_cons]
      rw [W_loop]
      simpa [wops_cons] using this
    simp [wops_cons, hlen]
    refine W_loop_inv (fun n a σ' => ∃ tm k, a = ⟨tm, 26, [], false⟩ ∧ tm.get 0 = some (.slice (some ⟨i, off, none⟩) l.length cap) ∧ tm.get 1 = some (.slice (some ⟨i2, off2, none⟩) m.length cap2) ∧ tm.get 12 = some (.int .i64 l.length) ∧ tm.get 13 = some (.int .i64 (k : Nat)) ∧ tm.get 4 = some (.bool false) ∧ k ≤ l.length ∧ n = l.length - k ∧ l.take k = m.take k ∧ Grow σ σ') ?_ l.length _ _ ?_
    · rintro n a σ' ⟨tm, k, rfl, h0, h1, h12, h13, h4, hk, hn, htk, hgr⟩
      have hgi := hgr.get hg hin
      have hgi2 := hgr.get hg2 hin2
      by_cases hlt : k < l.length
      · have hlt2 : k < m.length := by omega
        have hld := row_get (enc := encWr) (fun _ => rfl) hrow k hlt
        have hl1 := row_le hle k hlt
        have hld2 := row_get (enc := encWr) (fun _ => rfl) hrow2 k hlt2
        have hl2 := row_le hle2 k hlt2
        have hw := i64n1 k (by omega)
        have hneq := neq_wr l[k] m[k]
        simp [wops_cons, h0, h1, h12, h13, h4, hlt]
        refine W_calm (by kernel_rfl) ?_
        simp [dops_cons, h0, h1, h12, h13, h4, hlt, hlt2, hgi, hgi2, hld, hld2, hl1, hl2, hneq]
        by_cases he : l[k] = m[k]
        · simp [wops_cons, he, h13, hw]
          refine ⟨_, ?_, h0, h1, h12, k + 1, by simp, h4, by omega, rfl, ?_, hgr⟩
          · omega
          · rw [List.take_succ_eq_append_getElem hlt, List.take_succ_eq_append_getElem hlt2, htk, he]
        · have hne : l ≠ m := by rintro rfl; exact he rfl
          have := h σ' hgr
          rw [decide_eq_false hne] at this
          simpa [wops_cons, he] using this
      · have hkl : k = l.length := by omega
        have he : l = m := by
          have := htk
          rwa [List.take_of_length_le (by omega), List.take_of_length_le (by omega)] at this
        have := h σ' hgr
        rw [decide_eq_true he] at this
        simpa [wops_cons, h12, h13, hlt] using this
    · refine ⟨_, 0, rfl, ?_⟩
      simp [hlen]
      exact Grow.refl σ
  · have hu : ∀ {x : Value} {l : List Wri}, Sl σ 90 4 encWr x l → ∃ p c, x = .slice p l.length c := by
      rintro x l (⟨rfl, rfl⟩ | ⟨i, off, cap, row, ro, rfl, _⟩)
      · exact ⟨_, _, rfl⟩
      · exact ⟨_, _, rfl⟩
    obtain ⟨p, c, rfl⟩ := hu hsl
    obtain ⟨p', c', rfl⟩ := hu hsm
    have hne : l ≠ m := by rintro rfl; exact hlen rfl
    have := h σ (Grow.refl σ)
    rw [decide_eq_false hne] at this
    have hi : ¬ ((l.length : Int) = m.length) := by omega
    simpa [wops_cons, hi] using this

/-- slices.Equal of two rows of versions. -/
theorem equal_ver (l m : List Ver) (v u : Value) (σ : CSt) (hsl : Sl σ 33 3 encV v l) (hsm : Sl σ 33 3 encV u m) (hbig : l.length < 2 ^ 40) (Q : Out → CSt → Prop)
    (h : ∀ (σ' : CSt), Grow σ σ' → Q (.ret (.bool (decide (l = m))) false) σ') : W E1 (.fn 33 #[v, u] none) σ Q := by
  rw [W_fn (fn := Tryz.f33) Tryz.func33 rfl rfl rfl]
  by_cases hlen : l.length = m.length
  · rcases hsl with ⟨rfl, rfl⟩ | ⟨i, off, cap, row, ro, rfl, hg, hin, hrow, hle, hcap⟩
    · have hm : m = [] := List.eq_nil_of_length_eq_zero hlen.symm
      subst hm
      have hu : ∃ p c, u = .slice p 0 c := by
        rcases hsm with ⟨rfl, _⟩ | ⟨i2, off2, cap2, row2, ro2, rfl, _⟩
        · exact ⟨_, _, rfl⟩
        · exact ⟨_, _, rfl⟩
      obtain ⟨p, c, rfl⟩ := hu
      have := h σ (Grow.refl σ)
      simp [wops_cons]
      rw [W_loop]
      simpa [wops_cons] using this
    rcases hsm with ⟨rfl, rfl⟩ | ⟨i2, off2, cap2, row2, ro2, rfl, hg2, hin2, hrow2, hle2, hcap2⟩
    · have hl : l = [] := List.eq_nil_of_length_eq_zero hlen
      subst hl
      have := h σ (Grow.refl σ)
      simp [wops_cons]
      rw [W_loop]
      simpa [wops_cons] using this
    simp [wops_cons, hlen]
    refine W_loop_inv (fun n a σ' => ∃ tm k, a = ⟨tm, 26, [], false⟩ ∧ tm.get 0 = some (.slice (some ⟨i, off, none⟩) l.length cap) ∧ tm.get 1 = some (.slice (some ⟨i2, off2, none⟩) m.length cap2) ∧ tm.get 12 = some (.int .i64 l.length) ∧ tm.get 13 = some (.int .i64 (k : Nat)) ∧ tm.get 4 = some (.bool false) ∧ k ≤ l.length ∧ n = l.length - k ∧ l.take k = m.take k ∧ Grow σ σ') ?_ l.length _ _ ?_
    · rintro n a σ' ⟨tm, k, rfl, h0, h1, h12, h13, h4, hk, hn, htk, hgr⟩
      have hgi := hgr.get hg hin
      have hgi2 := hgr.get hg2 hin2
      by_cases hlt : k < l.length
      · have hlt2 : k < m.length := by omega
        have hld := row_get (enc := encV) (fun _ => rfl) hrow k hlt
        have hl1 := row_le hle k hlt
        have hld2 := row_get (enc := encV) (fun _ => rfl) hrow2 k hlt2
        have hl2 := row_le hle2 k hlt2
        have hw := i64n1 k (by omega)
        have hneq := neq_ver l[k] m[k]
        simp [wops_cons, h0, h1, h12, h13, h4, hlt]
        refine W_calm (by kernel_rfl) ?_
        simp [dops_cons, h0, h1, h12, h13, h4, hlt, hlt2, hgi, hgi2, hld, hld2, hl1, hl2, hneq]
        by_cases he : l[k] = m[k]
        · simp [wops_cons, he, h13, hw]
          refine ⟨_, ?_, h0, h1, h12, k + 1, by simp, h4, by omega, rfl, ?_, hgr⟩
          · omega
          · rw [List.take_succ_eq_append_getElem hlt, List.take_succ_eq_append_getElem hlt2, htk, he]
        · have hne : l ≠ m := by rintro rfl; exact he rfl
          have := h σ' hgr
          rw [decide_eq_false hne] at this
          simpa [wops_cons, he] using this
      · have hkl : k = l.length := by omega
        have he : l = m := by
          have := htk
          rwa [List.take_of_length_le (by omega), List.take_of_length_le (by omega)] at this
        have := h σ' hgr
        rw [decide_eq_true he] at this
        simpa [wops_cons, h12, h13, hlt] using this
    · refine ⟨_, 0, rfl, ?_⟩
      simp [hlen]
      exact Grow.refl σ
  · have hu : ∀ {x : Value} {l : List Ver}, Sl σ 33 3 encV x l → ∃ p c, x = .slice p l.length c := by
      rintro x l (⟨rfl, rfl⟩ | ⟨i, off, cap, row, ro, rfl, _⟩)
      · exact ⟨_, _, rfl⟩
      · exact ⟨_, _, rfl⟩
    obtain ⟨p, c, rfl⟩ := hu hsl
    obtain ⟨p', c', rfl⟩ := hu hsm
    have hne : l ≠ m := by rintro rfl; exact hlen rfl
    have := h σ (Grow.refl σ)
    rw [decide_eq_false hne] at this
    have hi : ¬ ((l.length : Int) = m.length) := by omega
    simpa [wops_cons, hi] using this

/-- The same records? -/
theorem same_spec (x y : Rcd) (v u : Value) (σ : CSt) (hv : Sl σ 90 4 encWr v x.ws) (hu : Sl σ 90 4 encWr u y.ws) (hbig : x.ws.length < 2 ^ 36) (Q : Out → CSt → Prop) (h : ∀ σ', Grow σ σ' → Q (.ret (.bool (decide (x = y))) false) σ') : W E1 (.fn 22 #[.agg #[.int .u64 x.at_, v], .agg #[.int .u64 y.at_, u]] none) σ Q := by
  rw [W_fn (fn := Tryz.f22) Tryz.func22 rfl rfl rfl]
  have g0 : Grow σ ((σ.alloc (.cells [.int .u64 x.at_, v] 47 false)).alloc (.cells [.int .u64 y.at_, u] 47 false)) := ((Grow.refl σ).alloc _).alloc _
  obtain ⟨a, l⟩ := x
  obtain ⟨b, m⟩ := y
  obtain ⟨p1, c1, rfl⟩ := hv.form
  obtain ⟨p2, c2, rfl⟩ := hu.form
  by_cases hab : a = b
  · subst hab
    simp [wops_cons, wops_if', dstOf]
    refine equal_wr l m _ _ _ (hv.grow g0) (hu.grow g0) (by simp only at hbig; omega) _ fun σ1 g1 => ?_
    have hQ := h σ1 (g0.trans g1)
    by_cases hlm : l = m
    · subst hlm; simpa [wops_cons, wops_if', dstOf] using hQ
    · simpa [wops_cons, wops_if', dstOf, hlm] using hQ
  · have hQ := h _ g0
    have hab' : ¬ ((a : Int) = b) := by omega
    simpa [wops_cons, wops_if', dstOf, hab, hab'] using hQ
end Go.Sm
/- The law's own record as bytes. -/
set_option linter.unusedVariables false
set_option linter.unusedSimpArgs false
namespace Go.Sm
open Go Go.Proofs
set_option maxRecDepth 100000
set_option maxHeartbeats 4000000
theorem lenc_spec (at_ : Nat) (ws : List Wri) (v : Value) (σ : CSt) (hat : at_ < 2 ^ 64) (hsl : Sl σ 90 4 encWr v ws) (hbig : (serR ⟨at_, ws⟩).length < 2 ^ 37) (hv : ∀ w ∈ ws, w.ver.val.size < 2 ^ 37) (Q : Out → CSt → Prop)
    (h : ∀ v' σ', Ow σ.n σ' v' (serR ⟨at_, ws⟩) → Grow σ σ' → Q (.ret v' false) σ') : W E1 (.fn 25 #[.agg #[.int .u64 at_, v]] none) σ Q := by
  rw [W_fn (fn := Tryz.f25) Tryz.func25 rfl rfl rfl]
  obtain ⟨pv, cv, rfl⟩ := hsl.form
  have hwl : ws.length < 2 ^ 37 := by
    have := ser_len ws
    unfold serR at hbig
    simp only [List.length_append] at hbig
    omega
  have hlu : IntKind.u64.wrap (ws.length : Int) = (ws.length : Int) := IntWalk.u64_in _ (by omega)
  have g0 : Grow σ (σ.alloc (.cells [.int .u64 at_, .slice pv ws.length cv] 47 false)) := (Grow.refl σ).alloc _
  have hc0 : (σ.alloc (.cells [.int .u64 at_, .slice pv ws.length cv] 47 false)).get σ.n = some (.cells [.int .u64 at_, .slice pv ws.length cv] 47 false) := by simp
  have gn0 := g0.n
  simp [wops_cons]
  refine W_drawn (l := [0, 1, 3, 4, 5, 6, 2, 7, 8, 9]) (b := #[0, 1, 3, 0, 8, 24, 56, 127, 255, 511]) (by kernel_rfl) (by kernel_rfl) (by kernel_rfl) ?_
  simp [wops_cons, dopsR_cons, opAt, isEff, again, befBits, isRead, Nat.add_assoc, hlu, Nat.testBit_eq_decide_div_mod_eq]
  refine lnum_spec at_ _ hat _ fun q1 c1 σ1 h1 g1 => ?_
  have gn1 := g1.n
  simp at gn1
  have hc1 := g1.get hc0 (by simp)
  simp [wops_cons, dopsR_cons, opAt, isEff, again, befBits, isRead, Nat.add_assoc, hlu, Nat.testBit_eq_decide_div_mod_eq, hc1]
  refine lnum_spec ws.length _ (by omega) _ fun q2 c2 σ2 h2 g2 => ?_
  have gn2 := g2.n
  have hc2 := g2.get hc1 (by omega)
  have hl1 := num_len10 hat
  have hl2 := num_len10 (n := ws.length) (by omega)
  obtain ⟨q3, c3, s3, a1, a2, a3⟩ := oapp_sl ((h1.grow g2)) (by simp; omega) h2.sl (by omega)
  have hc3 := a3.get hc2 (by omega) (.inr fun row e ro he => by cases he; decide)
  have g03 : Grow σ s3 := ((g0.trans (g1.trans g2)).fr.trans (a3.mono (fun _ h => h) (by simp))).grow (Nat.le_refl _)
  have sn3 := a3.1
  simp [wops_cons, dopsR_cons, opAt, isEff, again, befBits, isRead, Nat.add_assoc, hlu, Nat.testBit_eq_decide_div_mod_eq, hc2, a1, hc3]
  refine W_loop_inv (fun k a s => ∃ tm, ∃ i : Nat, ∃ vw, a = ⟨tm, 33, [], false⟩ ∧ tm.get 3 = some vw ∧ tm.get 16 = some (.slice pv ws.length cv) ∧ tm.get 17 = some (.int .i64 ws.length) ∧ tm.get 18 = some (.int .i64 (i : Nat)) ∧ (i ≤ ws.length ∧ k = ws.length - i ∧ Ow σ.n s vw (num at_ ++ num ws.length ++ (ws.take i).flatMap serW) ∧ Grow σ s)) ?_ ws.length _ _ ?_
  · rintro k a s ⟨tm, i, vw, rfl, e3, e16, e17, e18, hi, hk, hw, hg⟩
    have hsls := hsl.grow hg
    have gn := hg.n
    by_cases hlt : i < ws.length
    · have hlt' : (i : Int) < (ws.length : Int) := by omega
      obtain ⟨j, off, row, ro, rfl, hgj, hjn, hrow, hle⟩ := hsls.at hlt
      have hld := row_get lenWr hrow i hlt
      have hle2 := row_le hle i hlt
      have hw1 := i64s i (by omega)
      have hmem : ws[i] ∈ ws := List.getElem_mem hlt
      have htot : (num at_ ++ num ws.length ++ (ws.take i).flatMap serW).length + (serW ws[i]).length ≤ (serR ⟨at_, ws⟩).length := by
        have e : (ws.take (i + 1)).flatMap serW = (ws.take i).flatMap serW ++ serW ws[i] := by rw [List.take_succ_eq_append_getElem hlt, List.flatMap_append]; simp
        have := flat_take_le serW ws (i + 1)
        rw [e] at this
        unfold serR
        simp only [List.length_append] at this ⊢
        omega
      have hsw : (serW ws[i]).length = (serText ws[i].key).length + (serVer ws[i].ver).length := by rw [serW, List.length_append]
      have hkey : ws[i].key.size ≤ (serText ws[i].key).length := by
        unfold serText
        simp only [List.length_append, len_byt]
        omega
      have hvz := hv _ hmem
      have hall : num at_ ++ num ws.length ++ (ws.take (i + 1)).flatMap serW = num at_ ++ num ws.length ++ (ws.take i).flatMap serW ++ serText ws[i].key ++ serVer ws[i].ver := by
        rw [List.take_succ_eq_append_getElem hlt, List.flatMap_append, List.flatMap_singleton, serW]
        simp [List.append_assoc]
      generalize hpre : num at_ ++ num ws.length ++ (ws.take i).flatMap serW = pre at hw htot hall
      obtain ⟨pw, cw, rfl⟩ := hw.sl.form
      generalize hx : ws[i] = x at *
      obtain ⟨key, ver⟩ := x
      simp only [encWr] at hld
      simp only at hkey hvz hsw
      have g1 : Grow s ((s.alloc (.cells [.string ⟨#[]⟩, .int .u64 0, .string ⟨#[]⟩, .bool false] 90 false)).put s.n (.cells [.string key, .int .u64 ver.at_, .string ver.val, .bool ver.gone] 90 false)) := ⟨by simp, fun j hj => by rw [CSt.get_put, if_neg (by omega), CSt.get_alloc, if_neg (by omega)]⟩
      simp [wops_cons, e3, e16, e17, e18, hlt, hlt', hgj, hld, hle2]
      have hcs : ((s.alloc (.cells [.string ⟨#[]⟩, .int .u64 0, .string ⟨#[]⟩, .bool false] 90 false)).put s.n (.cells [.string key, .int .u64 ver.at_, .string ver.val, .bool ver.gone] 90 false)).get s.n = some (.cells [.string key, .int .u64 ver.at_, .string ver.val, .bool ver.gone] 90 false) := by simp
      have hwn := hw.grow g1
      have g1n := g1.n
      have hsn : s.n < ((s.alloc (.cells [.string ⟨#[]⟩, .int .u64 0, .string ⟨#[]⟩, .bool false] 90 false)).put s.n (.cells [.string key, .int .u64 ver.at_, .string ver.val, .bool ver.gone] 90 false)).n := by simp
      generalize (s.alloc (.cells [.string ⟨#[]⟩, .int .u64 0, .string ⟨#[]⟩, .bool false] 90 false)).put s.n (.cells [.string key, .int .u64 ver.at_, .string ver.val, .bool ver.gone] 90 false) = s1 at hcs hwn g1 g1n hsn
      refine W_drawn (l := [0, 1, 2, 5, 6, 3, 4, 7, 8, 9]) (b := #[0, 0, 2, 6, 15, 0, 32, 127, 255, 511]) (by kernel_rfl) (by kernel_rfl) (by kernel_rfl) ?_
      simp [wops_cons, dopsR_cons, opAt, isEff, again, befBits, isRead, Nat.add_assoc, Nat.testBit_eq_decide_div_mod_eq, hcs, e3, e16, e17, e18]
      refine ltext_spec key s1 (by omega) _ fun q2 c2 s2 h2 g2 => ?_
      have hcs2 := g2.get hcs hsn
      have gn2 := g2.n
      obtain ⟨q3, c3, s3, b1, b2, b3⟩ := oapp_sl (hwn.grow g2) (by omega) h2.sl (by omega)
      have hcs3 := b3.get hcs2 (by omega) (.inr fun row e ro he => by cases he; decide)
      have sn3 := b3.1
      simp [wops_cons, dopsR_cons, opAt, isEff, again, befBits, isRead, Nat.add_assoc, Nat.testBit_eq_decide_div_mod_eq, hcs2, hcs3, b1, e3, e16, e17, e18]
      have hlv := lver_spec ver s3 (by omega)
      simp only [encV] at hlv
      refine hlv _ fun q4 c4 s4 h4 g4 => ?_
      have hcs4 := g4.get hcs3 (by omega)
      have gn4 := g4.n
      obtain ⟨q5, c5, s5, d1, d2, d3⟩ := oapp_sl (b2.grow g4) (by omega) h4.sl (by rw [List.length_append]; omega)
      have hcs5 := d3.get hcs4 (by omega) (.inr fun row e ro he => by cases he; decide)
      simp only [List.length_append] at d1 d2
      simp [wops_cons, dopsR_cons, opAt, isEff, again, befBits, isRead, Nat.add_assoc, Nat.testBit_eq_decide_div_mod_eq, hcs4, hcs5, d1, e3, e16, e17, e18, hw1]
      refine ⟨ws.length - (i + 1), by omega, i + 1, by omega, by omega, rfl, ?_, ((((hg.trans g1).trans g2).fr.trans b3).trans (g4.fr.trans d3)).grow (Nat.le_refl _)⟩
      rw [← List.append_assoc, hall]
      simpa [Nat.add_assoc] using d2
    · have hlt' : ¬ ((i : Int) < (ws.length : Int)) := by omega
      have hie : i = ws.length := by omega
      subst hie
      rw [List.take_of_length_le (Nat.le_refl _)] at hw
      obtain ⟨pw, cw, rfl⟩ := hw.sl.form
      have hQ := h _ s hw hg
      simpa [wops_cons, e3, e16, e17, e18] using hQ
  · exact ⟨_, 0, .slice q3 ((num at_).length + (num ws.length).length) c3, rfl, by simp, by simp, by simp, by simp, by omega, rfl, by simpa using a2.weaken (by simp), g03⟩
end Go.Sm
/- The law's Make of records. -/
set_option linter.unusedVariables false
set_option linter.unusedSimpArgs false
namespace Go.Sm
open Go Go.Proofs
set_option maxRecDepth 100000
set_option maxHeartbeats 40000000
def encLW (w : LW) : List Value := [.int .u8 w.key, .string w.v, .bool w.gone]
theorem lenLW (w : LW) : (encLW w).length = 3 := rfl
def LW.ok (w : LW) : Prop := w.key < 256
theorem getLast_map (acc : List Wri) (h : acc ≠ []) : acc.getLast?.map (·.key) = some (acc[acc.length - 1]'(by have := List.length_pos_iff.2 h; omega)).key := by
  rw [List.getLast?_eq_getElem?, List.getElem?_eq_getElem (by have := List.length_pos_iff.2 h; omega)]
  rfl
theorem make_spec (a : Nat) (l : List LW) (v : Value) (σ : CSt) (ha : a < 2 ^ 64) (hok : ∀ w ∈ l, w.ok) (hsl : Sl σ 30 3 encLW v l) (hl : l.length < 2 ^ 30) (Q : Out → CSt → Prop)
    (h : ∀ v' σ', Own σ.n σ' 90 encWr v' (makeR a l).ws → Grow σ σ' → Q (.ret (.agg #[.int .u64 (makeR a l).at_, v']) false) σ') : W E1 (.fn 23 #[.int .u64 a, v] none) σ Q := by
  rw [W_fn (fn := Tryz.f23) Tryz.func23 rfl rfl rfl]
  obtain ⟨pl, cl, rfl⟩ := hsl.form
  have hat : IntKind.u64.wrap (1 + (a : Int).tmod 1099511627776) = ((1 + a % 2 ^ 40 : Nat) : Int) := by
    have e1 : (a : Int).tmod 1099511627776 = (a : Int) % 1099511627776 := Int.tmod_eq_emod_of_nonneg (by omega)
    rw [e1, IntWalk.u64_in _ (by omega)]
    omega
  unfold makeR at h
  simp only at h
  generalize hA : 1 + a % 2 ^ 40 = at_ at *
  simp [wops_cons, hat]
  have g0 : Grow σ (((σ.alloc (.cells [.int .u64 0, .slice none 0 0] 47 false)).alloc (.cells [.int .u64 0, .slice none 0 0] 47 false)).put (σ.n + 1) (.cells [.int .u64 at_, .slice none 0 0] 47 false)) := ⟨by simp; omega, fun j hj => by rw [CSt.get_put, if_neg (by omega), CSt.get_alloc, if_neg (by simp; omega), CSt.get_alloc, if_neg (by omega)]⟩
  refine W_loop_inv (fun n a' s => ∃ tm, ∃ k : Nat, ∃ wv, a' = ⟨tm, 78, [], false⟩ ∧ tm.get 1 = some (.slice pl l.length cl) ∧ tm.get 4 = some (.pointer (some ⟨σ.n, 0, none⟩)) ∧ tm.get 5 = some (.pointer (some ⟨σ.n + 1, 0, none⟩)) ∧ tm.get 14 = some (.int .i64 (k : Nat)) ∧ (k ≤ 256 ∧ n = 256 - k ∧ s.get σ.n = some (.cells [.int .u64 0, .slice none 0 0] 47 false) ∧ s.get (σ.n + 1) = some (.cells [.int .u64 at_, wv] 47 false) ∧ σ.n + 1 < s.n ∧ Own σ.n s 90 encWr wv (makeM at_ l k) ∧ Grow σ s)) ?_ 256 _ _ ?_
  · rintro n a' s ⟨tm, k, wv, rfl, e1, e4, e5, e14, hk, hn, hc4, hc5, hsn, hown, hg⟩
    by_cases hk1 : k < 256
    · have hk1' : (k : Int) < 256 := by omega
      have hw := i64s k (by omega)
      have hlen := (makeM_ok at_ l k hk).1
      simp [wops_cons, e1, e4, e5, e14, hk1, hk1']
      refine W_loop_J (fun n a' s => ∃ tm, ∃ j : Nat, ∃ wv, a' = ⟨tm, 78, [], false⟩ ∧ tm.get 1 = some (.slice pl l.length cl) ∧ tm.get 4 = some (.pointer (some ⟨σ.n, 0, none⟩)) ∧ tm.get 5 = some (.pointer (some ⟨σ.n + 1, 0, none⟩)) ∧ tm.get 6 = some (.int .i64 (k : Nat)) ∧ tm.get 14 = some (.int .i64 (k : Nat)) ∧ tm.get 17 = some (.slice pl l.length cl) ∧ tm.get 18 = some (.int .i64 l.length) ∧ tm.get 19 = some (.int .i64 (j : Nat)) ∧ (j ≤ l.length ∧ n = l.length - j ∧ s.get σ.n = some (.cells [.int .u64 0, .slice none 0 0] 47 false) ∧ s.get (σ.n + 1) = some (.cells [.int .u64 at_, wv] 47 false) ∧ σ.n + 1 < s.n ∧ Own σ.n s 90 encWr wv (roundM at_ (l.take j) (makeM at_ l k) k) ∧ (roundM at_ (l.take j) (makeM at_ l k) k).length ≤ 256 + j ∧ Grow σ s))
        (fun out s => ∃ tm wv, out = .code (.exit 2) ⟨tm, 78, [], false⟩ ∧ tm.get 1 = some (.slice pl l.length cl) ∧ tm.get 4 = some (.pointer (some ⟨σ.n, 0, none⟩)) ∧ tm.get 5 = some (.pointer (some ⟨σ.n + 1, 0, none⟩)) ∧ tm.get 14 = some (.int .i64 (k : Nat)) ∧ s.get σ.n = some (.cells [.int .u64 0, .slice none 0 0] 47 false) ∧ s.get (σ.n + 1) = some (.cells [.int .u64 at_, wv] 47 false) ∧ σ.n + 1 < s.n ∧ Own σ.n s 90 encWr wv (makeM at_ l (k + 1)) ∧ Grow σ s) ?_ l.length _ _ ?_ ?_
      · rintro n2 a2 s2 ⟨tm, j, wv, rfl, e1, e4, e5, e6, e14, e17, e18, e19, hj, hn2, hc4, hc5, hsn, hown, hal, hg⟩
        by_cases hlt : j < l.length
        · have hlt' : (j : Int) < (l.length : Int) := by omega
          have hstep : roundM at_ (l.take (j + 1)) (makeM at_ l k) k = stepM at_ k (roundM at_ (l.take j) (makeM at_ l k) k) l[j] := by
            unfold roundM
            rw [List.take_succ_eq_append_getElem hlt, List.foldl_append]
            rfl
          generalize roundM at_ (l.take j) (makeM at_ l k) k = acc at hown hal hstep
          have hsls := hsl.grow hg
          obtain ⟨b, off, row, ro, hpl, hgb, hbn, hrow, hle⟩ := hsls.at hlt
          have hwk : IntKind.i64.wrap ((l[j].key : Nat) : Int) = (l[j].key : Int) := IntWalk.i64_in _ (by have := hok _ (List.getElem_mem hlt); unfold LW.ok at this; omega)
          have hld := row_get lenLW hrow j hlt
          have hle2 := row_le hle j hlt
          have hw1 := i64s j (by omega)
          have hxk : l[j].key < 256 := hok _ (List.getElem_mem hlt)
          generalize hx : l[j] = x at hld hxk hstep hwk
          obtain ⟨key, val, gone⟩ := x
          simp only [encLW] at hld
          simp only at hxk hwk
          obtain ⟨pw, cw, rfl⟩ := (hown.sl (sz := 4) lenWr).form
          have g1 : Grow s2 ((s2.alloc (.cells [.int .u8 0, .string ⟨#[]⟩, .bool false] 30 false)).put s2.n (.cells [.int .u8 key, .string val, .bool gone] 30 false)) := ⟨by simp, fun j hj => by rw [CSt.get_put, if_neg (by omega), CSt.get_alloc, if_neg (by omega)]⟩
          have hcs : ((s2.alloc (.cells [.int .u8 0, .string ⟨#[]⟩, .bool false] 30 false)).put s2.n (.cells [.int .u8 key, .string val, .bool gone] 30 false)).get s2.n = some (.cells [.int .u8 key, .string val, .bool gone] 30 false) := by simp
          have hsn2 : s2.n < ((s2.alloc (.cells [.int .u8 0, .string ⟨#[]⟩, .bool false] 30 false)).put s2.n (.cells [.int .u8 key, .string val, .bool gone] 30 false)).n := by simp
          simp [wops_cons, e1, e4, e5, e6, e14, e17, e18, e19, hlt, hlt', hpl, hgb, hld, hle2]
          generalize (s2.alloc (.cells [.int .u8 0, .string ⟨#[]⟩, .bool false] 30 false)).put s2.n (.cells [.int .u8 key, .string val, .bool gone] 30 false) = s3 at g1 hcs hsn2
          have hc4' := g1.get hc4 (by omega)
          have hc5' := g1.get hc5 hsn
          have hown' := hown.grow g1
          have hg' := hg.trans g1
          have hsn' := Nat.lt_of_lt_of_le hsn g1.n
          -- is it left out?
          refine W_cut (fun out z => ∃ tm, out = .code .normal ⟨tm, 78, [], false⟩ ∧ tm.get 1 = some (.slice pl l.length cl) ∧ tm.get 4 = some (.pointer (some ⟨σ.n, 0, none⟩)) ∧ tm.get 5 = some (.pointer (some ⟨σ.n + 1, 0, none⟩)) ∧ tm.get 6 = some (.int .i64 (k : Nat)) ∧ tm.get 8 = some (.pointer (some ⟨s2.n, 0, none⟩)) ∧ tm.get 14 = some (.int .i64 (k : Nat)) ∧ tm.get 17 = some (.slice pl l.length cl) ∧ tm.get 18 = some (.int .i64 l.length) ∧ tm.get 19 = some (.int .i64 (j : Nat)) ∧ tm.get 48 = some (.bool (!decide (key = k ∧ ¬ (acc.getLast?.map (·.key) = some (key13 key))))) ∧ z = s3) ?_ ?_
          · refine W_drawn (l := [0, 1, 2, 3, 4, 5, 6, 7, 8, 9, 10, 11, 12, 13, 14, 15, 16, 17, 18, 19, 20, 21, 22, 23, 24, 25]) (b := #[0, 1, 3, 0, 15, 31, 63, 127, 255, 511, 1023, 2047, 4095, 2047, 10239, 26623, 59391, 131071, 262143, 524287, 2047, 1050623, 3147775, 8388607, 16777215, 33554431]) (by kernel_rfl) (by kernel_rfl) (by kernel_rfl) ?_
            by_cases hkk : key = k
            · subst hkk
              by_cases hnil : acc = []
              · subst hnil
                simp [dopsR_cons, wops_cons, dstOf, opAt, isEff, again, befBits, isRead, Nat.add_assoc, e1, e4, e5, e6, e14, e17, e18, e19, hcs, hc5', hwk]
                repeat (rw [dopsR_if (by rfl) (by simp [dstOf])]; simp [dopsR_cons, wops_cons, dstOf, opAt, isEff, again, befBits, isRead, Nat.add_assoc, e1, e4, e5, e6, e14, e17, e18, e19, hcs, hc5', hwk])
              · obtain ⟨m, hm⟩ : ∃ m, acc.length = m + 1 := ⟨acc.length - 1, by have := List.length_pos_iff.2 hnil; omega⟩
                have hma : m < acc.length := by omega
                have hgl := getLast_map acc hnil
                have hgl' : acc.getLast?.map (·.key) = some acc[m].key := by rw [hgl]; congr 2; congr 1; omega
                rw [hgl']
                obtain ⟨i, off2, row2, ro2, rfl, hgi, hin, hrow2, hle3⟩ := (hown'.sl (sz := 4) lenWr).at hma
                have hcl := row_cell (enc := encWr) lenWr hrow2 m 0 hma (by decide)
                have hle4 := row_le hle3 m hma
                simp only [hm] at hc5'
                have hwm : IntKind.i64.wrap (m : Int) = (m : Int) := IntWalk.i64_in _ (by omega)
                have hmp : (0 : Int) < (m : Int) + 1 := by omega
                have hmq : (m : Int) < (m : Int) + 1 := by omega
                simp [encWr] at hcl
                simp [dopsR_cons, wops_cons, dstOf, opAt, isEff, again, befBits, isRead, Nat.add_assoc, e1, e4, e5, e6, e14, e17, e18, e19, hcs, hc5', hwk]
                repeat (rw [dopsR_if (by rfl) (by simp [dstOf])]; simp [dopsR_cons, wops_cons, dstOf, opAt, isEff, again, befBits, isRead, Nat.add_assoc, e1, e4, e5, e6, e14, e17, e18, e19, hcs, hc5', hwk, hgi, hcl, hle4, hwm, hmp, hmq])
                refine key_spec key hxk s3 _ ?_
                simp [dopsR_cons, wops_cons, dstOf, opAt, isEff, again, befBits, isRead, Nat.add_assoc, e1, e4, e5, e6, e14, e17, e18, e19, hcs, hc5', hwk, hgi, hcl, hle4, hwm, hmp, hmq, Nat.testBit_eq_decide_div_mod_eq]
                repeat (rw [dopsR_if (by rfl) (by simp [dstOf])]; simp [dopsR_cons, wops_cons, dstOf, opAt, isEff, again, befBits, isRead, Nat.add_assoc, e1, e4, e5, e6, e14, e17, e18, e19, hcs, hc5', hwk, hgi, hcl, hle4, hwm, hmp, hmq, Nat.testBit_eq_decide_div_mod_eq])
                rw [Bool.eq_iff_iff]
                simp only [beq_iff_eq, decide_eq_true_eq]
                exact ⟨fun e => ba_list_inj e, fun e => by rw [e]⟩
            · have hkk' : ¬ ((key : Int) = k) := by omega
              simp [dopsR_cons, wops_cons, dstOf, opAt, isEff, again, befBits, isRead, Nat.add_assoc, e1, e4, e5, e6, e14, e17, e18, e19, hcs, hc5', hwk, hkk, hkk']
              repeat (rw [dopsR_if (by rfl) (by simp [dstOf])]; simp [dopsR_cons, wops_cons, dstOf, opAt, isEff, again, befBits, isRead, Nat.add_assoc, e1, e4, e5, e6, e14, e17, e18, e19, hcs, hc5', hwk, hkk, hkk'])
          · rintro out z ⟨tm, rfl, e1, e4, e5, e6, e8, e14, e17, e18, e19, e48, rfl⟩
            by_cases hskip : key = k ∧ ¬ (acc.getLast?.map (·.key) = some (key13 key))
            · have hst : stepM at_ k acc ⟨key, val, gone⟩ = acc ++ [mkW at_ ⟨key, val, gone⟩] := by unfold stepM; rw [if_pos hskip]
              rw [hst] at hstep
              rw [decide_eq_true hskip] at e48
              -- the version
              have hn1 : ¬ (s2.n = z.n) := by omega
              have hn2 : ¬ (σ.n + 1 = z.n) := by omega
              have hn3 : ¬ (z.n = s2.n) := by omega
              simp [wops_cons, e1, e4, e5, e6, e8, e14, e17, e18, e19, e48, hc5', hcs, hn1, hn2, -W_condK]
              rw [W_cond_f (by simp [e48])]
              simp [wops_cons, e1, e4, e5, e6, e8, e14, e17, e18, e19, e48, hc5', hcs, hn1, hn2, -W_condK]
              refine W_cut (fun out y => ∃ tm, out = .code .normal ⟨tm, 78, [], false⟩ ∧ tm.get 1 = some (.slice pl l.length cl) ∧ tm.get 4 = some (.pointer (some ⟨σ.n, 0, none⟩)) ∧ tm.get 5 = some (.pointer (some ⟨σ.n + 1, 0, none⟩)) ∧ tm.get 6 = some (.int .i64 (k : Nat)) ∧ tm.get 8 = some (.pointer (some ⟨s2.n, 0, none⟩)) ∧ tm.get 9 = some (.pointer (some ⟨z.n, 0, none⟩)) ∧ tm.get 14 = some (.int .i64 (k : Nat)) ∧ tm.get 17 = some (.slice pl l.length cl) ∧ tm.get 18 = some (.int .i64 l.length) ∧ tm.get 19 = some (.int .i64 (j : Nat)) ∧ Grow z y ∧ z.n < y.n ∧ y.get z.n = some (.cells [.int .u64 at_, .string (if gone then str [] else cutV val), .bool gone] 33 false)) ?_ ?_
              · cases gone with
                | true =>
                  simp [wops_cons, e1, e4, e5, e6, e8, e14, e17, e18, e19, hcs, hn1, hn3]
                  exact ⟨⟨by simp, fun j hj => by rw [CSt.get_put, if_neg (by omega), CSt.get_alloc, if_neg (by omega)]⟩, rfl⟩
                | false =>
                  by_cases hz : 200 < val.size
                  · have hz' : (200 : Int) < (val.size : Int) := by omega
                    have hz2 : (200 : Int) ≤ (val.size : Int) := by omega
                    have hcv : cutV val = val.extract 0 200 := by unfold cutV; rw [Nat.min_eq_right (by omega)]
                    simp [wops_cons, e1, e4, e5, e6, e8, e14, e17, e18, e19, hcs, hn1, hn3, minK, slS, hz, hz', hz2, hcv]
                    exact ⟨by simp, fun j hj => by rw [CSt.get_put, if_neg (by omega), CSt.get_put, if_neg (by omega), CSt.get_alloc, if_neg (by omega)]⟩
                  · have hz' : ¬ (200 : Int) < (val.size : Int) := by omega
                    have hcv : cutV val = val.extract 0 val.size := by unfold cutV; rw [Nat.min_eq_left (by omega)]
                    simp [wops_cons, e1, e4, e5, e6, e8, e14, e17, e18, e19, hcs, hn1, hn3, minK, slS, hz, hz', hcv]
                    exact ⟨by simp, fun j hj => by rw [CSt.get_put, if_neg (by omega), CSt.get_put, if_neg (by omega), CSt.get_alloc, if_neg (by omega)]⟩
              · rintro out y ⟨tm, rfl, e1, e4, e5, e6, e8, e9, e14, e17, e18, e19, gy, hzy, hc9⟩
                have gcs := gy.get hcs hsn2
                have gc4 := gy.get hc4' (by omega)
                have gc5 := gy.get hc5' hsn'
                have gown := hown'.grow gy
                have gg := hg'.trans gy
                have gyn := gy.n
                refine W_drawn (l := [0, 1, 2, 3, 5, 4, 6, 7, 8, 9, 10]) (b := #[0, 1, 0, 4, 12, 0, 60, 124, 255, 511, 1023]) (by kernel_rfl) (by kernel_rfl) (by kernel_rfl) ?_
                simp [dopsR_cons, wops_cons, dstOf, opAt, isEff, again, befBits, isRead, Nat.add_assoc, e1, e4, e5, e6, e8, e9, e14, e17, e18, e19, gcs, gc5, hc9, Nat.testBit_eq_decide_div_mod_eq]
                refine key_spec key hxk y _ ?_
                obtain ⟨p9, c9, s9, a1, a2, a3, a4⟩ := app_wr (x := mkW at_ ⟨key, val, gone⟩) gown gg.n (by omega)
                have f9 : Fr (fun t => t = 90) σ.n y s9 := gown.z.frV a3
                have k4 := f9.get gc4 (by omega) (.inr fun row e ro he => by cases he; decide)
                have k5 := f9.get gc5 (by omega) (.inr fun row e ro he => by cases he; decide)
                have k9 := f9.get hc9 hzy (.inr fun row e ro he => by cases he; decide)
                have k8 := f9.get gcs (by omega) (.inr fun row e ro he => by cases he; decide)
                have sn9 := f9.1
                have hn8 : ¬ (σ.n + 1 = y.n) := by omega
                have hn9 : ¬ (z.n = y.n) := by omega
                have hn10 : ¬ (s2.n = σ.n + 1) := by omega
                have hn11 : ¬ (z.n = σ.n + 1) := by omega
                have hn12 : ¬ (s2.n = y.n) := by omega
                simp [encWr, mkW] at a1
                simp [dopsR_cons, wops_cons, dstOf, opAt, isEff, again, befBits, isRead, Nat.add_assoc, e1, e4, e5, e6, e8, e9, e14, e17, e18, e19, gcs, gc5, hc9, Nat.testBit_eq_decide_div_mod_eq, a1, k4, k5, k8, k9, hw1, hn8, hn9, hn10, hn11, hn12]
                have f10 : Fr (fun t => t = 47) σ.n s9 (s9.put (σ.n + 1) (.cells [.int .u64 at_, .slice p9 (acc.length + 1) c9] 47 false)) := (Fr.refl (fun t => t = 47) σ.n _).put (by omega) k5 rfl _
                exact ⟨l.length - (j + 1), by omega, hpl, j + 1, by omega, by omega, rfl, by omega, by rw [hstep]; exact a2.fr (T := fun t => t = 47) (by decide) f10, by rw [hstep]; simp; omega, (((gg.fr (T := fun t => t = 90 ∨ t = 47)).trans (f9.mono (fun _ => .inl) (Nat.le_refl _))).trans (f10.mono (fun _ => .inr) (Nat.le_refl _))).grow (Nat.le_refl _)⟩
            · have hst : stepM at_ k acc ⟨key, val, gone⟩ = acc := by unfold stepM; rw [if_neg hskip]
              rw [hst] at hstep
              rw [decide_eq_false hskip] at e48
              simp [wops_cons, e1, e4, e5, e6, e8, e14, e17, e18, e19, e48, hw1]
              exact ⟨l.length - (j + 1), by omega, hpl, j + 1, by omega, by omega, rfl, hc4', _, hc5', hsn', by rw [hstep]; exact hown', by rw [hstep]; omega, hg'⟩
        · have hje : j = l.length := by omega
          subst hje
          have hlt' : ¬ ((l.length : Int) < (l.length : Int)) := by omega
          simp [wops_cons, e1, e4, e5, e6, e14, e17, e18, e19]
          rw [List.take_of_length_le (Nat.le_refl _), ← makeM_succ] at hown
          exact ⟨hc4, _, hc5, hsn, hown, hg⟩
      · exact ⟨_, 0, wv, rfl, by simp [e1], by simp [e4], by simp [e5], by simp, by simp [e14], by simp, by simp, by simp, by omega, rfl, hc4, hc5, hsn, by simpa [roundM] using hown, by simpa [roundM] using Nat.le_trans hlen (by omega), hg⟩
      · rintro out s2 ⟨tm2, wv2, rfl, f1, f4, f5, f14, fc4, fc5, fsn, fown, fg⟩
        simp [wops_cons, f1, f4, f5, f14, hw]
        exact ⟨256 - (k + 1), by omega, k + 1, by omega, by omega, rfl, fc4, wv2, fc5, fsn, fown, fg⟩
    · have hk2 : k = 256 := by omega
      subst hk2
      obtain ⟨pw, cw, rfl⟩ := (hown.sl (sz := 4) lenWr).form
      have hQ := h (.slice pw (makeM at_ l 256).length cw) (s.put σ.n (.cells [.int .u64 at_, .slice pw (makeM at_ l 256).length cw] 47 false)) (hown.fr (T := fun t => t = 47) (b := σ.n) (by decide) ((Fr.refl (fun t => t = 47) σ.n _).put (Nat.le_refl _) hc4 rfl _)) ⟨by simpa using hg.n, fun j hj => by rw [CSt.get_put, if_neg (by omega)]; exact hg.old j hj⟩
      have hne : ¬ (σ.n + 1 = σ.n) := by omega
      simpa [wops_cons, e1, e4, e5, e14, hc4, hc5] using hQ
  · exact ⟨_, 0, .slice none 0 0, rfl, by simp, by simp, by simp, by simp, by omega, rfl, by simp, by simp, by simp, Own.nil, g0⟩
end Go.Sm
/- RecordBack, walked. -/
set_option linter.unusedVariables false
set_option linter.unusedSimpArgs false
namespace Go.Sm
open Go Go.Proofs
set_option maxRecDepth 100000
set_option maxHeartbeats 4000000
theorem ver_small {r : Rcd} (h : GoodR r) : ∀ w ∈ r.ws, w.ver.val.size < 2 ^ 37 := fun w hw => by
  have := (h.ws w hw).2.2.1.2
  omega
theorem law_RecordBack (a0 : Int) (h0 : 0 ≤ a0) (h1 : a0 ≤ 18446744073709551615) (l : List LW) (hok : ∀ w ∈ l, w.ok) (v : Value) (σ : CSt) (hn : gnone σ) (hz : 1 < σ.n) (hsl : Sl σ 30 3 encLW v l) : W E1 (.fn 6 #[.int .u64 a0, v] none) σ isTrueP := by
  obtain ⟨a, rfl⟩ : ∃ a : Nat, a0 = a := ⟨a0.toNat, by omega⟩
  rw [W_fn (fn := Tryz.f6) Tryz.func6 rfl rfl rfl]
  obtain ⟨pl, cl, rfl⟩ := hsl.form
  simp [wops_cons]
  rw [awake_spec rfl hn]
  simp [wops_cons]
  by_cases hl : 30 < l.length
  · have hl' : (30 : Int) < l.length := by omega
    simp [wops_cons, hl', isTrueP]
  have hl' : ¬ (30 : Int) < l.length := by omega
  simp [wops_cons, hl']
  refine make_spec a l _ σ (by omega) hok hsl (by omega) _ fun v1 σ1 o1 g1 => ?_
  have hgr := makeR_ok a l
  have hlen := makeR_len a l
  have hser := goodR_len hgr (by omega)
  have hdec := dec_ser hgr (by omega)
  have hsm := ver_small hgr
  have hat := hgr.at2
  generalize makeR a l = R at o1 hgr hlen hser hdec hsm hat
  obtain ⟨at_, ws⟩ := R
  simp only at o1 hlen hat
  have hser : (serR ⟨at_, ws⟩).length < 2 ^ 20 := by
    simp only at hser
    omega
  obtain ⟨p1, c1, rfl⟩ := (o1.sl (sz := 4) lenWr).form
  simp [wops_cons]
  have gb : Grow σ1 ((σ1.alloc (.cells [.int .u64 0, .slice none 0 0] 47 false)).put σ1.n (.cells [.int .u64 at_, .slice p1 ws.length c1] 47 false)) := ⟨by simp, fun j hj => by rw [CSt.get_put, if_neg (by omega), CSt.get_alloc, if_neg (by omega)]⟩
  have hc5 : ((σ1.alloc (.cells [.int .u64 0, .slice none 0 0] 47 false)).put σ1.n (.cells [.int .u64 at_, .slice p1 ws.length c1] 47 false)).get σ1.n = some (.cells [.int .u64 at_, .slice p1 ws.length c1] 47 false) := by simp
  have hn5 : σ1.n < ((σ1.alloc (.cells [.int .u64 0, .slice none 0 0] 47 false)).put σ1.n (.cells [.int .u64 at_, .slice p1 ws.length c1] 47 false)).n := by simp
  have hs1 := (o1.sl (sz := 4) lenWr).grow gb
  generalize (σ1.alloc (.cells [.int .u64 0, .slice none 0 0] 47 false)).put σ1.n (.cells [.int .u64 at_, .slice p1 ws.length c1] 47 false) = σ2 at gb hc5 hn5 hs1 ⊢
  refine enc_spec at_ ws _ σ2 (by omega) hs1 (by omega) hsm _ fun v2 σ3 o3 g3 => ?_
  obtain ⟨p3, c3, rfl⟩ := (o3.sl (sz := 1) encY_len).form
  have hc5a := g3.get hc5 hn5
  have hs2 := hs1.grow g3
  have gn3 := g3.n
  simp [wops_cons]
  refine rdec_spec _ _ σ3 (o3.sl encY_len) (by omega) _ fun a e σ4 hr g4 => ?_
  rw [hdec] at hr
  obtain ⟨v4, rfl, rfl, hs4⟩ := hr
  simp only at hs4
  obtain ⟨p4, c4, rfl⟩ := hs4.form
  have gn4 := g4.n
  have hne : ¬ (σ1.n = σ4.n) := by omega
  have hc5d := g4.get hc5a (by omega)
  simp [wops_cons, hne, hc5d]
  have gc : Grow σ4 ((σ4.alloc (.cells [.int .u64 0, .slice none 0 0] 47 false)).put σ4.n (.cells [.int .u64 at_, .slice p4 ws.length c4] 47 false)) := ⟨by simp, fun j hj => by rw [CSt.get_put, if_neg (by omega), CSt.get_alloc, if_neg (by omega)]⟩
  have hc7 : ((σ4.alloc (.cells [.int .u64 0, .slice none 0 0] 47 false)).put σ4.n (.cells [.int .u64 at_, .slice p4 ws.length c4] 47 false)).get σ4.n = some (.cells [.int .u64 at_, .slice p4 ws.length c4] 47 false) := by simp
  have hn7 : σ4.n < ((σ4.alloc (.cells [.int .u64 0, .slice none 0 0] 47 false)).put σ4.n (.cells [.int .u64 at_, .slice p4 ws.length c4] 47 false)).n := by simp
  have hs4' := hs4.grow gc
  have hc5b := gc.get (g4.get hc5a (by omega)) (by omega)
  have hs2b := (hs2.grow g4).grow gc
  have ho3 := ((o3.sl (sz := 1) encY_len).grow g4).grow gc
  generalize (σ4.alloc (.cells [.int .u64 0, .slice none 0 0] 47 false)).put σ4.n (.cells [.int .u64 at_, .slice p4 ws.length c4] 47 false) = σ5 at gc hc7 hn7 hs4' hc5b hs2b ho3 ⊢
  have gn5 := gc.n
  refine lenc_spec at_ ws _ σ5 (by omega) hs2b (by omega) hsm _ fun v6 σ6 o6 g6 => ?_
  obtain ⟨p6, c6, rfl⟩ := o6.sl.form
  simp [wops_cons, wops_if', dstOf]
  refine yeq_spec _ _ _ _ σ6 (ho3.grow g6) o6.sl (by omega) (by omega) _ ?_
  have hc5c := g6.get hc5b (by omega)
  have hc7c := g6.get hc7 hn7
  simp [wops_cons, wops_if', dstOf, hc5c, hc7c]
  refine same_spec ⟨at_, ws⟩ ⟨at_, ws⟩ _ _ σ6 (hs4'.grow g6) (hs2b.grow g6) (by simp only; omega) _ fun σ7 g7 => ?_
  simp [wops_cons, wops_if', dstOf, isTrueP]
end Go.Sm
/- Single plain arguments. -/
set_option linter.unusedVariables false
set_option linter.unusedSimpArgs false
namespace Go.Sm
open Go Go.WideShapes Go.ChangeShapes
section
variable {H : Type} {en : TypeId × Value → H} {P : Program} {w : World}
theorem open_one {base base' : Nat} {spare : Nat → Bool} {held : Bool} {t : TypeId} {f fuel : Nat} {ks : List PK} {v : Value} {x : DataW H × List MemPlace} {r : Reach}
    (hk : kindsF P f t = some ks) (hval : Value.okWide P w r base t v) (hd : DataW.trod en P w base' spare held fuel t v.cells.toList = some x) : ∃ xs, OkL ks xs ∧ v = wrapV P t xs := by
  have h := trod_kinds f t ks hk fuel _ x hd
  refine ⟨_, h, ?_⟩
  cases f with
  | zero => cases hk
  | succ f =>
    unfold kindsF at hk
    cases hu : P.underlying t with
    | none => rw [hu] at hk; cases hk
    | some d =>
      rw [hu] at hk
      cases d with
      | int k => obtain ⟨n, rfl⟩ := okWide_int hu hval; simp [wrapV, isAggT, hu, Value.cells]
      | bool => obtain ⟨n, rfl⟩ := okWide_bool hu hval; simp [wrapV, isAggT, hu, Value.cells]
      | string => obtain ⟨n, rfl⟩ := okWide_string hu hval; simp [wrapV, isAggT, hu, Value.cells]
      | struct fs => obtain ⟨cs, rfl, _⟩ := okWide_struct hu hval; simp [wrapV, isAggT, hu, Value.cells]
      | _ => cases hk
theorem open_i {base base' : Nat} {spare : Nat → Bool} {held : Bool} {t : TypeId} {fuel : Nat} {k : IntKind} {v : Value} {x : DataW H × List MemPlace} {r : Reach}
    (hk : P.underlying t = some (.int k)) (hval : Value.okWide P w r base t v) (hd : DataW.trod en P w base' spare held fuel t v.cells.toList = some x) : ∃ n, v = .int k n ∧ k.min ≤ n ∧ n ≤ k.max := by
  obtain ⟨xs, h, rfl⟩ := open_one (f := 1) (ks := [.int k]) (by simp [kindsF, hk]) hval hd
  match xs, h with
  | [a], ⟨⟨n, ha, hn⟩, _⟩ =>
    subst ha
    simp only [Lit.wf, Bool.and_eq_true, decide_eq_true_eq] at hn
    exact ⟨n, by simp [wrapV, isAggT, hk], hn⟩
theorem open_str {base base' : Nat} {spare : Nat → Bool} {held : Bool} {t : TypeId} {fuel : Nat} {v : Value} {x : DataW H × List MemPlace} {r : Reach}
    (hk : P.underlying t = some .string) (hval : Value.okWide P w r base t v) (hd : DataW.trod en P w base' spare held fuel t v.cells.toList = some x) : ∃ s, v = .string s ∧ s.size ≤ maxLen := by
  obtain ⟨xs, h, rfl⟩ := open_one (f := 1) (ks := [.str]) (by simp [kindsF, hk]) hval hd
  match xs, h with
  | [a], ⟨⟨n, ha, hn⟩, _⟩ =>
    subst ha
    exact ⟨n, by simp [wrapV, isAggT, hk], hn⟩
theorem open_st {α : Type} {enc : α → List Value} {ok : α → Prop} {base base' : Nat} {spare : Nat → Bool} {held : Bool} {t : TypeId} {f fuel : Nat} {ks : List PK} {v : Value} {x : DataW H × List MemPlace} {r : Reach}
    (hk : kindsF P f t = some ks) (ha : isAggT P t = true) (hen : ∀ r, OkL ks r → ∃ x, ok x ∧ r = enc x) (hval : Value.okWide P w r base t v) (hd : DataW.trod en P w base' spare held fuel t v.cells.toList = some x) : ∃ y, ok y ∧ v = .agg (enc y).toArray ∧ Sm.flat v = true := by
  obtain ⟨xs, h, rfl⟩ := open_one hk hval hd
  obtain ⟨y, h1, rfl⟩ := hen _ h
  refine ⟨y, h1, by simp [wrapV, ha], ?_⟩
  have := OkL.flat h
  simp only [wrapV, ha, if_true, Sm.flat]
  simpa using this
end
end Go.Sm
