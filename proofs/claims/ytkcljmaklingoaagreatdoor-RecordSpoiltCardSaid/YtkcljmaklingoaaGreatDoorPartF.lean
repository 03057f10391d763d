/- Part F of the proof. -/
import Derived.Test.YtkcljmaklingoaaGreatDoorPartD
import Derived.Test.YtkcljmaklingoaaGreatDoorPartE
/- Versions, writes, records compared. -/
set_option linter.unusedVariables false
set_option linter.unusedSimpArgs false
namespace Go.Sm
open Go Go.Proofs
set_option maxRecDepth 100000
set_option maxHeartbeats 4000000
theorem kl_ver (v : Ver) : KL [.int .u64, .str, .bool] (encV v) := ⟨⟨_, rfl⟩, ⟨_, rfl⟩, ⟨_, rfl⟩, trivial⟩
theorem encV_inj {a b : Ver} : encV a = encV b ↔ a = b := by
  constructor
  · intro h
    cases a; cases b
    simp [encV] at h
    simp [h]
  · rintro rfl; rfl
theorem cmp_ver (a b : Ver) (σ : CSt) (x y : Operand) : binF Tryz.prog σ .eql 33 x y (.agg (encV a).toArray) (.agg (encV b).toArray) = .val (.bool (decide (a = b))) σ ∧ binF Tryz.prog σ .neq 33 x y (.agg (encV a).toArray) (.agg (encV b).toArray) = .val (.bool (!decide (a = b))) σ := by
  obtain ⟨c, h1, h2, h3⟩ := bin_struct (P := Tryz.prog) (f := 2) (t := 33) (ks := [.int .u64, .str, .bool]) (by kernel_rfl) (by kernel_rfl) (by omega) (by kernel_rfl) (by kernel_rfl) (kl_ver a) (kl_ver b) rfl rfl (σ := σ) (x := x) (y := y)
  have : c = decide (a = b) := by
    rw [encV_inj] at h3
    cases c <;> simp_all
  rw [h1, h2, this]
  exact ⟨rfl, rfl⟩
theorem neq_ver (a b : Ver) (σ : CSt) (x y : Operand) : binF Tryz.prog σ .neq 33 x y (.agg (encV a).toArray) (.agg (encV b).toArray) = .val (.bool (!decide (a = b))) σ := (cmp_ver a b σ x y).2
theorem kl_wr (v : Wri) : KL [.str, .int .u64, .str, .bool] (encWr v) := ⟨⟨_, rfl⟩, ⟨_, rfl⟩, ⟨_, rfl⟩, ⟨_, rfl⟩, trivial⟩
theorem encWr_inj {a b : Wri} : encWr a = encWr b ↔ a = b := by
  constructor
  · intro h
    obtain ⟨k, x⟩ := a; obtain ⟨k2, y⟩ := b
    cases x; cases y
    simp [encWr] at h
    simp [h]
  · rintro rfl; rfl
theorem cmp_wr (a b : Wri) (σ : CSt) (x y : Operand) : binF Tryz.prog σ .eql 90 x y (.agg (encWr a).toArray) (.agg (encWr b).toArray) = .val (.bool (decide (a = b))) σ ∧ binF Tryz.prog σ .neq 90 x y (.agg (encWr a).toArray) (.agg (encWr b).toArray) = .val (.bool (!decide (a = b))) σ := by
  obtain ⟨c, h1, h2, h3⟩ := bin_struct (P := Tryz.prog) (f := 3) (t := 90) (ks := [.str, .int .u64, .str, .bool]) (by kernel_rfl) (by kernel_rfl) (by omega) (by kernel_rfl) (by kernel_rfl) (kl_wr a) (kl_wr b) rfl rfl (σ := σ) (x := x) (y := y)
  have : c = decide (a = b) := by
    rw [encWr_inj] at h3
    cases c <;> simp_all
  rw [h1, h2, this]
  exact ⟨rfl, rfl⟩
theorem neq_wr (a b : Wri) (σ : CSt) (x y : Operand) : binF Tryz.prog σ .neq 90 x y (.agg (encWr a).toArray) (.agg (encWr b).toArray) = .val (.bool (!decide (a = b))) σ := (cmp_wr a b σ x y).2
/-- slices.Equal of two rows of versions. -/
theorem equal_wr (l m : List Wri) (v u : Value) (σ : CSt) (hsl : Sl σ 90 4 encWr v l) (hsm : Sl σ 90 4 encWr u m) (hbig : l.length < 2 ^ 40) (Q : Out → CSt → Prop)
    (h : ∀ (σ' : CSt), Grow σ σ' → Q (.ret (.bool (decide (l = m))) false) σ') : W E1 (.fn 48 #[v, u] none) σ Q := by
  rw [W_fn (fn := Tryz.f48) Tryz.func48 rfl rfl rfl]
  by_cases hlen : l.length = m.length
  · rcases hsl with ⟨rfl, rfl⟩ | ⟨i, off, cap, row, ro, rfl, hg, hin, hrow, hle, hcap⟩
    · have hm : m = [] := List.eq_nil_of_length_eq_zero hlen.symm
      subst hm
      have hu : ∃ p c, u = .slice p 0 c := by
        rcases hsm with ⟨rfl, _⟩ | ⟨i2, off2, cap2, row2, ro2, rfl, _⟩
        · exact ⟨_, _, rfl⟩
        · exact ⟨_, _, rfl⟩
      obtain ⟨p, c, rfl⟩ := hu
      have := h σ (Grow.refl σ)
      simp [wops_cons]
      rw [W_loop]
      simpa [wops_cons] using this
    rcases hsm with ⟨rfl, rfl⟩ | ⟨i2, off2, cap2, row2, ro2, rfl, hg2, hin2, hrow2, hle2, hcap2⟩
    · have hl : l = [] := List.eq_nil_of_length_eq_zero hlen
      subst hl
      have := h σ (Grow.refl σ)
      simp [wops_cons]
      rw [W_loop]
      simpa [wops_cons] using this
    simp [wops_cons, hlen]
    refine W_loop_inv (fun n a σ' => ∃ tm k, a = ⟨tm, 26, [], false⟩ ∧ tm.get 0 = some (.slice (some ⟨i, off, none⟩) l.length cap) ∧ tm.get 1 = some (.slice (some ⟨i2, off2, none⟩) m.length cap2) ∧ tm.get 12 = some (.int .i64 l.length) ∧ tm.get 13 = some (.int .i64 (k : Nat)) ∧ tm.get 4 = some (.bool false) ∧ k ≤ l.length ∧ n = l.length - k ∧ l.take k = m.take k ∧ Grow σ σ') ?_ l.length _ _ ?_
    · rintro n a σ' ⟨tm, k, rfl, h0, h1, h12, h13, h4, hk, hn, htk, hgr⟩
      have hgi := hgr.get hg hin
      have hgi2 := hgr.get hg2 hin2
      by_cases hlt : k < l.length
      · have hlt2 : k < m.length := by omega
        have hld := row_get (enc := encWr) (fun _ => rfl) hrow k hlt
        have hl1 := row_le hle k hlt
        have hld2 := row_get (enc := encWr) (fun _ => rfl) hrow2 k hlt2
        have hl2 := row_le hle2 k hlt2
        have hw := i64n1 k (by omega)
        have hneq := neq_wr l[k] m[k]
        simp [wops_cons, h0, h1, h12, h13, h4, hlt]
        refine W_calm (by kernel_rfl) ?_
        simp [dops_cons, h0, h1, h12, h13, h4, hlt, hlt2, hgi, hgi2, hld, hld2, hl1, hl2, hneq]
        by_cases he : l[k] = m[k]
        · simp [wops_cons, he, h13, hw]
          refine ⟨_, ?_, h0, h1, h12, k + 1, by simp, h4, by omega, rfl, ?_, hgr⟩
          · omega
          · rw [List.take_succ_eq_append_getElem hlt, List.take_succ_eq_append_getElem hlt2, htk, he]
        · have hne : l ≠ m := by rintro rfl; exact he rfl
          have := h σ' hgr
          rw [decide_eq_false hne] at this
          simpa [wops_cons, he] using this
      · have hkl : k = l.length := by omega
        have he : l = m := by
          have := htk
          rwa [List.take_of_length_le (by omega), List.take_of_length_le (by omega)] at this
        have := h σ' hgr
        rw [decide_eq_true he] at this
        simpa [wops_cons, h12, h13, hlt] using this
    · refine ⟨_, 0, rfl, ?_⟩
      simp [hlen]
      exact Grow.refl σ
  · have hu : ∀ {x : Value} {l : List Wri}, Sl σ 90 4 encWr x l → ∃ p c, x = .slice p l.length c := by
      rintro x l (⟨rfl, rfl⟩ | ⟨i, off, cap, row, ro, rfl, _⟩)
      · exact ⟨_, _, rfl⟩
      · exact ⟨_, _, rfl⟩
    obtain ⟨p, c, rfl⟩ := hu hsl
    obtain ⟨p', c', rfl⟩ := hu hsm
    have hne : l ≠ m := by rintro rfl; exact hlen rfl
    have := h σ (Grow.refl σ)
    rw [decide_eq_false hne] at this
    have hi : ¬ ((l.length : Int) = m.length) := by omega
    simpa [wops_cons, hi] using this

/-- slices.Equal of two rows of versions. -/
theorem equal_ver (l m : List Ver) (v u : Value) (σ : CSt) (hsl : Sl σ 33 3 encV v l) (hsm : Sl σ 33 3 encV u m) (hbig : l.length < 2 ^ 40) (Q : Out → CSt → Prop)
    (h : ∀ (σ' : CSt), Grow σ σ' → Q (.ret (.bool (decide (l = m))) false) σ') : W E1 (.fn 33 #[v, u] none) σ Q := by
  rw [W_fn (fn := Tryz.f33) Tryz.func33 rfl rfl rfl]
  by_cases hlen : l.length = m.length
  · rcases hsl with ⟨rfl, rfl⟩ | ⟨i, off, cap, row, ro, rfl, hg, hin, hrow, hle, hcap⟩
    · have hm : m = [] := List.eq_nil_of_length_eq_zero hlen.symm
      subst hm
      have hu : ∃ p c, u = .slice p 0 c := by
        rcases hsm with ⟨rfl, _⟩ | ⟨i2, off2, cap2, row2, ro2, rfl, _⟩
        · exact ⟨_, _, rfl⟩
        · exact ⟨_, _, rfl⟩
      obtain ⟨p, c, rfl⟩ := hu
      have := h σ (Grow.refl σ)
      simp [wops_cons]
      rw [W_loop]
      simpa [wops_cons] using this
    rcases hsm with ⟨rfl, rfl⟩ | ⟨i2, off2, cap2, row2, ro2, rfl, hg2, hin2, hrow2, hle2, hcap2⟩
    · have hl : l = [] := List.eq_nil_of_length_eq_zero hlen
      subst hl
      have := h σ (Grow.refl σ)
      simp [wops_cons]
      rw [W_loop]
      simpa [wops_cons] using this
    simp [wops_cons, hlen]
    refine W_loop_inv (fun n a σ' => ∃ tm k, a = ⟨tm, 26, [], false⟩ ∧ tm.get 0 = some (.slice (some ⟨i, off, none⟩) l.length cap) ∧ tm.get 1 = some (.slice (some ⟨i2, off2, none⟩) m.length cap2) ∧ tm.get 12 = some (.int .i64 l.length) ∧ tm.get 13 = some (.int .i64 (k : Nat)) ∧ tm.get 4 = some (.bool false) ∧ k ≤ l.length ∧ n = l.length - k ∧ l.take k = m.take k ∧ Grow σ σ') ?_ l.length _ _ ?_
    · rintro n a σ' ⟨tm, k, rfl, h0, h1, h12, h13, h4, hk, hn, htk, hgr⟩
      have hgi := hgr.get hg hin
      have hgi2 := hgr.get hg2 hin2
      by_cases hlt : k < l.length
      · have hlt2 : k < m.length := by omega
        have hld := row_get (enc := encV) (fun _ => rfl) hrow k hlt
        have hl1 := row_le hle k hlt
        have hld2 := row_get (enc := encV) (fun _ => rfl) hrow2 k hlt2
        have hl2 := row_le hle2 k hlt2
        have hw := i64n1 k (by omega)
        have hneq := neq_ver l[k] m[k]
        simp [wops_cons, h0, h1, h12, h13, h4, hlt]
        refine W_calm (by kernel_rfl) ?_
        simp [dops_cons, h0, h1, h12, h13, h4, hlt, hlt2, hgi, hgi2, hld, hld2, hl1, hl2, hneq]
        by_cases he : l[k] = m[k]
        · simp [wops_cons, he, h13, hw]
          refine ⟨_, ?_, h0, h1, h12, k + 1, by simp, h4, by omega, rfl, ?_, hgr⟩
          · omega
          · rw [List.take_succ_eq_append_getElem hlt, List.take_succ_eq_append_getElem hlt2, htk, he]
        · have hne : l ≠ m := by rintro rfl; exact he rfl
          have := h σ' hgr
          rw [decide_eq_false hne] at this
          simpa [wops_cons, he] using this
      · have hkl : k = l.length := by omega
        have he : l = m := by
          have := htk
          rwa [List.take_of_length_le (by omega), List.take_of_length_le (by omega)] at this
        have := h σ' hgr
        rw [decide_eq_true he] at this
        simpa [wops_cons, h12, h13, hlt] using this
    · refine ⟨_, 0, rfl, ?_⟩
      simp [hlen]
      exact Grow.refl σ
  · have hu : ∀ {x : Value} {l : List Ver}, Sl σ 33 3 encV x l → ∃ p c, x = .slice p l.length c := by
      rintro x l (⟨rfl, rfl⟩ | ⟨i, off, cap, row, ro, rfl, _⟩)
      · exact ⟨_, _, rfl⟩
      · exact ⟨_, _, rfl⟩
    obtain ⟨p, c, rfl⟩ := hu hsl
    obtain ⟨p', c', rfl⟩ := hu hsm
    have hne : l ≠ m := by rintro rfl; exact hlen rfl
    have := h σ (Grow.refl σ)
    rw [decide_eq_false hne] at this
    have hi : ¬ ((l.length : Int) = m.length) := by omega
    simpa [wops_cons, hi] using this

/-- The same records? -/
theorem same_spec (x y : Rcd) (v u : Value) (σ : CSt) (hv : Sl σ 90 4 encWr v x.ws) (hu : Sl σ 90 4 encWr u y.ws) (hbig : x.ws.length < 2 ^ 36) (Q : Out → CSt → Prop) (h : ∀ σ', Grow σ σ' → Q (.ret (.bool (decide (x = y))) false) σ') : W E1 (.fn 22 #[.agg #[.int .u64 x.at_, v], .agg #[.int .u64 y.at_, u]] none) σ Q := by
  rw [W_fn (fn := Tryz.f22) Tryz.func22 rfl rfl rfl]
  have g0 : Grow σ ((σ.alloc (.cells [.int .u64 x.at_, v] 47 false)).alloc (.cells [.int .u64 y.at_, u] 47 false)) := ((Grow.refl σ).alloc _).alloc _
  obtain ⟨a, l⟩ := x
  obtain ⟨b, m⟩ := y
  obtain ⟨p1, c1, rfl⟩ := hv.form
  obtain ⟨p2, c2, rfl⟩ := hu.form
  by_cases hab : a = b
  · subst hab
    simp [wops_cons, wops_if', dstOf]
    refine equal_wr l m _ _ _ (hv.grow g0) (hu.grow g0) (by simp only at hbig; omega) _ fun σ1 g1 => ?_
    have hQ := h σ1 (g0.trans g1)
    by_cases hlm : l = m
    · subst hlm; simpa [wops_cons, wops_if', dstOf] using hQ
    · simpa [wops_cons, wops_if', dstOf, hlm] using hQ
  · have hQ := h _ g0
    have hab' : ¬ ((a : Int) = b) := by omega
    simpa [wops_cons, wops_if', dstOf, hab, hab'] using hQ
end Go.Sm
/- The law's own record as bytes. -/
set_option linter.unusedVariables false
set_option linter.unusedSimpArgs false
namespace Go.Sm
open Go Go.Proofs
set_option maxRecDepth 100000
set_option maxHeartbeats 4000000
theorem lenc_spec (at_ : Nat) (ws : List Wri) (v : Value) (σ : CSt) (hat : at_ < 2 ^ 64) (hsl : Sl σ 90 4 encWr v ws) (hbig : (serR ⟨at_, ws⟩).length < 2 ^ 37) (hv : ∀ w ∈ ws, w.ver.val.size < 2 ^ 37) (Q : Out → CSt → Prop)
    (h : ∀ v' σ', Ow σ.n σ' v' (serR ⟨at_, ws⟩) → Grow σ σ' → Q (.ret v' false) σ') : W E1 (.fn 25 #[.agg #[.int .u64 at_, v]] none) σ Q := by
  rw [W_fn (fn := Tryz.f25) Tryz.func25 rfl rfl rfl]
  obtain ⟨pv, cv, rfl⟩ := hsl.form
  have hwl : ws.length < 2 ^ 37 := by
    have := ser_len ws
    unfold serR at hbig
    simp only [List.length_append] at hbig
    omega
  have hlu : IntKind.u64.wrap (ws.length : Int) = (ws.length : Int) := IntWalk.u64_in _ (by omega)
  have g0 : Grow σ (σ.alloc (.cells [.int .u64 at_, .slice pv ws.length cv] 47 false)) := (Grow.refl σ).alloc _
  have hc0 : (σ.alloc (.cells [.int .u64 at_, .slice pv ws.length cv] 47 false)).get σ.n = some (.cells [.int .u64 at_, .slice pv ws.length cv] 47 false) := by simp
  have gn0 := g0.n
  simp [wops_cons]
  refine W_drawn (l := [0, 1, 3, 4, 5, 6, 2, 7, 8, 9]) (b := #[0, 1, 3, 0, 8, 24, 56, 127, 255, 511]) (by kernel_rfl) (by kernel_rfl) (by kernel_rfl) ?_
  simp [wops_cons, dopsR_cons, opAt, isEff, again, befBits, isRead, Nat.add_assoc, hlu, Nat.testBit_eq_decide_div_mod_eq]
  refine lnum_spec at_ _ hat _ fun q1 c1 σ1 h1 g1 => ?_
  have gn1 := g1.n
  simp at gn1
  have hc1 := g1.get hc0 (by simp)
  simp [wops_cons, dopsR_cons, opAt, isEff, again, befBits, isRead, Nat.add_assoc, hlu, Nat.testBit_eq_decide_div_mod_eq, hc1]
  refine lnum_spec ws.length _ (by omega) _ fun q2 c2 σ2 h2 g2 => ?_
  have gn2 := g2.n
  have hc2 := g2.get hc1 (by omega)
  have hl1 := num_len10 hat
  have hl2 := num_len10 (n := ws.length) (by omega)
  obtain ⟨q3, c3, s3, a1, a2, a3⟩ := oapp_sl ((h1.grow g2)) (by simp; omega) h2.sl (by omega)
  have hc3 := a3.get hc2 (by omega) (.inr fun row e ro he => by cases he; decide)
  have g03 : Grow σ s3 := ((g0.trans (g1.trans g2)).fr.trans (a3.mono (fun _ h => h) (by simp))).grow (Nat.le_refl _)
  have sn3 := a3.1
  simp [wops_cons, dopsR_cons, opAt, isEff, again, befBits, isRead, Nat.add_assoc, hlu, Nat.testBit_eq_decide_div_mod_eq, hc2, a1, hc3]
  refine W_loop_inv (fun k a s => ∃ tm, ∃ i : Nat, ∃ vw, a = ⟨tm, 33, [], false⟩ ∧ tm.get 3 = some vw ∧ tm.get 16 = some (.slice pv ws.length cv) ∧ tm.get 17 = some (.int .i64 ws.length) ∧ tm.get 18 = some (.int .i64 (i : Nat)) ∧ (i ≤ ws.length ∧ k = ws.length - i ∧ Ow σ.n s vw (num at_ ++ num ws.length ++ (ws.take i).flatMap serW) ∧ Grow σ s)) ?_ ws.length _ _ ?_
  · rintro k a s ⟨tm, i, vw, rfl, e3, e16, e17, e18, hi, hk, hw, hg⟩
    have hsls := hsl.grow hg
    have gn := hg.n
    by_cases hlt : i < ws.length
    · have hlt' : (i : Int) < (ws.length : Int) := by omega
      obtain ⟨j, off, row, ro, rfl, hgj, hjn, hrow, hle⟩ := hsls.at hlt
      have hld := row_get lenWr hrow i hlt
      have hle2 := row_le hle i hlt
      have hw1 := i64s i (by omega)
      have hmem : ws[i] ∈ ws := List.getElem_mem hlt
      have htot : (num at_ ++ num ws.length ++ (ws.take i).flatMap serW).length + (serW ws[i]).length ≤ (serR ⟨at_, ws⟩).length := by
        have e : (ws.take (i + 1)).flatMap serW = (ws.take i).flatMap serW ++ serW ws[i] := by rw [List.take_succ_eq_append_getElem hlt, List.flatMap_append]; simp
        have := flat_take_le serW ws (i + 1)
        rw [e] at this
        unfold serR
        simp only [List.length_append] at this ⊢
        omega
      have hsw : (serW ws[i]).length = (serText ws[i].key).length + (serVer ws[i].ver).length := by rw [serW, List.length_append]
      have hkey : ws[i].key.size ≤ (serText ws[i].key).length := by
        unfold serText
        simp only [List.length_append, len_byt]
        omega
      have hvz := hv _ hmem
      have hall : num at_ ++ num ws.length ++ (ws.take (i + 1)).flatMap serW = num at_ ++ num ws.length ++ (ws.take i).flatMap serW ++ serText ws[i].key ++ serVer ws[i].ver := by
        rw [List.take_succ_eq_append_getElem hlt, List.flatMap_append, List.flatMap_singleton, serW]
        simp [List.append_assoc]
      generalize hpre : num at_ ++ num ws.length ++ (ws.take i).flatMap serW = pre at hw htot hall
      obtain ⟨pw, cw, rfl⟩ := hw.sl.form
      generalize hx : ws[i] = x at *
      obtain ⟨key, ver⟩ := x
      simp only [encWr] at hld
      simp only at hkey hvz hsw
      have g1 : Grow s ((s.alloc (.cells [.string ⟨#[]⟩, .int .u64 0, .string ⟨#[]⟩, .bool false] 90 false)).put s.n (.cells [.string key, .int .u64 ver.at_, .string ver.val, .bool ver.gone] 90 false)) := ⟨by simp, fun j hj => by rw [CSt.get_put, if_neg (by omega), CSt.get_alloc, if_neg (by omega)]⟩
      simp [wops_cons, e3, e16, e17, e18, hlt, hlt', hgj, hld, hle2]
      have hcs : ((s.alloc (.cells [.string ⟨#[]⟩, .int .u64 0, .string ⟨#[]⟩, .bool false] 90 false)).put s.n (.cells [.string key, .int .u64 ver.at_, .string ver.val, .bool ver.gone] 90 false)).get s.n = some (.cells [.string key, .int .u64 ver.at_, .string ver.val, .bool ver.gone] 90 false) := by simp
      have hwn := hw.grow g1
      have g1n := g1.n
      have hsn : s.n < ((s.alloc (.cells [.string ⟨#[]⟩, .int .u64 0, .string ⟨#[]⟩, .bool false] 90 false)).put s.n (.cells [.string key, .int .u64 ver.at_, .string ver.val, .bool ver.gone] 90 false)).n := by simp
      generalize (s.alloc (.cells [.string ⟨#[]⟩, .int .u64 0, .string ⟨#[]⟩, .bool false] 90 false)).put s.n (.cells [.string key, .int .u64 ver.at_, .string ver.val, .bool ver.gone] 90 false) = s1 at hcs hwn g1 g1n hsn
      refine W_drawn (l := [0, 1, 2, 5, 6, 3, 4, 7, 8, 9]) (b := #[0, 0, 2, 6, 15, 0, 32, 127, 255, 511]) (by kernel_rfl) (by kernel_rfl) (by kernel_rfl) ?_
      simp [wops_cons, dopsR_cons, opAt, isEff, again, befBits, isRead, Nat.add_assoc, Nat.testBit_eq_decide_div_mod_eq, hcs, e3, e16, e17, e18]
      refine ltext_spec key s1 (by omega) _ fun q2 c2 s2 h2 g2 => ?_
      have hcs2 := g2.get hcs hsn
      have gn2 := g2.n
      obtain ⟨q3, c3, s3, b1, b2, b3⟩ := oapp_sl (hwn.grow g2) (by omega) h2.sl (by omega)
      have hcs3 := b3.get hcs2 (by omega) (.inr fun row e ro he => by cases he; decide)
      have sn3 := b3.1
      simp [wops_cons, dopsR_cons, opAt, isEff, again, befBits, isRead, Nat.add_assoc, Nat.testBit_eq_decide_div_mod_eq, hcs2, hcs3, b1, e3, e16, e17, e18]
      have hlv := lver_spec ver s3 (by omega)
      simp only [encV] at hlv
      refine hlv _ fun q4 c4 s4 h4 g4 => ?_
      have hcs4 := g4.get hcs3 (by omega)
      have gn4 := g4.n
      obtain ⟨q5, c5, s5, d1, d2, d3⟩ := oapp_sl (b2.grow g4) (by omega) h4.sl (by rw [List.length_append]; omega)
      have hcs5 := d3.get hcs4 (by omega) (.inr fun row e ro he => by cases he; decide)
      simp only [List.length_append] at d1 d2
      simp [wops_cons, dopsR_cons, opAt, isEff, again, befBits, isRead, Nat.add_assoc, Nat.testBit_eq_decide_div_mod_eq, hcs4, hcs5, d1, e3, e16, e17, e18, hw1]
      refine ⟨ws.length - (i + 1), by omega, i + 1, by omega, by omega, rfl, ?_, ((((hg.trans g1).trans g2).fr.trans b3).trans (g4.fr.trans d3)).grow (Nat.le_refl _)⟩
      rw [← List.append_assoc, hall]
      simpa [Nat.add_assoc] using d2
    · have hlt' : ¬ ((i : Int) < (ws.length : Int)) := by omega
      have hie : i = ws.length := by omega
      subst hie
      rw [List.take_of_length_le (Nat.le_refl _)] at hw
      obtain ⟨pw, cw, rfl⟩ := hw.sl.form
      have hQ := h _ s hw hg
      simpa [wops_cons, e3, e16, e17, e18] using hQ
  · exact ⟨_, 0, .slice q3 ((num at_).length + (num ws.length).length) c3, rfl, by simp, by simp, by simp, by simp, by omega, rfl, by simpa using a2.weaken (by simp), g03⟩
end Go.Sm
/- The law's Make of records. -/
set_option linter.unusedVariables false
set_option linter.unusedSimpArgs false
namespace Go.Sm
open Go Go.Proofs
set_option maxRecDepth 100000
set_option maxHeartbeats 40000000
def encLW (w : LW) : List Value := [.int .u8 w.key, .string w.v, .bool w.gone]
theorem lenLW (w : LW) : (encLW w).length = 3 := rfl
def LW.ok (w : LW) : Prop := w.key < 256
theorem getLast_map (acc : List Wri) (h : acc ≠ []) : acc.getLast?.map (·.key) = some (acc[acc.length - 1]'(by have := List.length_pos_iff.2 h; omega)).key := by
  rw [List.getLast?_eq_getElem?, List.getElem?_eq_getElem (by have := List.length_pos_iff.2 h; omega)]
  rfl
theorem make_spec (a : Nat) (l : List LW) (v : Value) (σ : CSt) (ha : a < 2 ^ 64) (hok : ∀ w ∈ l, w.ok) (hsl : Sl σ 30 3 encLW v l) (hl : l.length < 2 ^ 30) (Q : Out → CSt → Prop)
    (h : ∀ v' σ', Own σ.n σ' 90 encWr v' (makeR a l).ws → Grow σ σ' → Q (.ret (.agg #[.int .u64 (makeR a l).at_, v']) false) σ') : W E1 (.fn 23 #[.int .u64 a, v] none) σ Q := by
  rw [W_fn (fn := Tryz.f23) Tryz.func23 rfl rfl rfl]
  obtain ⟨pl, cl, rfl⟩ := hsl.form
  have hat : IntKind.u64.wrap (1 + (a : Int).tmod 1099511627776) = ((1 + a % 2 ^ 40 : Nat) : Int) := by
    have e1 : (a : Int).tmod 1099511627776 = (a : Int) % 1099511627776 := Int.tmod_eq_emod_of_nonneg (by omega)
    rw [e1, IntWalk.u64_in _ (by omega)]
    omega
  unfold makeR at h
  simp only at h
  generalize hA : 1 + a % 2 ^ 40 = at_ at *
  simp [wops_cons, hat]
  have g0 : Grow σ (((σ.alloc (.cells [.int .u64 0, .slice none 0 0] 47 false)).alloc (.cells [.int .u64 0, .slice none 0 0] 47 false)).put (σ.n + 1) (.cells [.int .u64 at_, .slice none 0 0] 47 false)) := ⟨by simp; omega, fun j hj => by rw [CSt.get_put, if_neg (by omega), CSt.get_alloc, if_neg (by simp; omega), CSt.get_alloc, if_neg (by omega)]⟩
  refine W_loop_inv (fun n a' s => ∃ tm, ∃ k : Nat, ∃ wv, a' = ⟨tm, 78, [], false⟩ ∧ tm.get 1 = some (.slice pl l.length cl) ∧ tm.get 4 = some (.pointer (some ⟨σ.n, 0, none⟩)) ∧ tm.get 5 = some (.pointer (some ⟨σ.n + 1, 0, none⟩)) ∧ tm.get 14 = some (.int .i64 (k : Nat)) ∧ (k ≤ 256 ∧ n = 256 - k ∧ s.get σ.n = some (.cells [.int .u64 0, .slice none 0 0] 47 false) ∧ s.get (σ.n + 1) = some (.cells [.int .u64 at_, wv] 47 false) ∧ σ.n + 1 < s.n ∧ Own σ.n s 90 encWr wv (makeM at_ l k) ∧ Grow σ s)) ?_ 256 _ _ ?_
  · rintro n a' s ⟨tm, k, wv, rfl, e1, e4, e5, e14, hk, hn, hc4, hc5, hsn, hown, hg⟩
    by_cases hk1 : k < 256
    · have hk1' : (k : Int) < 256 := by omega
      have hw := i64s k (by omega)
      have hlen := (makeM_ok at_ l k hk).1
      simp [wops_cons, e1, e4, e5, e14, hk1, hk1']
      refine W_loop_J (fun n a' s => ∃ tm, ∃ j : Nat, ∃ wv, a' = ⟨tm, 78, [], false⟩ ∧ tm.get 1 = some (.slice pl l.length cl) ∧ tm.get 4 = some (.pointer (some ⟨σ.n, 0, none⟩)) ∧ tm.get 5 = some (.pointer (some ⟨σ.n + 1, 0, none⟩)) ∧ tm.get 6 = some (.int .i64 (k : Nat)) ∧ tm.get 14 = some (.int .i64 (k : Nat)) ∧ tm.get 17 = some (.slice pl l.length cl) ∧ tm.get 18 = some (.int .i64 l.length) ∧ tm.get 19 = some (.int .i64 (j : Nat)) ∧ (j ≤ l.length ∧ n = l.length - j ∧ s.get σ.n = some (.cells [.int .u64 0, .slice none 0 0] 47 false) ∧ s.get (σ.n + 1) = some (.cells [.int .u64 at_, wv] 47 false) ∧ σ.n + 1 < s.n ∧ Own σ.n s 90 encWr wv (roundM at_ (l.take j) (makeM at_ l k) k) ∧ (roundM at_ (l.take j) (makeM at_ l k) k).length ≤ 256 + j ∧ Grow σ s))
        (fun out s => ∃ tm wv, out = .code (.exit 2) ⟨tm, 78, [], false⟩ ∧ tm.get 1 = some (.slice pl l.length cl) ∧ tm.get 4 = some (.pointer (some ⟨σ.n, 0, none⟩)) ∧ tm.get 5 = some (.pointer (some ⟨σ.n + 1, 0, none⟩)) ∧ tm.get 14 = some (.int .i64 (k : Nat)) ∧ s.get σ.n = some (.cells [.int .u64 0, .slice none 0 0] 47 false) ∧ s.get (σ.n + 1) = some (.cells [.int .u64 at_, wv] 47 false) ∧ σ.n + 1 < s.n ∧ Own σ.n s 90 encWr wv (makeM at_ l (k + 1)) ∧ Grow σ s) ?_ l.length _ _ ?_ ?_
      · rintro n2 a2 s2 ⟨tm, j, wv, rfl, e1, e4, e5, e6, e14, e17, e18, e19, hj, hn2, hc4, hc5, hsn, hown, hal, hg⟩
        by_cases hlt : j < l.length
        · have hlt' : (j : Int) < (l.length : Int) := by omega
          have hstep : roundM at_ (l.take (j + 1)) (makeM at_ l k) k = stepM at_ k (roundM at_ (l.take j) (makeM at_ l k) k) l[j] := by
            unfold roundM
            rw [List.take_succ_eq_append_getElem hlt, List.foldl_append]
            rfl
          generalize roundM at_ (l.take j) (makeM at_ l k) k = acc at hown hal hstep
          have hsls := hsl.grow hg
          obtain ⟨b, off, row, ro, hpl, hgb, hbn, hrow, hle⟩ := hsls.at hlt
          have hwk : IntKind.i64.wrap ((l[j].key : Nat) : Int) = (l[j].key : Int) := IntWalk.i64_in _ (by have := hok _ (List.getElem_mem hlt); unfold LW.ok at this; omega)
          have hld := row_get lenLW hrow j hlt
          have hle2 := row_le hle j hlt
          have hw1 := i64s j (by omega)
          have hxk : l[j].key < 256 := hok _ (List.getElem_mem hlt)
          generalize hx : l[j] = x at hld hxk hstep hwk
          obtain ⟨key, val, gone⟩ := x
          simp only [encLW] at hld
          simp only at hxk hwk
          obtain ⟨pw, cw, rfl⟩ := (hown.sl (sz := 4) lenWr).form
          have g1 : Grow s2 ((s2.alloc (.cells [.int .u8 0, .string ⟨#[]⟩, .bool false] 30 false)).put s2.n (.cells [.int .u8 key, .string val, .bool gone] 30 false)) := ⟨by simp, fun j hj => by rw [CSt.get_put, if_neg (by omega), CSt.get_alloc, if_neg (by omega)]⟩
          have hcs : ((s2.alloc (.cells [.int .u8 0, .string ⟨#[]⟩, .bool false] 30 false)).put s2.n (.cells [.int .u8 key, .string val, .bool gone] 30 false)).get s2.n = some (.cells [.int .u8 key, .string val, .bool gone] 30 false) := by simp
          have hsn2 : s2.n < ((s2.alloc (.cells [.int .u8 0, .string ⟨#[]⟩, .bool false] 30 false)).put s2.n (.cells [.int .u8 key, .string val, .bool gone] 30 false)).n := by simp
          simp [wops_cons, e1, e4, e5, e6, e14, e17, e18, e19, hlt, hlt', hpl, hgb, hld, hle2]
          generalize (s2.alloc (.cells [.int .u8 0, .string ⟨#[]⟩, .bool false] 30 false)).put s2.n (.cells [.int .u8 key, .string val, .bool gone] 30 false) = s3 at g1 hcs hsn2
          have hc4' := g1.get hc4 (by omega)
          have hc5' := g1.get hc5 hsn
          have hown' := hown.grow g1
          have hg' := hg.trans g1
          have hsn' := Nat.lt_of_lt_of_le hsn g1.n
          -- is it left out?
          refine W_cut (fun out z => ∃ tm, out = .code .normal ⟨tm, 78, [], false⟩ ∧ tm.get 1 = some (.slice pl l.length cl) ∧ tm.get 4 = some (.pointer (some ⟨σ.n, 0, none⟩)) ∧ tm.get 5 = some (.pointer (some ⟨σ.n + 1, 0, none⟩)) ∧ tm.get 6 = some (.int .i64 (k : Nat)) ∧ tm.get 8 = some (.pointer (some ⟨s2.n, 0, none⟩)) ∧ tm.get 14 = some (.int .i64 (k : Nat)) ∧ tm.get 17 = some (.slice pl l.length cl) ∧ tm.get 18 = some (.int .i64 l.length) ∧ tm.get 19 = some (.int .i64 (j : Nat)) ∧ tm.get 48 = some (.bool (!decide (key = k ∧ ¬ (acc.getLast?.map (·.key) = some (key13 key))))) ∧ z = s3) ?_ ?_
          · refine W_drawn (l := [0, 1, 2, 3, 4, 5, 6, 7, 8, 9, 10, 11, 12, 13, 14, 15, 16, 17, 18, 19, 20, 21, 22, 23, 24, 25]) (b := #[0, 1, 3, 0, 15, 31, 63, 127, 255, 511, 1023, 2047, 4095, 2047, 10239, 26623, 59391, 131071, 262143, 524287, 2047, 1050623, 3147775, 8388607, 16777215, 33554431]) (by kernel_rfl) (by kernel_rfl) (by kernel_rfl) ?_
            by_cases hkk : key = k
            · subst hkk
              by_cases hnil : acc = []
              · subst hnil
                simp [dopsR_cons, wops_cons, dstOf, opAt, isEff, again, befBits, isRead, Nat.add_assoc, e1, e4, e5, e6, e14, e17, e18, e19, hcs, hc5', hwk]
                repeat (rw [dopsR_if (by rfl) (by simp [dstOf])]; simp [dopsR_cons, wops_cons, dstOf, opAt, isEff, again, befBits, isRead, Nat.add_assoc, e1, e4, e5, e6, e14, e17, e18, e19, hcs, hc5', hwk])
              · obtain ⟨m, hm⟩ : ∃ m, acc.length = m + 1 := ⟨acc.length - 1, by have := List.length_pos_iff.2 hnil; omega⟩
                have hma : m < acc.length := by omega
                have hgl := getLast_map acc hnil
                have hgl' : acc.getLast?.map (·.key) = some acc[m].key := by rw [hgl]; congr 2; congr 1; omega
                rw [hgl']
                obtain ⟨i, off2, row2, ro2, rfl, hgi, hin, hrow2, hle3⟩ := (hown'.sl (sz := 4) lenWr).at hma
                have hcl := row_cell (enc := encWr) lenWr hrow2 m 0 hma (by decide)
                have hle4 := row_le hle3 m hma
                simp only [hm] at hc5'
                have hwm : IntKind.i64.wrap (m : Int) = (m : Int) := IntWalk.i64_in _ (by omega)
                have hmp : (0 : Int) < (m : Int) + 1 := by omega
                have hmq : (m : Int) < (m : Int) + 1 := by omega
                simp [encWr] at hcl
                simp [dopsR_cons, wops_cons, dstOf, opAt, isEff, again, befBits, isRead, Nat.add_assoc, e1, e4, e5, e6, e14, e17, e18, e19, hcs, hc5', hwk]
                repeat (rw [dopsR_if (by rfl) (by simp [dstOf])]; simp [dopsR_cons, wops_cons, dstOf, opAt, isEff, again, befBits, isRead, Nat.add_assoc, e1, e4, e5, e6, e14, e17, e18, e19, hcs, hc5', hwk, hgi, hcl, hle4, hwm, hmp, hmq])
                refine key_spec key hxk s3 _ ?_
                simp [dopsR_cons, wops_cons, dstOf, opAt, isEff, again, befBits, isRead, Nat.add_assoc, e1, e4, e5, e6, e14, e17, e18, e19, hcs, hc5', hwk, hgi, hcl, hle4, hwm, hmp, hmq, Nat.testBit_eq_decide_div_mod_eq]
                repeat (rw [dopsR_if (by rfl) (by simp [dstOf])]; simp [dopsR_cons, wops_cons, dstOf, opAt, isEff, again, befBits, isRead, Nat.add_assoc, e1, e4, e5, e6, e14, e17, e18, e19, hcs, hc5', hwk, hgi, hcl, hle4, hwm, hmp, hmq, Nat.testBit_eq_decide_div_mod_eq])
                rw [Bool.eq_iff_iff]
                simp only [beq_iff_eq, decide_eq_true_eq]
                exact ⟨fun e => ba_list_inj e, fun e => by rw [e]⟩
            · have hkk' : ¬ ((key : Int) = k) := by omega
              simp [dopsR_cons, wops_cons, dstOf, opAt, isEff, again, befBits, isRead, Nat.add_assoc, e1, e4, e5, e6, e14, e17, e18, e19, hcs, hc5', hwk, hkk, hkk']
              repeat (rw [dopsR_if (by rfl) (by simp [dstOf])]; simp [dopsR_cons, wops_cons, dstOf, opAt, isEff, again, befBits, isRead, Nat.add_assoc, e1, e4, e5, e6, e14, e17, e18, e19, hcs, hc5', hwk, hkk, hkk'])
          · rintro out z ⟨tm, rfl, e1, e4, e5, e6, e8, e14, e17, e18, e19, e48, rfl⟩
            by_cases hskip : key = k ∧ ¬ (acc.getLast?.map (·.key) = some (key13 key))
            · have hst : stepM at_ k acc ⟨key, val, gone⟩ = acc ++ [mkW at_ ⟨key, val, gone⟩] := by unfold stepM; rw [if_pos hskip]
              rw [hst] at hstep
              rw [decide_eq_true hskip] at e48
              -- the version
              have hn1 : ¬ (s2.n = z.n) := by omega
              have hn2 : ¬ (σ.n + 1 = z.n) := by omega
              have hn3 : ¬ (z.n = s2.n) := by omega
              simp [wops_cons, e1, e4, e5, e6, e8, e14, e17, e18, e19, e48, hc5', hcs, hn1, hn2, -W_condK]
              rw [W_cond_f (by simp [e48])]
              simp [wops_cons, e1, e4, e5, e6, e8, e14, e17, e18, e19, e48, hc5', hcs, hn1, hn2, -W_condK]
              refine W_cut (fun out y => ∃ tm, out = .code .normal ⟨tm, 78, [], false⟩ ∧ tm.get 1 = some (.slice pl l.length cl) ∧ tm.get 4 = some (.pointer (some ⟨σ.n, 0, none⟩)) ∧ tm.get 5 = some (.pointer (some ⟨σ.n + 1, 0, none⟩)) ∧ tm.get 6 = some (.int .i64 (k : Nat)) ∧ tm.get 8 = some (.pointer (some ⟨s2.n, 0, none⟩)) ∧ tm.get 9 = some (.pointer (some ⟨z.n, 0, none⟩)) ∧ tm.get 14 = some (.int .i64 (k : Nat)) ∧ tm.get 17 = some (.slice pl l.length cl) ∧ tm.get 18 = some (.int .i64 l.length) ∧ tm.get 19 = some (.int .i64 (j : Nat)) ∧ Grow z y ∧ z.n < y.n ∧ y.get z.n = some (.cells [.int .u64 at_, .string (if gone then str [] else cutV val), .bool gone] 33 false)) ?_ ?_
              · cases gone with
                | true =>
                  simp [wops_cons, e1, e4, e5, e6, e8, e14, e17, e18, e19, hcs, hn1, hn3]
                  exact ⟨⟨by simp, fun j hj => by rw [CSt.get_put, if_neg (by omega), CSt.get_alloc, if_neg (by omega)]⟩, rfl⟩
                | false =>
                  by_cases hz : 200 < val.size
                  · have hz' : (200 : Int) < (val.size : Int) := by omega
                    have hz2 : (200 : Int) ≤ (val.size : Int) := by omega
                    have hcv : cutV val = val.extract 0 200 := by unfold cutV; rw [Nat.min_eq_right (by omega)]
                    simp [wops_cons, e1, e4, e5, e6, e8, e14, e17, e18, e19, hcs, hn1, hn3, minK, slS, hz, hz', hz2, hcv]
                    exact ⟨by simp, fun j hj => by rw [CSt.get_put, if_neg (by omega), CSt.get_put, if_neg (by omega), CSt.get_alloc, if_neg (by omega)]⟩
                  · have hz' : ¬ (200 : Int) < (val.size : Int) := by omega
                    have hcv : cutV val = val.extract 0 val.size := by unfold cutV; rw [Nat.min_eq_left (by omega)]
                    simp [wops_cons, e1, e4, e5, e6, e8, e14, e17, e18, e19, hcs, hn1, hn3, minK, slS, hz, hz', hcv]
                    exact ⟨by simp, fun j hj => by rw [CSt.get_put, if_neg (by omega), CSt.get_put, if_neg (by omega), CSt.get_alloc, if_neg (by omega)]⟩
              · rintro out y ⟨tm, rfl, e1, e4, e5, e6, e8, e9, e14, e17, e18, e19, gy, hzy, hc9⟩
                have gcs := gy.get hcs hsn2
                have gc4 := gy.get hc4' (by omega)
                have gc5 := gy.get hc5' hsn'
                have gown := hown'.grow gy
                have gg := hg'.trans gy
                have gyn := gy.n
                refine W_drawn (l := [0, 1, 2, 3, 5, 4, 6, 7, 8, 9, 10]) (b := #[0, 1, 0, 4, 12, 0, 60, 124, 255, 511, 1023]) (by kernel_rfl) (by kernel_rfl) (by kernel_rfl) ?_
                simp [dopsR_cons, wops_cons, dstOf, opAt, isEff, again, befBits, isRead, Nat.add_assoc, e1, e4, e5, e6, e8, e9, e14, e17, e18, e19, gcs, gc5, hc9, Nat.testBit_eq_decide_div_mod_eq]
                refine key_spec key hxk y _ ?_
                obtain ⟨p9, c9, s9, a1, a2, a3, a4⟩ := app_wr (x := mkW at_ ⟨key, val, gone⟩) gown gg.n (by omega)
                have f9 : Fr (fun t => t = 90) σ.n y s9 := gown.z.frV a3
                have k4 := f9.get gc4 (by omega) (.inr fun row e ro he => by cases he; decide)
                have k5 := f9.get gc5 (by omega) (.inr fun row e ro he => by cases he; decide)
                have k9 := f9.get hc9 hzy (.inr fun row e ro he => by cases he; decide)
                have k8 := f9.get gcs (by omega) (.inr fun row e ro he => by cases he; decide)
                have sn9 := f9.1
                have hn8 : ¬ (σ.n + 1 = y.n) := by omega
                have hn9 : ¬ (z.n = y.n) := by omega
                have hn10 : ¬ (s2.n = σ.n + 1) := by omega
                have hn11 : ¬ (z.n = σ.n + 1) := by omega
                have hn12 : ¬ (s2.n = y.n) := by omega
                simp [encWr, mkW] at a1
                simp [dopsR_cons, wops_cons, dstOf, opAt, isEff, again, befBits, isRead, Nat.add_assoc, e1, e4, e5, e6, e8, e9, e14, e17, e18, e19, gcs, gc5, hc9, Nat.testBit_eq_decide_div_mod_eq, a1, k4, k5, k8, k9, hw1, hn8, hn9, hn10, hn11, hn12]
                have f10 : Fr (fun t => t = 47) σ.n s9 (s9.put (σ.n + 1) (.cells [.int .u64 at_, .slice p9 (acc.length + 1) c9] 47 false)) := (Fr.refl (fun t => t = 47) σ.n _).put (by omega) k5 rfl _
                exact ⟨l.length - (j + 1), by omega, hpl, j + 1, by omega, by omega, rfl, by omega, by rw [hstep]; exact a2.fr (T := fun t => t = 47) (by decide) f10, by rw [hstep]; simp; omega, (((gg.fr (T := fun t => t = 90 ∨ t = 47)).trans (f9.mono (fun _ => .inl) (Nat.le_refl _))).trans (f10.mono (fun _ => .inr) (Nat.le_refl _))).grow (Nat.le_refl _)⟩
            · have hst : stepM at_ k acc ⟨key, val, gone⟩ = acc := by unfold stepM; rw [if_neg hskip]
              rw [hst] at hstep
              rw [decide_eq_false hskip] at e48
              simp [wops_cons, e1, e4, e5, e6, e8, e14, e17, e18, e19, e48, hw1]
              exact ⟨l.length - (j + 1), by omega, hpl, j + 1, by omega, by omega, rfl, hc4', _, hc5', hsn', by rw [hstep]; exact hown', by rw [hstep]; omega, hg'⟩
        · have hje : j = l.length := by omega
          subst hje
          have hlt' : ¬ ((l.length : Int) < (l.length : Int)) := by omega
          simp [wops_cons, e1, e4, e5, e6, e14, e17, e18, e19]
          rw [List.take_of_length_le (Nat.le_refl _), ← makeM_succ] at hown
          exact ⟨hc4, _, hc5, hsn, hown, hg⟩
      · exact ⟨_, 0, wv, rfl, by simp [e1], by simp [e4], by simp [e5], by simp, by simp [e14], by simp, by simp, by simp, by omega, rfl, hc4, hc5, hsn, by simpa [roundM] using hown, by simpa [roundM] using Nat.le_trans hlen (by omega), hg⟩
      · rintro out s2 ⟨tm2, wv2, rfl, f1, f4, f5, f14, fc4, fc5, fsn, fown, fg⟩
        simp [wops_cons, f1, f4, f5, f14, hw]
        exact ⟨256 - (k + 1), by omega, k + 1, by omega, by omega, rfl, fc4, wv2, fc5, fsn, fown, fg⟩
    · have hk2 : k = 256 := by omega
      subst hk2
      obtain ⟨pw, cw, rfl⟩ := (hown.sl (sz := 4) lenWr).form
      have hQ := h (.slice pw (makeM at_ l 256).length cw) (s.put σ.n (.cells [.int .u64 at_, .slice pw (makeM at_ l 256).length cw] 47 false)) (hown.fr (T := fun t => t = 47) (b := σ.n) (by decide) ((Fr.refl (fun t => t = 47) σ.n _).put (Nat.le_refl _) hc4 rfl _)) ⟨by simpa using hg.n, fun j hj => by rw [CSt.get_put, if_neg (by omega)]; exact hg.old j hj⟩
      have hne : ¬ (σ.n + 1 = σ.n) := by omega
      simpa [wops_cons, e1, e4, e5, e14, hc4, hc5] using hQ
  · exact ⟨_, 0, .slice none 0 0, rfl, by simp, by simp, by simp, by simp, by omega, rfl, by simp, by simp, by simp, Own.nil, g0⟩
end Go.Sm
/- The law's own Decode of records. -/
set_option linter.unusedVariables false
set_option linter.unusedSimpArgs false
namespace Go.Sm
open Go Go.Proofs
set_option maxRecDepth 100000
set_option maxHeartbeats 40000000
theorem tk_cases (l : List UInt8) : (rd l = none ∧ tk l = (0, 0)) ∨ ∃ n r k, rd l = some (n, r) ∧ tk l = (n, k) ∧ 1 ≤ k ∧ k ≤ l.length ∧ l.drop k = r ∧ r.length = l.length - k ∧ n < 2 ^ 64 := by
  unfold tk
  cases h : rd l with
  | none => exact .inl ⟨rfl, rfl⟩
  | some p =>
    obtain ⟨n, r⟩ := p
    obtain ⟨h1, h2⟩ := rd_some h
    have h3 := rd_len h
    have h4 := num_pos n
    refine .inr ⟨n, r, _, rfl, rfl, by omega, by omega, ?_, by omega, h2⟩
    have e : l.length - r.length = (num n).length := by omega
    rw [e]
    conv => lhs; rw [h1]
    rw [List.drop_left]
/-- The last key so far. -/
def lastK (l : List Wri) : ByteArray := (l.getLast?.map (·.key)).getD (str [])
theorem klt_empty (s : ByteArray) : klt (str []) s = decide (1 ≤ s.size) := by
  by_cases h : 1 ≤ s.size
  · rw [klt_nil h, decide_eq_true h]
  · have : s.size = 0 := by omega
    have e : s.data.toList = [] := List.eq_nil_of_length_eq_zero this
    rw [decide_eq_false h]
    unfold klt str
    rw [ByteArray.toList_eq, ByteArray.toList_eq, e]
    rfl
theorem lastK_size {at_ : Int} {l : List Wri} (h : klt (lastK l) (str []) = true) : False := by
  unfold klt at h
  rw [ByteArray.toList_eq, ByteArray.toList_eq] at h
  have e : (str []).data.toList = [] := rfl
  rw [e] at h
  cases hx : (lastK l).data.toList with
  | nil => rw [hx] at h; cases h
  | cons a b => rw [hx] at h; cases h
theorem Own.but' {α : Type} {b i : Nat} {s s' : CSt} {e : TypeId} {enc : α → List Value} {v : Value} {l : List α} (h : Own b s e enc v l) (hi : objOf v ≠ some i) (hb : But i s s') : Own b s' e enc v l := by
  rcases h with h | ⟨j, cap, rfl, hb', hj, hg, hc⟩
  · exact .inl h
  · exact .inr ⟨j, cap, rfl, hb', Nat.lt_of_lt_of_le hj hb.1, by rw [hb.2 j hj (fun e => hi (by rw [e]; rfl))]; exact hg, hc⟩
theorem Own.obj_lt {α : Type} {b : Nat} {s : CSt} {e : TypeId} {enc : α → List Value} {v : Value} {l : List α} (h : Own b s e enc v l) {i : Nat} (hi : objOf v = some i) : i < s.n := by
  rcases h with ⟨rfl, _⟩ | ⟨j, cap, rfl, hb', hj, hg, hc⟩
  · cases hi
  · cases hi; exact hj
theorem lastK_snoc (l : List Wri) (w : Wri) : lastK (l ++ [w]) = w.key := by simp [lastK]
theorem lastK_get {l : List Wri} {m : Nat} (h : l.length = m + 1) : lastK l = (l[m]'(by omega)).key := by
  unfold lastK
  rw [List.getLast?_eq_getElem?, List.getElem?_eq_getElem (by omega)]
  simp [h]
theorem ldec_spec (l : List UInt8) (v : Value) (σ : CSt) (hsl : Sl σ 5 1 encY v l) (hbig : l.length < 2 ^ 35) (Q : Out → CSt → Prop)
    (h : ∀ a e σ', RetR σ' (dec l) a e → Grow σ σ' → Q (.ret (.tuple #[a, e]) false) σ') : W E1 (.fn 21 #[v] none) σ Q := by
  rw [W_fn (fn := Tryz.f21) Tryz.func21 rfl rfl rfl]
  obtain ⟨pv, cv, rfl⟩ := hsl.form
  simp [wops_cons]
  have g0 : Grow σ (σ.alloc (.cells [.int .u64 0, .slice none 0 0] 47 false)) := (Grow.refl σ).alloc _
  have hc0 : (σ.alloc (.cells [.int .u64 0, .slice none 0 0] 47 false)).get σ.n = some (.cells [.int .u64 0, .slice none 0 0] 47 false) := by simp
  have hs0 := hsl.grow g0
  have hn0 : σ.n < (σ.alloc (.cells [.int .u64 0, .slice none 0 0] 47 false)).n := by simp
  refine take_spec l _ _ hs0 (by omega) _ fun σ1 g1 => ?_
  have hc1 := g1.get hc0 hn0
  have hs1 := hs0.grow g1
  have n1 := g1.n
  -- what is none: for all states of this kind
  have hbad : dec l = none → ∀ s, Grow σ s → s.get σ.n = some (.cells [.int .u64 0, .slice none 0 0] 47 false) → Q (.ret (.tuple #[.agg #[.int .u64 0, .slice none 0 0], .int .i64 10]) false) (s.put σ.n (.cells [.int .u64 0, .slice none 0 0] 47 false)) := fun hd s hg hc =>
    h _ _ _ (by rw [hd]; exact ⟨rfl, rfl⟩) ⟨by simpa using hg.n, fun j hj => by rw [CSt.get_put, if_neg (by omega)]; exact hg.old j hj⟩
  obtain ⟨at_, k, hk⟩ : ∃ a k, tk l = (a, k) := ⟨_, _, rfl⟩
  obtain ⟨pr, cr, hd1, hs2⟩ := ysl_tail hs1 k (by rcases tk_cases l with ⟨_, h⟩ | ⟨n, r, k', _, h, _, h2, _⟩ <;> rw [hk] at h <;> cases h <;> omega) .i64
  have hlu : IntKind.u64.wrap (l.length : Int) = (l.length : Int) := IntWalk.u64_in _ (by omega)
  simp only [hk]
  simp [wops_cons, hd1]
  refine take_spec (l.drop k) _ σ1 (by simpa using hs2) (by simp; omega) _ fun σ2 g2 => ?_
  have hc2 := g2.get hc1 (by omega)
  have hg02 := (g0.trans g1).trans g2
  have hs3 := hs2.grow g2
  have n2 := g2.n
  obtain ⟨n, j, hj⟩ : ∃ a b, tk (l.drop k) = (a, b) := ⟨_, _, rfl⟩
  simp only [hj]
  -- was it none?
  obtain ⟨bad, hb1, hb2, hb3⟩ : ∃ bad : Bool, bad = (decide ((k : Int) = 0) || decide ((j : Int) = 0) || decide ((at_ : Int) < 1) || decide (1099511627776 < (at_ : Int)) || decide ((l.length : Int) < (n : Int))) ∧ (bad = true → dec l = none) ∧ (bad = false → at_ ≤ 2 ^ 40 ∧ n ≤ l.length ∧ j ≤ (l.drop k).length ∧ dec l = (rdWs at_ n (str []) ((l.drop k).drop j)).bind (finR at_ [])) := by
    refine ⟨_, rfl, ?_, ?_⟩
    · intro hb
      simp only [Bool.or_eq_true, decide_eq_true_eq] at hb
      rcases tk_cases l with ⟨h1, h2⟩ | ⟨n', r, k', h1, h2, h3, h4, h5, h6, h7⟩
      · unfold dec; rw [h1]; rfl
      · rw [hk] at h2; cases h2
        rw [h5] at hj
        rcases tk_cases r with ⟨q1, q2⟩ | ⟨n2, r2, k2, q1, q2, q3, q4, q5, q6, q7⟩
        · unfold dec; rw [h1]; simp only [Option.bind_some]; rw [q1]; rfl
        · rw [hj] at q2; cases q2
          unfold dec; rw [h1]; simp only [Option.bind_some]; rw [q1]; simp only [Option.bind_some]
          rw [if_neg (by omega)]
    · intro hb
      simp only [Bool.or_eq_false_iff, decide_eq_false_iff_not] at hb
      rcases tk_cases l with ⟨h1, h2⟩ | ⟨n', r, k', h1, h2, h3, h4, h5, h6, h7⟩
      · rw [hk] at h2; cases h2; omega
      · rw [hk] at h2; cases h2
        rw [h5] at hj ⊢
        rcases tk_cases r with ⟨q1, q2⟩ | ⟨n2, r2, k2, q1, q2, q3, q4, q5, q6, q7⟩
        · rw [hj] at q2; cases q2; omega
        · rw [hj] at q2; cases q2
          refine ⟨by omega, by omega, q4, ?_⟩
          unfold dec; rw [h1]; simp only [Option.bind_some]; rw [q1]; simp only [Option.bind_some]
          rw [if_pos (by omega), q5]
          rfl
  simp [wops_cons, -W_region]
  refine W_cut (fun out s => ∃ tm, out = .code .normal ⟨tm, 176, [], false⟩ ∧ tm.get 2 = some (.pointer (some ⟨σ.n, 0, none⟩)) ∧ tm.get 4 = some (.int .u64 (at_ : Nat)) ∧ tm.get 6 = some (.slice pr (l.length - k) cr) ∧ tm.get 7 = some (.int .u64 (n : Nat)) ∧ tm.get 8 = some (.int .i64 (j : Nat)) ∧ tm.get 47 = some (.bool bad) ∧ s = σ2) ?_ ?_
  · rw [W_region, hb1]
    by_cases e1 : k = 0
    · simp [wops_cons, wops_if', dstOf, e1]
    · by_cases e2 : j = 0
      · simp [wops_cons, wops_if', dstOf, e1, e2]
      · by_cases e3 : (at_ : Int) < 1
        · simp [wops_cons, wops_if', dstOf, e1, e2, e3]
        · by_cases e4 : 1099511627776 < (at_ : Int)
          · simp [wops_cons, wops_if', dstOf, e1, e2, e3, e4]
          · simp [wops_cons, wops_if', dstOf, e1, e2, e3, e4, hlu]
  · rintro out s ⟨tm, rfl, t2, t4, t6, t7, t8, t47, rfl⟩
    cases bad with
    | true =>
      have hQ := hbad (hb2 rfl) s hg02 hc2
      simpa [wops_cons, t2, t4, t6, t7, t8, t47, hc2] using hQ
    | false =>
      obtain ⟨hat, hnl, hjl, hde⟩ := hb3 rfl
      clear hb1 hb2 hb3
      obtain ⟨pr2, cr2, hd2, hs4⟩ := ysl_tail hs3 j (by simpa using hjl) .i64
      simp only [List.length_drop] at hs4 hd2 hjl
      have g9 : Grow s ((s.alloc (.cells [.int .u64 0, .slice none 0 0] 47 false)).put s.n (.cells [.int .u64 at_, .slice none 0 0] 47 false)) := ⟨by simp, fun j hj => by rw [CSt.get_put, if_neg (by omega), CSt.get_alloc, if_neg (by omega)]⟩
      have hc9 : ((s.alloc (.cells [.int .u64 0, .slice none 0 0] 47 false)).put s.n (.cells [.int .u64 at_, .slice none 0 0] 47 false)).get s.n = some (.cells [.int .u64 at_, .slice none 0 0] 47 false) := by simp
      have hn9 : s.n < ((s.alloc (.cells [.int .u64 0, .slice none 0 0] 47 false)).put s.n (.cells [.int .u64 at_, .slice none 0 0] 47 false)).n := by simp
      have hd2' := hd2
      rw [← sliceOp_grow hs3 g9] at hd2'
      simp [wops_cons, t2, t4, t6, t7, t8, t47, hc2, hd2']
      have hc2' := g9.get hc2 (by omega)
      have hs5 := hs4.grow g9
      have hg9 := hg02.trans g9
      generalize (s.alloc (.cells [.int .u64 0, .slice none 0 0] 47 false)).put s.n (.cells [.int .u64 at_, .slice none 0 0] 47 false) = s9 at g9 hc9 hn9 hd2' hc2' hs5 hg9
      have hσs : σ.n < s.n := by omega
      generalize s.n = c9 at hc9 hn9 hσs
      have hn29 : ¬ (σ.n = c9) := by omega
      have hn92 : ¬ (c9 = σ.n) := by omega
      refine W_loop_inv (fun m a z => ∃ tm, ∃ c : Nat, ∃ rest vr done wv, a = ⟨tm, 176, [], false⟩ ∧ tm.get 2 = some (.pointer (some ⟨σ.n, 0, none⟩)) ∧ tm.get 4 = some (.int .u64 (at_ : Nat)) ∧ tm.get 6 = some vr ∧ tm.get 7 = some (.int .u64 (c : Nat)) ∧ tm.get 9 = some (.pointer (some ⟨c9, 0, none⟩)) ∧
        (m = c ∧ c ≤ n ∧ Sl z 5 1 encY vr rest ∧ rest.length ≤ l.length ∧ dec l = (rdWs at_ c (lastK done) rest).bind (finR at_ done) ∧ z.get σ.n = some (.cells [.int .u64 0, .slice none 0 0] 47 false) ∧ z.get c9 = some (.cells [.int .u64 at_, wv] 47 false) ∧ c9 < z.n ∧ Own σ.n z 90 encWr wv done ∧ done.length + c = n ∧ Grow σ z)) ?_ n _ _ ?_
      · rintro m a z ⟨tm, c, rest, vr, done, wv, rfl, t2, t4, t6, t7, t9, rfl, hcn, hsr, hrl, hde, k2, k9, hzn, hown, hdn, hgz⟩
        obtain ⟨pw, cw, rfl⟩ := (hown.sl (sz := 4) lenWr).form
        obtain ⟨pv2, cv2, rfl⟩ := hsr.form
        rcases Nat.eq_zero_or_pos m with rfl | hpos
        · by_cases hre : rest = []
          · subst hre
            have hd : dec l = some ⟨at_, done⟩ := by rw [hde]; simp [rdWs, finR]
            have hQ := h (.agg #[.int .u64 at_, .slice pw done.length cw]) (.int .i64 0) (z.put σ.n (.cells [.int .u64 at_, .slice pw done.length cw] 47 false)) (by
              rw [hd]
              exact ⟨_, rfl, rfl, (hown.sl lenWr).fr (T := fun t => t = 47) (b := σ.n) (by decide) ((Fr.refl (fun t => t = 47) σ.n _).put (Nat.le_refl _) k2 rfl _)⟩) ⟨by simpa using hgz.n, fun j hj => by rw [CSt.get_put, if_neg (by omega)]; exact hgz.old j hj⟩
            simpa [wops_cons, t2, t4, t6, t7, t9, k2, k9, hn29, hn92] using hQ
          · have hd : dec l = none := by rw [hde]; simp [rdWs, finR, hre]
            have hlp : 0 < rest.length := List.length_pos_iff.2 hre
            have hQ := hbad hd z hgz k2
            simpa [wops_cons, t2, t4, t6, t7, t9, k2, k9, hn29, hn92, hlp, hre] using hQ
        · obtain ⟨c, rfl⟩ : ∃ c, m = c + 1 := ⟨m - 1, by omega⟩
          have hpos' : (0 : Int) < (c : Int) + 1 := by omega
          simp [wops_cons, t2, t4, t6, t7, t9, k2, k9, hpos']
          refine take_spec rest _ z hsr (by omega) _ fun z1 y1 => ?_
          have n1 := y1.n
          have k2a := y1.get k2 (by omega)
          have k9a := y1.get k9 hzn
          have hsra := hsr.grow y1
          have howa := hown.grow y1
          have hgza := hgz.trans y1
          have hstep := dec_step (at_ := (at_ : Int)) (n := c) (last := lastK done) (b := rest)
          have hwl : IntKind.i64.wrap ((rest.length : Int)) = (rest.length : Int) := IntWalk.i64_in _ (by omega)
          rcases tk_cases rest with ⟨r1, r2⟩ | ⟨sz, r, k1, r1, r2, r3, r4, r5, r6, r7⟩
          · have hd : dec l = none := by
              rw [hde, hstep]
              unfold rdText
              rw [r1]; rfl
            have hQ := hbad hd z1 hgza k2a
            simpa [wops_cons, wops_if', dstOf, r2, t2, t4, t6, t7, t9, k2a, k9a, hn29, hn92] using hQ
          · have hw1 : IntKind.i64.wrap ((rest.length : Int) - (k1 : Int)) = (r.length : Int) := by rw [IntWalk.i64_in _ (by omega)]; omega
            have hw2 : IntKind.u64.wrap (r.length : Int) = (r.length : Int) := IntWalk.u64_in _ (by omega)
            have hk0 : ¬ (k1 = 0) := by omega
            have ht1 : rdText 32 rest = if sz ≤ r.length ∧ sz ≤ 32 then some (str (r.take sz), r.drop sz) else none := by unfold rdText; rw [r1]; rfl
            by_cases e1 : (32 : Int) < (sz : Int)
            · have hd : dec l = none := by
                rw [hde, hstep, ht1, if_neg (by omega)]; rfl
              have hQ := hbad hd z1 hgza k2a
              simpa [wops_cons, wops_if', dstOf, r2, t2, t4, t6, t7, t9, k2a, k9a, hn29, hn92, hk0, e1] using hQ
            · by_cases e2 : (r.length : Int) < (sz : Int)
              · have hd : dec l = none := by
                  rw [hde, hstep, ht1, if_neg (by omega)]; rfl
                have hQ := hbad hd z1 hgza k2a
                simpa [wops_cons, wops_if', dstOf, r2, t2, t4, t6, t7, t9, k2a, k9a, hn29, hn92, hk0, e1, e2, hw1, hw2] using hQ
              · by_cases e3 : (sz : Int) < 1
                · have hd : dec l = none := by
                    have hz0 : sz = 0 := by omega
                    subst hz0
                    rw [hde, hstep, ht1, if_pos (by omega)]
                    simp only [Option.bind_some, List.take_zero]
                    have hkf : klt (lastK done) (str []) = false := by
                      cases hk : klt (lastK done) (str []) with
                      | false => rfl
                      | true => exact absurd hk (fun h => lastK_size (at_ := 0) h)
                    cases rdVer at_ (r.drop 0) with
                    | none => rfl
                    | some q => simp only [Option.bind_some, hkf]; rfl
                  have hQ := hbad hd z1 hgza k2a
                  simpa [wops_cons, wops_if', dstOf, r2, t2, t4, t6, t7, t9, k2a, k9a, hn29, hn92, hk0, e1, e2, e3, hw1, hw2] using hQ
                · rw [if_pos (by omega)] at ht1
                  rw [hstep, ht1, Option.bind_some] at hde
                  obtain ⟨q1, c1, d1, d2⟩ := ysl_mid hsra k1 (k1 + sz) (by omega) (by omega) .i64 .i64
                  have em : (rest.take (k1 + sz)).drop k1 = r.take sz := by rw [List.drop_take, r5, Nat.add_sub_cancel_left]
                  rw [em, Nat.add_sub_cancel_left] at d2
                  rw [Nat.add_sub_cancel_left] at d1
                  have hcv := ystr d2
                  obtain ⟨q2, c2, d3, d4⟩ := ysl_tail hsra (k1 + sz) (by omega) .i64
                  have et : rest.drop (k1 + sz) = r.drop sz := by rw [← r5, List.drop_drop]
                  rw [et] at d4
                  have e4 : rest.length - (k1 + sz) = (r.drop sz).length := by rw [List.length_drop]; omega
                  rw [e4] at d3 d4
                  have hw3 : IntKind.i64.wrap (sz : Int) = (sz : Int) := IntWalk.i64_in _ (by omega)
                  have hw4 : IntKind.i64.wrap ((k1 : Int) + (sz : Int)) = (k1 : Int) + (sz : Int) := IntWalk.i64_in _ (by omega)
                  obtain ⟨K, hK⟩ : ∃ K, K = str (r.take sz) := ⟨_, rfl⟩
                  obtain ⟨R, hR⟩ : ∃ R, R = r.drop sz := ⟨_, rfl⟩
                  have hRl : R.length ≤ rest.length := by rw [hR, List.length_drop]; omega
                  rw [← hR] at d3 d4 hde
                  rw [← hK] at hcv hde
                  simp only at hde
                  have gK : Grow z1 ((z1.alloc (.cells [.string ⟨#[]⟩, .int .u64 0, .string ⟨#[]⟩, .bool false] 90 false)).put z1.n (.cells [.string K, .int .u64 0, .string ⟨#[]⟩, .bool false] 90 false)) := ⟨by simp, fun j hj => by rw [CSt.get_put, if_neg (by omega), CSt.get_alloc, if_neg (by omega)]⟩
                  have hcK : ((z1.alloc (.cells [.string ⟨#[]⟩, .int .u64 0, .string ⟨#[]⟩, .bool false] 90 false)).put z1.n (.cells [.string K, .int .u64 0, .string ⟨#[]⟩, .bool false] 90 false)).get z1.n = some (.cells [.string K, .int .u64 0, .string ⟨#[]⟩, .bool false] 90 false) := by simp
                  have hnK : z1.n < ((z1.alloc (.cells [.string ⟨#[]⟩, .int .u64 0, .string ⟨#[]⟩, .bool false] 90 false)).put z1.n (.cells [.string K, .int .u64 0, .string ⟨#[]⟩, .bool false] 90 false)).n := by simp
                  have d3' := d3
                  rw [← sliceOp_grow hsra gK] at d3'
                  push_cast at d1 d3'
                  simp [wops_cons, wops_if', dstOf, r2, t2, t4, t6, t7, t9, k2a, k9a, hn29, hn92, hk0, e1, e2, e3, hw1, hw2, hw3, hw4, d1, hcv, d3']
                  have k2b := gK.get k2a (by omega)
                  have k9b := gK.get k9a (by omega)
                  have d4b := d4.grow gK
                  have howb := howa.grow gK
                  have hgzb := hgza.trans gK
                  generalize (z1.alloc (.cells [.string ⟨#[]⟩, .int .u64 0, .string ⟨#[]⟩, .bool false] 90 false)).put z1.n (.cells [.string K, .int .u64 0, .string ⟨#[]⟩, .bool false] 90 false) = z2 at gK hcK hnK d3' k2b k9b d4b howb hgzb
                  have hz12 : c9 < z1.n := by omega
                  have hσ1 : σ.n < z1.n := by omega
                  generalize hcc : z1.n = c12 at hcK hnK hz12 hσ1
                  have hm1 : ¬ (c9 = c12) := by omega
                  have hm2 : ¬ (c12 = c9) := by omega
                  have hm3 : ¬ (σ.n = c12) := by omega
                  have hm4 : ¬ (c12 = σ.n) := by omega
                  refine take_spec R _ z2 d4b (by omega) _ fun z3 y3 => ?_
                  have n3 := y3.n
                  have k2c := y3.get k2b (by omega)
                  have k9c := y3.get k9b (by omega)
                  have k12c := y3.get hcK hnK
                  have d4c := d4b.grow y3
                  have howc := howb.grow y3
                  have hgzc := hgzb.trans y3
                  have hwR : IntKind.i64.wrap ((R.length : Int)) = (R.length : Int) := IntWalk.i64_in _ (by omega)
                  rcases tk_cases R with ⟨s1, s2⟩ | ⟨sy, r', k2, s1, s2, s3, s4, s5, s6, s7⟩
                  · have hd : dec l = none := by
                      rw [hde]
                      unfold rdVer
                      rw [s1]; rfl
                    have hQ := hbad hd z3 hgzc k2c
                    simpa [wops_cons, wops_if', dstOf, s2, t2, t4, t6, t7, t9, k2c, k9c, k12c, hm3, hm4, hn29, hn92] using hQ
                  · have hv1 : IntKind.i64.wrap ((R.length : Int) - (k2 : Int)) = (r'.length : Int) := by rw [IntWalk.i64_in _ (by omega)]; omega
                    have hv2 : IntKind.u64.wrap (r'.length : Int) = (r'.length : Int) := IntWalk.u64_in _ (by omega)
                    have hk20 : ¬ (k2 = 0) := by omega
                    have ht2 : rdVer at_ R = if sy = 0 then some (⟨at_, str [], true⟩, r') else if sy ≤ 201 ∧ sy - 1 ≤ r'.length then some (⟨at_, str (r'.take (sy - 1)), false⟩, r'.drop (sy - 1)) else none := by unfold rdVer; rw [s1]; rfl
                    obtain ⟨q5, c5, d5, d6⟩ := ysl_tail d4c k2 s4 .i64
                    rw [s5, ← s6] at d6
                    rw [← s6] at d5
                    by_cases f1 : (201 : Int) < (sy : Int)
                    · have hd : dec l = none := by
                        rw [hde, ht2, if_neg (by omega), if_neg (by omega)]; rfl
                      have hQ := hbad hd z3 hgzc k2c
                      simpa [wops_cons, wops_if', dstOf, s2, t2, t4, t6, t7, t9, k2c, k9c, k12c, hm3, hm4, hn29, hn92, hk20, f1] using hQ
                    by_cases f2 : 0 < sy ∧ (r'.length : Int) < (sy : Int) - 1
                    · have hd : dec l = none := by
                        rw [hde, ht2, if_neg (by omega), if_neg (by omega)]; rfl
                      have hQ := hbad hd z3 hgzc k2c
                      have f3 : (0 : Int) < (sy : Int) := by omega
                      have f4 := f2.1
                      have f5 := f2.2
                      have f6 : IntKind.u64.wrap ((sy : Int) - 1) = (sy : Int) - 1 := IntWalk.u64_in _ (by omega)
                      simpa [wops_cons, wops_if', dstOf, s2, t2, t4, t6, t7, t9, k2c, k9c, k12c, hm3, hm4, hn29, hn92, hk20, f1, f3, f4, f5, f6, hv1, hv2] using hQ
                    -- the version is read
                    obtain ⟨val, R2, hRV, hvv⟩ : ∃ val R2, rdVer at_ R = some (⟨at_, val, decide (sy = 0)⟩, R2) ∧ ((sy = 0 ∧ val = str [] ∧ R2 = r') ∨ (0 < sy ∧ sy - 1 ≤ r'.length ∧ val = str (r'.take (sy - 1)) ∧ R2 = r'.drop (sy - 1))) := by
                      rcases Nat.eq_zero_or_pos sy with h0 | h0
                      · exact ⟨_, _, by rw [ht2, if_pos h0, h0]; rfl, .inl ⟨h0, rfl, rfl⟩⟩
                      · exact ⟨_, _, by rw [ht2, if_neg (by omega), if_pos (by omega), decide_eq_false (by omega : ¬ sy = 0)], .inr ⟨h0, by omega, rfl, rfl⟩⟩
                    have hne5 : ∀ i, objOf (.slice q2 R.length c2) = some i → i ≠ c12 := by
                      intro i hi
                      rcases d4c with ⟨e, _⟩ | ⟨i', off, cap, row, ro, e, g1, _⟩
                      · rw [e] at hi; cases hi
                      · rw [e] at hi; cases hi
                        rintro rfl
                        rw [k12c] at g1
                        cases g1
                    have d5p : ∀ X, sliceOp Tryz.prog (z3.put c12 X) 25 (.slice q2 R.length c2) (some (.int .i64 k2)) none none = some (.slice q5 r'.length c5) := fun X => by
                      rw [sliceOp_get (σ := z3) fun i hi => by rw [CSt.get_put, if_neg (hne5 i hi)]]; exact d5
                    have d5q : ∀ X Y, sliceOp Tryz.prog ((z3.put c12 X).put c12 Y) 25 (.slice q2 R.length c2) (some (.int .i64 k2)) none none = some (.slice q5 r'.length c5) := fun X Y => by
                      rw [sliceOp_get (σ := z3) fun i hi => by rw [CSt.get_put, if_neg (hne5 i hi), CSt.get_put, if_neg (hne5 i hi)]]; exact d5
                    have f6 : 0 < sy → IntKind.u64.wrap ((sy : Int) - 1) = (sy : Int) - 1 := fun h => IntWalk.u64_in _ (by omega)
                    have hz4 : ∃ z4, z4 = (z3.put c12 (.cells [.string K, .int .u64 at_, .string ⟨#[]⟩, .bool false] 90 false)).put c12 (.cells [.string K, .int .u64 at_, .string ⟨#[]⟩, .bool (decide (sy = 0))] 90 false) := ⟨_, rfl⟩
                    obtain ⟨z4, hz4⟩ := hz4
                    have fz4 : Fr (fun t => t = 90) σ.n z3 z4 := by
                      rw [hz4]
                      exact ((Fr.refl (fun t => t = 90) σ.n z3).put (by omega) k12c rfl _).put (row := [.string K, .int .u64 at_, .string ⟨#[]⟩, .bool false]) (ro := false) (by omega) (by simp) rfl _
                    have hb4 : But c12 z3 z4 := by rw [hz4]; exact ⟨by simp, fun j hj hne => by rw [CSt.get_put, if_neg hne, CSt.get_put, if_neg hne]⟩
                    have k12d : z4.get c12 = some (.cells [.string K, .int .u64 at_, .string ⟨#[]⟩, .bool (decide (sy = 0))] 90 false) := by rw [hz4]; simp
                    have d6d := d6.fr (by decide) fz4
                    have n4 := fz4.1
                    simp [wops_cons, wops_if', dstOf, s2, t2, t4, t6, t7, t9, k2c, k9c, k12c, hm1, hm2, hm3, hm4, hn29, hn92, -W_region]
                    refine W_cut (fun out s => ∃ tm, out = .code .normal ⟨tm, 176, [], false⟩ ∧ tm.get 2 = some (.pointer (some ⟨σ.n, 0, none⟩)) ∧ tm.get 4 = some (.int .u64 (at_ : Nat)) ∧ tm.get 7 = some (.int .u64 ((c : Int) + 1)) ∧ tm.get 9 = some (.pointer (some ⟨c9, 0, none⟩)) ∧ tm.get 12 = some (.pointer (some ⟨c12, 0, none⟩)) ∧ tm.get 6 = some (.slice q2 R.length c2) ∧ tm.get 10 = some (.int .u64 (sy : Nat)) ∧ tm.get 11 = some (.int .i64 (k2 : Nat)) ∧ tm.get 122 = some (.bool false) ∧ s = z3) ?_ ?_
                    · rw [W_region]
                      rcases Nat.eq_zero_or_pos sy with f2' | f2'
                      · have f3 : ¬ (0 : Int) < (sy : Int) := by omega
                        have f3' : ¬ 0 < sy := by omega
                        simp [wops_cons, wops_if', dstOf, s2, t2, t4, t6, t7, t9, hk20, f1, f3, f3']
                      · have f3 : (0 : Int) < (sy : Int) := by omega
                        have f5 : ¬ ((r'.length : Int) < (sy : Int) - 1) := fun h => f2 ⟨f2', h⟩
                        have f7 := f6 f2'
                        simp [wops_cons, wops_if', dstOf, s2, t2, t4, t6, t7, t9, hk20, f1, f3, f2', f5, f7, hv1, hv2]
                    · rintro out z ⟨tm, rfl, t2, t4, t7, t9, t12, t6, t10, t11, t122, rfl⟩
                      simp [wops_cons, t2, t4, t6, t7, t9, t10, t11, t12, t122]
                      refine W_drawn (l := [0, 1, 2, 3, 4, 5, 6, 7, 8, 9, 10, 11, 12]) (b := #[0, 0, 2, 0, 0, 24, 1, 65, 193, 455, 967, 1991, 4095]) (by kernel_rfl) (by kernel_rfl) (by kernel_rfl) ?_
                      simp [wops_cons, dopsR_cons, opAt, isEff, again, befBits, isRead, Nat.add_assoc, Nat.testBit_eq_decide_div_mod_eq, t2, t4, t6, t7, t9, t10, t11, t12, k2c, k9c, k12c, hm1, hm2, hm3, hm4, hn29, hn92, d5, d5p, d5q, -W_condK]
                      rw [← hz4]
                      refine W_cut (fun out y => ∃ tm q7 c7, out = .code .normal ⟨tm, 176, [], false⟩ ∧ tm.get 2 = some (.pointer (some ⟨σ.n, 0, none⟩)) ∧ tm.get 4 = some (.int .u64 (at_ : Nat)) ∧ tm.get 7 = some (.int .u64 ((c : Int) + 1)) ∧ tm.get 9 = some (.pointer (some ⟨c9, 0, none⟩)) ∧ tm.get 12 = some (.pointer (some ⟨c12, 0, none⟩)) ∧ tm.get 6 = some (.slice q7 R2.length c7) ∧ Sl y 5 1 encY (.slice q7 R2.length c7) R2 ∧ y.get c12 = some (.cells [.string K, .int .u64 at_, .string val, .bool (decide (sy = 0))] 90 false) ∧ But c12 z y) ?_ ?_
                      · rcases hvv with ⟨h0, rfl, rfl⟩ | ⟨h0, h1, rfl, rfl⟩
                        · subst h0
                          simp [wops_cons, t2, t4, t6, t7, t9, t10, t11, t12]
                          exact ⟨q5, c5, ⟨rfl, rfl⟩, d6d, k12d, hb4⟩
                        · obtain ⟨m, rfl⟩ : ∃ m, sy = m + 1 := ⟨sy - 1, by omega⟩
                          rw [Nat.add_sub_cancel] at h1
                          have hm0 : (0 : Int) < (m : Int) + 1 := by omega
                          have hmu : IntKind.u64.wrap (m : Int) = (m : Int) := IntWalk.u64_in _ (by omega)
                          obtain ⟨q6, c6, x1, x2⟩ := ysl_head d6d m h1 .u64
                          obtain ⟨q7, c7, x3, x4⟩ := ysl_tail d6d m h1 .u64
                          have hcv2 := ystr x2
                          simp [wops_cons, t2, t4, t6, t7, t9, t10, t11, t12, hm0]
                          refine W_drawn (l := [0, 1, 2, 3, 4, 5, 6, 7, 8, 9, 10, 11, 12]) (b := #[0, 0, 2, 7, 15, 0, 0, 64, 224, 31, 543, 1567, 4095]) (by kernel_rfl) (by kernel_rfl) (by kernel_rfl) ?_
                          have hno : objOf (.slice q5 r'.length c5) ≠ some c12 := by
                            intro e
                            rcases d6d with ⟨e2, _⟩ | ⟨i', off, cap, row, ro, e2, g1, _⟩
                            · rw [e2] at e; cases e
                            · rw [e2] at e; cases e
                              rw [k12d] at g1
                              cases g1
                          have x3p : ∀ X, sliceOp Tryz.prog (z4.put c12 X) 25 (.slice q5 r'.length c5) (some (.int .u64 m)) none none = some (.slice q7 (r'.length - m) c7) := fun X => by
                            rw [sliceOp_get (σ := z4) fun i hi => by rw [CSt.get_put, if_neg (fun e => hno (by rw [hi, e]))]]; exact x3
                          simp [dopsR_cons, opAt, isEff, again, befBits, isRead, Nat.add_assoc, Nat.testBit_eq_decide_div_mod_eq, t2, t4, t6, t7, t9, t10, t11, t12, hm0, hmu, x1, x3, x3p, hcv2, k12d]
                          exact ⟨q7, c7, ⟨rfl, rfl⟩, x4.fr (T := fun t => t = 90) (b := σ.n) (by decide) ((Fr.refl (fun t => t = 90) σ.n z4).put (by omega) k12d rfl _), ⟨by simpa using hb4.1, fun j hj hne => by rw [CSt.get_put, if_neg hne]; exact hb4.2 j hj hne⟩⟩
                      · rintro out y ⟨tm, q7, c7, rfl, t2, t4, t7, t9, t12, t6, hs7, k12e, hby⟩
                        have hny := hby.1
                        have hno : objOf (.slice pw done.length cw) ≠ some c12 := fun e => by have := howa.obj_lt e; omega
                        have howy := howc.but' hno hby
                        have k2y : y.get σ.n = some (.cells [.int .u64 0, .slice none 0 0] 47 false) := by rw [hby.2 _ (by omega) hm3]; exact k2c
                        have k9y : y.get c9 = some (.cells [.int .u64 at_, .slice pw done.length cw] 47 false) := by rw [hby.2 _ (by omega) hm1]; exact k9c
                        have hgy : Grow σ y := ⟨by omega, fun j hj => by rw [hby.2 j (by omega) (by omega)]; exact hgzc.old j hj⟩
                        rw [hRV, Option.bind_some] at hde
                        simp only at hde
                        have hR2l : R2.length ≤ R.length := by
                          rcases hvv with ⟨_, _, e⟩ | ⟨_, _, _, e⟩
                          · rw [e]; omega
                          · rw [e, List.length_drop]; omega
                        clear hvv hRV hz4 hb4 k12d d6d fz4 d5p d5q hne5 ht2 ht1
                        simp [wops_cons, t2, t4, t6, t7, t9, t12, k9y, k12e, k2y]
                        refine W_cut (fun out s => ∃ tm, out = .code .normal ⟨tm, 176, [], false⟩ ∧ tm.get 2 = some (.pointer (some ⟨σ.n, 0, none⟩)) ∧ tm.get 4 = some (.int .u64 (at_ : Nat)) ∧ tm.get 7 = some (.int .u64 ((c : Int) + 1)) ∧ tm.get 9 = some (.pointer (some ⟨c9, 0, none⟩)) ∧ tm.get 12 = some (.pointer (some ⟨c12, 0, none⟩)) ∧ tm.get 6 = some (.slice q7 R2.length c7) ∧ tm.get 163 = some (.bool (!klt (lastK done) K)) ∧ s = y) ?_ ?_
                        · refine W_calm (by kernel_rfl) ?_
                          by_cases hnil : done = []
                          · subst hnil
                            have hKs : klt (lastK []) K = true := by
                              show klt (str []) K = true
                              rw [klt_empty, hK, size_str, List.length_take]
                              simp
                              omega
                            rw [hKs]
                            simp [dops_cons, dops_if, dstOf, t2, t4, t6, t7, t9, t12, k9y, k12e, k2y]
                          · obtain ⟨m, hm⟩ : ∃ m, done.length = m + 1 := ⟨done.length - 1, by have := List.length_pos_iff.2 hnil; omega⟩
                            have hma : m < done.length := by omega
                            rw [lastK_get hm]
                            obtain ⟨i, off2, row2, ro2, rfl, hgi, hin, hrow2, hle3⟩ := (howy.sl (sz := 4) lenWr).at hma
                            have hcl := row_cell (enc := encWr) lenWr hrow2 m 0 hma (by decide)
                            have hle4 := row_le hle3 m hma
                            simp only [hm] at k9y
                            have hwm : IntKind.i64.wrap (m : Int) = (m : Int) := IntWalk.i64_in _ (by omega)
                            have hmp : (0 : Int) < (m : Int) + 1 := by omega
                            have hmq : (m : Int) < (m : Int) + 1 := by omega
                            simp [encWr] at hcl
                            simp [dops_cons, dops_if, dstOf, t2, t4, t6, t7, t9, t12, k9y, k12e, k2y, hm, hgi, hcl, hle4, hwm, hmp, hmq]
                        · rintro out z ⟨tm, rfl, t2, t4, t7, t9, t12, t6, t163, rfl⟩
                          cases hk : klt (lastK done) K with
                          | false =>
                            rw [hk] at hde t163
                            have hQ := hbad hde z hgy k2y
                            simpa [wops_cons, t2, t4, t6, t7, t9, t12, t163, k9y, k12e, k2y, hn29, hn92] using hQ
                          | true =>
                            rw [hk] at hde t163
                            simp only [if_true] at hde
                            obtain ⟨p9, cc9, s9, a1, a2, a3, a4⟩ := app_wr (x := ⟨K, ⟨at_, val, decide (sy = 0)⟩⟩) howy hgy.n (by omega)
                            simp [encWr] at a1
                            have f9 : Fr (fun t => t = 90) σ.n z s9 := howy.z.frV a3
                            have k2d := f9.get k2y (by omega) (.inr fun row e ro he => by cases he; decide)
                            have k9d := f9.get k9y (by omega) (.inr fun row e ro he => by cases he; decide)
                            have sn9 := f9.1
                            have hwc : IntKind.u64.wrap (c : Int) = (c : Int) := IntWalk.u64_in _ (by omega)
                            have hn90 : ¬ (c9 = z.n) := by omega
                            simp [wops_cons, t2, t4, t6, t7, t9, t12, t163, k9y, k12e, k2y, hn29, hn92, hn90, a1, k9d, hwc]
                            have f10 : Fr (fun t => t = 47) σ.n s9 (s9.put c9 (.cells [.int .u64 at_, .slice p9 (done.length + 1) cc9] 47 false)) := (Fr.refl (fun t => t = 47) σ.n _).put (by omega) k9d rfl _
                            refine ⟨c, by omega, c, rfl, rfl, by omega, R2, (hs7.fr (by decide) f9).fr (by decide) f10, ?_, done ++ [⟨K, ⟨at_, val, decide (sy = 0)⟩⟩], ?_, k2d, by omega, a2.fr (T := fun t => t = 47) (by decide) f10, by simp; omega, (((hgy.fr (T := fun t => t = 90 ∨ t = 47)).trans (f9.mono (fun _ => .inl) (Nat.le_refl _))).trans (f10.mono (fun _ => .inr) (Nat.le_refl _))).grow (Nat.le_refl _)⟩
                            · omega
                            · rw [hde, lastK_snoc]
                              cases rdWs at_ c K R2 with
                              | none => rfl
                              | some q => simp [finR]
      · exact ⟨_, n, (l.drop k).drop j, .slice pr2 (l.length - k - j) cr2, [], .slice none 0 0, rfl, by simp [t2], by simp [t4], by simp, by simp [t7], by simp, rfl, Nat.le_refl _, hs5, by simp, hde, hc2', hc9, hn9, Own.nil, by simp, hg9⟩
end Go.Sm
/- RecordRaw, walked. -/
set_option linter.unusedVariables false
set_option linter.unusedSimpArgs false
namespace Go.Sm
open Go Go.Proofs
set_option maxRecDepth 100000
set_option maxHeartbeats 4000000
/-- A record's cell, filled. -/
theorem cell47 (s : CSt) (a b : Value) : ∃ z, z = (s.alloc (.cells [.int .u64 0, .slice none 0 0] 47 false)).put s.n (.cells [a, b] 47 false) ∧ Grow s z ∧ z.get s.n = some (.cells [a, b] 47 false) ∧ s.n < z.n :=
  ⟨_, rfl, ⟨by simp, fun j hj => by rw [CSt.get_put, if_neg (by omega), CSt.get_alloc, if_neg (by omega)]⟩, by simp, by simp⟩
theorem rdWs_len {at_ : Int} : ∀ {n : Nat} {last : ByteArray} {b : List UInt8} {ws : List Wri} {r : List UInt8}, rdWs at_ n last b = some (ws, r) → ws.length = n
  | 0, _, _, _, _, h => by cases h; rfl
  | n + 1, last, b, ws, r, h => by
    rw [dec_step] at h
    cases h1 : rdText 32 b with
    | none => rw [h1] at h; cases h
    | some p =>
      rw [h1, Option.bind_some] at h
      cases h2 : rdVer at_ p.2 with
      | none => rw [h2] at h; cases h
      | some q =>
        rw [h2, Option.bind_some] at h
        split at h
        · obtain ⟨x, hx, he⟩ := Option.map_eq_some_iff.1 h
          cases he
          rw [List.length_cons, rdWs_len hx]
        · cases h
theorem dec_small {b : List UInt8} {R : Rcd} (h : dec b = some R) : R.ws.length ≤ b.length := by
  unfold dec at h
  cases h1 : rd b with
  | none => rw [h1] at h; cases h
  | some p =>
    rw [h1, Option.bind_some] at h
    cases h2 : rd p.2 with
    | none => rw [h2] at h; cases h
    | some q =>
      rw [h2, Option.bind_some] at h
      split at h
      · rename_i hc
        cases h3 : rdWs p.1 q.1 (str []) q.2 with
        | none => rw [h3] at h; cases h
        | some x =>
          rw [h3, Option.bind_some] at h
          split at h
          · cases h
            have := rdWs_len h3
            simp only
            omega
          · cases h
      · cases h
/-- Both decoded, and compared: what both laws end with. -/
theorem law_RecordRaw (l : List UInt8) (v : Value) (σ : CSt) (hn : gnone σ) (hz : 1 < σ.n) (hsl : Sl σ 5 1 encY v l) : W E1 (.fn 4 #[v] none) σ isTrueP := by
  rw [W_fn (fn := Tryz.f4) Tryz.func4 rfl rfl rfl]
  obtain ⟨pl, cl, rfl⟩ := hsl.form
  simp [wops_cons]
  rw [awake_spec rfl hn]
  simp [wops_cons]
  by_cases hl : 300 < l.length
  · have hl' : (300 : Int) < l.length := by omega
    simp [wops_cons, hl', isTrueP]
  have hl' : ¬ (300 : Int) < l.length := by omega
  simp [wops_cons, hl']
  refine rdec_spec l _ σ hsl (by omega) _ fun a1 e1 σ1 hr1 g1 => ?_
  cases hd : dec l with
  | none =>
    rw [hd] at hr1
    obtain ⟨rfl, rfl⟩ := hr1
    obtain ⟨z1, hz1, gz1, hc1, hn1⟩ := cell47 σ1 (.int .u64 0) (.slice none 0 0)
    simp [wops_cons]
    rw [← hz1]
    refine ldec_spec l _ z1 ((hsl.grow g1).grow gz1) (by omega) _ fun a2 e2 σ2 hr2 g2 => ?_
    rw [hd] at hr2
    obtain ⟨rfl, rfl⟩ := hr2
    obtain ⟨z2, hz2, gz2, hc2, hn2⟩ := cell47 σ2 (.int .u64 0) (.slice none 0 0)
    have hne : ¬ (σ1.n = σ2.n) := by have := g2.n; omega
    have hc1b := g2.get hc1 hn1
    simp [wops_cons, wops_if', dstOf, hne, hc1b]
    refine same_spec ⟨0, []⟩ ⟨0, []⟩ _ _ _ Sl.nil Sl.nil (by simp) _ fun σ3 g3 => ?_
    simp [wops_cons, wops_if', dstOf, isTrueP]
  | some R =>
    rw [hd] at hr1
    obtain ⟨v1, rfl, rfl, hs1⟩ := hr1
    obtain ⟨p1, c1, rfl⟩ := hs1.form
    obtain ⟨z1, hz1, gz1, hc1, hn1⟩ := cell47 σ1 (.int .u64 R.at_) (.slice p1 R.ws.length c1)
    simp [wops_cons]
    rw [← hz1]
    refine ldec_spec l _ z1 ((hsl.grow g1).grow gz1) (by omega) _ fun a2 e2 σ2 hr2 g2 => ?_
    rw [hd] at hr2
    obtain ⟨v2, rfl, rfl, hs2⟩ := hr2
    obtain ⟨p2, c2, rfl⟩ := hs2.form
    obtain ⟨z2, hz2, gz2, hc2, hn2⟩ := cell47 σ2 (.int .u64 R.at_) (.slice p2 R.ws.length c2)
    have hne : ¬ (σ1.n = σ2.n) := by have := g2.n; omega
    have hc1b := g2.get hc1 hn1
    simp [wops_cons, wops_if', dstOf, hne, hc1b]
    rw [← hz2]
    refine same_spec R R _ _ _ (((hs1.grow gz1).grow g2).grow gz2) (hs2.grow gz2) ?_ _ fun σ3 g3 => ?_
    · have := dec_small hd
      omega
    simp [wops_cons, wops_if', dstOf, isTrueP]
end Go.Sm
/- slices.Concat of bytes. -/
set_option linter.unusedVariables false
set_option linter.unusedSimpArgs false
namespace Go.Sm
open Go Go.Proofs
set_option maxRecDepth 100000
set_option maxHeartbeats 4000000
section
attribute [local simp] sliceOp_open3 sliceOp_cap sliceOp_open sliceOp_nil appendOp_K appendOp_N copyOp_K
theorem growY_spec (n : Nat) (hn : n < 2 ^ 30) (σ : CSt) (Q : Out → CSt → Prop) (h : ∀ v σ', OwnZ σ.n σ' 5 encY v [] → Grow σ σ' → Q (.ret v false) σ') : W E1 (.fn 52 #[.slice none 0 0, .int .i64 n] none) σ Q := by
  rw [W_fn (fn := Tryz.f52) Tryz.func52 rfl rfl rfl]
  have hw : IntKind.i64.wrap (n : Int) = n := IntWalk.i64_in _ (by omega)
  have hw0 : IntKind.i64.wrap 0 = 0 := by decide
  have h1 : ¬ (n : Int) < 0 := by omega
  rcases Nat.eq_zero_or_pos n with rfl | h0
  · have hQ := h _ σ OwnZ.nil (Grow.refl σ)
    simpa [wops_cons, hw0] using hQ
  · have h2 : (0 : Int) < n := by omega
    have h3 : (n : Int) ≤ 140737488355328 := by omega
    have h4 : n ≤ 140737488355328 := by omega
    have h5 : ¬ n = 0 := by omega
    have hck : cokL (List.replicate n (Value.int .u8 0)) = true := by
      unfold cokL
      rw [List.all_eq_true]
      intro x hx
      rw [List.eq_of_mem_replicate hx]
      rfl
    have hQ := h (.slice (some ⟨σ.n, 0, none⟩) 0 openCap) (σ.alloc (.cells (List.replicate n [Value.int .u8 0]).flatten 5 false)) (.inr ⟨σ.n, openCap, _, rfl, Nat.le_refl _, by simp, by simp; rfl, by simpa using hck, .inl rfl⟩) ((Grow.refl σ).alloc _)
    simpa [wops_cons, hw, hw0, h1, h2, h0, h3, h4, h5, hck, appNK, appendF, sliceO] using hQ
end
def encP (p : Value × List UInt8) : List Value := [p.1]
theorem lenP (p : Value × List UInt8) : (encP p).length = 1 := rfl
def catL (vs : List (Value × List UInt8)) : List UInt8 := vs.flatMap (·.2)
theorem catL_take (vs : List (Value × List UInt8)) (i : Nat) (h : i < vs.length) : catL (vs.take (i + 1)) = catL (vs.take i) ++ vs[i].2 := by
  unfold catL
  rw [List.take_succ_eq_append_getElem h, List.flatMap_append]; simp
theorem catL_le (vs : List (Value × List UInt8)) (i : Nat) : (catL (vs.take i)).length ≤ (catL vs).length := by
  unfold catL
  conv => rhs; rw [← List.take_append_drop i vs, List.flatMap_append, List.length_append]
  omega
theorem concatY_spec (vs : List (Value × List UInt8)) (v : Value) (σ : CSt) (hvs : ∀ p ∈ vs, Sl σ 5 1 encY p.1 p.2) (hv : Sl σ 25 1 encP v vs) (hbig : (catL vs).length < 2 ^ 30) (hn : vs.length < 2 ^ 20) (Q : Out → CSt → Prop)
    (h : ∀ v' σ', OwnZ σ.n σ' 5 encY v' (catL vs) → Grow σ σ' → Q (.ret v' false) σ') : W E1 (.fn 26 #[v] none) σ Q := by
  rw [W_fn (fn := Tryz.f26) Tryz.func26 rfl rfl rfl]
  obtain ⟨pv, cv, rfl⟩ := hv.form
  simp [wops_cons]
  refine W_loop_J (fun n a s => ∃ tm, ∃ i : Nat, a = ⟨tm, 36, [], false⟩ ∧ tm.get 0 = some (.slice pv vs.length cv) ∧ tm.get 3 = some (.int .i64 (catL (vs.take i)).length) ∧ tm.get 9 = some (.slice pv vs.length cv) ∧ tm.get 10 = some (.int .i64 vs.length) ∧ tm.get 11 = some (.int .i64 (i : Nat)) ∧ (i ≤ vs.length ∧ n = vs.length - i ∧ s = σ))
    (fun out s => ∃ tm, out = .code (.exit 0) ⟨tm, 36, [], false⟩ ∧ tm.get 0 = some (.slice pv vs.length cv) ∧ tm.get 3 = some (.int .i64 (catL vs).length) ∧ s = σ) ?_ vs.length _ _ ?_ ?_
  · rintro n a s ⟨tm, i, rfl, t0, t3, t9, t10, t11, hi, hn', rfl⟩
    by_cases hlt : i < vs.length
    · have hlt' : (i : Int) < (vs.length : Int) := by omega
      obtain ⟨j, off, row, ro, rfl, hgj, hjn, hrow, hle⟩ := hv.at hlt
      have hld := row_cell (enc := encP) lenP hrow i 0 hlt (by decide)
      have hle2 := row_le hle i hlt
      have hw1 := i64s i (by omega)
      have hct := catL_take vs i hlt
      have hcl := catL_le vs (i + 1)
      have hsp := hvs _ (List.getElem_mem hlt)
      generalize hp : vs[i] = p at hld hct hsp
      obtain ⟨pv1, l1⟩ := p
      simp only at hsp
      obtain ⟨q1, c1, rfl⟩ := hsp.form
      rw [hct, List.length_append] at hcl
      simp only at hct hcl
      have hw2 : IntKind.i64.wrap (((catL (vs.take i)).length : Int) + (l1.length : Int)) = ((catL (vs.take i)).length : Int) + (l1.length : Int) := IntWalk.i64_in _ (by omega)
      have hneg : ¬ (((catL (vs.take i)).length : Int) + (l1.length : Int) < 0) := by omega
      simp [encP] at hld
      simp at hle2
      simp [wops_cons, t0, t3, t9, t10, t11, hlt, hlt', hgj, hld, hle2, hw1, hw2, hneg]
      exact ⟨vs.length - (i + 1), by omega, i + 1, by rw [hct, List.length_append]; simp, by omega, by omega, rfl⟩
    · have hie : i = vs.length := by omega
      subst hie
      rw [List.take_of_length_le (Nat.le_refl _)] at t3
      simp [wops_cons, t0, t3, t9, t10, t11]
  · exact ⟨_, 0, rfl, by simp, by simp [catL], by simp, by simp, by simp, by omega, rfl, rfl⟩
  · rintro out s ⟨tm, rfl, t0, t3, rfl⟩
    simp [wops_cons, t0, t3]
    refine growY_spec (catL vs).length hbig s _ fun v1 σ1 o1 g1 => ?_
    obtain ⟨p1, c1, rfl⟩ := (o1.sl (sz := 1) encY_len).form
    simp [wops_cons, t0, t3]
    refine W_loop_inv (fun n a z => ∃ tm, ∃ i : Nat, ∃ w, a = ⟨tm, 36, [], false⟩ ∧ tm.get 6 = some w ∧ tm.get 25 = some (.slice pv vs.length cv) ∧ tm.get 26 = some (.int .i64 vs.length) ∧ tm.get 27 = some (.int .i64 (i : Nat)) ∧ (i ≤ vs.length ∧ n = vs.length - i ∧ OwnZ s.n z 5 encY w (catL (vs.take i)) ∧ Grow s z)) ?_ vs.length _ _ ?_
    · rintro n a z ⟨tm, i, w, rfl, t6, t25, t26, t27, hi, hn', ow, gz⟩
      have hvz := hv.grow gz
      obtain ⟨pw, cw, rfl⟩ := (ow.sl (sz := 1) encY_len).form
      by_cases hlt : i < vs.length
      · have hlt' : (i : Int) < (vs.length : Int) := by omega
        obtain ⟨j, off, row, ro, rfl, hgj, hjn, hrow, hle⟩ := hvz.at hlt
        have hld := row_cell (enc := encP) lenP hrow i 0 hlt (by decide)
        have hle2 := row_le hle i hlt
        have hw1 := i64s i (by omega)
        have hct := catL_take vs i hlt
        have hcl := catL_le vs (i + 1)
        have hsp := hvs _ (List.getElem_mem hlt)
        generalize hp : vs[i] = p at hld hct hsp
        obtain ⟨pv1, l1⟩ := p
        simp only at hsp
        rw [hct, List.length_append] at hcl
        simp only at hct hcl
        obtain ⟨v', σ', a1, a2, a3, a4⟩ := append_Z (P := Tryz.prog) (ts := #[25, 25]) (e := 5) (sz := 1) (enc := encY) (m := l1) ef25 (by simp) encY_len encY_cok rfl (by decide) (by decide) rfl ow gz.n (hsp.grow gz) (by show _ * 1 ≤ _; omega) (by omega)
        have hg' : Grow s σ' := (gz.fr.trans (ow.frV a3)).grow (Nat.le_refl _)
        obtain ⟨pv', cv', rfl⟩ := (a2.sl (sz := 1) encY_len).form
        obtain ⟨q1, c1, rfl⟩ := hsp.form
        simp [encP] at hld
        simp at hle2
        simp only [List.length_append] at a1 a2
        simp [wops_cons, t6, t25, t26, t27, hlt, hlt', hgj, hld, hle2, hw1, a1]
        exact ⟨vs.length - (i + 1), by omega, i + 1, by omega, by omega, rfl, by rw [hct]; exact a2, hg'⟩
      · have hie : i = vs.length := by omega
        subst hie
        rw [List.take_of_length_le (Nat.le_refl _)] at ow t6
        have hQ := h _ z ow gz
        simpa [wops_cons, t6, t25, t26, t27] using hQ
    · exact ⟨_, 0, .slice p1 0 c1, rfl, by simp, by simp [t0], by simp, by simp, by omega, rfl, by simpa [catL] using o1, g1⟩
end Go.Sm
/- RecordBack, walked. -/
set_option linter.unusedVariables false
set_option linter.unusedSimpArgs false
namespace Go.Sm
open Go Go.Proofs
set_option maxRecDepth 100000
set_option maxHeartbeats 4000000
theorem ver_small {r : Rcd} (h : GoodR r) : ∀ w ∈ r.ws, w.ver.val.size < 2 ^ 37 := fun w hw => by
  have := (h.ws w hw).2.2.1.2
  omega
theorem law_RecordBack (a0 : Int) (h0 : 0 ≤ a0) (h1 : a0 ≤ 18446744073709551615) (l : List LW) (hok : ∀ w ∈ l, w.ok) (v : Value) (σ : CSt) (hn : gnone σ) (hz : 1 < σ.n) (hsl : Sl σ 30 3 encLW v l) : W E1 (.fn 6 #[.int .u64 a0, v] none) σ isTrueP := by
  obtain ⟨a, rfl⟩ : ∃ a : Nat, a0 = a := ⟨a0.toNat, by omega⟩
  rw [W_fn (fn := Tryz.f6) Tryz.func6 rfl rfl rfl]
  obtain ⟨pl, cl, rfl⟩ := hsl.form
  simp [wops_cons]
  rw [awake_spec rfl hn]
  simp [wops_cons]
  by_cases hl : 30 < l.length
  · have hl' : (30 : Int) < l.length := by omega
    simp [wops_cons, hl', isTrueP]
  have hl' : ¬ (30 : Int) < l.length := by omega
  simp [wops_cons, hl']
  refine make_spec a l _ σ (by omega) hok hsl (by omega) _ fun v1 σ1 o1 g1 => ?_
  have hgr := makeR_ok a l
  have hlen := makeR_len a l
  have hser := goodR_len hgr (by omega)
  have hdec := dec_ser hgr (by omega)
  have hsm := ver_small hgr
  have hat := hgr.at2
  generalize makeR a l = R at o1 hgr hlen hser hdec hsm hat
  obtain ⟨at_, ws⟩ := R
  simp only at o1 hlen hat
  have hser : (serR ⟨at_, ws⟩).length < 2 ^ 20 := by
    simp only at hser
    omega
  obtain ⟨p1, c1, rfl⟩ := (o1.sl (sz := 4) lenWr).form
  simp [wops_cons]
  have gb : Grow σ1 ((σ1.alloc (.cells [.int .u64 0, .slice none 0 0] 47 false)).put σ1.n (.cells [.int .u64 at_, .slice p1 ws.length c1] 47 false)) := ⟨by simp, fun j hj => by rw [CSt.get_put, if_neg (by omega), CSt.get_alloc, if_neg (by omega)]⟩
  have hc5 : ((σ1.alloc (.cells [.int .u64 0, .slice none 0 0] 47 false)).put σ1.n (.cells [.int .u64 at_, .slice p1 ws.length c1] 47 false)).get σ1.n = some (.cells [.int .u64 at_, .slice p1 ws.length c1] 47 false) := by simp
  have hn5 : σ1.n < ((σ1.alloc (.cells [.int .u64 0, .slice none 0 0] 47 false)).put σ1.n (.cells [.int .u64 at_, .slice p1 ws.length c1] 47 false)).n := by simp
  have hs1 := (o1.sl (sz := 4) lenWr).grow gb
  generalize (σ1.alloc (.cells [.int .u64 0, .slice none 0 0] 47 false)).put σ1.n (.cells [.int .u64 at_, .slice p1 ws.length c1] 47 false) = σ2 at gb hc5 hn5 hs1 ⊢
  refine enc_spec at_ ws _ σ2 (by omega) hs1 (by omega) hsm _ fun v2 σ3 o3 g3 => ?_
  obtain ⟨p3, c3, rfl⟩ := (o3.sl (sz := 1) encY_len).form
  have hc5a := g3.get hc5 hn5
  have hs2 := hs1.grow g3
  have gn3 := g3.n
  simp [wops_cons]
  refine rdec_spec _ _ σ3 (o3.sl encY_len) (by omega) _ fun a e σ4 hr g4 => ?_
  rw [hdec] at hr
  obtain ⟨v4, rfl, rfl, hs4⟩ := hr
  simp only at hs4
  obtain ⟨p4, c4, rfl⟩ := hs4.form
  have gn4 := g4.n
  have hne : ¬ (σ1.n = σ4.n) := by omega
  have hc5d := g4.get hc5a (by omega)
  simp [wops_cons, hne, hc5d]
  have gc : Grow σ4 ((σ4.alloc (.cells [.int .u64 0, .slice none 0 0] 47 false)).put σ4.n (.cells [.int .u64 at_, .slice p4 ws.length c4] 47 false)) := ⟨by simp, fun j hj => by rw [CSt.get_put, if_neg (by omega), CSt.get_alloc, if_neg (by omega)]⟩
  have hc7 : ((σ4.alloc (.cells [.int .u64 0, .slice none 0 0] 47 false)).put σ4.n (.cells [.int .u64 at_, .slice p4 ws.length c4] 47 false)).get σ4.n = some (.cells [.int .u64 at_, .slice p4 ws.length c4] 47 false) := by simp
  have hn7 : σ4.n < ((σ4.alloc (.cells [.int .u64 0, .slice none 0 0] 47 false)).put σ4.n (.cells [.int .u64 at_, .slice p4 ws.length c4] 47 false)).n := by simp
  have hs4' := hs4.grow gc
  have hc5b := gc.get (g4.get hc5a (by omega)) (by omega)
  have hs2b := (hs2.grow g4).grow gc
  have ho3 := ((o3.sl (sz := 1) encY_len).grow g4).grow gc
  generalize (σ4.alloc (.cells [.int .u64 0, .slice none 0 0] 47 false)).put σ4.n (.cells [.int .u64 at_, .slice p4 ws.length c4] 47 false) = σ5 at gc hc7 hn7 hs4' hc5b hs2b ho3 ⊢
  have gn5 := gc.n
  refine lenc_spec at_ ws _ σ5 (by omega) hs2b (by omega) hsm _ fun v6 σ6 o6 g6 => ?_
  obtain ⟨p6, c6, rfl⟩ := o6.sl.form
  simp [wops_cons, wops_if', dstOf]
  refine yeq_spec _ _ _ _ σ6 (ho3.grow g6) o6.sl (by omega) (by omega) _ ?_
  have hc5c := g6.get hc5b (by omega)
  have hc7c := g6.get hc7 hn7
  simp [wops_cons, wops_if', dstOf, hc5c, hc7c]
  refine same_spec ⟨at_, ws⟩ ⟨at_, ws⟩ _ _ σ6 (hs4'.grow g6) (hs2b.grow g6) (by simp only; omega) _ fun σ7 g7 => ?_
  simp [wops_cons, wops_if', dstOf, isTrueP]
end Go.Sm
/- RecordSpoilt, walked. -/
set_option linter.unusedVariables false
set_option linter.unusedSimpArgs false
namespace Go.Sm
open Go Go.Proofs
set_option maxRecDepth 100000
set_option maxHeartbeats 4000000
theorem law_RecordSpoilt (a0 : Int) (h0 : 0 ≤ a0) (h1 : a0 ≤ 18446744073709551615) (l : List LW) (hok : ∀ w ∈ l, w.ok) (v : Value) (i0 : Int) (hi0 : 0 ≤ i0) (hi1 : i0 ≤ 65535) (c0 : Int) (hc0 : 0 ≤ c0) (hc1 : c0 ≤ 255) (mo : List UInt8) (u : Value) (σ : CSt) (hn : gnone σ) (hz : 1 < σ.n) (hsl : Sl σ 30 3 encLW v l) (hsm : Sl σ 5 1 encY u mo) : W E1 (.fn 7 #[.int .u64 a0, v, .int .u16 i0, .int .u8 c0, u] none) σ isTrueP := by
  obtain ⟨a, rfl⟩ : ∃ a : Nat, a0 = a := ⟨a0.toNat, by omega⟩
  obtain ⟨i, rfl⟩ : ∃ a : Nat, i0 = a := ⟨i0.toNat, by omega⟩
  obtain ⟨c, rfl⟩ : ∃ a : Nat, c0 = a := ⟨c0.toNat, by omega⟩
  rw [W_fn (fn := Tryz.f7) Tryz.func7 rfl rfl rfl]
  obtain ⟨pl, cl, rfl⟩ := hsl.form
  obtain ⟨pm, cm, rfl⟩ := hsm.form
  simp [wops_cons]
  rw [awake_spec rfl hn]
  simp [wops_cons]
  by_cases hl : 15 < l.length
  · have hl' : (15 : Int) < l.length := by omega
    simp [wops_cons, wops_if', dstOf, hl', isTrueP]
  have hl' : ¬ (15 : Int) < l.length := by omega
  by_cases hm : 20 < mo.length
  · have hm' : (20 : Int) < mo.length := by omega
    simp [wops_cons, wops_if', dstOf, hl', hm', isTrueP]
  have hm' : ¬ (20 : Int) < mo.length := by omega
  simp [wops_cons, wops_if', dstOf, hl', hm']
  refine make_spec a l _ σ (by omega) hok hsl (by omega) _ fun v1 σ1 o1 g1 => ?_
  have hgr := makeR_ok a l
  have hlen := makeR_len a l
  have hser := goodR_len hgr (by omega)
  have hsm1 := ver_small hgr
  have hat := hgr.at2
  generalize makeR a l = R at o1 hgr hlen hser hsm1 hat
  obtain ⟨at_, ws⟩ := R
  simp only at o1 hlen hat
  have hser : (serR ⟨at_, ws⟩).length < 2 ^ 20 := by
    simp only at hser
    omega
  obtain ⟨p1, c1, rfl⟩ := (o1.sl (sz := 4) lenWr).form
  simp [wops_cons]
  refine lenc_spec at_ ws _ σ1 (by omega) (o1.sl lenWr) (by omega) hsm1 _ fun v2 σ2 o2 g2 => ?_
  have hb := o2.sl
  generalize serR ⟨at_, ws⟩ = B at hb hser
  obtain ⟨p2, c2, rfl⟩ := hb.form
  have hwi : IntKind.i64.wrap (i : Int) = (i : Int) := IntWalk.i64_in _ (by omega)
  have hwb : IntKind.i64.wrap ((B.length : Int) + 1) = (B.length : Int) + 1 := IntWalk.i64_in _ (by omega)
  have hmod : (i : Int).tmod ((B.length : Int) + 1) = ((i % (B.length + 1) : Nat) : Int) := by
    rw [Int.tmod_eq_emod_of_nonneg (by omega)]
    push_cast
    rfl
  have hk : i % (B.length + 1) ≤ B.length := by
    have := Nat.mod_lt i (show 0 < B.length + 1 by omega)
    omega
  have hne0 : ¬ ((B.length : Int) + 1 = 0) := by omega
  generalize i % (B.length + 1) = k at hmod hk
  have hwk : IntKind.i64.wrap (k : Int) = (k : Int) := IntWalk.i64_in _ (by omega)
  obtain ⟨j, hj⟩ : ∃ j : Nat, (if (B.length : Int) < (k : Int) + (c : Int).tmod 6 then (B.length : Int) else (k : Int) + (c : Int).tmod 6) = j ∧ j ≤ B.length := by
    have h6 : (c : Int).tmod 6 = (c : Int) % 6 := Int.tmod_eq_emod_of_nonneg (by omega)
    rw [h6]
    split
    · exact ⟨B.length, rfl, Nat.le_refl _⟩
    · exact ⟨k + c % 6, by push_cast; rfl, by omega⟩
  obtain ⟨q1, d1, x1, x2⟩ := ysl_head hb k hk .i64
  obtain ⟨q2, d2, x3, x4⟩ := ysl_tail hb j hj.2 .i64
  simp [wops_cons, hwi, hwb, hmod, hne0, hwk]
  have h6r : 0 ≤ (c : Int).tmod 6 ∧ (c : Int).tmod 6 < 6 := by
    have h6 : (c : Int).tmod 6 = (c : Int) % 6 := Int.tmod_eq_emod_of_nonneg (by omega)
    rw [h6]
    omega
  have hw6 : IntKind.i64.wrap ((c : Int).tmod 6) = (c : Int).tmod 6 := IntWalk.i64_in _ (by omega)
  have hw68 : IntKind.u8.wrap ((c : Int).tmod 6) = (c : Int).tmod 6 := IntWalk.u8_in _ (by omega)
  have hwk6 : IntKind.i64.wrap ((k : Int) + (c : Int).tmod 6) = (k : Int) + (c : Int).tmod 6 := IntWalk.i64_in _ (by omega)
  have hjj := hj.1
  refine W_calm (by kernel_rfl) ?_
  simp [dops_cons, minK, hw6, hw68, hwk6, hjj, x1, x3]
  have hga : Grow σ2 (σ2.alloc (.cells [.slice q1 k d1, .slice pm mo.length cm, .slice q2 (B.length - j) d2] 25 false)) := (Grow.refl σ2).alloc _
  have hb1 := x2.grow hga
  have hb2 := ((hsm.grow g1).grow g2).grow hga
  have hb3 := x4.grow hga
  have hbl : (catL [(Value.slice q1 k d1, B.take k), (Value.slice pm mo.length cm, mo), (Value.slice q2 (B.length - j) d2, B.drop j)]).length < 2 ^ 22 := by
    simp [catL]
    omega
  refine concatY_spec [(.slice q1 k d1, B.take k), (.slice pm mo.length cm, mo), (.slice q2 (B.length - j) d2, B.drop j)] (.slice (some ⟨σ2.n, 0, none⟩) 3 3) _ ?_ ?_ (by omega) (by simp) _ fun v3 σ3 o3 g3 => ?_
  · intro p hp
    simp only [List.mem_cons, List.not_mem_nil, or_false] at hp
    rcases hp with rfl | rfl | rfl
    · exact hb1
    · exact hb2
    · exact hb3
  · exact Sl.all (cap := 3) (ro := false) (l := [(Value.slice q1 k d1, B.take k), (Value.slice pm mo.length cm, mo), (Value.slice q2 (B.length - j) d2, B.drop j)]) lenP (by simp; rfl) (by simp) (.inr ⟨by simp, by simp [openCap]⟩)
  have hsL := o3.sl (sz := 1) encY_len
  generalize catL [(Value.slice q1 k d1, B.take k), (Value.slice pm mo.length cm, mo), (Value.slice q2 (B.length - j) d2, B.drop j)] = L at hsL hbl
  obtain ⟨p3, c3, rfl⟩ := hsL.form
  simp [dops_cons, wops_cons]
  refine rdec_spec L _ σ3 hsL (by omega) _ fun a1 e1 σ4 hr1 g4 => ?_
  cases hd : dec L with
  | none =>
    rw [hd] at hr1
    obtain ⟨rfl, rfl⟩ := hr1
    obtain ⟨z1, hz1, gz1, hc1, hn1⟩ := cell47 σ4 (.int .u64 0) (.slice none 0 0)
    simp [wops_cons]
    rw [← hz1]
    refine ldec_spec L _ z1 ((hsL.grow g4).grow gz1) (by omega) _ fun a2 e2 σ5 hr2 g5 => ?_
    rw [hd] at hr2
    obtain ⟨rfl, rfl⟩ := hr2
    obtain ⟨z2, hz2, gz2, hc2, hn2⟩ := cell47 σ5 (.int .u64 0) (.slice none 0 0)
    have hne : ¬ (σ4.n = σ5.n) := by have := g5.n; omega
    have hc1b := g5.get hc1 hn1
    simp [wops_cons, wops_if', dstOf, hne, hc1b]
    refine same_spec ⟨0, []⟩ ⟨0, []⟩ _ _ _ Sl.nil Sl.nil (by simp) _ fun σ6 g6 => ?_
    simp [wops_cons, wops_if', dstOf, isTrueP]
  | some R =>
    rw [hd] at hr1
    obtain ⟨v1, rfl, rfl, hs1⟩ := hr1
    obtain ⟨p1, c1, rfl⟩ := hs1.form
    obtain ⟨z1, hz1, gz1, hc1, hn1⟩ := cell47 σ4 (.int .u64 R.at_) (.slice p1 R.ws.length c1)
    simp [wops_cons]
    rw [← hz1]
    refine ldec_spec L _ z1 ((hsL.grow g4).grow gz1) (by omega) _ fun a2 e2 σ5 hr2 g5 => ?_
    rw [hd] at hr2
    obtain ⟨v2, rfl, rfl, hs2⟩ := hr2
    obtain ⟨p2, c2, rfl⟩ := hs2.form
    obtain ⟨z2, hz2, gz2, hc2, hn2⟩ := cell47 σ5 (.int .u64 R.at_) (.slice p2 R.ws.length c2)
    have hne : ¬ (σ4.n = σ5.n) := by have := g5.n; omega
    have hc1b := g5.get hc1 hn1
    simp [wops_cons, wops_if', dstOf, hne, hc1b]
    rw [← hz2]
    refine same_spec R R _ _ _ (((hs1.grow gz1).grow g5).grow gz2) (hs2.grow gz2) ?_ _ fun σ6 g6 => ?_
    · have := dec_small hd
      omega
    simp [wops_cons, wops_if', dstOf, isTrueP]
end Go.Sm
/- Single plain arguments. -/
set_option linter.unusedVariables false
set_option linter.unusedSimpArgs false
namespace Go.Sm
open Go Go.WideShapes Go.ChangeShapes
section
variable {H : Type} {en : TypeId × Value → H} {P : Program} {w : World}
theorem open_one {base base' : Nat} {spare : Nat → Bool} {held : Bool} {t : TypeId} {f fuel : Nat} {ks : List PK} {v : Value} {x : DataW H × List MemPlace} {r : Reach}
    (hk : kindsF P f t = some ks) (hval : Value.okWide P w r base t v) (hd : DataW.trod en P w base' spare held fuel t v.cells.toList = some x) : ∃ xs, OkL ks xs ∧ v = wrapV P t xs := by
  have h := trod_kinds f t ks hk fuel _ x hd
  refine ⟨_, h, ?_⟩
  cases f with
  | zero => cases hk
  | succ f =>
    unfold kindsF at hk
    cases hu : P.underlying t with
    | none => rw [hu] at hk; cases hk
    | some d =>
      rw [hu] at hk
      cases d with
      | int k => obtain ⟨n, rfl⟩ := okWide_int hu hval; simp [wrapV, isAggT, hu, Value.cells]
      | bool => obtain ⟨n, rfl⟩ := okWide_bool hu hval; simp [wrapV, isAggT, hu, Value.cells]
      | string => obtain ⟨n, rfl⟩ := okWide_string hu hval; simp [wrapV, isAggT, hu, Value.cells]
      | struct fs => obtain ⟨cs, rfl, _⟩ := okWide_struct hu hval; simp [wrapV, isAggT, hu, Value.cells]
      | _ => cases hk
theorem open_i {base base' : Nat} {spare : Nat → Bool} {held : Bool} {t : TypeId} {fuel : Nat} {k : IntKind} {v : Value} {x : DataW H × List MemPlace} {r : Reach}
    (hk : P.underlying t = some (.int k)) (hval : Value.okWide P w r base t v) (hd : DataW.trod en P w base' spare held fuel t v.cells.toList = some x) : ∃ n, v = .int k n ∧ k.min ≤ n ∧ n ≤ k.max := by
  obtain ⟨xs, h, rfl⟩ := open_one (f := 1) (ks := [.int k]) (by simp [kindsF, hk]) hval hd
  match xs, h with
  | [a], ⟨⟨n, ha, hn⟩, _⟩ =>
    subst ha
    simp only [Lit.wf, Bool.and_eq_true, decide_eq_true_eq] at hn
    exact ⟨n, by simp [wrapV, isAggT, hk], hn⟩
theorem open_str {base base' : Nat} {spare : Nat → Bool} {held : Bool} {t : TypeId} {fuel : Nat} {v : Value} {x : DataW H × List MemPlace} {r : Reach}
    (hk : P.underlying t = some .string) (hval : Value.okWide P w r base t v) (hd : DataW.trod en P w base' spare held fuel t v.cells.toList = some x) : ∃ s, v = .string s ∧ s.size ≤ maxLen := by
  obtain ⟨xs, h, rfl⟩ := open_one (f := 1) (ks := [.str]) (by simp [kindsF, hk]) hval hd
  match xs, h with
  | [a], ⟨⟨n, ha, hn⟩, _⟩ =>
    subst ha
    exact ⟨n, by simp [wrapV, isAggT, hk], hn⟩
theorem open_st {α : Type} {enc : α → List Value} {ok : α → Prop} {base base' : Nat} {spare : Nat → Bool} {held : Bool} {t : TypeId} {f fuel : Nat} {ks : List PK} {v : Value} {x : DataW H × List MemPlace} {r : Reach}
    (hk : kindsF P f t = some ks) (ha : isAggT P t = true) (hen : ∀ r, OkL ks r → ∃ x, ok x ∧ r = enc x) (hval : Value.okWide P w r base t v) (hd : DataW.trod en P w base' spare held fuel t v.cells.toList = some x) : ∃ y, ok y ∧ v = .agg (enc y).toArray ∧ Sm.flat v = true := by
  obtain ⟨xs, h, rfl⟩ := open_one hk hval hd
  obtain ⟨y, h1, rfl⟩ := hen _ h
  refine ⟨y, h1, by simp [wrapV, ha], ?_⟩
  have := OkL.flat h
  simp only [wrapV, ha, if_true, Sm.flat]
  simpa using this
end
end Go.Sm
