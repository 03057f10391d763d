/- Part F of the proof. -/
import Derived.Test.YtkcljmaklingoaaGreatDoorPartD
import Derived.Test.YtkcljmaklingoaaGreatDoorPartE
/- Versions, writes, records compared. -/
set_option linter.unusedVariables false
set_option linter.unusedSimpArgs false
namespace Go.Sm
open Go Go.Proofs
set_option maxRecDepth 100000
set_option maxHeartbeats 4000000
theorem kl_ver (v : Ver) : KL [.int .u64, .str, .bool] (encV v) := ⟨⟨_, rfl⟩, ⟨_, rfl⟩, ⟨_, rfl⟩, trivial⟩
theorem encV_inj {a b : Ver} : encV a = encV b ↔ a = b := by
  constructor
  · intro h
    cases a; cases b
    simp [encV] at h
    simp [h]
  · rintro rfl; rfl
theorem cmp_ver (a b : Ver) (σ : CSt) (x y : Operand) : binF Tryz.prog σ .eql 33 x y (.agg (encV a).toArray) (.agg (encV b).toArray) = .val (.bool (decide (a = b))) σ ∧ binF Tryz.prog σ .neq 33 x y (.agg (encV a).toArray) (.agg (encV b).toArray) = .val (.bool (!decide (a = b))) σ := by
  obtain ⟨c, h1, h2, h3⟩ := bin_struct (P := Tryz.prog) (f := 2) (t := 33) (ks := [.int .u64, .str, .bool]) (by kernel_rfl) (by kernel_rfl) (by omega) (by kernel_rfl) (by kernel_rfl) (kl_ver a) (kl_ver b) rfl rfl (σ := σ) (x := x) (y := y)
  have : c = decide (a = b) := by
    rw [encV_inj] at h3
    cases c <;> simp_all
  rw [h1, h2, this]
  exact ⟨rfl, rfl⟩
theorem neq_ver (a b : Ver) (σ : CSt) (x y : Operand) : binF Tryz.prog σ .neq 33 x y (.agg (encV a).toArray) (.agg (encV b).toArray) = .val (.bool (!decide (a = b))) σ := (cmp_ver a b σ x y).2
theorem kl_wr (v : Wri) : KL [.str, .int .u64, .str, .bool] (encWr v) := ⟨⟨_, rfl⟩, ⟨_, rfl⟩, ⟨_, rfl⟩, ⟨_, rfl⟩, trivial⟩
theorem encWr_inj {a b : Wri} : encWr a = encWr b ↔ a = b := by
  constructor
  · intro h
    obtain ⟨k, x⟩ := a; obtain ⟨k2, y⟩ := b
    cases x; cases y
    simp [encWr] at h
    simp [h]
  · rintro rfl; rfl
theorem cmp_wr (a b : Wri) (σ : CSt) (x y : Operand) : binF Tryz.prog σ .eql 90 x y (.agg (encWr a).toArray) (.agg (encWr b).toArray) = .val (.bool (decide (a = b))) σ ∧ binF Tryz.prog σ .neq 90 x y (.agg (encWr a).toArray) (.agg (encWr b).toArray) = .val (.bool (!decide (a = b))) σ := by
  obtain ⟨c, h1, h2, h3⟩ := bin_struct (P := Tryz.prog) (f := 3) (t := 90) (ks := [.str, .int .u64, .str, .bool]) (by kernel_rfl) (by kernel_rfl) (by omega) (by kernel_rfl) (by kernel_rfl) (kl_wr a) (kl_wr b) rfl rfl (σ := σ) (x := x) (y := y)
  have : c = decide (a = b) := by
    rw [encWr_inj] at h3
    cases c <;> simp_all
  rw [h1, h2, this]
  exact ⟨rfl, rfl⟩
theorem neq_wr (a b : Wri) (σ : CSt) (x y : Operand) : binF Tryz.prog σ .neq 90 x y (.agg (encWr a).toArray) (.agg (encWr b).toArray) = .val (.bool (!decide (a = b))) σ := (cmp_wr a b σ x y).2
/-- slices.Equal of two rows of versions. -/
theorem equal_wr (l m : List Wri) (v u : Value) (σ : CSt) (hsl : Sl σ 90 4 encWr v l) (hsm : Sl σ 90 4 encWr u m) (hbig : l.length < 2 ^ 40) (Q : Out → CSt → Prop)
    (h : ∀ (σ' : CSt), Grow σ σ' → Q (.ret (.bool (decide (l = m))) false) σ') : W E1 (.fn 48 #[v, u] none) σ Q := by
  rw [W_fn (fn := Tryz.f48) Tryz.func48 rfl rfl rfl]
  by_cases hlen : l.length = m.length
  · rcases hsl with ⟨rfl, rfl⟩ | ⟨i, off, cap, row, ro, rfl, hg, hin, hrow, hle, hcap⟩
    · have hm : m = [] := List.eq_nil_of_length_eq_zero hlen.symm
      subst hm
      have hu : ∃ p c, u = .slice p 0 c := by
        rcases hsm with ⟨rfl, _⟩ | ⟨i2, off2, cap2, row2, ro2, rfl, _⟩
        · exact ⟨_, _, rfl⟩
        · exact ⟨_, _, rfl⟩
      obtain ⟨p, c, rfl⟩ := hu
      have := h σ (Grow.refl σ)
      simp [wops_cons]
      rw [W_loop]
      simpa [wops_cons] using this
    rcases hsm with ⟨rfl, rfl⟩ | ⟨i2, off2, cap2, row2, ro2, rfl, hg2, hin2, hrow2, hle2, hcap2⟩
    · have hl : l = [] := List.eq_nil_of_length_eq_zero hlen
      subst hl
      have := h σ (Grow.refl σ)
      simp [wops_cons]
      rw [W_loop]
      simpa [wops_cons] using this
    simp [wops_cons, hlen]
    refine W_loop_inv (fun n a σ' => ∃ tm k, a = ⟨tm, 26, [], false⟩ ∧ tm.get 0 = some (.slice (some ⟨i, off, none⟩) l.length cap) ∧ tm.get 1 = some (.slice (some ⟨i2, off2, none⟩) m.length cap2) ∧ tm.get 12 = some (.int .i64 l.length) ∧ tm.get 13 = some (.int .i64 (k : Nat)) ∧ tm.get 4 = some (.bool false) ∧ k ≤ l.length ∧ n = l.length - k ∧ l.take k = m.take k ∧ Grow σ σ') ?_ l.length _ _ ?_
    · rintro n a σ' ⟨tm, k, rfl, h0, h1, h12, h13, h4, hk, hn, htk, hgr⟩
      have hgi := hgr.get hg hin
      have hgi2 := hgr.get hg2 hin2
      by_cases hlt : k < l.length
      · have hlt2 : k < m.length := by omega
        have hld := row_get (enc := encWr) (fun _ => rfl) hrow k hlt
        have hl1 := row_le hle k hlt
        have hld2 := row_get (enc := encWr) (fun _ => rfl) hrow2 k hlt2
        have hl2 := row_le hle2 k hlt2
        have hw := i64n1 k (by omega)
        have hneq := neq_wr l[k] m[k]
        simp [wops_cons, h0, h1, h12, h13, h4, hlt]
        refine W_calm (by kernel_rfl) ?_
        simp [dops_cons, h0, h1, h12, h13, h4, hlt, hlt2, hgi, hgi2, hld, hld2, hl1, hl2, hneq]
        by_cases he : l[k] = m[k]
        · simp [wops_cons, he, h13, hw]
          refine ⟨_, ?_, h0, h1, h12, k + 1, by simp, h4, by omega, rfl, ?_, hgr⟩
          · omega
          · rw [List.take_succ_eq_append_getElem hlt, List.take_succ_eq_append_getElem hlt2, htk, he]
        · have hne : l ≠ m := by rintro rfl; exact he rfl
          have := h σ' hgr
          rw [decide_eq_false hne] at this
          simpa [wops_cons, he] using this
      · have hkl : k = l.length := by omega
        have he : l = m := by
          have := htk
          rwa [List.take_of_length_le (by omega), List.take_of_length_le (by omega)] at this
        have := h σ' hgr
        rw [decide_eq_true he] at this
        simpa [wops_cons, h12, h13, hlt] using this
    · refine ⟨_, 0, rfl, ?_⟩
      simp [hlen]
      exact Grow.refl σ
  · have hu : ∀ {x : Value} {l : List Wri}, Sl σ 90 4 encWr x l → ∃ p c, x = .slice p l.length c := by
      rintro x l (⟨rfl, rfl⟩ | ⟨i, off, cap, row, ro, rfl, _⟩)
      · exact ⟨_, _, rfl⟩
      · exact ⟨_, _, rfl⟩
    obtain ⟨p, c, rfl⟩ := hu hsl
    obtain ⟨p', c', rfl⟩ := hu hsm
    have hne : l ≠ m := by rintro rfl; exact hlen rfl
    have := h σ (Grow.refl σ)
    rw [decide_eq_false hne] at this
    have hi : ¬ ((l.length : Int) = m.length) := by omega
    simpa [wops_cons, hi] using this

/-- slices.Equal of two rows of versions. -/
theorem equal_ver (l m : List Ver) (v u : Value) (σ : CSt) (hsl : Sl σ 33 3 encV v l) (hsm : Sl σ 33 3 encV u m) (hbig : l.length < 2 ^ 40) (Q : Out → CSt → Prop)
    (h : ∀ (σ' : CSt), Grow σ σ' → Q (.ret (.bool (decide (l = m))) false) σ') : W E1 (.fn 33 #[v, u] none) σ Q := by
  rw [W_fn (fn := Tryz.f33) Tryz.func33 rfl rfl rfl]
  by_cases hlen : l.length = m.length
  · rcases hsl with ⟨rfl, rfl⟩ | ⟨i, off, cap, row, ro, rfl, hg, hin, hrow, hle, hcap⟩
    · have hm : m = [] := List.eq_nil_of_length_eq_zero hlen.symm
      subst hm
      have hu : ∃ p c, u = .slice p 0 c := by
        rcases hsm with ⟨rfl, _⟩ | ⟨i2, off2, cap2, row2, ro2, rfl, _⟩
        · exact ⟨_, _, rfl⟩
        · exact ⟨_, _, rfl⟩
      obtain ⟨p, c, rfl⟩ := hu
      have := h σ (Grow.refl σ)
      simp [wops_cons]
      rw [W_loop]
      simpa [wops_cons] using this
    rcases hsm with ⟨rfl, rfl⟩ | ⟨i2, off2, cap2, row2, ro2, rfl, hg2, hin2, hrow2, hle2, hcap2⟩
    · have hl : l = [] := List.eq_nil_of_length_eq_zero hlen
      subst hl
      have := h σ (Grow.refl σ)
      simp [wops_cons]
      rw [W_loop]
      simpa [wops_cons] using this
    simp [wops_cons, hlen]
    refine W_loop_inv (fun n a σ' => ∃ tm k, a = ⟨tm, 26, [], false⟩ ∧ tm.get 0 = some (.slice (some ⟨i, off, none⟩) l.length cap) ∧ tm.get 1 = some (.slice (some ⟨i2, off2, none⟩) m.length cap2) ∧ tm.get 12 = some (.int .i64 l.length) ∧ tm.get 13 = some (.int .i64 (k : Nat)) ∧ tm.get 4 = some (.bool false) ∧ k ≤ l.length ∧ n = l.length - k ∧ l.take k = m.take k ∧ Grow σ σ') ?_ l.length _ _ ?_
    · rintro n a σ' ⟨tm, k, rfl, h0, h1, h12, h13, h4, hk, hn, htk, hgr⟩
      have hgi := hgr.get hg hin
      have hgi2 := hgr.get hg2 hin2
      by_cases hlt : k < l.length
      · have hlt2 : k < m.length := by omega
        have hld := row_get (enc := encV) (fun _ => rfl) hrow k hlt
        have hl1 := row_le hle k hlt
        have hld2 := row_get (enc := encV) (fun _ => rfl) hrow2 k hlt2
        have hl2 := row_le hle2 k hlt2
        have hw := i64n1 k (by omega)
        have hneq := neq_ver l[k] m[k]
        simp [wops_cons, h0, h1, h12, h13, h4, hlt]
        refine W_calm (by kernel_rfl) ?_
        simp [dops_cons, h0, h1, h12, h13, h4, hlt, hlt2, hgi, hgi2, hld, hld2, hl1, hl2, hneq]
        by_cases he : l[k] = m[k]
        · simp [wops_cons, he, h13, hw]
          refine ⟨_, ?_, h0, h1, h12, k + 1, by simp, h4, by omega, rfl, ?_, hgr⟩
          · omega
          · rw [List.take_succ_eq_append_getElem hlt, List.take_succ_eq_append_getElem hlt2, htk, he]
        · have hne : l ≠ m := by rintro rfl; exact he rfl
          have := h σ' hgr
          rw [decide_eq_false hne] at this
          simpa [wops_cons, he] using this
      · have hkl : k = l.length := by omega
        have he : l = m := by
          have := htk
          rwa [List.take_of_length_le (by omega), List.take_of_length_le (by omega)] at this
        have := h σ' hgr
        rw [decide_eq_true he] at this
        simpa [wops_cons, h12, h13, hlt] using this
    · refine ⟨_, 0, rfl, ?_⟩
      simp [hlen]
      exact Grow.refl σ
  · have hu : ∀ {x : Value} {l : List Ver}, Sl σ 33 3 encV x l → ∃ p c, x = .slice p l.length c := by
      rintro x l (⟨rfl, rfl⟩ | ⟨i, off, cap, row, ro, rfl, _⟩)
      · exact ⟨_, _, rfl⟩
      · exact ⟨_, _, rfl⟩
    obtain ⟨p, c, rfl⟩ := hu hsl
    obtain ⟨p', c', rfl⟩ := hu hsm
    have hne : l ≠ m := by rintro rfl; exact hlen rfl
    have := h σ (Grow.refl σ)
    rw [decide_eq_false hne] at this
    have hi : ¬ ((l.length : Int) = m.length) := by omega
    simpa [wops_cons, hi] using this

/-- The same records? -/
theorem same_spec (x y : Rcd) (v u : Value) (σ : CSt) (hv : Sl σ 90 4 encWr v x.ws) (hu : Sl σ 90 4 encWr u y.ws) (hbig : x.ws.length < 2 ^ 36) (Q : Out → CSt → Prop) (h : ∀ σ', Grow σ σ' → Q (.ret (.bool (decide (x = y))) false) σ') : W E1 (.fn 22 #[.agg #[.int .u64 x.at_, v], .agg #[.int .u64 y.at_, u]] none) σ Q := by
  rw [W_fn (fn := Tryz.f22) Tryz.func22 rfl rfl rfl]
  have g0 : Grow σ ((σ.alloc (.cells [.int .u64 x.at_, v] 47 false)).alloc (.cells [.int .u64 y.at_, u] 47 false)) := ((Grow.refl σ).alloc _).alloc _
  obtain ⟨a, l⟩ := x
  obtain ⟨b, m⟩ := y
  obtain ⟨p1, c1, rfl⟩ := hv.form
  obtain ⟨p2, c2, rfl⟩ := hu.form
  by_cases hab : a = b
  · subst hab
    simp [wops_cons, wops_if', dstOf]
    refine equal_wr l m _ _ _ (hv.grow g0) (hu.grow g0) (by simp only at hbig; omega) _ fun σ1 g1 => ?_
    have hQ := h σ1 (g0.trans g1)
    by_cases hlm : l = m
    · subst hlm; simpa [wops_cons, wops_if', dstOf] using hQ
    · simpa [wops_cons, wops_if', dstOf, hlm] using hQ
  · have hQ := h _ g0
    have hab' : ¬ ((a : Int) = b) := by omega
    simpa [wops_cons, wops_if', dstOf, hab, hab'] using hQ
end Go.Sm
/- The law's own record as bytes. -/
set_option linter.unusedVariables false
set_option linter.unusedSimpArgs false
namespace Go.Sm
open Go Go.Proofs
set_option maxRecDepth 100000
set_option maxHeartbeats 4000000
theorem lenc_spec (at_ : Nat) (ws : List Wri) (v : Value) (σ : CSt) (hat : at_ < 2 ^ 64) (hsl : Sl σ 90 4 encWr v ws) (hbig : (serR ⟨at_, ws⟩).length < 2 ^ 37) (hv : ∀ w ∈ ws, w.ver.val.size < 2 ^ 37) (Q : Out → CSt → Prop)
    (h : ∀ v' σ', Ow σ.n σ' v' (serR ⟨at_, ws⟩) → Grow σ σ' → Q (.ret v' false) σ') : W E1 (.fn 25 #[.agg #[.int .u64 at_, v]] none) σ Q := by
  rw [W_fn (fn := Tryz.f25) Tryz.func25 rfl rfl rfl]
  obtain ⟨pv, cv, rfl⟩ := hsl.form
  have hwl : ws.length < 2 ^ 37 := by
    have := ser_len ws
    unfold serR at hbig
    simp only [List.length_append] at hbig
    omega
  have hlu : IntKind.u64.wrap (ws.length : Int) = (ws.length : Int) := IntWalk.u64_in _ (by omega)
  have g0 : Grow σ (σ.alloc (.cells [.int .u64 at_, .slice pv ws.length cv] 47 false)) := (Grow.refl σ).alloc _
  have hc0 : (σ.alloc (.cells [.int .u64 at_, .slice pv ws.length cv] 47 false)).get σ.n = some (.cells [.int .u64 at_, .slice pv ws.length cv] 47 false) := by simp
  have gn0 := g0.n
  simp [wops_cons]
  refine W_drawn (l := [0, 1, 3, 4, 5, 6, 2, 7, 8, 9]) (b := #[0, 1, 3, 0, 8, 24, 56, 127, 255, 511]) (by kernel_rfl) (by kernel_rfl) (by kernel_rfl) ?_
  simp [wops_cons, dopsR_cons, opAt, isEff, again, befBits, isRead, Nat.add_assoc, hlu, Nat.testBit_eq_decide_div_mod_eq]
  refine lnum_spec at_ _ hat _ fun q1 c1 σ1 h1 g1 => ?_
  have gn1 := g1.n
  simp at gn1
  have hc1 := g1.get hc0 (by simp)
  simp [wops_cons, dopsR_cons, opAt, isEff, again, befBits, isRead, Nat.add_assoc, hlu, Nat.testBit_eq_decide_div_mod_eq, hc1]
  refine lnum_spec ws.length _ (by omega) _ fun q2 c2 σ2 h2 g2 => ?_
  have gn2 := g2.n
  have hc2 := g2.get hc1 (by omega)
  have hl1 := num_len10 hat
  have hl2 := num_len10 (n := ws.length) (by omega)
  obtain ⟨q3, c3, s3, a1, a2, a3⟩ := oapp_sl ((h1.grow g2)) (by simp; omega) h2.sl (by omega)
  have hc3 := a3.get hc2 (by omega) (.inr fun row e ro he => by cases he; decide)
  have g03 : Grow σ s3 := ((g0.trans (g1.trans g2)).fr.trans (a3.mono (fun _ h => h) (by simp))).grow (Nat.le_refl _)
  have sn3 := a3.1
  simp [wops_cons, dopsR_cons, opAt, isEff, again, befBits, isRead, Nat.add_assoc, hlu, Nat.testBit_eq_decide_div_mod_eq, hc2, a1, hc3]
  refine W_loop_inv (fun k a s => ∃ tm, ∃ i : Nat, ∃ vw, a = ⟨tm, 33, [], false⟩ ∧ tm.get 3 = some vw ∧ tm.get 16 = some (.slice pv ws.length cv) ∧ tm.get 17 = some (.int .i64 ws.length) ∧ tm.get 18 = some (.int .i64 (i : Nat)) ∧ (i ≤ ws.length ∧ k = ws.length - i ∧ Ow σ.n s vw (num at_ ++ num ws.length ++ (ws.take i).flatMap serW) ∧ Grow σ s)) ?_ ws.length _ _ ?_
  · rintro k a s ⟨tm, i, vw, rfl, e3, e16, e17, e18, hi, hk, hw, hg⟩
    have hsls := hsl.grow hg
    have gn := hg.n
    by_cases hlt : i < ws.length
    · have hlt' : (i : Int) < (ws.length : Int) := by omega
      obtain ⟨j, off, row, ro, rfl, hgj, hjn, hrow, hle⟩ := hsls.at hlt
      have hld := row_get lenWr hrow i hlt
      have hle2 := row_le hle i hlt
      have hw1 := i64s i (by omega)
      have hmem : ws[i] ∈ ws := List.getElem_mem hlt
      have htot : (num at_ ++ num ws.length ++ (ws.take i).flatMap serW).length + (serW ws[i]).length ≤ (serR ⟨at_, ws⟩).length := by
        have e : (ws.take (i + 1)).flatMap serW = (ws.take i).flatMap serW ++ serW ws[i] := by rw [List.take_succ_eq_append_getElem hlt, List.flatMap_append]; simp
        have := flat_take_le serW ws (i + 1)
        rw [e] at this
        unfold serR
        simp only [List.length_append] at this ⊢
        omega
      have hsw : (serW ws[i]).length = (serText ws[i].key).length + (serVer ws[i].ver).length := by rw [serW, List.length_append]
      have hkey : ws[i].key.size ≤ (serText ws[i].key).length := by
        unfold serText
        simp only [List.length_append, len_byt]
        omega
      have hvz := hv _ hmem
      have hall : num at_ ++ num ws.length ++ (ws.take (i + 1)).flatMap serW = num at_ ++ num ws.length ++ (ws.take i).flatMap serW ++ serText ws[i].key ++ serVer ws[i].ver := by
        rw [List.take_succ_eq_append_getElem hlt, List.flatMap_append, List.flatMap_singleton, serW]
        simp [List.append_assoc]
      generalize hpre : num at_ ++ num ws.length ++ (ws.take i).flatMap serW = pre at hw htot hall
      obtain ⟨pw, cw, rfl⟩ := hw.sl.form
      generalize hx : ws[i] = x at *
      obtain ⟨key, ver⟩ := x
      simp only [encWr] at hld
      simp only at hkey hvz hsw
      have g1 : Grow s ((s.alloc (.cells [.string ⟨#[]⟩, .int .u64 0, .string ⟨#[]⟩, .bool false] 90 false)).put s.n (.cells [.string key, .int .u64 ver.at_, .string ver.val, .bool ver.gone] 90 false)) := ⟨by simp, fun j hj => by rw [CSt.get_put, if_neg (by omega), CSt.get_alloc, if_neg (by omega)]⟩
      simp [wops_cons, e3, e16, e17, e18, hlt, hlt', hgj, hld, hle2]
      have hcs : ((s.alloc (.cells [.string ⟨#[]⟩, .int .u64 0, .string ⟨#[]⟩, .bool false] 90 false)).put s.n (.cells [.string key, .int .u64 ver.at_, .string ver.val, .bool ver.gone] 90 false)).get s.n = some (.cells [.string key, .int .u64 ver.at_, .string ver.val, .bool ver.gone] 90 false) := by simp
      have hwn := hw.grow g1
      have g1n := g1.n
      have hsn : s.n < ((s.alloc (.cells [.string ⟨#[]⟩, .int .u64 0, .string ⟨#[]⟩, .bool false] 90 false)).put s.n (.cells [.string key, .int .u64 ver.at_, .string ver.val, .bool ver.gone] 90 false)).n := by simp
      generalize (s.alloc (.cells [.string ⟨#[]⟩, .int .u64 0, .string ⟨#[]⟩, .bool false] 90 false)).put s.n (.cells [.string key, .int .u64 ver.at_, .string ver.val, .bool ver.gone] 90 false) = s1 at hcs hwn g1 g1n hsn
      refine W_drawn (l := [0, 1, 2, 5, 6, 3, 4, 7, 8, 9]) (b := #[0, 0, 2, 6, 15, 0, 32, 127, 255, 511]) (by kernel_rfl) (by kernel_rfl) (by kernel_rfl) ?_
      simp [wops_cons, dopsR_cons, opAt, isEff, again, befBits, isRead, Nat.add_assoc, Nat.testBit_eq_decide_div_mod_eq, hcs, e3, e16, e17, e18]
      refine ltext_spec key s1 (by omega) _ fun q2 c2 s2 h2 g2 => ?_
      have hcs2 := g2.get hcs hsn
      have gn2 := g2.n
      obtain ⟨q3, c3, s3, b1, b2, b3⟩ := oapp_sl (hwn.grow g2) (by omega) h2.sl (by omega)
      have hcs3 := b3.get hcs2 (by omega) (.inr fun row e ro he => by cases he; decide)
      have sn3 := b3.1
      simp [wops_cons, dopsR_cons, opAt, isEff, again, befBits, isRead, Nat.add_assoc, Nat.testBit_eq_decide_div_mod_eq, hcs2, hcs3, b1, e3, e16, e17, e18]
      have hlv := lver_spec ver s3 (by omega)
      simp only [encV] at hlv
      refine hlv _ fun q4 c4 s4 h4 g4 => ?_
      have hcs4 := g4.get hcs3 (by omega)
      have gn4 := g4.n
      obtain ⟨q5, c5, s5, d1, d2, d3⟩ := oapp_sl (b2.grow g4) (by omega) h4.sl (by rw [List.length_append]; omega)
      have hcs5 := d3.get hcs4 (by omega) (.inr fun row e ro he => by cases he; decide)
      simp only [List.length_append] at d1 d2
      simp [wops_cons, dopsR_cons, opAt, isEff, again, befBits, isRead, Nat.add_assoc, Nat.testBit_eq_decide_div_mod_eq, hcs4, hcs5, d1, e3, e16, e17, e18, hw1]
      refine ⟨ws.length - (i + 1), by omega, i + 1, by omega, by omega, rfl, ?_, ((((hg.trans g1).trans g2).fr.trans b3).trans (g4.fr.trans d3)).grow (Nat.le_refl _)⟩
      rw [← List.append_assoc, hall]
      simpa [Nat.add_assoc] using d2
    · have hlt' : ¬ ((i : Int) < (ws.length : Int)) := by omega
      have hie : i = ws.length := by omega
      subst hie
      rw [List.take_of_length_le (Nat.le_refl _)] at hw
      obtain ⟨pw, cw, rfl⟩ := hw.sl.form
      have hQ := h _ s hw hg
      simpa [wops_cons, e3, e16, e17, e18] using hQ
  · exact ⟨_, 0, .slice q3 ((num at_).length + (num ws.length).length) c3, rfl, by simp, by simp, by simp, by simp, by omega, rfl, by simpa using a2.weaken (by simp), g03⟩
end Go.Sm
/- The law's Make of records. -/
set_option linter.unusedVariables false
set_option linter.unusedSimpArgs false
namespace Go.Sm
open Go Go.Proofs
set_option maxRecDepth 100000
set_option maxHeartbeats 40000000
def encLW (w : LW) : List Value := [.int .u8 w.key, .string w.v, .bool w.gone]
theorem lenLW (w : LW) : (encLW w).length = 3 := rfl
def LW.ok (w : LW) : Prop := w.key < 256
theorem getLast_map (acc : List Wri) (h : acc ≠ []) : acc.getLast?.map (·.key) = some (acc[acc.length - 1]'(by have := List.length_pos_iff.2 h; omega)).key := by
  rw [List.getLast?_eq_getElem?, List.getElem?_eq_getElem (by have := List.length_pos_iff.2 h; omega)]
  rfl
theorem make_spec (a : Nat) (l : List LW) (v : Value) (σ : CSt) (ha : a < 2 ^ 64) (hok : ∀ w ∈ l, w.ok) (hsl : Sl σ 30 3 encLW v l) (hl : l.length < 2 ^ 30) (Q : Out → CSt → Prop)
    (h : ∀ v' σ', Own σ.n σ' 90 encWr v' (makeR a l).ws → Grow σ σ' → Q (.ret (.agg #[.int .u64 (makeR a l).at_, v']) false) σ') : W E1 (.fn 23 #[.int .u64 a, v] none) σ Q := by
  rw [W_fn (fn := Tryz.f23) Tryz.func23 rfl rfl rfl]
  obtain ⟨pl, cl, rfl⟩ := hsl.form
  have hat : IntKind.u64.wrap (1 + (a : Int).tmod 1099511627776) = ((1 + a % 2 ^ 40 : Nat) : Int) := by
    have e1 : (a : Int).tmod 1099511627776 = (a : Int) % 1099511627776 := Int.tmod_eq_emod_of_nonneg (by omega)
    rw [e1, IntWalk.u64_in _ (by omega)]
    omega
  unfold makeR at h
  simp only at h
  generalize hA : 1 + a % 2 ^ 40 = at_ at *
  simp [wops_cons, hat]
  have g0 : Grow σ (((σ.alloc (.cells [.int .u64 0, .slice none 0 0] 47 false)).alloc (.cells [.int .u64 0, .slice none 0 0] 47 false)).put (σ.n + 1) (.cells [.int .u64 at_, .slice none 0 0] 47 false)) := ⟨by simp; omega, fun j hj => by rw [CSt.get_put, if_neg (by omega), CSt.get_alloc, if_neg (by simp; omega), CSt.get_alloc, if_neg (by omega)]⟩
  refine W_loop_inv (fun n a' s => ∃ tm, ∃ k : Nat, ∃ wv, a' = ⟨tm, 78, [], false⟩ ∧ tm.get 1 = some (.slice pl l.length cl) ∧ tm.get 4 = some (.pointer (some ⟨σ.n, 0, none⟩)) ∧ tm.get 5 = some (.pointer (some ⟨σ.n + 1, 0, none⟩)) ∧ tm.get 14 = some (.int .i64 (k : Nat)) ∧ (k ≤ 256 ∧ n = 256 - k ∧ s.get σ.n = some (.cells [.int .u64 0, .slice none 0 0] 47 false) ∧ s.get (σ.n + 1) = some (.cells [.int .u64 at_, wv] 47 false) ∧ σ.n + 1 < s.n ∧ Own σ.n s 90 encWr wv (makeM at_ l k) ∧ Grow σ s)) ?_ 256 _ _ ?_
  · rintro n a' s ⟨tm, k, wv, rfl, e1, e4, e5, e14, hk, hn, hc4, hc5, hsn, hown, hg⟩
    by_cases hk1 : k < 256
    · have hk1' : (k : Int) < 256 := by omega
      have hw := i64s k (by omega)
      have hlen := (makeM_ok at_ l k hk).1
      simp [wops_cons, e1, e4, e5, e14, hk1, hk1']
      refine W_loop_J (fun n a' s => ∃ tm, ∃ j : Nat, ∃ wv, a' = ⟨tm, 78, [], false⟩ ∧ tm.get 1 = some (.slice pl l.length cl) ∧ tm.get 4 = some (.pointer (some ⟨σ.n, 0, none⟩)) ∧ tm.get 5 = some (.pointer (some ⟨σ.n + 1, 0, none⟩)) ∧ tm.get 6 = some (.int .i64 (k : Nat)) ∧ tm.get 14 = some (.int .i64 (k : Nat)) ∧ tm.get 17 = some (.slice pl l.length cl) ∧ tm.get 18 = some (.int .i64 l.length) ∧ tm.get 19 = some (.int .i64 (j : Nat)) ∧ (j ≤ l.length ∧ n = l.length - j ∧ s.get σ.n = some (.cells [.int .u64 0, .slice none 0 0] 47 false) ∧ s.get (σ.n + 1) = some (.cells [.int .u64 at_, wv] 47 false) ∧ σ.n + 1 < s.n ∧ Own σ.n s 90 encWr wv (roundM at_ (l.take j) (makeM at_ l k) k) ∧ (roundM at_ (l.take j) (makeM at_ l k) k).length ≤ 256 + j ∧ Grow σ s))
        (fun out s => ∃ tm wv, out = .code (.exit 2) ⟨tm, 78, [], false⟩ ∧ tm.get 1 = some (.slice pl l.length cl) ∧ tm.get 4 = some (.pointer (some ⟨σ.n, 0, none⟩)) ∧ tm.get 5 = some (.pointer (some ⟨σ.n + 1, 0, none⟩)) ∧ tm.get 14 = some (.int .i64 (k : Nat)) ∧ s.get σ.n = some (.cells [.int .u64 0, .slice none 0 0] 47 false) ∧ s.get (σ.n + 1) = some (.cells [.int .u64 at_, wv] 47 false) ∧ σ.n + 1 < s.n ∧ Own σ.n s 90 encWr wv (makeM at_ l (k + 1)) ∧ Grow σ s) ?_ l.length _ _ ?_ ?_
      · rintro n2 a2 s2 ⟨tm, j, wv, rfl, e1, e4, e5, e6, e14, e17, e18, e19, hj, hn2, hc4, hc5, hsn, hown, hal, hg⟩
        by_cases hlt : j < l.length
        · have hlt' : (j : Int) < (l.length : Int) := by omega
          have hstep : roundM at_ (l.take (j + 1)) (makeM at_ l k) k = stepM at_ k (roundM at_ (l.take j) (makeM at_ l k) k) l[j] := by
            unfold roundM
            rw [List.take_succ_eq_append_getElem hlt, List.foldl_append]
            rfl
          generalize roundM at_ (l.take j) (makeM at_ l k) k = acc at hown hal hstep
          have hsls := hsl.grow hg
          obtain ⟨b, off, row, ro, hpl, hgb, hbn, hrow, hle⟩ := hsls.at hlt
          have hwk : IntKind.i64.wrap ((l[j].key : Nat) : Int) = (l[j].key : Int) := IntWalk.i64_in _ (by have := hok _ (List.getElem_mem hlt); unfold LW.ok at this; omega)
          have hld := row_get lenLW hrow j hlt
          have hle2 := row_le hle j hlt
          have hw1 := i64s j (by omega)
          have hxk : l[j].key < 256 := hok _ (List.getElem_mem hlt)
          generalize hx : l[j] = x at hld hxk hstep hwk
          obtain ⟨key, val, gone⟩ := x
          simp only [encLW] at hld
          simp only at hxk hwk
          obtain ⟨pw, cw, rfl⟩ := (hown.sl (sz := 4) lenWr).form
          have g1 : Grow s2 ((s2.alloc (.cells [.int .u8 0, .string ⟨#[]⟩, .bool false] 30 false)).put s2.n (.cells [.int .u8 key, .string val, .bool gone] 30 false)) := ⟨by simp, fun j hj => by rw [CSt.get_put, if_neg (by omega), CSt.get_alloc, if_neg (by omega)]⟩
          have hcs : ((s2.alloc (.cells [.int .u8 0, .string ⟨#[]⟩, .bool false] 30 false)).put s2.n (.cells [.int .u8 key, .string val, .bool gone] 30 false)).get s2.n = some (.cells [.int .u8 key, .string val, .bool gone] 30 false) := by simp
          have hsn2 : s2.n < ((s2.alloc (.cells [.int .u8 0, .string ⟨#[]⟩, .bool false] 30 false)).put s2.n (.cells [.int .u8 key, .string val, .bool gone] 30 false)).n := by simp
          simp [wops_cons, e1, e4, e5, e6, e14, e17, e18, e19, hlt, hlt', hpl, hgb, hld, hle2]
          generalize (s2.alloc (.cells [.int .u8 0, .string ⟨#[]⟩, .bool false] 30 false)).put s2.n (.cells [.int .u8 key, .string val, .bool gone] 30 false) = s3 at g1 hcs hsn2
          have hc4' := g1.get hc4 (by omega)
          have hc5' := g1.get hc5 hsn
          have hown' := hown.grow g1
          have hg' := hg.trans g1
          have hsn' := Nat.lt_of_lt_of_le hsn g1.n
          -- is it left out?
          refine W_cut (fun out z => ∃ tm, out = .code .normal ⟨tm, 78, [], false⟩ ∧ tm.get 1 = some (.slice pl l.length cl) ∧ tm.get 4 = some (.pointer (some ⟨σ.n, 0, none⟩)) ∧ tm.get 5 = some (.pointer (some ⟨σ.n + 1, 0, none⟩)) ∧ tm.get 6 = some (.int .i64 (k : Nat)) ∧ tm.get 8 = some (.pointer (some ⟨s2.n, 0, none⟩)) ∧ tm.get 14 = some (.int .i64 (k : Nat)) ∧ tm.get 17 = some (.slice pl l.length cl) ∧ tm.get 18 = some (.int .i64 l.length) ∧ tm.get 19 = some (.int .i64 (j : Nat)) ∧ tm.get 48 = some (.bool (!decide (key = k ∧ ¬ (acc.getLast?.map (·.key) = some (key13 key))))) ∧ z = s3) ?_ ?_
          · refine W_drawn (l := [0, 1, 2, 3, 4, 5, 6, 7, 8, 9, 10, 11, 12, 13, 14, 15, 16, 17, 18, 19, 20, 21, 22, 23, 24, 25]) (b := #[0, 1, 3, 0, 15, 31, 63, 127, 255, 511, 1023, 2047, 4095, 2047, 10239, 26623, 59391, 131071, 262143, 524287, 2047, 1050623, 3147775, 8388607, 16777215, 33554431]) (by kernel_rfl) (by kernel_rfl) (by kernel_rfl) ?_
            by_cases hkk : key = k
            · subst hkk
              by_cases hnil : acc = []
              · subst hnil
                simp [dopsR_cons, wops_cons, dstOf, opAt, isEff, again, befBits, isRead, Nat.add_assoc, e1, e4, e5, e6, e14, e17, e18, e19, hcs, hc5', hwk]
                repeat (rw [dopsR_if (by rfl) (by simp [dstOf])]; simp [dopsR_cons, wops_cons, dstOf, opAt, isEff, again, befBits, isRead, Nat.add_assoc, e1, e4, e5, e6, e14, e17, e18, e19, hcs, hc5', hwk])
              · obtain ⟨m, hm⟩ : ∃ m, acc.length = m + 1 := ⟨acc.length - 1, by have := List.length_pos_iff.2 hnil; omega⟩
                have hma : m < acc.length := by omega
                have hgl := getLast_map acc hnil
                have hgl' : acc.getLast?.map (·.key) = some acc[m].key := by rw [hgl]; congr 2; congr 1; omega
                rw [hgl']
                obtain ⟨i, off2, row2, ro2, rfl, hgi, hin, hrow2, hle3⟩ := (hown'.sl (sz := 4) lenWr).at hma
                have hcl := row_cell (enc := encWr) lenWr hrow2 m 0 hma (by decide)
                have hle4 := row_le hle3 m hma
                simp only [hm] at hc5'
                have hwm : IntKind.i64.wrap (m : Int) = (m : Int) := IntWalk.i64_in _ (by omega)
                have hmp : (0 : Int) < (m : Int) + 1 := by omega
                have hmq : (m : Int) < (m : Int) + 1 := by omega
                simp [encWr] at hcl
                simp [dopsR_cons, wops_cons, dstOf, opAt, isEff, again, befBits, isRead, Nat.add_assoc, e1, e4, e5, e6, e14, e17, e18, e19, hcs, hc5', hwk]
                repeat (rw [dopsR_if (by rfl) (by simp [dstOf])]; simp [dopsR_cons, wops_cons, dstOf, opAt, isEff, again, befBits, isRead, Nat.add_assoc, e1, e4, e5, e6, e14, e17, e18, e19, hcs, hc5', hwk, hgi, hcl, hle4, hwm, hmp, hmq])
                refine key_spec key hxk s3 _ ?_
                simp [dopsR_cons, wops_cons, dstOf, opAt, isEff, again, befBits, isRead, Nat.add_assoc, e1, e4, e5, e6, e14, e17, e18, e19, hcs, hc5', hwk, hgi, hcl, hle4, hwm, hmp, hmq, Nat.testBit_eq_decide_div_mod_eq]
                repeat (rw [dopsR_if (by rfl) (by simp [dstOf])]; simp [dopsR_cons, wops_cons, dstOf, opAt, isEff, again, befBits, isRead, Nat.add_assoc, e1, e4, e5, e6, e14, e17, e18, e19, hcs, hc5', hwk, hgi, hcl, hle4, hwm, hmp, hmq, Nat.testBit_eq_decide_div_mod_eq])
                rw [Bool.eq_iff_iff]
                simp only [beq_iff_eq, decide_eq_true_eq]
                exact ⟨fun e => ba_list_inj e, fun e => by rw [e]⟩
            · have hkk' : ¬ ((key : Int) = k) := by omega
              simp [dopsR_cons, wops_cons, dstOf, opAt, isEff, again, befBits, isRead, Nat.add_assoc, e1, e4, e5, e6, e14, e17, e18, e19, hcs, hc5', hwk, hkk, hkk']
              repeat (rw [dopsR_if (by rfl) (by simp [dstOf])]; simp [dopsR_cons, wops_cons, dstOf, opAt, isEff, again, befBits, isRead, Nat.add_assoc, e1, e4, e5, e6, e14, e17, e18, e19, hcs, hc5', hwk, hkk, hkk'])
          · rintro out z ⟨tm, rfl, e1, e4, e5, e6, e8, e14, e17, e18, e19, e48, rfl⟩
            by_cases hskip : key = k ∧ ¬ (acc.getLast?.map (·.key) = some (key13 key))
            · have hst : stepM at_ k acc ⟨key, val, gone⟩ = acc ++ [mkW at_ ⟨key, val, gone⟩] := by unfold stepM; rw [if_pos hskip]
              rw [hst] at hstep
              rw [decide_eq_true hskip] at e48
              -- the version
              have hn1 : ¬ (s2.n = z.n) := by omega
              have hn2 : ¬ (σ.n + 1 = z.n) := by omega
              have hn3 : ¬ (z.n = s2.n) := by omega
              simp [wops_cons, e1, e4, e5, e6, e8, e14, e17, e18, e19, e48, hc5', hcs, hn1, hn2, -W_condK]
              rw [W_cond_f (by simp [e48])]
              simp [wops_cons, e1, e4, e5, e6, e8, e14, e17, e18, e19, e48, hc5', hcs, hn1, hn2, -W_condK]
              refine W_cut (fun out y => ∃ tm, out = .code .normal ⟨tm, 78, [], false⟩ ∧ tm.get 1 = some (.slice pl l.length cl) ∧ tm.get 4 = some (.pointer (some ⟨σ.n, 0, none⟩)) ∧ tm.get 5 = some (.pointer (some ⟨σ.n + 1, 0, none⟩)) ∧ tm.get 6 = some (.int .i64 (k : Nat)) ∧ tm.get 8 = some (.pointer (some ⟨s2.n, 0, none⟩)) ∧ tm.get 9 = some (.pointer (some ⟨z.n, 0, none⟩)) ∧ tm.get 14 = some (.int .i64 (k : Nat)) ∧ tm.get 17 = some (.slice pl l.length cl) ∧ tm.get 18 = some (.int .i64 l.length) ∧ tm.get 19 = some (.int .i64 (j : Nat)) ∧ Grow z y ∧ z.n < y.n ∧ y.get z.n = some (.cells [.int .u64 at_, .string (if gone then str [] else cutV val), .bool gone] 33 false)) ?_ ?_
              · cases gone with
                | true =>
                  simp [wops_cons, e1, e4, e5, e6, e8, e14, e17, e18, e19, hcs, hn1, hn3]
                  exact ⟨⟨by simp, fun j hj => by rw [CSt.get_put, if_neg (by omega), CSt.get_alloc, if_neg (by omega)]⟩, rfl⟩
                | false =>
                  by_cases hz : 200 < val.size
                  · have hz' : (200 : Int) < (val.size : Int) := by omega
                    have hz2 : (200 : Int) ≤ (val.size : Int) := by omega
                    have hcv : cutV val = val.extract 0 200 := by unfold cutV; rw [Nat.min_eq_right (by omega)]
                    simp [wops_cons, e1, e4, e5, e6, e8, e14, e17, e18, e19, hcs, hn1, hn3, minK, slS, hz, hz', hz2, hcv]
                    exact ⟨by simp, fun j hj => by rw [CSt.get_put, if_neg (by omega), CSt.get_put, if_neg (by omega), CSt.get_alloc, if_neg (by omega)]⟩
                  · have hz' : ¬ (200 : Int) < (val.size : Int) := by omega
                    have hcv : cutV val = val.extract 0 val.size := by unfold cutV; rw [Nat.min_eq_left (by omega)]
                    simp [wops_cons, e1, e4, e5, e6, e8, e14, e17, e18, e19, hcs, hn1, hn3, minK, slS, hz, hz', hcv]
                    exact ⟨by simp, fun j hj => by rw [CSt.get_put, if_neg (by omega), CSt.get_put, if_neg (by omega), CSt.get_alloc, if_neg (by omega)]⟩
              · rintro out y ⟨tm, rfl, e1, e4, e5, e6, e8, e9, e14, e17, e18, e19, gy, hzy, hc9⟩
                have gcs := gy.get hcs hsn2
                have gc4 := gy.get hc4' (by omega)
                have gc5 := gy.get hc5' hsn'
                have gown := hown'.grow gy
                have gg := hg'.trans gy
                have gyn := gy.n
                refine W_drawn (l := [0, 1, 2, 3, 5, 4, 6, 7, 8, 9, 10]) (b := #[0, 1, 0, 4, 12, 0, 60, 124, 255, 511, 1023]) (by kernel_rfl) (by kernel_rfl) (by kernel_rfl) ?_
                simp [dopsR_cons, wops_cons, dstOf, opAt, isEff, again, befBits, isRead, Nat.add_assoc, e1, e4, e5, e6, e8, e9, e14, e17, e18, e19, gcs, gc5, hc9, Nat.testBit_eq_decide_div_mod_eq]
                refine key_spec key hxk y _ ?_
                obtain ⟨p9, c9, s9, a1, a2, a3, a4⟩ := app_wr (x := mkW at_ ⟨key, val, gone⟩) gown gg.n (by omega)
                have f9 : Fr (fun t => t = 90) σ.n y s9 := gown.z.frV a3
                have k4 := f9.get gc4 (by omega) (.inr fun row e ro he => by cases he; decide)
                have k5 := f9.get gc5 (by omega) (.inr fun row e ro he => by cases he; decide)
                have k9 := f9.get hc9 hzy (.inr fun row e ro he => by cases he; decide)
                have k8 := f9.get gcs (by omega) (.inr fun row e ro he => by cases he; decide)
                have sn9 := f9.1
                have hn8 : ¬ (σ.n + 1 = y.n) := by omega
                have hn9 : ¬ (z.n = y.n) := by omega
                have hn10 : ¬ (s2.n = σ.n + 1) := by omega
                have hn11 : ¬ (z.n = σ.n + 1) := by omega
                have hn12 : ¬ (s2.n = y.n) := by omega
                simp [encWr, mkW] at a1
                simp [dopsR_cons, wops_cons, dstOf, opAt, isEff, again, befBits, isRead, Nat.add_assoc, e1, e4, e5, e6, e8, e9, e14, e17, e18, e19, gcs, gc5, hc9, Nat.testBit_eq_decide_div_mod_eq, a1, k4, k5, k8, k9, hw1, hn8, hn9, hn10, hn11, hn12]
                have f10 : Fr (fun t => t = 47) σ.n s9 (s9.put (σ.n + 1) (.cells [.int .u64 at_, .slice p9 (acc.length + 1) c9] 47 false)) := (Fr.refl (fun t => t = 47) σ.n _).put (by omega) k5 rfl _
                exact ⟨l.length - (j + 1), by omega, hpl, j + 1, by omega, by omega, rfl, by omega, by rw [hstep]; exact a2.fr (T := fun t => t = 47) (by decide) f10, by rw [hstep]; simp; omega, (((gg.fr (T := fun t => t = 90 ∨ t = 47)).trans (f9.mono (fun _ => .inl) (Nat.le_refl _))).trans (f10.mono (fun _ => .inr) (Nat.le_refl _))).grow (Nat.le_refl _)⟩
            · have hst : stepM at_ k acc ⟨key, val, gone⟩ = acc := by unfold stepM; rw [if_neg hskip]
              rw [hst] at hstep
              rw [decide_eq_false hskip] at e48
              simp [wops_cons, e1, e4, e5, e6, e8, e14, e17, e18, e19, e48, hw1]
              exact ⟨l.length - (j + 1), by omega, hpl, j + 1, by omega, by omega, rfl, hc4', _, hc5', hsn', by rw [hstep]; exact hown', by rw [hstep]; omega, hg'⟩
        · have hje : j = l.length := by omega
          subst hje
          have hlt' : ¬ ((l.length : Int) < (l.length : Int)) := by omega
          simp [wops_cons, e1, e4, e5, e6, e14, e17, e18, e19]
          rw [List.take_of_length_le (Nat.le_refl _), ← makeM_succ] at hown
          exact ⟨hc4, _, hc5, hsn, hown, hg⟩
      · exact ⟨_, 0, wv, rfl, by simp [e1], by simp [e4], by simp [e5], by simp, by simp [e14], by simp, by simp, by simp, by omega, rfl, hc4, hc5, hsn, by simpa [roundM] using hown, by simpa [roundM] using Nat.le_trans hlen (by omega), hg⟩
      · rintro out s2 ⟨tm2, wv2, rfl, f1, f4, f5, f14, fc4, fc5, fsn, fown, fg⟩
        simp [wops_cons, f1, f4, f5, f14, hw]
        exact ⟨256 - (k + 1), by omega, k + 1, by omega, by omega, rfl, fc4, wv2, fc5, fsn, fown, fg⟩
    · have hk2 : k = 256 := by omega
      subst hk2
      obtain ⟨pw, cw, rfl⟩ := (hown.sl (sz := 4) lenWr).form
      have hQ := h (.slice pw (makeM at_ l 256).length cw) (s.put σ.n (.cells [.int .u64 at_, .slice pw (makeM at_ l 256).length cw] 47 false)) (hown.fr (T := fun t => t = 47) (b := σ.n) (by decide) ((Fr.refl (fun t => t = 47) σ.n _).put (Nat.le_refl _) hc4 rfl _)) ⟨by simpa using hg.n, fun j hj => by rw [CSt.get_put, if_neg (by omega)]; exact hg.old j hj⟩
      have hne : ¬ (σ.n + 1 = σ.n) := by omega
      simpa [wops_cons, e1, e4, e5, e14, hc4, hc5] using hQ
  · exact ⟨_, 0, .slice none 0 0, rfl, by simp, by simp, by simp, by simp, by omega, rfl, by simp, by simp, by simp, Own.nil, g0⟩
end Go.Sm
/- The law's own Decode of records. -/
set_option linter.unusedVariables false
set_option linter.unusedSimpArgs false
namespace Go.Sm
open Go Go.Proofs
set_option maxRecDepth 100000
set_option maxHeartbeats 40000000
theorem tk_cases (l : List UInt8) : (rd l = none ∧ tk l = (0, 0)) ∨ ∃ n r k, rd l = some (n, r) ∧ tk l = (n, k) ∧ 1 ≤ k ∧ k ≤ l.length ∧ l.drop k = r ∧ r.length = l.length - k ∧ n < 2 ^ 64 := by
  unfold tk
  cases h : rd l with
  | none => exact .inl ⟨rfl, rfl⟩
  | some p =>
    obtain ⟨n, r⟩ := p
    obtain ⟨h1, h2⟩ := rd_some h
    have h3 := rd_len h
    have h4 := num_pos n
    refine .inr ⟨n, r, _, rfl, rfl, by omega, by omega, ?_, by omega, h2⟩
    have e : l.length - r.length = (num n).length := by omega
    rw [e]
    conv => lhs; rw [h1]
    rw [List.drop_left]
/-- The last key so far. -/
def lastK (l : List Wri) : ByteArray := (l.getLast?.map (·.key)).getD (str [])
theorem klt_empty (s : ByteArray) : klt (str []) s = decide (1 ≤ s.size) := by
  by_cases h : 1 ≤ s.size
  · rw [klt_nil h, decide_eq_true h]
  · have : s.size = 0 := by omega
    have e : s.data.toList = [] := List.eq_nil_of_length_eq_zero this
    rw [decide_eq_false h]
    unfold klt str
    rw [ByteArray.toList_eq, ByteArray.toList_eq, e]
    rfl
theorem lastK_size {at_ : Int} {l : List Wri} (h : klt (lastK l) (str []) = true) : False := by
  unfold klt at h
  rw [ByteArray.toList_eq, ByteArray.toList_eq] at h
  have e : (str []).data.toList = [] := rfl
  rw [e] at h
  cases hx : (lastK l).data.toList with
  | nil => rw [hx] at h; cases h
  | cons a b => rw [hx] at h; cases h
theorem Own.but' {α : Type} {b i : Nat} {s s' : CSt} {e : TypeId} {enc : α → List Value} {v : Value} {l : List α} (h : Own b s e enc v l) (hi : objOf v ≠ some i) (hb : But i s s') : Own b s' e enc v l := by
  rcases h with h | ⟨j, cap, rfl, hb', hj, hg, hc⟩
  · exact .inl h
  · exact .inr ⟨j, cap, rfl, hb', Nat.lt_of_lt_of_le hj hb.1, by rw [hb.2 j hj (fun e => hi (by rw [e]; rfl))]; exact hg, hc⟩
theorem Own.obj_lt {α : Type} {b : Nat} {s : CSt} {e : TypeId} {enc : α → List Value} {v : Value} {l : List α} (h : Own b s e enc v l) {i : Nat} (hi : objOf v = some i) : i < s.n := by
  rcases h with ⟨rfl, _⟩ | ⟨j, cap, rfl, hb', hj, hg, hc⟩
  · cases hi
  · cases hi; exact hj
theorem lastK_snoc (l : List Wri) (w : Wri) : lastK (l ++ [w]) = w.key := by simp [lastK]
theorem lastK_get {l : List Wri} {m : Nat} (h : l.length = m + 1) : lastK l = (l[m]'(by omega)).key := by
  unfold lastK
  rw [List.getLast?_eq_getElem?, List.getElem?_eq_getElem (by omega)]
  simp [h]
theorem ldec_spec (l : List UInt8) (v : Value) (σ : CSt) (hsl : Sl σ 5 1 encY v l) (hbig : l.length < 2 ^ 35) (Q : Out → CSt → Prop)
    (h : ∀ a e σ', RetR σ' (dec l) a e → Grow σ σ' → Q (.ret (.tuple #[a, e]) false) σ') : W E1 (.fn 21 #[v] none) σ Q := by
  rw [W_fn (fn := Tryz.f21) Tryz.func21 rfl rfl rfl]
  obtain ⟨pv, cv, rfl⟩ := hsl.form
  simp [wops_cons]
  have g0 : Grow σ (σ.alloc (.cells [.int .u64 0, .slice none 0 0] 47 false)) := (Grow.refl σ).alloc _
  have hc0 : (σ.alloc (.cells [.int .u64 0, .slice none 0 0] 47 false)).get σ.n = some (.cells [.int .u64 0, .slice none 0 0] 47 false) := by simp
  have hs0 := hsl.grow g0
  have hn0 : σ.n < (σ.alloc (.cells [.int .u64 0, .slice none 0 0] 47 false)).n := by simp
  refine take_spec l _ _ hs0 (by omega) _ fun σ1 g1 => ?_
  have hc1 := g1.get hc0 hn0
  have hs1 := hs0.grow g1
  have n1 := g1.n
  -- what is none: for all states of this kind
  have hbad : dec l = none → ∀ s, Grow σ s → s.get σ.n = some (.cells [.int .u64 0, .slice none 0 0] 47 false) → Q (.ret (.tuple #[.agg #[.int .u64 0, .slice none 0 0], .int .i64 10]) false) (s.put σ.n (.cells [.int .u64 0, .slice none 0 0] 47 false)) := fun hd s hg hc =>
    h _ _ _ (by rw [hd]; exact ⟨rfl, rfl⟩) ⟨by simpa using hg.n, fun j hj => by rw [CSt.get_put, if_neg (by omega)]; exact hg.old j hj⟩
  obtain ⟨at_, k, hk⟩ : ∃ a k, tk l = (a, k) := ⟨_, _, rfl⟩
  obtain ⟨pr, cr, hd1, hs2⟩ := ysl_tail hs1 k (by rcases tk_cases l with ⟨_, h⟩ | ⟨n, r, k', _, h, _, h2, _⟩ <;> rw [hk] at h <;> cases h <;> omega) .i64
  have hlu : IntKind.u64.wrap (l.length : Int) = (l.length : Int) := IntWalk.u64_in _ (by omega)
  simp only [hk]
  simp [wops_cons, hd1]
  refine take_spec (l.drop k) _ σ1 (by simpa using hs2) (by simp; omega) _ fun σ2 g2 => ?_
  have hc2 := g2.get hc1 (by omega)
  have hg02 := (g0.trans g1).trans g2
  have hs3 := hs2.grow g2
  have n2 := g2.n
  obtain ⟨n, j, hj⟩ : ∃ a b, tk (l.drop k) = (a, b) := ⟨_, _, rfl⟩
  simp only [hj]
  -- was it none?
  obtain ⟨bad, hb1, hb2, hb3⟩ : ∃ bad : Bool, bad = (decide ((k : Int) = 0) || decide ((j : Int) = 0) || decide ((at_ : Int) < 1) || decide (1099511627776 < (at_ : Int)) || decide ((l.length : Int) < (n : Int))) ∧ (bad = true → dec l = none) ∧ (bad = false → at_ ≤ 2 ^ 40 ∧ n ≤ l.length ∧ j ≤ (l.drop k).length ∧ dec l = (rdWs at_ n (str []) ((l.drop k).drop j)).bind (finR at_ [])) := by
    refine ⟨_, rfl, ?_, ?_⟩
    · intro hb
      simp only [Bool.or_eq_true, decide_eq_true_eq] at hb
      rcases tk_cases l with ⟨h1, h2⟩ | ⟨n', r, k', h1, h2, h3, h4, h5, h6, h7⟩
      · unfold dec; rw [h1]; rfl
      · rw [hk] at h2; cases h2
        rw [h5] at hj
        rcases tk_cases r with ⟨q1, q2⟩ | ⟨n2, r2, k2, q1, q2, q3, q4, q5, q6, q7⟩
        · unfold dec; rw [h1]; simp only [Option.bind_some]; rw [q1]; rfl
        · rw [hj] at q2; cases q2
          unfold dec; rw [h1]; simp only [Option.bind_some]; rw [q1]; simp only [Option.bind_some]
          rw [if_neg (by omega)]
    · intro hb
      simp only [Bool.or_eq_false_iff, decide_eq_false_iff_not] at hb
      rcases tk_cases l with ⟨h1, h2⟩ | ⟨n', r, k', h1, h2, h3, h4, h5, h6, h7⟩
      · rw [hk] at h2; cases h2; omega
      · rw [hk] at h2; cases h2
        rw [h5] at hj ⊢
        rcases tk_cases r with ⟨q1, q2⟩ | ⟨n2, r2, k2, q1, q2, q3, q4, q5, q6, q7⟩
        · rw [hj] at q2; cases q2; omega
        · rw [hj] at q2; cases q2
          refine ⟨by omega, by omega, q4, ?_⟩
          unfold dec; rw [h1]; simp only [Option.bind_some]; rw [q1]; simp only [Option.bind_some]
          rw [if_pos (by omega), q5]
          rfl
  simp [wops_cons, -W_region]
  refine W_cut (fun out s => ∃ tm, out = .code .normal ⟨tm, 176, [], false⟩ ∧ tm.get 2 = some (.pointer (some ⟨σ.n, 0, none⟩)) ∧ tm.get 4 = some (.int .u64 (at_ : Nat)) ∧ tm.get 6 = some (.slice pr (l.length - k) cr) ∧ tm.get 7 = some (.int .u64 (n : Nat)) ∧ tm.get 8 = some (.int .i64 (j : Nat)) ∧ tm.get 47 = some (.bool bad) ∧ s = σ2) ?_ ?_
  · rw [W_region, hb1]
    by_cases e1 : k = 0
    · simp [wops_cons, wops_if', dstOf, e1]
    · by_cases e2 : j = 0
      · simp [wops_cons, wops_if', dstOf, e1, e2]
      · by_cases e3 : (at_ : Int) < 1
        · simp [wops_cons, wops_if', dstOf, e1, e2, e3]
        · by_cases e4 : 1099511627776 < (at_ : Int)
          · simp [wops_cons, wops_if', dstOf, e1, e2, e3, e4]
          · simp [wops_cons, wops_if', dstOf, e1, e2, e3, e4, hlu]
  · rintro out s ⟨tm, rfl, t2, t4, t6, t7, t8, t47, rfl⟩
    cases bad with
    | true =>
      have hQ := hbad (hb2 rfl) s hg02 hc2
      simpa [wops_cons, t2, t4, t6, t7, t8, t47, hc2] using hQ
    | false =>
      obtain ⟨hat, hnl, hjl, hde⟩ := hb3 rfl
      clear hb1 hb2 hb3
      obtain ⟨pr2, cr2, hd2, hs4⟩ := ysl_tail hs3 j (by simpa using hjl) .i64
      simp only [List.length_drop] at hs4 hd2 hjl
      have g9 : Grow s ((s.alloc (.cells [.int .u64 0, .slice none 0 0] 47 false)).put s.n (.cells [.int .u64 at_, .slice none 0 0] 47 false)) := ⟨by simp, fun j hj => by rw [CSt.get_put, if_neg (by omega), CSt.get_alloc, if_neg (by omega)]⟩
      have hc9 : ((s.alloc (.cells [.int .u64 0, .slice none 0 0] 47 false)).put s.n (.cells [.int .u64 at_, .slice none 0 0] 47 false)).get s.n = some (.cells [.int .u64 at_, .slice none 0 0] 47 false) := by simp
      have hn9 : s.n < ((s.alloc (.cells [.int .u64 0, .slice none 0 0] 47 false)).put s.n (.cells [.int .u64 at_, .slice none 0 0] 47 false)).n := by simp
      have hd2' := hd2
      rw [← sliceOp_grow hs3 g9] at hd2'
      simp [wops_cons, t2, t4, t6, t7, t8, t47, hc2, hd2']
      have hc2' := g9.get hc2 (by omega)
      have hs5 := hs4.grow g9
      have hg9 := hg02.trans g9
      generalize (s.alloc (.cells [.int .u64 0, .slice none 0 0] 47 false)).put s.n (.cells [.int .u64 at_, .slice none 0 0] 47 false) = s9 at g9 hc9 hn9 hd2' hc2' hs5 hg9
      have hσs : σ.n < s.n := by omega
      generalize s.n = c9 at hc9 hn9 hσs
      have hn29 : ¬ (σ.n = c9) := by omega
      have hn92 : ¬ (c9 = σ.n) := by omega
      refine W_loop_inv (fun m a z => ∃ tm, ∃ c : Nat, ∃ rest vr done wv, a = ⟨tm, 176, [], false⟩ ∧ tm.get 2 = some (.pointer (some ⟨σ.n, 0, none⟩)) ∧ tm.get 4 = some (.int .u64 (at_ : Nat)) ∧ tm.get 6 = some vr ∧ tm.get 7 = some (.int .u64 (c : Nat)) ∧ tm.get 9 = some (.pointer (some ⟨c9, 0, none⟩)) ∧
        (m = c ∧ c ≤ n ∧ Sl z 5 1 encY vr rest ∧ rest.length ≤ l.length ∧ dec l = (rdWs at_ c (lastK done) rest).bind (finR at_ done) ∧ z.get σ.n = some (.cells [.int .u64 0, .slice none 0 0] 47 false) ∧ z.get c9 = some (.cells [.int .u64 at_, wv] 47 false) ∧ c9 < z.n ∧ Own σ.n z 90 encWr wv done ∧ done.length + c = n ∧ Grow σ z)) ?_ n _ _ ?_
      · rintro m a z ⟨tm, c, rest, vr, done, wv, rfl, t2, t4, t6, t7, t9, rfl, hcn, hsr, hrl, hde, k2, k9, hzn, hown, hdn, hgz⟩
        obtain ⟨pw, cw, rfl⟩ := (hown.sl (sz := 4) lenWr).form
        obtain ⟨pv2, cv2, rfl⟩ := hsr.form
        rcases Nat.eq_zero_or_pos m with rfl | hpos
        · by_cases hre : rest = []
          · subst hre
            have hd : dec l = some ⟨at_, done⟩ := by rw [hde]; simp [rdWs, finR]
            have hQ := h (.agg #[.int .u64 at_, .slice pw done.length cw]) (.int .i64 0) (z.put σ.n (.cells [.int .u64 at_, .slice pw done.length cw] 47 false)) (by
              rw [hd]
              exact ⟨_, rfl, rfl, (hown.sl lenWr).fr (T := fun t => t = 47) (b := σ.n) (by decide) ((Fr.refl (fun t => t = 47) σ.n _).put (Nat.le_refl _) k2 rfl _)⟩) ⟨by simpa using hgz.n, fun j hj => by rw [CSt.get_put, if_neg (by omega)]; exact hgz.old j hj⟩
            simpa [wops_cons, t2, t4, t6, t7, t9, k2, k9, hn29, hn92] using hQ
          · have hd : dec l = none := by rw [hde]; simp [rdWs, finR, hre]
            have hlp : 0 < rest.length := List.length_pos_iff.2 hre
            have hQ := hbad hd z hgz k2
            simpa [wops_cons, t2, t4, t6, t7, t9, k2, k9, hn29, hn92, hlp, hre] using hQ
        · obtain ⟨c, rfl⟩ : ∃ c, m = c + 1 := ⟨m - 1, by omega⟩
          have hpos' : (0 : Int) < (c : Int) + 1 := by omega
          simp [wops_cons, t2, t4, t6, t7, t9, k2, k9, hpos']
          refine take_spec rest _ z hsr (by omega) _ fun z1 y1 => ?_
          have n1 := y1.n
          have k2a := y1.get k2 (by omega)
          have k9a := y1.get k9 hzn
          have hsra := hsr.grow y1
          have howa := hown.grow y1
          have hgza := hgz.trans y1
          have hstep := dec_step (at_ := (at_ : Int)) (n := c) (last := lastK done) (b := rest)
          have hwl : IntKind.i64.wrap ((rest.length : Int)) = (rest.length : Int) := IntWalk.i64_in _ (by omega)
          rcases tk_cases rest with ⟨r1, r2⟩ | ⟨sz, r, k1, r1, r2, r3, r4, r5, r6, r7⟩
          · have hd : dec l = none := by
              rw [hde, hstep]
              unfold rdText
              rw [r1]; rfl
            have hQ := hbad hd z1 hgza k2a
            simpa [wops_cons, wops_if', dstOf, r2, t2, t4, t6, t7, t9, k2a, k9a, hn29, hn92] using hQ
          · have hw1 : IntKind.i64.wrap ((rest.length : Int) - (k1 : Int)) = (r.length : Int) := by rw [IntWalk.i64_in _ (by omega)]; omega
            have hw2 : IntKind.u64.wrap (r.length : Int) = (r.length : Int) := IntWalk.u64_in _ (by omega)
            have hk0 : ¬ (k1 = 0) := by omega
            have ht1 : rdText 32 rest = if sz ≤ r.length ∧ sz ≤ 32 then some (str (r.take sz), r.drop sz) else none := by unfold rdText; rw [r1]; rfl
            by_cases e1 : (32 : Int) < (sz : Int)
            · have hd : dec l = none := by
                rw [hde, hstep, ht1, if_neg (by omega)]; rfl
              have hQ := hbad hd z1 hgza k2a
              simpa [wops_cons, wops_if', dstOf, r2, t2, t4, t6, t7, t9, k2a, k9a, hn29, hn92, hk0, e1] using hQ
            · by_cases e2 : (r.length : Int) < (sz : Int)
              · have hd : dec l = none := by
                  rw [hde, hstep, ht1, if_neg (by omega)]; rfl
                have hQ := hbad hd z1 hgza k2a
                simpa [wops_cons, wops_if', dstOf, r2, t2, t4, t6, t7, t9, k2a, k9a, hn29, hn92, hk0, e1, e2, hw1, hw2] using hQ
              · by_cases e3 : (sz : Int) < 1
                · have hd : dec l = none := by
                    have hz0 : sz = 0 := by omega
                    subst hz0
                    rw [hde, hstep, ht1, if_pos (by omega)]
                    simp only [Option.bind_some, List.take_zero]
                    have hkf : klt (lastK done) (str []) = false := by
                      cases hk : klt (lastK done) (str []) with
                      | false => rfl
                      | true => exact absurd hk (fun h => lastK_size (at_ := 0) h)
                    cases rdVer at_ (r.drop 0) with
                    | none => rfl
                    | some q => simp only [Option.bind_some, hkf]; rfl
                  have hQ := hbad hd z1 hgza k2a
                  simpa [wops_cons, wops_if', dstOf, r2, t2, t4, t6, t7, t9, k2a, k9a, hn29, hn92, hk0, e1, e2, e3, hw1, hw2] using hQ
                · rw [if_pos (by omega)] at ht1
                  rw [hstep, ht1, Option.bind_some] at hde
                  obtain ⟨q1, c1, d1, d2⟩ := ysl_mid hsra k1 (k1 + sz) (by omega) (by omega) .i64 .i64
                  have em : (rest.take (k1 + sz)).drop k1 = r.take sz := by rw [List.drop_take, r5, Nat.add_sub_cancel_left]
                  rw [em, Nat.add_sub_cancel_left] at d2
                  rw [Nat.add_sub_cancel_left] at d1
                  have hcv := ystr d2
                  obtain ⟨q2, c2, d3, d4⟩ := ysl_tail hsra (k1 + sz) (by omega) .i64
                  have et : rest.drop (k1 + sz) = r.drop sz := by rw [← r5, List.drop_drop]
                  rw [et] at d4
                  have e4 : rest.length - (k1 + sz) = (r.drop sz).length := by rw [List.length_drop]; omega
                  rw [e4] at d3 d4
                  have hw3 : IntKind.i64.wrap (sz : Int) = (sz : Int) := IntWalk.i64_in _ (by omega)
                  have hw4 : IntKind.i64.wrap ((k1 : Int) + (sz : Int)) = (k1 : Int) + (sz : Int) := IntWalk.i64_in _ (by omega)
                  obtain ⟨K, hK⟩ : ∃ K, K = str (r.take sz) := ⟨_, rfl⟩
                  obtain ⟨R, hR⟩ : ∃ R, R = r.drop sz := ⟨_, rfl⟩
                  have hRl : R.length ≤ rest.length := by rw [hR, List.length_drop]; omega
                  rw [← hR] at d3 d4 hde
                  rw [← hK] at hcv hde
                  simp only at hde
                  have gK : Grow z1 ((z1.alloc (.cells [.string ⟨#[]⟩, .int .u64 0, .string ⟨#[]⟩, .bool false] 90 false)).put z1.n (.cells [.string K, .int .u64 0, .string ⟨#[]⟩, .bool false] 90 false)) := ⟨by simp, fun j hj => by rw [CSt.get_put, if_neg (by omega), CSt.get_alloc, if_neg (by omega)]⟩
                  have hcK : ((z1.alloc (.cells [.string ⟨#[]⟩, .int .u64 0, .string ⟨#[]⟩, .bool false] 90 false)).put z1.n (.cells [.string K, .int .u64 0, .string ⟨#[]⟩, .bool false] 90 false)).get z1.n = some (.cells [.string K, .int .u64 0, .string ⟨#[]⟩, .bool false] 90 false) := by simp
                  have hnK : z1.n < ((z1.alloc (.cells [.string ⟨#[]⟩, .int .u64 0, .string ⟨#[]⟩, .bool false] 90 false)).put z1.n (.cells [.string K, .int .u64 0, .string ⟨#[]⟩, .bool false] 90 false)).n := by simp
                  have d3' := d3
                  rw [← sliceOp_grow hsra gK] at d3'
                  push_cast at d1 d3'
                  simp [wops_cons, wops_if', dstOf, r2, t2, t4, t6, t7, t9, k2a, k9a, hn29, hn92, hk0, e1, e2, e3, hw1, hw2, hw3, hw4, d1, hcv, d3']
                  have k2b := gK.get k2a (by omega)
                  have k9b := gK.get k9a (by omega)
                  have d4b := d4.grow gK
                  have howb := howa.grow gK
                  have hgzb := hgza.trans gK
                  generalize (z1.alloc (.cells [.string ⟨#[]⟩, .int .u64 0, .string ⟨#[]⟩, .bool false] 90 false)).put z1.n (.cells [.string K, .int .u64 0, .string ⟨#[]⟩, .bool false] 90 false) = z2 at gK hcK hnK d3' k2b k9b d4b howb hgzb
                  have hz12 : c9 < z1.n := by omega
                  have hσ1 : σ.n < z1.n := by omega
                  generalize hcc : z1.n = c12 at hcK hnK hz12 hσ1
                  have hm1 : ¬ (c9 = c12) := by omega
                  have hm2 : ¬ (c12 = c9) := by omega
                  have hm3 : ¬ (σ.n = c12) := by omega
                  have hm4 : ¬ (c12 = σ.n) := by omega
                  refine take_spec R _ z2 d4b (by omega) _ fun z3 y3 => ?_
                  have n3 := y3.n
                  have k2c := y3.get k2b (by omega)
                  have k9c := y3.get k9b (by omega)
                  have k12c := y3.get hcK hnK
                  have d4c := d4b.grow y3
                  have howc := howb.grow y3
                  have hgzc := hgzb.trans y3
                  have hwR : IntKind.i64.wrap ((R.length : Int)) = (R.length : Int) := IntWalk.i64_in _ (by omega)
                  rcases tk_cases R with ⟨s1, s2⟩ | ⟨sy, r', k2, s1, s2, s3, s4, s5, s6, s7⟩
                  · have hd : dec l = none := by
                      rw [hde]
                      unfold rdVer
                      rw [s1]; rfl
                    have hQ := hbad hd z3 hgzc k2c
                    simpa [wops_cons, wops_if', dstOf, s2, t2, t4, t6, t7, t9, k2c, k9c, k12c, hm3, hm4, hn29, hn92] using hQ
                  · have hv1 : IntKind.i64.wrap ((R.length : Int) - (k2 : Int)) = (r'.length : Int) := by rw [IntWalk.i64_in _ (by omega)]; omega
                    have hv2 : IntKind.u64.wrap (r'.length : Int) = (r'.length : Int) := IntWalk.u64_in _ (by omega)
                    have hk20 : ¬ (k2 = 0) := by omega
                    have ht2 : rdVer at_ R = if sy = 0 then some (⟨at_, str [], true⟩, r') else if sy ≤ 201 ∧ sy - 1 ≤ r'.length then some (⟨at_, str (r'.take (sy - 1)), false⟩, r'.drop (sy - 1)) else none := by unfold rdVer; rw [s1]; rfl
                    obtain ⟨q5, c5, d5, d6⟩ := ysl_tail d4c k2 s4 .i64
                    rw [s5, ← s6] at d6
                    rw [← s6] at d5
                    by_cases f1 : (201 : Int) < (sy : Int)
                    · have hd : dec l = none := by
                        rw [hde, ht2, if_neg (by omega), if_neg (by omega)]; rfl
                      have hQ := hbad hd z3 hgzc k2c
                      simpa [wops_cons, wops_if', dstOf, s2, t2, t4, t6, t7, t9, k2c, k9c, k12c, hm3, hm4, hn29, hn92, hk20, f1] using hQ
                    by_cases f2 : 0 < sy ∧ (r'.length : Int) < (sy : Int) - 1
                    · have hd : dec l = none := by
                        rw [hde, ht2, if_neg (by omega), if_neg (by omega)]; rfl
                      have hQ := hbad hd z3 hgzc k2c
                      have f3 : (0 : Int) < (sy : Int) := by omega
                      have f4 := f2.1
                      have f5 := f2.2
                      have f6 : IntKind.u64.wrap ((sy : Int) - 1) = (sy : Int) - 1 := IntWalk.u64_in _ (by omega)
                      simpa [wops_cons, wops_if', dstOf, s2, t2, t4, t6, t7, t9, k2c, k9c, k12c, hm3, hm4, hn29, hn92, hk20, f1, f3, f4, f5, f6, hv1, hv2] using hQ
                    -- the version is read
                    obtain ⟨val, R2, hRV, hvv⟩ : ∃ val R2, rdVer at_ R = some (⟨at_, val, decide (sy = 0)⟩, R2) ∧ ((sy = 0 ∧ val = str [] ∧ R2 = r') ∨ (0 < sy ∧ sy - 1 ≤ r'.length ∧ val = str (r'.take (sy - 1)) ∧ R2 = r'.drop (sy - 1))) := by
                      rcases Nat.eq_zero_or_pos sy with h0 | h0
                      · exact ⟨_, _, by rw [ht2, if_pos h0, h0]; rfl, .inl ⟨h0, rfl, rfl⟩⟩
                      · exact ⟨_, _, by rw [ht2, if_neg (by omega), if_pos (by omega), decide_eq_false (by omega : ¬ sy = 0)], .inr ⟨h0, by omega, rfl, rfl⟩⟩
                    have hne5 : ∀ i, objOf (.slice q2 R.length c2) = some i → i ≠ c12 := by
                      intro i hi
                      rcases d4c with ⟨e, _⟩ | ⟨i', off, cap, row, ro, e, g1, _⟩
                      · rw [e] at hi; cases hi
                      · rw [e] at hi; cases hi
                        rintro rfl
                        rw [k12c] at g1
                        cases g1
                    have d5p : ∀ X, sliceOp Tryz.prog (z3.put c12 X) 25 (.slice q2 R.length c2) (some (.int .i64 k2)) none none = some (.slice q5 r'.length c5) := fun X => by
                      rw [sliceOp_get (σ := z3) fun i hi => by rw [CSt.get_put, if_neg (hne5 i hi)]]; exact d5
                    have d5q : ∀ X Y, sliceOp Tryz.prog ((z3.put c12 X).put c12 Y) 25 (.slice q2 R.length c2) (some (.int .i64 k2)) none none = some (.slice q5 r'.length c5) := fun X Y => by
                      rw [sliceOp_get (σ := z3) fun i hi => by rw [CSt.get_put, if_neg (hne5 i hi), CSt.get_put, if_neg (hne5 i hi)]]; exact d5
                    have f6 : 0 < sy → IntKind.u64.wrap ((sy : Int) - 1) = (sy : Int) - 1 := fun h => IntWalk.u64_in _ (by omega)
                    have hz4 : ∃ z4, z4 = (z3.put c12 (.cells [.string K, .int .u64 at_, .string ⟨#[]⟩, .bool false] 90 false)).put c12 (.cells [.string K, .int .u64 at_, .string ⟨#[]⟩, .bool (decide (sy = 0))] 90 false) := ⟨_, rfl⟩
                    obtain ⟨z4, hz4⟩ := hz4
                    have fz4 : Fr (fun t => t = 90) σ.n z3 z4 := by
                      rw [hz4]
                      exact ((Fr.refl (fun t => t = 90) σ.n z3).put (by omega) k12c rfl _).put (row := [.string K, .int .u64 at_, .string ⟨#[]⟩, .bool false]) (ro := false) (by omega) (by simp) rfl _
                    have hb4 : But c12 z3 z4 := by rw [hz4]; exact ⟨by simp, fun j hj hne => by rw [CSt.get_put, if_neg hne, CSt.get_put, if_neg hne]⟩
                    have k12d : z4.get c12 = some (.cells [.string K, .int .u64 at_, .string ⟨#[]⟩, .bool (decide (sy = 0))] 90 false) := by rw [hz4]; simp
                    have d6d := d6.fr (by decide) fz4
                    have n4 := fz4.1
                    simp [wops_cons, wops_if', dstOf, s2, t2, t4, t6, t7, t9, k2c, k9c, k12c, hm1, hm2, hm3, hm4, hn29, hn92, -W_region]
                    refine W_cut (fun out s => ∃ tm, out = .code .normal ⟨tm, 176, [], false⟩ ∧ tm.get 2 = some (.pointer (some ⟨σ.n, 0, none⟩)) ∧ tm.get 4 = some (.int .u64 (at_ : Nat)) ∧ tm.get 7 = some (.int .u64 ((c : Int) + 1)) ∧ tm.get 9 = some (.pointer (some ⟨c9, 0, none⟩)) ∧ tm.get 12 = some (.pointer (some ⟨c12, 0, none⟩)) ∧ tm.get 6 = some (.slice q2 R.length c2) ∧ tm.get 10 = some (.int .u64 (sy : Nat)) ∧ tm.get 11 = some (.int .i64 (k2 : Nat)) ∧ tm.get 122 = some (.bool false) ∧ s = z3) ?_ ?_
                    · rw [W_region]
                      rcases Nat.eq_zero_or_pos sy with f2' | f2'
                      · have f3 : ¬ (0 : Int) < (sy : Int) := by omega
                        have f3' : ¬ 0 < sy := by omega
                        simp [wops_cons, wops_if', dstOf, s2, t2, t4, t6, t7, t9, hk20, f1, f3, f3']
                      · have f3 : (0 : Int) < (sy : Int) := by omega
                        have f5 : ¬ ((r'.length : Int) < (sy : Int) - 1) := fun h => f2 ⟨f2', h⟩
                        have f7 := f6 f2'
                        simp [wops_cons, wops_if', dstOf, s2, t2, t4, t6, t7, t9, hk20, f1, f3, f2', f5, f7, hv1, hv2]
                    · rintro out z ⟨tm, rfl, t2, t4, t7, t9, t12, t6, t10, t11, t122, rfl⟩
                      simp [wops_cons, t2, t4, t6, t7, t9, t10, t11, t12, t122]
                      refine W_drawn (l := [0, 1, 2, 3, 4, 5, 6, 7, 8, 9, 10, 11, 12]) (b := #[0, 0, 2, 0, 0, 24, 1, 65, 193, 455, 967, 1991, 4095]) (by kernel_rfl) (by kernel_rfl) (by kernel_rfl) ?_
                      simp [wops_cons, dopsR_cons, opAt, isEff, again, befBits, isRead, Nat.add_assoc, Nat.testBit_eq_decide_div_mod_eq, t2, t4, t6, t7, t9, t10, t11, t12, k2c, k9c, k12c, hm1, hm2, hm3, hm4, hn29, hn92, d5, d5p, d5q, -W_condK]
                      rw [← hz4]
                      refine W_cut (fun out y => ∃ tm q7 c7, out = .code .normal ⟨tm, 176, [], false⟩ ∧ tm.get 2 = some (.pointer (some ⟨σ.n, 0, none⟩)) ∧ tm.get 4 = some (.int .u64 (at_ : Nat)) ∧ tm.get 7 = some (.int .u64 ((c : Int) + 1)) ∧ tm.get 9 = some (.pointer (some ⟨c9, 0, none⟩)) ∧ tm.get 12 = some (.pointer (some ⟨c12, 0, none⟩)) ∧ tm.get 6 = some (.slice q7 R2.length c7) ∧ Sl y 5 1 encY (.slice q7 R2.length c7) R2 ∧ y.get c12 = some (.cells [.string K, .int .u64 at_, .string val, .bool (decide (sy = 0))] 90 false) ∧ But c12 z y) ?_ ?_
                      · rcases hvv with ⟨h0, rfl, rfl⟩ | ⟨h0, h1, rfl, rfl⟩
                        · subst h0
                          simp [wops_cons, t2, t4, t6, t7, t9, t10, t11, t12]
                          exact ⟨q5, c5, ⟨rfl, rfl⟩, d6d, k12d, hb4⟩
                        · obtain ⟨m, rfl⟩ : ∃ m, sy = m + 1 := ⟨sy - 1, by omega⟩
                          rw [Nat.add_sub_cancel] at h1
                          have hm0 : (0 : Int) < (m : Int) + 1 := by omega
                          have hmu : IntKind.u64.wrap (m : Int) = (m : Int) := IntWalk.u64_in _ (by omega)
                          obtain ⟨q6, c6, x1, x2⟩ := ysl_head d6d m h1 .u64
                          obtain ⟨q7, c7, x3, x4⟩ := ysl_tail d6d m h1 .u64
                          have hcv2 := ystr x2
                          simp [wops_cons, t2, t4, t6, t7, t9, t10, t11, t12, hm0]
                          refine W_drawn (l := [0, 1, 2, 3, 4, 5, 6, 7, 8, 9, 10, 11, 12]) (b := #[0, 0, 2, 7, 15, 0, 0, 64, 224, 31, 543, 1567, 4095]) (by kernel_rfl) (by kernel_rfl) (by kernel_rfl) ?_
                          have hno : objOf (.slice q5 r'.length c5) ≠ some c12 := by
                            intro e
                            rcases d6d with ⟨e2, _⟩ | ⟨i', off, cap, row, ro, e2, g1, _⟩
                            · rw [e2] at e; cases e
                            · rw [e2] at e; cases e
                              rw [k12d] at g1
                              cases g1
                          have x3p : ∀ X, sliceOp Tryz.prog (z4.put c12 X) 25 (.slice q5 r'.length c5) (some (.int .u64 m)) none none = some (.slice q7 (r'.length - m) c7) := fun X => by
                            rw [sliceOp_get (σ := z4) fun i hi => by rw [CSt.get_put, if_neg (fun e => hno (by rw [hi, e]))]]; exact x3
                          simp [dopsR_cons, opAt, isEff, again, befBits, isRead, Nat.add_assoc, Nat.testBit_eq_decide_div_mod_eq, t2, t4, t6, t7, t9, t10, t11, t12, hm0, hmu, x1, x3, x3p, hcv2, k12d]
                          exact ⟨q7, c7, ⟨rfl, rfl⟩, x4.fr (T := fun t => t = 90) (b := σ.n) (by decide) ((Fr.refl (fun t => t = 90) σ.n z4).put (by omega) k12d rfl _), ⟨by simpa using hb4.1, fun j hj hne => by rw [CSt.get_put, if_neg hne]; exact hb4.2 j hj hne⟩⟩
                      · rintro out y ⟨tm, q7, c7, rfl, t2, t4, t7, t9, t12, t6, hs7, k12e, hby⟩
                        have hny := hby.1
                        have hno : objOf (.slice pw done.length cw) ≠ some c12 := fun e => by have := howa.obj_lt e; omega
                        have howy := howc.but' hno hby
                        have k2y : y.get σ.n = some (.cells [.int .u64 0, .slice none 0 0] 47 false) := by rw [hby.2 _ (by omega) hm3]; exact k2c
                        have k9y : y.get c9 = some (.cells [.int .u64 at_, .slice pw done.length cw] 47 false) := by rw [hby.2 _ (by omega) hm1]; exact k9c
                        have hgy : Grow σ y := ⟨by omega, fun j hj => by rw [hby.2 j (by omega) (by omega)]; exact hgzc.old j hj⟩
                        rw [hRV, Option.bind_some] at hde
                        simp only at hde
                        have hR2l : R2.length ≤ R.length := by
                          rcases hvv with ⟨_, _, e⟩ | ⟨_, _, _, e⟩
                          · rw [e]; omega
                          · rw [e, List.length_drop]; omega
                        clear hvv hRV hz4 hb4 k12d d6d fz4 d5p d5q hne5 ht2 ht1
                        simp [wops_cons, t2, t4, t6, t7, t9, t12, k9y, k12e, k2y]
                        refine W_cut (fun out s => ∃ tm, out = .code .normal ⟨tm, 176, [], false⟩ ∧ tm.get 2 = some (.pointer (some ⟨σ.n, 0, none⟩)) ∧ tm.get 4 = some (.int .u64 (at_ : Nat)) ∧ tm.get 7 = some (.int .u64 ((c : Int) + 1)) ∧ tm.get 9 = some (.pointer (some ⟨c9, 0, none⟩)) ∧ tm.get 12 = some (.pointer (some ⟨c12, 0, none⟩)) ∧ tm.get 6 = some (.slice q7 R2.length c7) ∧ tm.get 163 = some (.bool (!klt (lastK done) K)) ∧ s = y) ?_ ?_
                        · refine W_calm (by kernel_rfl) ?_
                          by_cases hnil : done = []
                          · subst hnil
                            have hKs : klt (lastK []) K = true := by
                              show klt (str []) K = true
                              rw [klt_empty, hK, size_str, List.length_take]
                              simp
                              omega
                            rw [hKs]
                            simp [dops_cons, dops_if, dstOf, t2, t4, t6, t7, t9, t12, k9y, k12e, k2y]
                          · obtain ⟨m, hm⟩ : ∃ m, done.length = m + 1 := ⟨done.length - 1, by have := List.length_pos_iff.2 hnil; omega⟩
                            have hma : m < done.length := by omega
                            rw [lastK_get hm]
                            obtain ⟨i, off2, row2, ro2, rfl, hgi, hin, hrow2, hle3⟩ := (howy.sl (sz := 4) lenWr).at hma
                            have hcl := row_cell (enc := encWr) lenWr hrow2 m 0 hma (by decide)
                            have hle4 := row_le hle3 m hma
                            simp only [hm] at k9y
                            have hwm : IntKind.i64.wrap (m : Int) = (m : Int) := IntWalk.i64_in _ (by omega)
                            have hmp : (0 : Int) < (m : Int) + 1 := by omega
                            have hmq : (m : Int) < (m : Int) + 1 := by omega
                            simp [encWr] at hcl
                            simp [dops_cons, dops_if, dstOf, t2, t4, t6, t7, t9, t12, k9y, k12e, k2y, hm, hgi, hcl, hle4, hwm, hmp, hmq]
                        · rintro out z ⟨tm, rfl, t2, t4, t7, t9, t12, t6, t163, rfl⟩
                          cases hk : klt (lastK done) K with
                          | false =>
                            rw [hk] at hde t163
                            have hQ := hbad hde z hgy k2y
                            simpa [wops_cons, t2, t4, t6, t7, t9, t12, t163, k9y, k12e, k2y, hn29, hn92] using hQ
                          | true =>
                            rw [hk] at hde t163
                            simp only [if_true] at hde
                            obtain ⟨p9, cc9, s9, a1, a2, a3, a4⟩ := app_wr (x := ⟨K, ⟨at_, val, decide (sy = 0)⟩⟩) howy hgy.n (by omega)
                            simp [encWr] at a1
                            have f9 : Fr (fun t => t = 90) σ.n z s9 := howy.z.frV a3
                            have k2d := f9.get k2y (by omega) (.inr fun row e ro he => by cases he; decide)
                            have k9d := f9.get k9y (by omega) (.inr fun row e ro he => by cases he; decide)
                            have sn9 := f9.1
                            have hwc : IntKind.u64.wrap (c : Int) = (c : Int) := IntWalk.u64_in _ (by omega)
                            have hn90 : ¬ (c9 = z.n) := by omega
                            simp [wops_cons, t2, t4, t6, t7, t9, t12, t163, k9y, k12e, k2y, hn29, hn92, hn90, a1, k9d, hwc]
                            have f10 : Fr (fun t => t = 47) σ.n s9 (s9.put c9 (.cells [.int .u64 at_, .slice p9 (done.length + 1) cc9] 47 false)) := (Fr.refl (fun t => t = 47) σ.n _).put (by omega) k9d rfl _
                            refine ⟨c, by omega, c, rfl, rfl, by omega, R2, (hs7.fr (by decide) f9).fr (by decide) f10, ?_, done ++ [⟨K, ⟨at_, val, decide (sy = 0)⟩⟩], ?_, k2d, by omega, a2.fr (T := fun t => t = 47) (by decide) f10, by simp; omega, (((hgy.fr (T := fun t => t = 90 ∨ t = 47)).trans (f9.mono (fun _ => .inl) (Nat.le_refl _))).trans (f10.mono (fun _ => .inr) (Nat.le_refl _))).grow (Nat.le_refl _)⟩
                            · omega
                            · rw [hde, lastK_snoc]
                              cases rdWs at_ c K R2 with
                              | none => rfl
                              | some q => simp [finR]
      · exact ⟨_, n, (l.drop k).drop j, .slice pr2 (l.length - k - j) cr2, [], .slice none 0 0, rfl, by simp [t2], by simp [t4], by simp, by simp [t7], by simp, rfl, Nat.le_refl _, hs5, by simp, hde, hc2', hc9, hn9, Own.nil, by simp, hg9⟩
end Go.Sm
/- RecordRaw, walked. -/
set_option linter.unusedVariables false
set_option linter.unusedSimpArgs false
namespace Go.Sm
open Go Go.Proofs
set_option maxRecDepth 100000
set_option maxHeartbeats 4000000
/-- A record's cell, filled. -/
theorem cell47 (s : CSt) (a b : Value) : ∃ z, z = (s.alloc (.cells [.int .u64 0, .slice none 0 0] 47 false)).put s.n (.cells [a, b] 47 false) ∧ Grow s z ∧ z.get s.n = some (.cells [a, b] 47 false) ∧ s.n < z.n :=
  ⟨_, rfl, ⟨by simp, fun j hj => by rw [CSt.get_put, if_neg (by omega), CSt.get_alloc, if_neg (by omega)]⟩, by simp, by simp⟩
theorem rdWs_len {at_ : Int} : ∀ {n : Nat} {last : ByteArray} {b : List UInt8} {ws : List Wri} {r : List UInt8}, rdWs at_ n last b = some (ws, r) → ws.length = n
  | 0, _, _, _, _, h => by cases h; rfl
  | n + 1, last, b, ws, r, h => by
    rw [dec_step] at h
    cases h1 : rdText 32 b with
    | none => rw [h1] at h; cases h
    | some p =>
      rw [h1, Option.bind_some] at h
      cases h2 : rdVer at_ p.2 with
      | none => rw [h2] at h; cases h
      | some q =>
        rw [h2, Option.bind_some] at h
        split at h
        · obtain ⟨x, hx, he⟩ := Option.map_eq_some_iff.1 h
          cases he
          rw [List.length_cons, rdWs_len hx]
        · cases h
theorem dec_small {b : List UInt8} {R : Rcd} (h : dec b = some R) : R.ws.length ≤ b.length := by
  unfold dec at h
  cases h1 : rd b with
  | none => rw [h1] at h; cases h
  | some p =>
    rw [h1, Option.bind_some] at h
    cases h2 : rd p.2 with
    | none => rw [h2] at h; cases h
    | some q =>
      rw [h2, Option.bind_some] at h
      split at h
      · rename_i hc
        cases h3 : rdWs p.1 q.1 (str []) q.2 with
        | none => rw [h3] at h; cases h
        | some x =>
          rw [h3, Option.bind_some] at h
          split at h
          · cases h
            have := rdWs_len h3
            simp only
            omega
          · cases h
      · cases h
/-- Both decoded, and compared: what both laws end with. -/
theorem law_RecordRaw (l : List UInt8) (v : Value) (σ : CSt) (hn : gnone σ) (hz : 1 < σ.n) (hsl : Sl σ 5 1 encY v l) : W E1 (.fn 4 #[v] none) σ isTrueP := by
  rw [W_fn (fn := Tryz.f4) Tryz.func4 rfl rfl rfl]
  obtain ⟨pl, cl, rfl⟩ := hsl.form
  simp [wops_cons]
  rw [awake_spec rfl hn]
  simp [wops_cons]
  by_cases hl : 300 < l.length
  · have hl' : (300 : Int) < l.length := by omega
    simp [wops_cons, hl', isTrueP]
  have hl' : ¬ (300 : Int) < l.length := by omega
  simp [wops_cons, hl']
  refine rdec_spec l _ σ hsl (by omega) _ fun a1 e1 σ1 hr1 g1 => ?_
  cases hd : dec l with
  | none =>
    rw [hd] at hr1
    obtain ⟨rfl, rfl⟩ := hr1
    obtain ⟨z1, hz1, gz1, hc1, hn1⟩ := cell47 σ1 (.int .u64 0) (.slice none 0 0)
    simp [wops_cons]
    rw [← hz1]
    refine ldec_spec l _ z1 ((hsl.grow g1).grow gz1) (by omega) _ fun a2 e2 σ2 hr2 g2 => ?_
    rw [hd] at hr2
    obtain ⟨rfl, rfl⟩ := hr2
    obtain ⟨z2, hz2, gz2, hc2, hn2⟩ := cell47 σ2 (.int .u64 0) (.slice none 0 0)
    have hne : ¬ (σ1.n = σ2.n) := by have := g2.n; omega
    have hc1b := g2.get hc1 hn1
    simp [wops_cons, wops_if', dstOf, hne, hc1b]
    refine same_spec ⟨0, []⟩ ⟨0, []⟩ _ _ _ Sl.nil Sl.nil (by simp) _ fun σ3 g3 => ?_
    simp [wops_cons, wops_if', dstOf, isTrueP]
  | some R =>
    rw [hd] at hr1
    obtain ⟨v1, rfl, rfl, hs1⟩ := hr1
    obtain ⟨p1, c1, rfl⟩ := hs1.form
    obtain ⟨z1, hz1, gz1, hc1, hn1⟩ := cell47 σ1 (.int .u64 R.at_) (.slice p1 R.ws.length c1)
    simp [wops_cons]
    rw [← hz1]
    refine ldec_spec l _ z1 ((hsl.grow g1).grow gz1) (by omega) _ fun a2 e2 σ2 hr2 g2 => ?_
    rw [hd] at hr2
    obtain ⟨v2, rfl, rfl, hs2⟩ := hr2
    obtain ⟨p2, c2, rfl⟩ := hs2.form
    obtain ⟨z2, hz2, gz2, hc2, hn2⟩ := cell47 σ2 (.int .u64 R.at_) (.slice p2 R.ws.length c2)
    have hne : ¬ (σ1.n = σ2.n) := by have := g2.n; omega
    have hc1b := g2.get hc1 hn1
    simp [wops_cons, wops_if', dstOf, hne, hc1b]
    rw [← hz2]
    refine same_spec R R _ _ _ (((hs1.grow gz1).grow g2).grow gz2) (hs2.grow gz2) ?_ _ fun σ3 g3 => ?_
    · have := dec_small hd
      omega
    simp [wops_cons, wops_if', dstOf, isTrueP]
end Go.Sm
/- code.Writer, with some objects that it surely leaves alone. -/
set_option linter.unusedVariables false
set_option linter.unusedSimpArgs false
namespace Go.Sm
open Go Go.Proofs
set_option maxRecDepth 100000
set_option maxHeartbeats 4000000
def WtK (K : Nat → Prop) (b p : Nat) (σ : CSt) (l : List UInt8) : Prop := ∃ v, σ.get p = some (.cells [v] 27 false) ∧ b ≤ p ∧ p < σ.n ∧ Own b σ 5 encY v l ∧ ∀ i, K i → i ≠ p ∧ i < σ.n ∧ objOf v ≠ some i
def FrK (K : Nat → Prop) (T : TypeId → Prop) (b : Nat) (σ σ' : CSt) : Prop := Fr T b σ σ' ∧ ∀ i, K i → i < σ.n → σ'.get i = σ.get i
theorem FrK.trans {K : Nat → Prop} {T : TypeId → Prop} {b : Nat} {s0 s1 s2 : CSt} (h : FrK K T b s0 s1) (h' : FrK K T b s1 s2) : FrK K T b s0 s2 := ⟨h.1.trans h'.1, fun i hi hn => by rw [h'.2 i hi (Nat.lt_of_lt_of_le hn h.1.1), h.2 i hi hn]⟩
theorem Grow.frK {K : Nat → Prop} {T : TypeId → Prop} {b : Nat} {s0 s1 : CSt} (h : Grow s0 s1) : FrK K T b s0 s1 := ⟨h.fr, fun i _ hn => h.old i hn⟩
theorem appendF_zero {b : Nat} {σ : CSt} {v : Value} {l : List UInt8} (hown : Own b σ 5 encY v l) : ∀ v' σ', appendF σ 5 ⟨1, 1, some [.int .u8 0], false, true⟩ v 0 [] = some (v', σ') → v' = v ∧ σ' = σ := by
  intro v' σ' h
  rcases hown with ⟨rfl, rfl⟩ | ⟨i, cap, rfl, hb, hi, hg, hc⟩
  · unfold appendF at h
    simp at h
    exact ⟨h.1.symm, h.2.symm⟩
  · unfold appendF at h
    simp at h
    exact ⟨h.2.1.symm, h.2.2.symm⟩
theorem wapp_k {b : Nat} {σ : CSt} {v x : Value} {ts : Array TypeId} {l m : List UInt8} (hop : appendOp Tryz.prog σ ts v x = appendF σ 5 ⟨1, 1, some [.int .u8 0], false, true⟩ v m.length (m.flatMap encY)) (hw : Own b σ 5 encY v l) (hb : b ≤ σ.n) (hbig : l.length + m.length ≤ 2 ^ 47) :
    ∃ q c σ', appendOp Tryz.prog σ ts v x = some (.slice q (l.length + m.length) c, σ') ∧ Own b σ' 5 encY (.slice q (l.length + m.length) c) (l ++ m) ∧ FrK (fun i => objOf v ≠ some i) (fun t => t = 5) b σ σ' ∧ (∀ i, i < σ.n → objOf v ≠ some i → objOf (.slice q (l.length + m.length) c) ≠ some i) := by
  obtain ⟨v', σ', a1, a2, a3, a4, a5⟩ := appendF_only (f := ⟨1, 1, some [.int .u8 0], false, true⟩) (m := m) encY_len encY_cok rfl Nat.one_pos (by decide) rfl hw hb (by show _ * 1 ≤ _; omega) (by omega)
  have hobj : ∀ i, i < σ.n → objOf v ≠ some i → objOf v' ≠ some i := by
    intro i hi ho
    by_cases hm : m = []
    · subst hm
      obtain ⟨rfl, _⟩ := appendF_zero hw _ _ a1
      exact ho
    · obtain ⟨n, c, rfl⟩ := a5 hm
      intro e
      cases e
      omega
  obtain ⟨q, c, rfl⟩ := (a2.sl (sz := 1) encY_len).form
  rw [List.length_append] at a1 a2 hobj
  refine ⟨q, c, σ', by rw [hop]; exact a1, a2, ⟨app_fr hw a3.1 a4, fun i hi hn => a4 i hn fun j off n c hv => ?_⟩, hobj⟩
  rintro rfl
  exact hi (by rw [hv]; rfl)
theorem wappK_sl {b : Nat} {σ : CSt} {v x : Value} {l m : List UInt8} (hw : Own b σ 5 encY v l) (hb : b ≤ σ.n) (hx : Sl σ 5 1 encY x m) (hbig : l.length + m.length ≤ 2 ^ 47) :
    ∃ q c σ', appendOp Tryz.prog σ #[25, 25] v x = some (.slice q (l.length + m.length) c, σ') ∧ Own b σ' 5 encY (.slice q (l.length + m.length) c) (l ++ m) ∧ FrK (fun i => objOf v ≠ some i) (fun t => t = 5) b σ σ' ∧ (∀ i, i < σ.n → objOf v ≠ some i → objOf (.slice q (l.length + m.length) c) ≠ some i) := by
  refine wapp_k ?_ hw hb hbig
  obtain ⟨g1, g2⟩ := first_sl encY_len hx
  rw [appendOp_K (by simp [ef25]) (by simp)]
  show appK (elemF Tryz.prog 25) σ v x = _
  rw [ef25]
  simp only [appK, g1, g2, Option.bind_some]
theorem wappK_str {b : Nat} {σ : CSt} {v : Value} {l : List UInt8} (s : ByteArray) (hw : Own b σ 5 encY v l) (hb : b ≤ σ.n) (hbig : l.length + s.size ≤ 2 ^ 47) :
    ∃ q c σ', appendOp Tryz.prog σ #[25, 9] v (.string s) = some (.slice q (l.length + s.size) c, σ') ∧ Own b σ' 5 encY (.slice q (l.length + s.size) c) (l ++ byt s) ∧ FrK (fun i => objOf v ≠ some i) (fun t => t = 5) b σ σ' ∧ (∀ i, i < σ.n → objOf v ≠ some i → objOf (.slice q (l.length + s.size) c) ≠ some i) := by
  have := wapp_k (x := .string s) (ts := #[25, 9]) (m := byt s) ?_ hw hb (by rw [len_byt]; exact hbig)
  · rw [len_byt] at this; exact this
  · obtain ⟨g1, g2⟩ := first_str (σ := σ) (byt s)
    have e : (⟨(byt s).toArray⟩ : ByteArray) = s := str_byt s
    rw [e] at g1 g2
    rw [appendOp_S (by simp [ef25]) rfl]
    show appK (elemF Tryz.prog 25) σ v (.string s) = _
    rw [ef25]
    simp only [appK, g1, g2, Option.bind_some]
theorem WtK.back {K : Nat → Prop} {b p : Nat} {σ σ0 σ1 : CSt} {v v1 : Value} {l : List UInt8} (hgp : σ.get p = some (.cells [v] 27 false)) (hp : b ≤ p) (hpn : p < σ.n) (hK : ∀ i, K i → i ≠ p ∧ i < σ.n ∧ objOf v ≠ some i) (g : Grow σ σ0) (f : FrK (fun i => objOf v ≠ some i) (fun t => t = 5) b σ0 σ1) (hob : ∀ i, i < σ0.n → objOf v ≠ some i → objOf v1 ≠ some i) (hown : Own b σ1 5 encY v1 l) :
    σ1.get p = some (.cells [v] 27 false) ∧ WtK K b p (σ1.put p (.cells [v1] 27 false)) l ∧ FrK K TW b σ (σ1.put p (.cells [v1] 27 false)) := by
  obtain ⟨h1, h2, h3⟩ := Wt.back hgp hp hpn g f.1 hown
  have gn := g.n
  have fn := f.1.1
  refine ⟨h1, ?_, h3, fun i hi hn => ?_⟩
  · obtain ⟨v', q1, q2, q3, q4⟩ := h2
    have : v' = v1 := by
      simp at q1
      exact q1.symm
    subst this
    exact ⟨v', q1, q2, q3, q4, fun i hi => by
      obtain ⟨k1, k2, k3⟩ := hK i hi
      exact ⟨k1, by simp; omega, hob i (by omega) k3⟩⟩
  · obtain ⟨k1, k2, k3⟩ := hK i hi
    rw [CSt.get_put, if_neg k1, f.2 i k3 (by omega), g.old i hn]
theorem WtK.wt {K : Nat → Prop} {b p : Nat} {σ : CSt} {l : List UInt8} (h : WtK K b p σ l) : Wt b p σ l := by
  obtain ⟨v, h1, h2, h3, h4, _⟩ := h
  exact ⟨v, h1, h2, h3, h4⟩
theorem WtK.mono {K K' : Nat → Prop} {b p : Nat} {σ : CSt} {l : List UInt8} (h : WtK K b p σ l) (hK : ∀ i, K' i → K i) : WtK K' b p σ l := by
  obtain ⟨v, h1, h2, h3, h4, h5⟩ := h
  exact ⟨v, h1, h2, h3, h4, fun i hi => h5 i (hK i hi)⟩
theorem wnumK_spec (K : Nat → Prop) (b p n : Nat) (l : List UInt8) (σ : CSt) (hn : n < 2 ^ 64) (hw : WtK K b p σ l) (hb : b ≤ σ.n) (hl : l.length < 2 ^ 40) (Q : Out → CSt → Prop)
    (h : ∀ σ', WtK K b p σ' (l ++ num n) → FrK K TW b σ σ' → Q (.ret (.tuple #[]) false) σ') : W E1 (.fn 42 #[.pointer (some ⟨p, 0, none⟩), .int .u64 n] none) σ Q := by
  rw [W_fn (fn := Tryz.f42) Tryz.func42 rfl rfl rfl]
  simp [wops_cons]
  have hlen := num_len10 hn
  refine W_loop_inv (fun k a σ' => ∃ tm m pre, a = ⟨tm, 31, [], false⟩ ∧ tm.get 0 = some (.pointer (some ⟨p, 0, none⟩)) ∧ tm.get 1 = some (.int .u64 (m : Nat)) ∧ (k = m ∧ m < 2 ^ 64 ∧ num n = pre ++ num m ∧ WtK K b p σ' (l ++ pre) ∧ FrK K TW b σ σ')) ?_ n _ _ ?_
  · rintro k a σ' ⟨tm, m, pre, rfl, h0, h1, hk, hm, hpre, ⟨v, hg, hbp, hpn, hown, hK⟩, hf⟩
    have hlp : pre.length ≤ 10 := by
      have := congrArg List.length hpre
      rw [List.length_append] at this
      omega
    have hnn := hf.1.1
    by_cases h128 : m < 128
    · have hge : ¬ ((128 : Int) ≤ (m : Int)) := by omega
      obtain ⟨c, hc⟩ := byte_of m (by omega)
      have hu : IntKind.u8.wrap (m : Int) = (c.toNat : Int) := by rw [u8_of, Nat.mod_eq_of_lt (by omega), hc]
      have hnum : num m = [c] := by rw [num_lt h128]; congr 1; exact u8_eq (by rw [ofNat_toNat (by omega), hc])
      have g0 : Grow σ' (σ'.alloc (.cells [.int .u8 c.toNat] 5 false)) := (Grow.refl σ').alloc _
      obtain ⟨q, cp, s1, a1, a2, a3, a9⟩ := wappK_sl (x := .slice (some ⟨σ'.n, 0, none⟩) 1 1) (m := [c]) (hown.grow g0) (by simp; omega) (Sl.all (l := [c]) (cap := 1) (ro := false) encY_len (by simp [encY]) (by simp) (.inr ⟨by simp, by simp [openCap]⟩)) (by simp; omega)
      obtain ⟨b1, b2, b3⟩ := WtK.back hg hbp hpn hK g0 a3 a9 a2
      have hQ := h _ (by rw [hpre, hnum, ← List.append_assoc]; exact b2) (hf.trans b3)
      simpa [wops_cons, h0, h1, hg, hge, h128, hu, a1, b1] using hQ
    · have hge : (128 : Int) ≤ (m : Int) := by omega
      obtain ⟨c, hc⟩ := byte_of (m % 128 + 128) (by omega)
      have hu : orI .u8 (IntKind.u8.wrap (m : Int)) 128 = (c.toNat : Int) := by
        rw [u8_of, or_80 _ (by omega), hc]
        congr 1
        omega
      have hnum : num m = c :: num (m / 128) := by rw [num_ge (by omega)]; congr 1; exact u8_eq (by rw [ofNat_toNat (by omega), hc])
      have g0 : Grow σ' (σ'.alloc (.cells [.int .u8 c.toNat] 5 false)) := (Grow.refl σ').alloc _
      obtain ⟨q, cp, s1, a1, a2, a3, a9⟩ := wappK_sl (x := .slice (some ⟨σ'.n, 0, none⟩) 1 1) (m := [c]) (hown.grow g0) (by simp; omega) (Sl.all (l := [c]) (cap := 1) (ro := false) encY_len (by simp [encY]) (by simp) (.inr ⟨by simp, by simp [openCap]⟩)) (by simp; omega)
      obtain ⟨b1, b2, b3⟩ := WtK.back hg hbp hpn hK g0 a3 a9 a2
      have hsh : (m : Int).fdiv (2 ^ min 7 64) = ((m / 128 : Nat) : Int) := by
        have : (2 : Int) ^ min 7 64 = 128 := by decide
        rw [this, Int.fdiv_eq_ediv_of_nonneg _ (by omega)]
        omega
      simp at a1
      simp [wops_cons, h0, h1, hg, hge, h128, hu, a1, b1]
      exact ⟨m / 128, by omega, m / 128, hsh, rfl, by omega, pre ++ [c], by rw [hpre, hnum]; simp, by simpa [List.append_assoc, Nat.add_assoc] using b2, by simpa [List.append_assoc, Nat.add_assoc] using hf.trans b3⟩
  · exact ⟨_, n, [], rfl, rfl, rfl, rfl, hn, rfl, by simpa using hw, (Grow.refl _).frK⟩
theorem WtK.grow {K : Nat → Prop} {b p : Nat} {σ σ' : CSt} {l : List UInt8} (h : WtK K b p σ l) (g : Grow σ σ') : WtK K b p σ' l := by
  obtain ⟨v, h1, h2, h3, h4, h5⟩ := h
  have := g.n
  exact ⟨v, g.get h1 h3, h2, by omega, h4.grow g, fun i hi => by obtain ⟨k1, k2, k3⟩ := h5 i hi; exact ⟨k1, by omega, k3⟩⟩
/-- Bytes of a string behind it. -/
theorem wtextK_back {K : Nat → Prop} {b p : Nat} {σ : CSt} {l : List UInt8} (hw : WtK K b p σ l) (hb : b ≤ σ.n) (s : ByteArray) (hbig : l.length + s.size ≤ 2 ^ 47) :
    ∃ v q c s1, σ.get p = some (.cells [v] 27 false) ∧ appendOp Tryz.prog σ #[25, 9] v (.string s) = some (.slice q (l.length + s.size) c, s1) ∧ s1.get p = some (.cells [v] 27 false) ∧
      WtK K b p (s1.put p (.cells [.slice q (l.length + s.size) c] 27 false)) (l ++ byt s) ∧ FrK K TW b σ (s1.put p (.cells [.slice q (l.length + s.size) c] 27 false)) := by
  obtain ⟨v, hg, hbp, hpn, hown, hK⟩ := hw
  obtain ⟨q, c, s1, a1, a2, a3, a9⟩ := wappK_str s hown hb hbig
  obtain ⟨b1, b2, b3⟩ := WtK.back hg hbp hpn hK (Grow.refl σ) a3 a9 a2
  exact ⟨v, q, c, s1, hg, a1, b1, b2, b3⟩
theorem wtextK_spec (K : Nat → Prop) (b p : Nat) (s : ByteArray) (l : List UInt8) (σ : CSt) (hs : s.size < 2 ^ 40) (hw : WtK K b p σ l) (hb : b ≤ σ.n) (hl : l.length < 2 ^ 39) (Q : Out → CSt → Prop)
    (h : ∀ σ', WtK K b p σ' (l ++ serText s) → FrK K TW b σ σ' → Q (.ret (.tuple #[]) false) σ') : W E1 (.fn 50 #[.pointer (some ⟨p, 0, none⟩), .string s] none) σ Q := by
  rw [W_fn (fn := Tryz.f50) Tryz.func50 rfl rfl rfl]
  have hu : IntKind.u64.wrap (s.size : Int) = (s.size : Int) := IntWalk.u64_in _ (by omega)
  have hln := num_len10 (n := s.size) (by omega)
  simp [wops_cons, hu]
  refine wnumK_spec K b p s.size l σ (by omega) hw hb (by omega) _ fun σ1 h1 f1 => ?_
  have f1n := f1.1.1
  obtain ⟨v, q, c, s1, hg, a1, b1, b2, b3⟩ := wtextK_back h1 (by omega) s (by rw [List.length_append]; omega)
  have hQ := h _ (by rw [serText, ← List.append_assoc]; exact b2) (f1.trans b3)
  simp only [List.length_append] at a1 hQ
  simpa [wops_cons, hg, a1, b1] using hQ
theorem valueK_spec (K : Nat → Prop) (b p : Nat) (x : Ver) (l : List UInt8) (σ : CSt) (hs : x.val.size < 2 ^ 38) (hw : WtK K b p σ l) (hb : b ≤ σ.n) (hl : l.length < 2 ^ 39) (Q : Out → CSt → Prop)
    (h : ∀ σ', WtK K b p σ' (l ++ serVer x) → FrK K TW b σ σ' → Q (.ret (.tuple #[]) false) σ') : W E1 (.fn 43 #[.pointer (some ⟨p, 0, none⟩), .agg (encV x).toArray] none) σ Q := by
  rw [W_fn (fn := Tryz.f43) Tryz.func43 rfl rfl rfl]
  obtain ⟨at_, val, gone⟩ := x
  have g0 : Grow σ (σ.alloc (.cells [.int .u64 at_, .string val, .bool gone] 33 false)) := (Grow.refl σ).alloc _
  have hw0 := hw.grow g0
  have hc0 : (σ.alloc (.cells [.int .u64 at_, .string val, .bool gone] 33 false)).get σ.n = some (.cells [.int .u64 at_, .string val, .bool gone] 33 false) := by simp
  cases gone with
  | true =>
    simp [wops_cons, encV]
    have e : serVer ⟨at_, val, true⟩ = num 0 := by rw [num_lt (by omega)]; rfl
    refine wnumK_spec K b p 0 l _ (by decide) hw0 (by simp; omega) (by omega) _ fun σ1 h1 f1 => ?_
    have hQ := h _ (by rw [e]; exact h1) (g0.frK.trans f1)
    simpa [wops_cons] using hQ
  | false =>
    have hz : val.size < 2 ^ 38 := hs
    have hu : IntKind.u64.wrap (IntKind.u64.wrap (val.size : Int) + 1) = ((val.size + 1 : Nat) : Int) := by rw [IntWalk.u64_in (val.size : Int) (by omega), IntWalk.u64_in _ (by omega)]; omega
    have hln := num_len10 (n := val.size + 1) (by omega)
    simp [wops_cons, encV]
    rw [hu]
    refine wnumK_spec K b p (val.size + 1) l _ (by omega) hw0 (by simp; omega) (by omega) _ fun σ1 h1 f1 => ?_
    have f1n := f1.1.1
    have hc1 : σ1.get σ.n = some (.cells [.int .u64 at_, .string val, .bool false] 33 false) := f1.1.get hc0 (by simp) (.inr fun row e ro he => by cases he; decide)
    obtain ⟨v, q, c, s1, hg, a1, b1, b2, b3⟩ := wtextK_back h1 (by simp at f1n; omega) val (by rw [List.length_append]; omega)
    have hQ := h _ (by
      have e : serVer ⟨at_, val, false⟩ = num (val.size + 1) ++ byt val := rfl
      rw [e, ← List.append_assoc]; exact b2) ((g0.frK.trans f1).trans b3)
    simp only [List.length_append] at a1 hQ
    simp [wops_cons]
    refine W_calm (by kernel_rfl) ?_
    simpa [dops_cons, hg, hc1, a1, b1] using hQ
theorem valuevK_spec (K : Nat → Prop) (b p : Nat) (x : Ver) (l : List UInt8) (σ : CSt) (hat : 0 ≤ x.at_ ∧ x.at_ < 2 ^ 64) (hs : x.val.size < 2 ^ 38) (hw : WtK K b p σ l) (hb : b ≤ σ.n) (hl : l.length < 2 ^ 38) (Q : Out → CSt → Prop)
    (h : ∀ σ', WtK K b p σ' (l ++ serV x) → FrK K TW b σ σ' → Q (.ret (.tuple #[]) false) σ') : W E1 (.fn 13 #[.pointer (some ⟨p, 0, none⟩), .agg (encV x).toArray] none) σ Q := by
  rw [W_fn (fn := Tryz.f13) Tryz.func13 rfl rfl rfl]
  have g0 : Grow σ (σ.alloc (.cells (encV x) 33 false)) := (Grow.refl σ).alloc _
  have hw0 := hw.grow g0
  have hc0 : (σ.alloc (.cells (encV x) 33 false)).get σ.n = some (.cells (encV x) 33 false) := by simp
  obtain ⟨n, hn⟩ : ∃ n : Nat, x.at_ = n := ⟨x.at_.toNat, by omega⟩
  have hn64 : n < 2 ^ 64 := by omega
  have hln := num_len10 hn64
  have he : encV x = [.int .u64 n, .string x.val, .bool x.gone] := by rw [encV, hn]
  rw [he] at hw0 hc0 g0 ⊢
  simp [wops_cons]
  refine wnumK_spec K b p n l _ hn64 hw0 (by simp; omega) (by omega) _ fun σ1 h1 f1 => ?_
  have f1n := f1.1.1
  simp at f1n
  have hc1 : σ1.get σ.n = some (.cells [.int .u64 n, .string x.val, .bool x.gone] 33 false) := f1.1.get hc0 (by simp) (.inr fun row e ro he => by cases he; decide)
  have hv := valueK_spec K b p x (l ++ num n) σ1 hs h1 (by omega) (by rw [List.length_append]; omega)
  rw [he] at hv
  simp [wops_cons, hc1]
  refine hv _ fun σ2 h2 f2 => ?_
  have hQ := h _ (by rw [serV, hn, Int.toNat_natCast, ← List.append_assoc]; exact h2) ((g0.frK.trans f1).trans f2)
  simpa [wops_cons] using hQ
end Go.Sm
/- RecordBack, walked. -/
set_option linter.unusedVariables false
set_option linter.unusedSimpArgs false
namespace Go.Sm
open Go Go.Proofs
set_option maxRecDepth 100000
set_option maxHeartbeats 4000000
theorem ver_small {r : Rcd} (h : GoodR r) : ∀ w ∈ r.ws, w.ver.val.size < 2 ^ 37 := fun w hw => by
  have := (h.ws w hw).2.2.1.2
  omega
theorem law_RecordBack (a0 : Int) (h0 : 0 ≤ a0) (h1 : a0 ≤ 18446744073709551615) (l : List LW) (hok : ∀ w ∈ l, w.ok) (v : Value) (σ : CSt) (hn : gnone σ) (hz : 1 < σ.n) (hsl : Sl σ 30 3 encLW v l) : W E1 (.fn 6 #[.int .u64 a0, v] none) σ isTrueP := by
  obtain ⟨a, rfl⟩ : ∃ a : Nat, a0 = a := ⟨a0.toNat, by omega⟩
  rw [W_fn (fn := Tryz.f6) Tryz.func6 rfl rfl rfl]
  obtain ⟨pl, cl, rfl⟩ := hsl.form
  simp [wops_cons]
  rw [awake_spec rfl hn]
  simp [wops_cons]
  by_cases hl : 30 < l.length
  · have hl' : (30 : Int) < l.length := by omega
    simp [wops_cons, hl', isTrueP]
  have hl' : ¬ (30 : Int) < l.length := by omega
  simp [wops_cons, hl']
  refine make_spec a l _ σ (by omega) hok hsl (by omega) _ fun v1 σ1 o1 g1 => ?_
  have hgr := makeR_ok a l
  have hlen := makeR_len a l
  have hser := goodR_len hgr (by omega)
  have hdec := dec_ser hgr (by omega)
  have hsm := ver_small hgr
  have hat := hgr.at2
  generalize makeR a l = R at o1 hgr hlen hser hdec hsm hat
  obtain ⟨at_, ws⟩ := R
  simp only at o1 hlen hat
  have hser : (serR ⟨at_, ws⟩).length < 2 ^ 20 := by
    simp only at hser
    omega
  obtain ⟨p1, c1, rfl⟩ := (o1.sl (sz := 4) lenWr).form
  simp [wops_cons]
  have gb : Grow σ1 ((σ1.alloc (.cells [.int .u64 0, .slice none 0 0] 47 false)).put σ1.n (.cells [.int .u64 at_, .slice p1 ws.length c1] 47 false)) := ⟨by simp, fun j hj => by rw [CSt.get_put, if_neg (by omega), CSt.get_alloc, if_neg (by omega)]⟩
  have hc5 : ((σ1.alloc (.cells [.int .u64 0, .slice none 0 0] 47 false)).put σ1.n (.cells [.int .u64 at_, .slice p1 ws.length c1] 47 false)).get σ1.n = some (.cells [.int .u64 at_, .slice p1 ws.length c1] 47 false) := by simp
  have hn5 : σ1.n < ((σ1.alloc (.cells [.int .u64 0, .slice none 0 0] 47 false)).put σ1.n (.cells [.int .u64 at_, .slice p1 ws.length c1] 47 false)).n := by simp
  have hs1 := (o1.sl (sz := 4) lenWr).grow gb
  generalize (σ1.alloc (.cells [.int .u64 0, .slice none 0 0] 47 false)).put σ1.n (.cells [.int .u64 at_, .slice p1 ws.length c1] 47 false) = σ2 at gb hc5 hn5 hs1 ⊢
  refine enc_spec at_ ws _ σ2 (by omega) hs1 (by omega) hsm _ fun v2 σ3 o3 g3 => ?_
  obtain ⟨p3, c3, rfl⟩ := (o3.sl (sz := 1) encY_len).form
  have hc5a := g3.get hc5 hn5
  have hs2 := hs1.grow g3
  have gn3 := g3.n
  simp [wops_cons]
  refine rdec_spec _ _ σ3 (o3.sl encY_len) (by omega) _ fun a e σ4 hr g4 => ?_
  rw [hdec] at hr
  obtain ⟨v4, rfl, rfl, hs4⟩ := hr
  simp only at hs4
  obtain ⟨p4, c4, rfl⟩ := hs4.form
  have gn4 := g4.n
  have hne : ¬ (σ1.n = σ4.n) := by omega
  have hc5d := g4.get hc5a (by omega)
  simp [wops_cons, hne, hc5d]
  have gc : Grow σ4 ((σ4.alloc (.cells [.int .u64 0, .slice none 0 0] 47 false)).put σ4.n (.cells [.int .u64 at_, .slice p4 ws.length c4] 47 false)) := ⟨by simp, fun j hj => by rw [CSt.get_put, if_neg (by omega), CSt.get_alloc, if_neg (by omega)]⟩
  have hc7 : ((σ4.alloc (.cells [.int .u64 0, .slice none 0 0] 47 false)).put σ4.n (.cells [.int .u64 at_, .slice p4 ws.length c4] 47 false)).get σ4.n = some (.cells [.int .u64 at_, .slice p4 ws.length c4] 47 false) := by simp
  have hn7 : σ4.n < ((σ4.alloc (.cells [.int .u64 0, .slice none 0 0] 47 false)).put σ4.n (.cells [.int .u64 at_, .slice p4 ws.length c4] 47 false)).n := by simp
  have hs4' := hs4.grow gc
  have hc5b := gc.get (g4.get hc5a (by omega)) (by omega)
  have hs2b := (hs2.grow g4).grow gc
  have ho3 := ((o3.sl (sz := 1) encY_len).grow g4).grow gc
  generalize (σ4.alloc (.cells [.int .u64 0, .slice none 0 0] 47 false)).put σ4.n (.cells [.int .u64 at_, .slice p4 ws.length c4] 47 false) = σ5 at gc hc7 hn7 hs4' hc5b hs2b ho3 ⊢
  have gn5 := gc.n
  refine lenc_spec at_ ws _ σ5 (by omega) hs2b (by omega) hsm _ fun v6 σ6 o6 g6 => ?_
  obtain ⟨p6, c6, rfl⟩ := o6.sl.form
  simp [wops_cons, wops_if', dstOf]
  refine yeq_spec _ _ _ _ σ6 (ho3.grow g6) o6.sl (by omega) (by omega) _ ?_
  have hc5c := g6.get hc5b (by omega)
  have hc7c := g6.get hc7 hn7
  simp [wops_cons, wops_if', dstOf, hc5c, hc7c]
  refine same_spec ⟨at_, ws⟩ ⟨at_, ws⟩ _ _ σ6 (hs4'.grow g6) (hs2b.grow g6) (by simp only; omega) _ fun σ7 g7 => ?_
  simp [wops_cons, wops_if', dstOf, isTrueP]
end Go.Sm
/- RecordValues, walked. -/
set_option linter.unusedVariables false
set_option linter.unusedSimpArgs false
namespace Go.Sm
open Go Go.Proofs
set_option maxRecDepth 100000
set_option maxHeartbeats 4000000
def encI (n : Int) : List Value := [.int .u64 n]
theorem lenI (n : Int) : (encI n).length = 1 := rfl
theorem cokV (x : Ver) : cokL (encV x) = true := rfl
theorem lenV (x : Ver) : (encV x).length = 3 := rfl
/-- The versions that are made. -/
def mkV (t : Int) (w : LW) : Ver := ⟨t, if w.gone then str [] else cutV w.v, w.gone⟩
def vsOf (ats : List Int) (l : List LW) : List Ver := l.mapIdx fun i w => mkV (ats.getD i 0) w
theorem vsOf_len (ats : List Int) (l : List LW) : (vsOf ats l).length = l.length := by simp [vsOf]
theorem vsOf_get (ats : List Int) (l : List LW) (i : Nat) (h : i < l.length) : (vsOf ats l)[i]'(by rw [vsOf_len]; exact h) = mkV (ats.getD i 0) l[i] := by simp [vsOf]
theorem good_mkV (t : Int) (w : LW) : GoodV (mkV t w) := by
  refine ⟨fun h => ?_, ?_⟩
  · show (if w.gone then str [] else cutV w.v) = str []
    have : w.gone = true := h
    rw [if_pos this]
  · show (if w.gone then str [] else cutV w.v).size ≤ 200
    split
    · rw [size_str]; simp
    · unfold cutV
      rw [ByteArray.size_extract]
      omega
theorem rdV_ser {x : Ver} (h : GoodV x) (h1 : 0 ≤ x.at_) (h2 : x.at_ < 2 ^ 64) (r : List UInt8) : rdV (serV x ++ r) = some (x, r) := by
  unfold rdV serV
  rw [List.append_assoc, rd_num (by omega), Option.bind_some]
  have e : ((x.at_.toNat : Nat) : Int) = x.at_ := by omega
  simp only [e]
  exact rdVer_ser h r
theorem app_ver {ts : Array TypeId} {f : TF} (hf : ts[0]?.bind (elemF Tryz.prog) = some (33, f)) (hu : (ts[1]?.bind (elemT Tryz.prog)).isSome = true) (hfs : f.size = 3) (h1 : f.bytes = 32) (h2 : f.zero.map List.length = some 3) {b : Nat} {s1 : CSt} {l : List Ver} {x : Ver} {v : Value} (ho : Own b s1 33 encV v l) (hb : b ≤ s1.n) (hl : l.length < 2 ^ 40) :
    ∃ p9 c9 s9, appendOp Tryz.prog (s1.alloc (.cells (encV x) 33 false)) ts v (.slice (some ⟨s1.n, 0, none⟩) 1 1) = some (.slice p9 (l.length + 1) c9, s9) ∧ Own b s9 33 encV (.slice p9 (l.length + 1) c9) (l ++ [x]) ∧ ButV v s1 s9 ∧ GrowB b s1 s9 := by
  have hga : Grow s1 (s1.alloc (.cells (encV x) 33 false)) := (Grow.refl s1).alloc _
  obtain ⟨v9, s9, a1, a2, a3, a4, a5⟩ := append_only (P := Tryz.prog) (ts := ts) (e := 33) (sz := 3) (enc := encV) (l := l) (m := [x]) (b := b) hf hu lenV cokV hfs (by decide) (by omega) h2 (σ := s1.alloc (.cells (encV x) 33 false))
    (ho.grow hga) (by simp; omega) (Sl.all (l := [x]) (i := s1.n) (cap := 1) (ro := false) lenV (by simp) (by simp) (.inr ⟨by simp, by simp [openCap]⟩)) (by rw [h1]; show (_ + 1) * 32 ≤ _; omega) (by omega)
  obtain ⟨p9, c9, rfl⟩ := (a2.sl (sz := 3) lenV).form
  rw [List.length_append] at a1 a2
  refine ⟨p9, c9, s9, a1, a2, ⟨by have := a3.1; simp at this; omega, fun j hj hne => ?_⟩, (hga.toB hb).trans a3⟩
  rw [a4 j (by simp; omega) (fun i off n c h => by rintro rfl; exact hne (by rw [h]; rfl)), hga.old j hj]
theorem WtK.fr {K : Nat → Prop} {T : TypeId → Prop} {b b' p : Nat} {σ σ' : CSt} {l : List UInt8} (h : WtK K b p σ l) (h27 : ¬ T 27) (h5 : ¬ T 5) (f : Fr T b' σ σ') : WtK K b p σ' l := by
  obtain ⟨v, h1, h2, h3, h4, h5'⟩ := h
  have fn := f.1
  exact ⟨v, f.get h1 h3 (.inr fun row e ro he => by cases he; exact h27), h2, by omega, h4.fr h5 f, fun i hi => by obtain ⟨k1, k2, k3⟩ := h5' i hi; exact ⟨k1, by omega, k3⟩⟩
/-- Another slice of bytes is appended to. -/
theorem WtK.other {b p : Nat} {σ σ' : CSt} {l : List UInt8} {u u' : Value} (h : WtK (fun i => objOf u = some i) b p σ l) (f : FrK (fun i => objOf u ≠ some i) (fun t => t = 5) b σ σ') (hob : ∀ i, i < σ.n → objOf u ≠ some i → objOf u' ≠ some i) (hlt : ∀ i, objOf u' = some i → i < σ'.n) : WtK (fun i => objOf u' = some i) b p σ' l := by
  obtain ⟨v, h1, h2, h3, h4, h5⟩ := h
  have fn := f.1.1
  refine ⟨v, f.1.get h1 h3 (.inr fun row e ro he => by cases he; decide), h2, by omega, ?_, fun i hi => ?_⟩
  · rcases h4 with h4 | ⟨i, cap, rfl, q1, q2, q3, q4⟩
    · exact .inl h4
    · refine .inr ⟨i, cap, rfl, q1, by omega, ?_, q4⟩
      rw [f.2 i (fun hi => (h5 i hi).2.2 rfl) q2]
      exact q3
  · have h6 : objOf u ≠ some i → ¬ i < σ.n := fun hne hlt' => hob i hlt' hne hi
    by_cases hu : objOf u = some i
    · obtain ⟨k1, k2, k3⟩ := h5 i hu
      exact ⟨k1, hlt i hi, k3⟩
    · have := h6 hu
      refine ⟨by omega, hlt i hi, fun hv => ?_⟩
      have := h4.obj_lt hv
      omega
theorem Own.frK {K : Nat → Prop} {T : TypeId → Prop} {b b' : Nat} {σ σ' : CSt} {v : Value} {l : List UInt8} (h : Own b σ 5 encY v l) (f : FrK K T b' σ σ') (hK : ∀ i, objOf v = some i → K i) : Own b σ' 5 encY v l := by
  rcases h with h | ⟨i, cap, rfl, q1, q2, q3, q4⟩
  · exact .inl h
  · exact .inr ⟨i, cap, rfl, q1, Nat.lt_of_lt_of_le q2 f.1.1, by rw [f.2 i (hK i rfl) q2]; exact q3, q4⟩
theorem serV_len (x : Ver) (h1 : x.at_ < 2 ^ 64) (hs : x.val.size ≤ 200) : (serV x).length ≤ 250 := by
  have a := num_len10 (n := x.at_.toNat) (by omega)
  have b := serVer_len x (by omega)
  rw [serV, List.length_append]
  omega
theorem law_RecordValues (ats : List Int) (hoka : ∀ n ∈ ats, 0 ≤ n ∧ n < 2 ^ 64) (va : Value) (l : List LW) (hok : ∀ w ∈ l, w.ok) (vl : Value) (σ : CSt) (hn : gnone σ) (hz : 1 < σ.n) (hsa : Sl σ 31 1 encI va ats) (hsl : Sl σ 30 3 encLW vl l) : W E1 (.fn 3 #[va, vl] none) σ isTrueP := by
  rw [W_fn (fn := Tryz.f3) Tryz.func3 rfl rfl rfl]
  obtain ⟨pl, cl, rfl⟩ := hsl.form
  obtain ⟨pa, ca, rfl⟩ := hsa.form
  simp [wops_cons]
  rw [awake_spec rfl hn]
  simp [wops_cons]
  by_cases hl : 30 < l.length
  · have hl' : (30 : Int) < l.length := by omega
    simp [wops_cons, wops_if', dstOf, hl', isTrueP]
  have hl' : ¬ (30 : Int) < l.length := by omega
  by_cases hm : 30 < ats.length
  · have hm' : (30 : Int) < ats.length := by omega
    simp [wops_cons, wops_if', dstOf, hl', hm', isTrueP]
  have hm' : ¬ (30 : Int) < ats.length := by omega
  simp [wops_cons, wops_if', dstOf, hl', hm']
  have hvl := vsOf_len ats l
  have hat : ∀ i, 0 ≤ ats.getD i 0 ∧ ats.getD i 0 < 2 ^ 64 := by
    intro i
    rw [List.getD_eq_getElem?_getD]
    cases h : ats[i]? with
    | none => simp
    | some n => exact hoka n (List.mem_of_getElem? h)
  have hgood : ∀ x ∈ vsOf ats l, GoodV x ∧ 0 ≤ x.at_ ∧ x.at_ < 2 ^ 64 := by
    intro x hx
    obtain ⟨i, hi, rfl⟩ := List.getElem_of_mem hx
    rw [vsOf_get ats l i (by rw [← hvl]; exact hi)]
    exact ⟨good_mkV _ _, hat i⟩
  have hbytes : ∀ i, (((vsOf ats l).take i).flatMap serV).length ≤ 250 * 30 := by
    intro i
    have := flat_le serV 250 ((vsOf ats l).take i) fun x hx => by
      obtain ⟨a, b, c⟩ := hgood x (List.mem_of_mem_take hx)
      exact serV_len x c a.2
    have h3 : ((vsOf ats l).take i).length ≤ 30 := by rw [List.length_take]; omega
    have := Nat.mul_le_mul_left 250 h3
    omega
  refine W_loop_J (fun n a s => ∃ tm, ∃ i : Nat, ∃ v6 v7, a = ⟨tm, 99, [], false⟩ ∧ tm.get 0 = some (.slice pa ats.length ca) ∧ tm.get 5 = some (.pointer (some ⟨σ.n, 0, none⟩)) ∧ tm.get 6 = some v6 ∧ tm.get 7 = some v7 ∧ tm.get 24 = some (.slice pl l.length cl) ∧ tm.get 25 = some (.int .i64 l.length) ∧ tm.get 26 = some (.int .i64 (i : Nat)) ∧ (i ≤ l.length ∧ n = l.length - i ∧ WtK (fun j => objOf v6 = some j) σ.n σ.n s (((vsOf ats l).take i).flatMap serV) ∧ Own σ.n s 5 encY v6 (((vsOf ats l).take i).flatMap serV) ∧ Own σ.n s 33 encV v7 ((vsOf ats l).take i) ∧ Grow σ s))
    (fun out s => ∃ tm v6 v7, out = .code (.exit 0) ⟨tm, 99, [], false⟩ ∧ tm.get 5 = some (.pointer (some ⟨σ.n, 0, none⟩)) ∧ tm.get 6 = some v6 ∧ tm.get 7 = some v7 ∧ Wt σ.n σ.n s ((vsOf ats l).flatMap serV) ∧ Own σ.n s 5 encY v6 ((vsOf ats l).flatMap serV) ∧ Own σ.n s 33 encV v7 (vsOf ats l) ∧ Grow σ s) ?_ l.length _ _ ?_ ?_
  · rintro n a s ⟨tm, i, v6, v7, rfl, t0, t5, t6, t7, t24, t25, t26, hi, hn', hw, ho6, ho7, hg⟩
    have gn := hg.n
    by_cases hlt : i < l.length
    · have hlt' : (i : Int) < (l.length : Int) := by omega
      have hlv : i < (vsOf ats l).length := by omega
      have hvi := vsOf_get ats l i hlt
      have htk : (vsOf ats l).take (i + 1) = (vsOf ats l).take i ++ [(vsOf ats l)[i]] := List.take_succ_eq_append_getElem hlv
      have hgi := hgood _ (List.getElem_mem hlv)
      rw [hvi] at htk hgi
      have hbi := hbytes i
      generalize hX : mkV (ats.getD i 0) l[i] = X at htk hgi
      have hXa : X.at_ = ats.getD i 0 := by rw [← hX]; rfl
      have hXg : X.gone = l[i].gone := by rw [← hX]; rfl
      have hXv : X.val = if l[i].gone then str [] else cutV l[i].v := by rw [← hX]; rfl
      obtain ⟨j, off, row, ro, hpl, hgj, hjn, hrow, hle⟩ := (hsl.grow hg).at hlt
      have hld := row_get lenLW hrow i hlt
      have hle2 := row_le hle i hlt
      have hw1 := i64s i (by omega)
      generalize l[i] = x at hld hXg hXv
      obtain ⟨key, val, gone⟩ := x
      simp only [encLW] at hld
      simp only at hXg hXv
      obtain ⟨p6, c6, rfl⟩ := (ho6.sl (sz := 1) encY_len).form
      obtain ⟨p7, c7, rfl⟩ := (ho7.sl (sz := 3) lenV).form
      -- two cells: what is looked at, and the version
      have g1 : Grow s ((((s.alloc (.cells [.int .u8 0, .string ⟨#[]⟩, .bool false] 30 false)).put s.n (.cells [.int .u8 key, .string val, .bool gone] 30 false)).alloc (.cells [.int .u64 0, .string ⟨#[]⟩, .bool false] 33 false)).put (s.n + 1) (.cells [.int .u64 0, .string ⟨#[]⟩, .bool gone] 33 false)) := ⟨by simp; omega, fun j hj => by rw [CSt.get_put, if_neg (by omega), CSt.get_alloc, if_neg (by simp; omega), CSt.get_put, if_neg (by omega), CSt.get_alloc, if_neg (by omega)]⟩
      have k9 : ((((s.alloc (.cells [.int .u8 0, .string ⟨#[]⟩, .bool false] 30 false)).put s.n (.cells [.int .u8 key, .string val, .bool gone] 30 false)).alloc (.cells [.int .u64 0, .string ⟨#[]⟩, .bool false] 33 false)).put (s.n + 1) (.cells [.int .u64 0, .string ⟨#[]⟩, .bool gone] 33 false)).get s.n = some (.cells [.int .u8 key, .string val, .bool gone] 30 false) := by simp
      have k10 : ((((s.alloc (.cells [.int .u8 0, .string ⟨#[]⟩, .bool false] 30 false)).put s.n (.cells [.int .u8 key, .string val, .bool gone] 30 false)).alloc (.cells [.int .u64 0, .string ⟨#[]⟩, .bool false] 33 false)).put (s.n + 1) (.cells [.int .u64 0, .string ⟨#[]⟩, .bool gone] 33 false)).get (s.n + 1) = some (.cells [.int .u64 0, .string ⟨#[]⟩, .bool gone] 33 false) := by simp
      have n10 : s.n + 1 < ((((s.alloc (.cells [.int .u8 0, .string ⟨#[]⟩, .bool false] 30 false)).put s.n (.cells [.int .u8 key, .string val, .bool gone] 30 false)).alloc (.cells [.int .u64 0, .string ⟨#[]⟩, .bool false] 33 false)).put (s.n + 1) (.cells [.int .u64 0, .string ⟨#[]⟩, .bool gone] 33 false)).n := by simp
      simp [wops_cons, t0, t5, t6, t7, t24, t25, t26, hlt, hlt', hpl, hgj, hld, hle2, -W_condK, W_cond_t, W_cond_f]
      generalize (((s.alloc (.cells [.int .u8 0, .string ⟨#[]⟩, .bool false] 30 false)).put s.n (.cells [.int .u8 key, .string val, .bool gone] 30 false)).alloc (.cells [.int .u64 0, .string ⟨#[]⟩, .bool false] 33 false)).put (s.n + 1) (.cells [.int .u64 0, .string ⟨#[]⟩, .bool gone] 33 false) = s1 at g1 k9 k10 n10
      have hg' := hg.trans g1
      have hV7 : ((vsOf ats l).take i).length = i := by rw [List.length_take]; omega
      generalize hB : ((vsOf ats l).take i).flatMap serV = B at hw ho6 hbi t6
      generalize hVS : (vsOf ats l).take i = VS at ho7 hV7 t7 htk
      have hB2 : ((vsOf ats l).take (i + 1)).flatMap serV = B ++ serV X := by rw [htk, List.flatMap_append, ← hVS, hB]; simp
      -- its time
      refine W_cut (fun out z => ∃ tm, out = .code .normal ⟨tm, 99, [], false⟩ ∧ tm.get 0 = some (.slice pa ats.length ca) ∧ tm.get 5 = some (.pointer (some ⟨σ.n, 0, none⟩)) ∧ tm.get 6 = some (.slice p6 B.length c6) ∧ tm.get 7 = some (.slice p7 VS.length c7) ∧ tm.get 9 = some (.pointer (some ⟨s.n, 0, none⟩)) ∧ tm.get 10 = some (.pointer (some ⟨s.n + 1, 0, none⟩)) ∧ tm.get 24 = some (.slice pl l.length cl) ∧ tm.get 25 = some (.int .i64 l.length) ∧ tm.get 26 = some (.int .i64 (i : Nat)) ∧ z.get (s.n + 1) = some (.cells [.int .u64 X.at_, .string ⟨#[]⟩, .bool gone] 33 false) ∧ But (s.n + 1) s1 z) ?_ ?_
      · by_cases hia : i < ats.length
        · have hia' : (i : Int) < (ats.length : Int) := by omega
          obtain ⟨j2, off2, row2, ro2, hpa, hgj2, hjn2, hrow2, hle3⟩ := (hsa.grow hg').at hia
          have hld2 := row_cell (enc := encI) lenI hrow2 i 0 hia (by decide)
          have hle4 := row_le hle3 i hia
          have hX2 : X.at_ = ats[i] := by rw [hXa, List.getD_eq_getElem?_getD, List.getElem?_eq_getElem hia]; rfl
          simp [encI] at hld2
          simp at hle4
          simp [wops_cons, t0, t5, t6, t7, t24, t25, t26, hia, hia', hpa, hgj2, hld2, hle4, k9, k10, hX2]
          exact ⟨by simp, fun j hj hne => by rw [CSt.get_put, if_neg hne]⟩
        · have hia' : ¬ (i : Int) < (ats.length : Int) := by omega
          have hX2 : X.at_ = 0 := by rw [hXa, List.getD_eq_getElem?_getD, List.getElem?_eq_none (by omega)]; rfl
          simp [wops_cons, t0, t5, t6, t7, t24, t25, t26, hia, hia', k9, k10, hX2]
          exact But.refl _ _
      rintro out z ⟨tm, rfl, t0, t5, t6, t7, t9, t10, t24, t25, t26, kz, hbz⟩
      have hzn := hbz.1
      have k9z : z.get s.n = some (.cells [.int .u8 key, .string val, .bool gone] 30 false) := by rw [hbz.2 _ (by omega) (by omega)]; exact k9
      have hne1 : ¬ (s.n = s.n + 1) := by omega
      simp [wops_cons, t0, t5, t6, t7, t9, t10, t24, t25, t26, kz, k9z, -W_condK, W_cond_t, W_cond_f]
      -- its value
      refine W_cut (fun out y => ∃ tm, out = .code .normal ⟨tm, 99, [], false⟩ ∧ tm.get 0 = some (.slice pa ats.length ca) ∧ tm.get 5 = some (.pointer (some ⟨σ.n, 0, none⟩)) ∧ tm.get 6 = some (.slice p6 B.length c6) ∧ tm.get 7 = some (.slice p7 VS.length c7) ∧ tm.get 9 = some (.pointer (some ⟨s.n, 0, none⟩)) ∧ tm.get 10 = some (.pointer (some ⟨s.n + 1, 0, none⟩)) ∧ tm.get 24 = some (.slice pl l.length cl) ∧ tm.get 25 = some (.int .i64 l.length) ∧ tm.get 26 = some (.int .i64 (i : Nat)) ∧ y.get (s.n + 1) = some (.cells (encV X) 33 false) ∧ But (s.n + 1) s1 y) ?_ ?_
      · cases gone with
        | true =>
          have hX3 : X.val = ⟨#[]⟩ := by rw [hXv]; rfl
          simp [wops_cons, t0, t5, t6, t7, t9, t10, t24, t25, t26, kz, k9z, encV, hX3, hXg]
          exact hbz
        | false =>
          have hX3 : X.val = cutV val := by rw [hXv]; simp
          by_cases hz : 200 < val.size
          · have hz' : (200 : Int) < (val.size : Int) := by omega
            have hz2 : (200 : Int) ≤ (val.size : Int) := by omega
            have hcv : cutV val = val.extract 0 200 := by unfold cutV; rw [Nat.min_eq_right (by omega)]
            simp [wops_cons, t0, t5, t6, t7, t9, t10, t24, t25, t26, kz, k9z, encV, hX3, hXg, minK, slS, hz, hz', hz2, hcv]
            exact ⟨by simpa using hbz.1, fun j hj hne => by rw [CSt.get_put, if_neg hne]; exact hbz.2 j hj hne⟩
          · have hz' : ¬ (200 : Int) < (val.size : Int) := by omega
            have hcv : cutV val = val.extract 0 val.size := by unfold cutV; rw [Nat.min_eq_left (by omega)]
            simp [wops_cons, t0, t5, t6, t7, t9, t10, t24, t25, t26, kz, k9z, encV, hX3, hXg, minK, slS, hz, hz', hcv]
            exact ⟨by simpa using hbz.1, fun j hj hne => by rw [CSt.get_put, if_neg hne]; exact hbz.2 j hj hne⟩
      rintro out y ⟨tm, rfl, t0, t5, t6, t7, t9, t10, t24, t25, t26, ky, hby⟩
      have hyn := hby.1
      have gy : Grow s y := ⟨by omega, fun j hj => by rw [hby.2 j (by omega) (by omega), g1.old j hj]⟩
      obtain ⟨hgX, hX0, hX1⟩ := hgi
      have hsv := serV_len X hX1 hgX.2
      simp only [encV] at ky
      simp [wops_cons, t0, t5, t6, t7, t9, t10, t24, t25, t26, ky]
      have hvk := valuevK_spec (fun j => objOf (.slice p6 B.length c6) = some j) σ.n σ.n X B y ⟨hX0, hX1⟩ (by have := hgX.2; omega) (hw.grow gy) (by omega) (by omega)
      simp only [encV] at hvk
      refine hvk _ fun y1 hw1' f1 => ?_
      have fn1 := f1.1.1
      have ky1 := f1.1.get ky (by omega) (.inr fun row e ro he => by cases he; decide)
      have ho61 := (ho6.grow gy).frK f1 fun i hi => hi
      have ho71 := (ho7.grow gy).fr (by decide) f1.1
      have hg1 : Grow σ y1 := ((hg.trans gy).fr.trans f1.1).grow (Nat.le_refl _)
      obtain ⟨p9, c9, s9, a1, a2, a3, a4⟩ := app_ver (ts := #[28, 28]) (x := X) ef28 (by simp) rfl rfl rfl ho71 hg1.n (by omega)
      simp [encV] at a1
      have f9 : Fr (fun t => t = 33) σ.n y1 s9 := ho71.z.frV a3
      have fn9 := f9.1
      have ky9 : s9.get (s.n + 1) = some (.cells [.int .u64 X.at_, .string X.val, .bool X.gone] 33 false) := by
        rw [a3.2 _ (by omega)]
        · exact ky1
        · intro e
          have := ho7.obj_lt e
          omega
      have hw9 := hw1'.fr (T := fun t => t = 33) (by decide) (by decide) f9
      have ho69 := ho61.fr (T := fun t => t = 33) (by decide) f9
      have hg9 : Grow σ s9 := (hg1.fr.trans f9).grow (Nat.le_refl _)
      have hne2 : ¬ (s.n + 1 = y1.n) := by omega
      simp [wops_cons, t0, t5, t6, t7, t9, t10, t24, t25, t26]
      refine W_drawn (l := [0, 1, 4, 5, 6, 9, 2, 3, 7, 8, 10, 11, 12, 13]) (b := #[0, 0, 2, 7, 0, 0, 32, 111, 255, 0, 1023, 2047, 4095, 8191]) (by kernel_rfl) (by kernel_rfl) (by kernel_rfl) ?_
      simp [wops_cons, dopsR_cons, opAt, isEff, again, befBits, isRead, Nat.add_assoc, Nat.testBit_eq_decide_div_mod_eq, t0, t5, t6, t7, t9, t10, t24, t25, t26, ky1, ky9, a1, hne2]
      have hXn : ((X.at_.toNat : Nat) : Int) = X.at_ := by omega
      have hln := num_len10 (n := X.at_.toNat) (by omega)
      have ha := lnum_spec X.at_.toNat s9 (by omega)
      rw [hXn] at ha
      refine ha _ fun q2 c2 s10 h10 g10 => ?_
      have gn10 := g10.n
      have ky10 := g10.get ky9 (by omega)
      have hg10 := hg9.trans g10
      obtain ⟨q3, c3, s11, b1, b2, b3, b4⟩ := wappK_sl (ho69.grow g10) hg10.n h10.sl (by omega)
      have fn11 := b3.1.1
      have ky11 := b3.1.get ky10 (by omega) (.inr fun row e ro he => by cases he; decide)
      have hw11 := (hw9.grow g10).other b3 b4 fun i hi => b2.obj_lt hi
      have hg11 : Grow σ s11 := (hg10.fr.trans b3.1).grow (Nat.le_refl _)
      have ho711 := (a2.grow g10).fr (by decide) b3.1
      simp [wops_cons, dopsR_cons, opAt, isEff, again, befBits, isRead, Nat.add_assoc, Nat.testBit_eq_decide_div_mod_eq, t0, t5, t6, t7, t9, t10, t24, t25, t26, ky10, ky11, b1]
      have hlv := lver_spec X s11 (by have := hgX.2; omega)
      simp only [encV] at hlv
      refine hlv _ fun q4 c4 s12 h12 g12 => ?_
      have gn12 := g12.n
      have ky12 := g12.get ky11 (by omega)
      have hg12 := hg11.trans g12
      have hsx : (serV X).length = (num X.at_.toNat).length + (serVer X).length := by rw [serV, List.length_append]
      obtain ⟨q5, c5, s13, d1, d2, d3, d4⟩ := wappK_sl (b2.grow g12) hg12.n h12.sl (by rw [List.length_append]; omega)
      have ky13 := d3.1.get ky12 (by omega) (.inr fun row e ro he => by cases he; decide)
      have hw13 := (hw11.grow g12).other d3 d4 fun i hi => d2.obj_lt hi
      have hg13 : Grow σ s13 := (hg12.fr.trans d3.1).grow (Nat.le_refl _)
      have ho713 := (ho711.grow g12).fr (by decide) d3.1
      have hall : B ++ num X.at_.toNat ++ serVer X = B ++ serV X := by rw [serV, List.append_assoc]
      rw [hall] at d2
      have hal : (B ++ num X.at_.toNat).length + (serVer X).length = (B ++ serV X).length := by simp only [List.length_append]; omega
      rw [hal] at d1 d2 hw13
      simp only [List.length_append] at d1
      simp [wops_cons, dopsR_cons, opAt, isEff, again, befBits, isRead, Nat.add_assoc, Nat.testBit_eq_decide_div_mod_eq, t0, t5, t6, t7, t9, t10, t24, t25, t26, ky12, ky13, d1, hw1]
      simp only [List.length_append] at d2 hw13
      exact ⟨l.length - (i + 1), by omega, hpl, i + 1, by omega, by omega, rfl, by rw [hB2]; exact hw13, by rw [hB2]; exact d2, by rw [htk]; exact ho713, hg13⟩
    · have hie : i = l.length := by omega
      subst hie
      rw [List.take_of_length_le (by omega)] at hw ho6 ho7
      simp [wops_cons, t0, t5, t6, t7, t24, t25, t26]
      exact ⟨hw.wt, ho6, ho7, hg⟩
  · refine ⟨_, 0, .slice none 0 0, .slice none 0 0, rfl, by simp, by simp, by simp, by simp, by simp, by simp, by simp, by omega, rfl, ⟨.slice none 0 0, by simp, Nat.le_refl _, by simp, Own.nil, fun j hj => by cases hj⟩, Own.nil, Own.nil, (Grow.refl σ).alloc _⟩
  · rintro out s ⟨tm, v6, v7, rfl, t5, t6, t7, hw, ho6, ho7, hg⟩
    have hB := hbytes l.length
    rw [List.take_of_length_le (by omega)] at hB
    have hVl : (vsOf ats l).length ≤ 30 := by omega
    generalize vsOf ats l = VS at hgood hB hw ho6 ho7 hVl
    clear hbytes hvl
    obtain ⟨T, hT⟩ : ∃ T, T = VS.flatMap serV := ⟨_, rfl⟩
    rw [← hT] at hB hw ho6
    obtain ⟨p6, c6, rfl⟩ := (ho6.sl (sz := 1) encY_len).form
    obtain ⟨p7, c7, rfl⟩ := (ho7.sl (sz := 3) lenV).form
    obtain ⟨vw, kw, hbw, hnw, how⟩ := hw
    obtain ⟨pw, cw, rfl⟩ := (how.sl (sz := 1) encY_len).form
    simp [wops_cons, t5, t6, t7, kw]
    refine clone_5 _ _ s (how.sl encY_len) (by omega) _ fun v8 s8 o8 g8 => ?_
    obtain ⟨p8, c8, rfl⟩ := (o8.sl (sz := 1) encY_len).form
    have gn8 := g8.n
    simp [wops_cons, t5, t6, t7]
    have g9 : Grow s8 (s8.alloc (.cells [.slice p8 T.length c8, .bool false] 41 false)) := (Grow.refl s8).alloc _
    have hro : Ro s8.n s8.n (s8.alloc (.cells [.slice p8 T.length c8, .bool false] 41 false)) (some T) := ⟨_, T, by simp, Nat.le_refl _, by simp, (o8.sl encY_len).grow g9, by simp, by omega⟩
    refine W_loop_J (fun n a z => ∃ tm, ∃ i : Nat, a = ⟨tm, 99, [], false⟩ ∧ tm.get 5 = some (.pointer (some ⟨σ.n, 0, none⟩)) ∧ tm.get 6 = some (.slice p6 T.length c6) ∧ tm.get 11 = some (.pointer (some ⟨s8.n, 0, none⟩)) ∧ tm.get 74 = some (.slice p7 VS.length c7) ∧ tm.get 75 = some (.int .i64 VS.length) ∧ tm.get 76 = some (.int .i64 (i : Nat)) ∧ (i ≤ VS.length ∧ n = VS.length - i ∧ Ro s8.n s8.n z (some ((VS.drop i).flatMap serV)) ∧ Grow s8 z))
      (fun out z => ∃ tm, out = .code (.exit 2) ⟨tm, 99, [], false⟩ ∧ tm.get 5 = some (.pointer (some ⟨σ.n, 0, none⟩)) ∧ tm.get 6 = some (.slice p6 T.length c6) ∧ tm.get 11 = some (.pointer (some ⟨s8.n, 0, none⟩)) ∧ Ro s8.n s8.n z (some []) ∧ Grow s8 z) ?_ VS.length _ _ ?_ ?_
    · rintro n a z ⟨tm, i, rfl, t5, t6, t11, t74, t75, t76, hi, hn', hr, hgz⟩
      by_cases hlt : i < VS.length
      · have hlt' : (i : Int) < (VS.length : Int) := by omega
        obtain ⟨j, off, row, ro, hp7, hgj, hjn, hrow, hle⟩ := (((ho7.sl (sz := 3) lenV).grow g8).grow hgz).at hlt
        have hld := row_get lenV hrow i hlt
        have hle2 := row_le hle i hlt
        have hw1 := i64s i (by omega)
        have hdr : VS.drop i = VS[i] :: VS.drop (i + 1) := List.drop_eq_getElem_cons hlt
        obtain ⟨hgX, hX0, hX1⟩ := hgood _ (List.getElem_mem hlt)
        generalize VS[i] = X at hld hdr hgX hX0 hX1
        have hrd : rdV ((VS.drop i).flatMap serV) = some (X, (VS.drop (i + 1)).flatMap serV) := by
          rw [hdr, List.flatMap_cons]
          exact rdV_ser hgX hX0 hX1 _
        have gz := hgz.n
        simp only [encV] at hld
        have g1 : Grow z ((z.alloc (.cells [.int .u64 0, .string ⟨#[]⟩, .bool false] 33 false)).put z.n (.cells [.int .u64 X.at_, .string X.val, .bool X.gone] 33 false)) := ⟨by simp, fun j hj => by rw [CSt.get_put, if_neg (by omega), CSt.get_alloc, if_neg (by omega)]⟩
        have k13 : ((z.alloc (.cells [.int .u64 0, .string ⟨#[]⟩, .bool false] 33 false)).put z.n (.cells [.int .u64 X.at_, .string X.val, .bool X.gone] 33 false)).get z.n = some (.cells [.int .u64 X.at_, .string X.val, .bool X.gone] 33 false) := by simp
        have n13 : z.n < ((z.alloc (.cells [.int .u64 0, .string ⟨#[]⟩, .bool false] 33 false)).put z.n (.cells [.int .u64 X.at_, .string X.val, .bool X.gone] 33 false)).n := by simp
        simp [wops_cons, t5, t6, t11, t74, t75, t76, hlt, hlt', hp7, hgj, hld, hle2]
        generalize (z.alloc (.cells [.int .u64 0, .string ⟨#[]⟩, .bool false] 33 false)).put z.n (.cells [.int .u64 X.at_, .string X.val, .bool X.gone] 33 false) = z1 at g1 k13 n13
        refine W_drawn (l := [0, 2, 1, 3, 4, 5, 6, 7, 8, 9]) (b := #[0, 1, 0, 7, 15, 31, 63, 127, 255, 511]) (by kernel_rfl) (by kernel_rfl) (by kernel_rfl) ?_
        simp [wops_cons, dopsR_cons, opAt, isEff, again, befBits, isRead, Nat.add_assoc, Nat.testBit_eq_decide_div_mod_eq, t5, t6, t11, t74, t75, t76, k13]
        refine rreadv_spec s8.n s8.n _ z1 (hr.grow g1) (by omega) _ fun x z2 hx hr2 f2 => ?_
        rw [Option.bind_some, hrd] at hr2 hx
        obtain rfl := hx _ _ rfl
        have k13b := f2.get k13 n13 (.inr fun row e ro he => by cases he; decide)
        have hg2 : Grow s8 z2 := (((hgz.trans g1).fr.trans f2)).grow (Nat.le_refl _)
        have hne := fun s a b => neq_ver x x s a b
        simp only [encV] at hne
        obtain ⟨v3, l3, kr, _, _, _, _, _⟩ := id hr2
        simp only [Option.map_some, Option.isNone_some] at kr
        simp [wops_cons, dopsR_cons, opAt, isEff, again, befBits, isRead, Nat.add_assoc, Nat.testBit_eq_decide_div_mod_eq, t5, t6, t11, t74, t75, t76, k13b, encV, hne]
        repeat (rw [dopsR_if (by rfl) (by simp [dstOf])]; simp [wops_cons, dopsR_cons, dstOf, opAt, isEff, again, befBits, isRead, Nat.add_assoc, Nat.testBit_eq_decide_div_mod_eq, t5, t6, t11, t74, t75, t76, k13b, encV, hne, kr, hw1])
        exact ⟨VS.length - (i + 1), by omega, hp7, i + 1, by omega, by omega, rfl, hr2, hg2⟩
      · have hie : i = VS.length := by omega
        subst hie
        rw [List.drop_of_length_le (Nat.le_refl _)] at hr
        simp [wops_cons, t5, t6, t11, t74, t75, t76]
        exact ⟨hr, hgz⟩
    · exact ⟨_, 0, rfl, by simp [t5], by simp [t6], by simp, by simp, by simp, by simp, by omega, rfl, by rw [List.drop_zero, ← hT]; exact hro, g9⟩
    · rintro out z ⟨tm, rfl, t5, t6, t11, hr, hgz⟩
      have kwz := hgz.get (g8.get kw (by omega)) (by omega)
      simp [wops_cons, wops_if', dstOf, t5, t6, t11, kwz]
      refine yeq_spec _ _ T T z (((how.sl encY_len).grow g8).grow hgz) (((ho6.sl encY_len).grow g8).grow hgz) (by omega) (by omega) _ ?_
      simp [wops_cons, wops_if', dstOf, t5, t6, t11]
      refine rend_spec s8.n s8.n _ z hr _ ?_
      simp [wops_cons, wops_if', dstOf, isTrueP]
end Go.Sm
/- Single plain arguments. -/
set_option linter.unusedVariables false
set_option linter.unusedSimpArgs false
namespace Go.Sm
open Go Go.WideShapes Go.ChangeShapes
section
variable {H : Type} {en : TypeId × Value → H} {P : Program} {w : World}
theorem open_one {base base' : Nat} {spare : Nat → Bool} {held : Bool} {t : TypeId} {f fuel : Nat} {ks : List PK} {v : Value} {x : DataW H × List MemPlace} {r : Reach}
    (hk : kindsF P f t = some ks) (hval : Value.okWide P w r base t v) (hd : DataW.trod en P w base' spare held fuel t v.cells.toList = some x) : ∃ xs, OkL ks xs ∧ v = wrapV P t xs := by
  have h := trod_kinds f t ks hk fuel _ x hd
  refine ⟨_, h, ?_⟩
  cases f with
  | zero => cases hk
  | succ f =>
    unfold kindsF at hk
    cases hu : P.underlying t with
    | none => rw [hu] at hk; cases hk
    | some d =>
      rw [hu] at hk
      cases d with
      | int k => obtain ⟨n, rfl⟩ := okWide_int hu hval; simp [wrapV, isAggT, hu, Value.cells]
      | bool => obtain ⟨n, rfl⟩ := okWide_bool hu hval; simp [wrapV, isAggT, hu, Value.cells]
      | string => obtain ⟨n, rfl⟩ := okWide_string hu hval; simp [wrapV, isAggT, hu, Value.cells]
      | struct fs => obtain ⟨cs, rfl, _⟩ := okWide_struct hu hval; simp [wrapV, isAggT, hu, Value.cells]
      | _ => cases hk
theorem open_i {base base' : Nat} {spare : Nat → Bool} {held : Bool} {t : TypeId} {fuel : Nat} {k : IntKind} {v : Value} {x : DataW H × List MemPlace} {r : Reach}
    (hk : P.underlying t = some (.int k)) (hval : Value.okWide P w r base t v) (hd : DataW.trod en P w base' spare held fuel t v.cells.toList = some x) : ∃ n, v = .int k n ∧ k.min ≤ n ∧ n ≤ k.max := by
  obtain ⟨xs, h, rfl⟩ := open_one (f := 1) (ks := [.int k]) (by simp [kindsF, hk]) hval hd
  match xs, h with
  | [a], ⟨⟨n, ha, hn⟩, _⟩ =>
    subst ha
    simp only [Lit.wf, Bool.and_eq_true, decide_eq_true_eq] at hn
    exact ⟨n, by simp [wrapV, isAggT, hk], hn⟩
theorem open_str {base base' : Nat} {spare : Nat → Bool} {held : Bool} {t : TypeId} {fuel : Nat} {v : Value} {x : DataW H × List MemPlace} {r : Reach}
    (hk : P.underlying t = some .string) (hval : Value.okWide P w r base t v) (hd : DataW.trod en P w base' spare held fuel t v.cells.toList = some x) : ∃ s, v = .string s ∧ s.size ≤ maxLen := by
  obtain ⟨xs, h, rfl⟩ := open_one (f := 1) (ks := [.str]) (by simp [kindsF, hk]) hval hd
  match xs, h with
  | [a], ⟨⟨n, ha, hn⟩, _⟩ =>
    subst ha
    exact ⟨n, by simp [wrapV, isAggT, hk], hn⟩
theorem open_st {α : Type} {enc : α → List Value} {ok : α → Prop} {base base' : Nat} {spare : Nat → Bool} {held : Bool} {t : TypeId} {f fuel : Nat} {ks : List PK} {v : Value} {x : DataW H × List MemPlace} {r : Reach}
    (hk : kindsF P f t = some ks) (ha : isAggT P t = true) (hen : ∀ r, OkL ks r → ∃ x, ok x ∧ r = enc x) (hval : Value.okWide P w r base t v) (hd : DataW.trod en P w base' spare held fuel t v.cells.toList = some x) : ∃ y, ok y ∧ v = .agg (enc y).toArray ∧ Sm.flat v = true := by
  obtain ⟨xs, h, rfl⟩ := open_one hk hval hd
  obtain ⟨y, h1, rfl⟩ := hen _ h
  refine ⟨y, h1, by simp [wrapV, ha], ?_⟩
  have := OkL.flat h
  simp only [wrapV, ha, if_true, Sm.flat]
  simpa using this
end
end Go.Sm
