/- Part F of the proof. -/
import Derived.Test.YtkcljmaklingoaaGreatDoorPartD
import Derived.Test.YtkcljmaklingoaaGreatDoorPartE
/- Stores: Put. -/
set_option linter.unusedVariables false
set_option linter.unusedSimpArgs false
namespace Go.Sm
open Go Go.Proofs
set_option maxRecDepth 100000
set_option maxHeartbeats 4000000
theorem encR_set1 (R : List RV) (n : Nat) (h : n < R.length) (p : Option Addr) (m c : Nat) : (R.flatMap encR).take (n * 2 + 1) ++ .slice p m c :: (R.flatMap encR).drop (n * 2 + 1 + 1) = (R.set n ⟨R[n].key, p, m, c⟩).flatMap encR := by
  have h1 := enc_set encR (n := 2) lenR R n ⟨R[n].key, p, m, c⟩ h
  rw [← h1]
  have hl : (R.flatMap encR).length = R.length * 2 := enc_length encR lenR R
  have h2 : n * 2 < (R.flatMap encR).length := by omega
  have hrow : ((R.flatMap encR).drop 0).take (R.length * 2) = R.flatMap encR := by rw [List.drop_zero, List.take_of_length_le (by omega)]
  have h3 := row_cell (enc := encR) lenR hrow n 0 h (by omega)
  rw [Nat.zero_add, Nat.add_zero, List.getElem?_eq_getElem h2] at h3
  have h4 : (R.flatMap encR)[n * 2] = .string R[n].key := by simpa [encR] using h3
  rw [List.take_succ_eq_append_getElem h2, h4]
  simp [encR]
theorem hbits : ∀ j, j < 17 → Nat.testBit 131071 j = true := by decide
theorem put_store (b : Nat) (i : Nat) (S : Stl) (hk : KS S) (hc : ∀ s ∈ S, Srt s.2) (hcl : ∀ s ∈ S, s.2.length < 2 ^ 38) (k : ByteArray) (x : Ver) (σ : CSt) (hb : b ≤ σ.n) (hst : St b σ i S) (hbig : S.length < 2 ^ 38) (Q : Out → CSt → Prop)
    (h : ∀ (n : Nat) (σ' : CSt), Pos S k n → St b σ' i (putAt S k x n) → Fr stT b σ σ' → Q (.ret (.tuple #[]) false) σ') :
    W E1 (.fn 39 #[.pointer (some ⟨i, 0, none⟩), .string k, .agg (encV x).toArray] none) σ Q := by
  obtain ⟨vr, R, hbi, hin, hg, hown, hrw⟩ := hst
  rw [W_fn (fn := Tryz.f39) Tryz.func39 rfl rfl rfl]
  have hni : ¬ i = σ.n := by omega
  have hga : Grow σ (σ.alloc (.cells (encV x) 33 false)) := (Grow.refl σ).alloc _
  obtain ⟨pr, cr, rfl⟩ := (hown.sl (sz := 2) lenR).form
  have hl := hrw.1
  simp [wops_cons, encV, hg, hni]
  simp only [encV] at hga
  refine find_store S hk R _ k _ (hrw.grow hga) ((hown.grow hga).sl lenR) (by omega) _ fun n σ1 hp g1 => ?_
  have hg1 := hga.trans g1
  have hgi := hg1.get hg hin
  have hcell : σ1.get σ.n = some (.cells [.int .u64 x.at_, .string x.val, .bool x.gone] 33 false) := g1.get (by simp) (by simp)
  have hn1 : σ.n < σ1.n := by have := g1.n; simp at this; omega
  have hown1 := hown.grow hg1
  have hrw1 := hrw.grow hg1
  by_cases hfo : ∃ h : n < S.length, S[n].1 = k
  · obtain ⟨hnS, hkey⟩ := hfo
    rw [decide_eq_true ⟨hnS, hkey⟩]
    have hput : putAt S k x n = S.set n (k, putL S[n].2 x) := by
      unfold putAt
      rw [List.getElem?_eq_getElem hnS]
      simp only [hkey, if_true]
    have hnR : n < R.length := by omega
    obtain ⟨hkeyR, hslR⟩ := hrw1.2 n hnR hnS
    rcases hown1 with ⟨h1, h2⟩ | ⟨o, cap, zs, h1, hbo, hon, hgo, hzs, hcap⟩
    · rw [h2] at hnR; simp at hnR
    · cases h1
      have hrl : (R.flatMap encR).length = R.length * 2 := enc_length encR lenR R
      have hrow : ((R.flatMap encR ++ zs).drop 0).take (R.length * 2) = R.flatMap encR := by rw [List.drop_zero, ← hrl, List.take_left]
      have hrlz : (R.flatMap encR ++ zs).length = R.length * 2 + zs.length := by rw [List.length_append, hrl]
      have hsetz : ∀ (p : Option Addr) (m c : Nat), (R.flatMap encR ++ zs).take (n * 2 + 1) ++ .slice p m c :: (R.flatMap encR ++ zs).drop (n * 2 + 1 + 1) = (R.set n ⟨R[n].key, p, m, c⟩).flatMap encR ++ zs := fun p m c => by
        rw [List.take_append_of_le_length (by omega), List.drop_append_of_le_length (by omega), ← List.cons_append, ← List.append_assoc, encR_set1 R n hnR p m c]
      generalize R.flatMap encR ++ zs = row at hgo hrow hrlz hsetz
      have hcel := row_cell (enc := encR) lenR hrow n 1 hnR (by omega)
      rw [Nat.zero_add] at hcel
      have hcel2 : row[n * 2 + 1]? = some (.slice R[n].p R[n].n R[n].c) := hcel
      have hle2 : n * 2 + 1 + 1 ≤ row.length := by omega
      simp [wops_cons, hgi, hcell]
      refine W_drawn (l := [0, 1, 2, 3, 4, 5, 6, 7, 8, 9, 10, 11, 12, 13, 14, 15, 16, 17]) (b := #[0, 1, 3, 7, 0, 0, 32, 96, 224, 0, 992, 2016, 4064, 0, 16352, 32767, 65535, 131071]) (by kernel_rfl) (by kernel_rfl) (by kernel_rfl) ?_
      simp [dopsR_cons, opAt, isEff, again, befBits, isRead, Nat.add_assoc, hgi, hcell, hgo, hnR, hcel2, hrl, -List.length_flatMap]
      have hsrt := hc _ (List.getElem_mem hnS)
      have hlen := hcl _ (List.getElem_mem hnS)
      have hps := fun Q => put_spec S[n].2 hsrt (.slice R[n].p R[n].n R[n].c) x σ1 hslR (by omega) Q
      simp only [encV] at hps
      refine hps _ fun v2 σ2 h2 g2 => ?_
      obtain ⟨p2, c2, rfl⟩ := (h2.sl (sz := 3) (fun _ => rfl)).form
      have hgi2 := g2.get hgi (Nat.lt_of_lt_of_le hin hg1.n)
      have hgo2 := g2.get hgo hon
      have hcell2 := g2.get hcell hn1
      simp [dopsR_cons, opAt, isEff, again, befBits, isRead, Nat.add_assoc, hgi2, hgo2, hcell2, hnR, hcel2, hrl, hle2, hbits, -List.length_flatMap]
      rw [hsetz]
      have hR2 := (hrw1.grow g2).set n ⟨R[n].key, p2, (putL S[n].2 x).length, c2⟩ (k, putL S[n].2 x) (by rw [hkeyR, hkey]) (h2.sl (fun _ => rfl))
      have hoi : ¬ i = o := by
        intro e
        subst e
        rw [hgi] at hgo
        have h1 := Option.some.inj hgo
        injection h1 with _ h2
        exact absurd h2 (by decide)
      have hF : Fr stT b σ (σ2.put o (.cells ((R.set n ⟨R[n].key, p2, (putL S[n].2 x).length, c2⟩).flatMap encR ++ zs) 116 false)) := ((hg1.trans g2).fr (T := stT)).put hbo hgo2 (.inl rfl) _
      refine h n _ hp ?_ hF
      rw [hput]
      have hon2 := Nat.lt_of_lt_of_le hon g2.n
      have hin2 := Nat.lt_of_lt_of_le (Nat.lt_of_lt_of_le hin hg1.n) g2.n
      have hfr : Fr (fun t => t = 116) 0 σ2 (σ2.put o (.cells ((R.set n ⟨R[n].key, p2, (putL S[n].2 x).length, c2⟩).flatMap encR ++ zs) 116 false)) := (Fr.refl (fun t => t = 116) 0 σ2).put (Nat.zero_le _) hgo2 rfl _
      refine ⟨_, R.set n ⟨R[n].key, p2, (putL S[n].2 x).length, c2⟩, hbi, by simpa using hin2, by rw [CSt.get_put, if_neg hoi]; exact hgi2, .inr ⟨o, cr, zs, by simp, hbo, by simpa using hon2, by simp, hzs, ?_⟩, hR2.fr (by decide) hfr⟩
      rcases hcap with h | ⟨h, _⟩
      · exact .inl h
      · rw [h] at hnR; simp at hnR
  · have hput : putAt S k x n = S.take n ++ (k, putL [] x) :: S.drop n := by
      unfold putAt
      cases hn : S[n]? with
      | none => rfl
      | some s =>
        have hs : ¬ s.1 = k := fun e => hfo (by
          obtain ⟨h1, h2⟩ := List.getElem?_eq_some_iff.1 hn
          exact ⟨h1, by rw [h2]; exact e⟩)
        simp only [hs, if_false]
    rw [decide_eq_false hfo]
    have hnR : n ≤ R.length := by have := hp.le; omega
    have hg2a : Grow σ1 (σ1.alloc (.cells (encR ⟨k, none, 0, 0⟩) 116 false)) := (Grow.refl σ1).alloc _
    have hji : ∀ o off m c, Value.slice pr R.length cr = .slice (some ⟨o, off, none⟩) m c → o ≠ σ1.n := by
      rintro o off m c e
      rcases hown1 with ⟨h0, _⟩ | ⟨i', cap, _, h0, _, h1, _⟩
      · rw [h0] at e; cases e
      · rw [h0] at e; cases e; omega
    have hins := fun Q => ins_own_95 b R ⟨k, none, 0, 0⟩ n hnR (.slice pr R.length cr) _ (by have := hg1.n; simp; omega) (hown1.grow hg2a) σ1.n (by simp) hji (by omega) Q
    simp only [encR] at hins hg2a
    simp [wops_cons, hgi, hcell]
    refine hins _ fun v2 σ2 h2 g2 => ?_
    have hin1 := Nat.lt_of_lt_of_le hin hg1.n
    have hgi2 : σ2.get i = some (.cells [.slice pr R.length cr] 114 false) := g2.get (hg2a.get hgi hin1) (by simp; omega) (.inr fun row e ro he => by injection he with _ h2 _; rw [← h2]; decide)
    have hcell2 : σ2.get σ.n = some (.cells [.int .u64 x.at_, .string x.val, .bool x.gone] 33 false) := g2.get (hg2a.get hcell hn1) (by simp; omega) (.inr fun row e ro he => by injection he with _ h2 _; rw [← h2]; decide)
    have hRl : (R.take n ++ (⟨k, none, 0, 0⟩ : RV) :: R.drop n).length = R.length + 1 := by simp; omega
    have hRn : (R.take n ++ (⟨k, none, 0, 0⟩ : RV) :: R.drop n)[n]? = some ⟨k, none, 0, 0⟩ := by
      rw [List.getElem?_append_right (by simp; omega)]
      simp [Nat.min_eq_left hnR]
    have hrw2 := (((hrw1.grow hg2a).fr (T := fun t => t = 116) (by decide) g2)).ins n hnR ⟨k, none, 0, 0⟩ (k, []) rfl Sl.nil
    have hSset : (S.take n ++ ((k, []) : ByteArray × List Ver) :: S.drop n).set n (k, putL [] x) = S.take n ++ (k, putL [] x) :: S.drop n := by
      have h0 : n = (S.take n).length + 0 := by rw [List.length_take, Nat.min_eq_left hp.le, Nat.add_zero]
      conv => lhs; arg 2; rw [h0]
      rw [List.set_append_right _ _ (by omega)]
      simp
    generalize hR' : (R.take n ++ (⟨k, none, 0, 0⟩ : RV) :: R.drop n) = R' at h2 hRl hRn hrw2
    obtain ⟨hnR', hRn'⟩ := List.getElem?_eq_some_iff.1 hRn
    have hslR : Sl σ2 33 3 encV (.slice none 0 0) ([] : List Ver) := Sl.nil
    rcases h2 with ⟨h1, h2⟩ | ⟨o, cap, h1, hbo, hon, hgo, hcap⟩
    · rw [h2] at hnR'; simp at hnR'
    · subst h1
      have hrl : (R'.flatMap encR).length = R'.length * 2 := enc_length encR lenR R'
      have hrow : ((R'.flatMap encR).drop 0).take (R'.length * 2) = R'.flatMap encR := by rw [List.drop_zero, List.take_of_length_le (by omega)]
      have hcel := row_cell (enc := encR) lenR hrow n 1 hnR' (by omega)
      rw [Nat.zero_add, hRn'] at hcel
      have hcel2 : (R'.flatMap encR)[n * 2 + 1]? = some (.slice none 0 0) := hcel
      have hle2 : n * 2 + 1 + 1 ≤ R'.length * 2 := by omega
      have hoi : ¬ i = o := by
        intro e
        subst e
        rw [hgi2] at hgo
        have h1 := Option.some.inj hgo
        injection h1 with _ h2
        exact absurd h2 (by decide)
      have hni2 : ¬ σ.n = i := by omega
      have hoi2 : ¬ o = i := fun e => hoi e.symm
      have hin2 : i < σ2.n := by have := g2.1; simp at this; omega
      simp [wops_cons, hgi2, hcell2]
      refine W_drawn (l := [0, 1, 2, 3, 4, 5, 6, 7, 8, 9, 10, 11, 12, 13, 14, 15, 16, 17]) (b := #[0, 1, 3, 7, 0, 0, 32, 96, 224, 0, 992, 2016, 4064, 0, 16352, 32767, 65535, 131071]) (by kernel_rfl) (by kernel_rfl) (by kernel_rfl) ?_
      simp [dopsR_cons, opAt, isEff, again, befBits, isRead, Nat.add_assoc, hgi2, hcell2, hgo, hnR', hcel2, hrl, hoi, hoi2, hni2, -List.length_flatMap]
      have hgp : (σ2.put i (.cells [.slice (some ⟨o, 0, none⟩) R'.length cap] 114 false)).get o = some (.cells (R'.flatMap encR) 116 false) := by rw [CSt.get_put, if_neg hoi2]; exact hgo
      have hgip : (σ2.put i (.cells [.slice (some ⟨o, 0, none⟩) R'.length cap] 114 false)).get i = some (.cells [.slice (some ⟨o, 0, none⟩) R'.length cap] 114 false) := by rw [CSt.get_put, if_pos rfl]
      have hcep : (σ2.put i (.cells [.slice (some ⟨o, 0, none⟩) R'.length cap] 114 false)).get σ.n = some (.cells [.int .u64 x.at_, .string x.val, .bool x.gone] 33 false) := by rw [CSt.get_put, if_neg hni2]; exact hcell2
      have hFi : Fr (fun t => t = 114) 0 σ2 (σ2.put i (.cells [.slice (some ⟨o, 0, none⟩) R'.length cap] 114 false)) := (Fr.refl (fun t => t = 114) 0 σ2).put (Nat.zero_le _) hgi2 rfl _
      have hF3 : Fr stT b σ (σ2.put i (.cells [.slice (some ⟨o, 0, none⟩) R'.length cap] 114 false)) := ((((hg1.trans hg2a).fr (T := stT) (b := b)).trans (g2.mono (fun e he => .inl he) (Nat.le_refl _)))).put hbi hgi2 (.inr rfl) _
      have hrw3 := hrw2.fr (T := fun t => t = 114) (by decide) hFi
      have hn3 : (σ2.put i (.cells [.slice (some ⟨o, 0, none⟩) R'.length cap] 114 false)).n = σ2.n := rfl
      have hns2 : σ.n < σ2.n := by have := g2.1; simp at this; omega
      generalize hσ3 : σ2.put i (.cells [.slice (some ⟨o, 0, none⟩) R'.length cap] 114 false) = σ3 at hgp hgip hcep hF3 hrw3 hn3 ⊢
      have hps := fun Q => put_spec [] List.Pairwise.nil (.slice none 0 0) x σ3 Sl.nil (by simp) Q
      simp only [encV] at hps
      refine hps _ fun v4 σ4 h4 g4 => ?_
      obtain ⟨p4, c4, rfl⟩ := (h4.sl (sz := 3) (fun _ => rfl)).form
      have hgi4 := g4.get hgip (by omega)
      have hgo4 := g4.get hgp (by omega)
      have hcell4 := g4.get hcep (by omega)
      simp [dopsR_cons, opAt, isEff, again, befBits, isRead, Nat.add_assoc, hgi4, hgo4, hcell4, hnR', hcel2, hrl, hle2, hbits, -List.length_flatMap]
      have hset := encR_set1 R' n hnR' p4 (putL [] x).length c4
      rw [hRn'] at hset
      rw [hset]
      have hR4 := (hrw3.grow g4).set n ⟨k, p4, (putL [] x).length, c4⟩ (k, putL [] x) rfl (h4.sl (fun _ => rfl))
      rw [hSset, ← hput] at hR4
      have hF : Fr stT b σ (σ4.put o (.cells ((R'.set n ⟨k, p4, (putL [] x).length, c4⟩).flatMap encR) 116 false)) := (hF3.trans g4.fr).put hbo hgo4 (.inl rfl) _
      refine h n _ hp ?_ hF
      have hn4 := g4.n
      have hfr : Fr (fun t => t = 116) 0 σ4 (σ4.put o (.cells ((R'.set n ⟨k, p4, (putL [] x).length, c4⟩).flatMap encR) 116 false)) := (Fr.refl (fun t => t = 116) 0 σ4).put (Nat.zero_le _) hgo4 rfl _
      refine ⟨_, R'.set n ⟨k, p4, (putL [] x).length, c4⟩, hbi, by simp; omega, by rw [CSt.get_put, if_neg hoi]; exact hgi4, .inr ⟨o, cap, [], by simp, hbo, by simp; omega, by simp, rfl, ?_⟩, hR4.fr (by decide) hfr⟩
      rcases hcap with h | ⟨h, _⟩
      · exact .inl h
      · rw [h] at hnR'; simp at hnR'
end Go.Sm
/- Stores: All, gone over. -/
set_option linter.unusedVariables false
set_option linter.unusedSimpArgs false
namespace Go.Sm
open Go Go.Proofs
set_option maxRecDepth 100000
set_option maxHeartbeats 4000000
/-- The store's objects are as they were. -/
def Kept (σ σ' : CSt) : Prop := σ.n ≤ σ'.n ∧ ∀ m, m < σ.n → ∀ row e ro, σ.get m = some (.cells row e ro) → (e = 116 ∨ e = 114 ∨ e = 33 ∨ e = 61) → σ'.get m = σ.get m
theorem Kept.sl {α : Type} {σ σ' : CSt} {e : TypeId} {sz : Nat} {enc : α → List Value} {v : Value} {l : List α} (hk : Kept σ σ') (h : Sl σ e sz enc v l) (he : e = 116 ∨ e = 114 ∨ e = 33 ∨ e = 61) : Sl σ' e sz enc v l := by
  rcases h with h | ⟨i, off, cap, row, ro, h1, h2, h3, h4⟩
  · exact .inl h
  · exact .inr ⟨i, off, cap, row, ro, h1, by rw [hk.2 i h3 _ _ _ h2 he]; exact h2, Nat.lt_of_lt_of_le h3 hk.1, h4⟩
theorem Grow.kept {σ σ' : CSt} (h : Grow σ σ') : Kept σ σ' := ⟨h.n, fun m hm _ _ _ _ _ => h.old m hm⟩
theorem hbits63 : ∀ j, j < 6 → Nat.testBit 63 j = true := by decide
theorem all_spec (b : Nat) (i : Nat) (S : Stl) (q L : Nat) (qo : Bool) (σ : CSt) (hst : St b σ i S) (hq : σ.get q = some (.cells [.pointer (some ⟨i, 0, none⟩)] 61 qo)) (hqn : q < σ.n) (hbig : S.length < 2 ^ 38) (hcl : ∀ s ∈ S, s.2.length < 2 ^ 38)
    (Inv : Nat → CSt → Prop) (Done : CSt → Prop) (hkept : ∀ j σ', Inv j σ' → Kept σ σ') (hgrow : ∀ j σ' σ'', Inv j σ' → Grow σ' σ'' → Inv j σ'') (h0 : Inv 0 σ)
    (hround : ∀ (j : Nat) (hj : j < S.length) (σ' : CSt) (v : Value) (b' : Nat) (Q' : Out → CSt → Prop), Inv j σ' → σ.n ≤ b' → b' ≤ σ'.n → Own b' σ' 33 encV v S[j].2 →
      (∀ (ok : Bool) σ'', (ok = true → Inv (j + 1) σ'') → (ok = false → Done σ'') → Q' (.ret (.bool ok) false) σ'') → W E1 (.round L #[.string S[j].1, v]) σ' Q')
    (Q : Out → CSt → Prop) (h1 : ∀ σ', Inv S.length σ' → Q (.ret (.tuple #[]) false) σ') (h2 : ∀ σ', Done σ' → Q (.ret (.tuple #[]) false) σ') :
    W E1 (.fn 58 #[.func (.yield L) #[] #[], .pointer (some ⟨q, 0, none⟩)] none) σ Q := by
  obtain ⟨vr, R, hbi, hin, hg, hown, hrw⟩ := hst
  rw [W_fn (fn := Tryz.f58) Tryz.func58 rfl rfl rfl]
  have hsR := hown.sl (sz := 2) lenR
  obtain ⟨pr, cr, rfl⟩ := hsR.form
  have hl := hrw.1
  simp [wops_cons, hq, hg]
  refine W_loop_inv (fun n a σ' => ∃ tm j, a = ⟨tm, 23, [], false⟩ ∧ tm.get 0 = some (.func (.yield L) #[] #[]) ∧ tm.get 8 = some (.slice pr R.length cr) ∧ tm.get 9 = some (.int .i64 R.length) ∧ tm.get 10 = some (.int .i64 (j : Nat)) ∧ j ≤ R.length ∧ n = R.length - j ∧ Inv j σ') ?_ R.length _ _ ?_
  · rintro n a σ1 ⟨tm, j, rfl, e0, e8, e9, e10, hj, hn, hinv⟩
    have hkp := hkept j σ1 hinv
    by_cases hjl : j < R.length
    · have hjS : j < S.length := by omega
      obtain ⟨o, off, row, ro, rfl, hgo, hon, hrow, hle⟩ := (hkp.sl hsR (.inl rfl)).at hjl
      have hld := row_get (enc := encR) lenR hrow j hjl
      have hl1 := row_le hle j hjl
      have hw2 := i64n1 j (by omega)
      obtain ⟨hkey, hch⟩ := hrw.2 j hjl hjS
      have hch1 := hkp.sl hch (.inr (.inr (.inl rfl)))
      have hgw : Grow σ1 ((σ1.alloc (.cells [.string ⟨#[]⟩, .slice none 0 0] 116 false)).put σ1.n (.cells [.string R[j].key, .slice R[j].p R[j].n R[j].c] 116 false)) := ((Grow.refl σ1).alloc _).put (Nat.le_refl _) _
      simp [wops_cons, e0, e8, e9, e10, hjl, hgo, hld, hl1]
      simp [wops_cons, encR, e0]
      refine W_drawn (l := [0, 1, 2, 3, 4, 5, 6, 7]) (b := #[0, 0, 2, 0, 8, 24, 63, 127]) (by kernel_rfl) (by kernel_rfl) (by kernel_rfl) ?_
      simp [dopsR_cons, opAt, isEff, again, befBits, isRead, Nat.add_assoc, e0]
      refine clone_29 S[j].2 _ _ (hch1.grow hgw) (by have := hcl _ (List.getElem_mem hjS); omega) _ fun v2 σ2 h2' g2 => ?_
      have hc2 := g2.get (i := σ1.n) (o := .cells [.string R[j].key, .slice R[j].p R[j].n R[j].c] 116 false) (by simp) (by simp)
      simp [dopsR_cons, opAt, isEff, again, befBits, isRead, Nat.add_assoc, e0, hc2]
      rw [hkey]
      refine hround j hjS σ2 v2 _ _ (hgrow j σ1 σ2 hinv (hgw.trans g2)) (by have := hkp.1; simp; omega) g2.n h2' fun ok σ3 ht hf => ?_
      cases ok with
      | true =>
        simp [wops_cons, dopsR_cons, opAt, isEff, again, befBits, isRead, Nat.add_assoc, e0, e8, e9, e10, hbits63, hw2]
        refine ⟨_, ?_, j + 1, rfl, by omega, rfl, ht rfl⟩
        omega
      | false =>
        simp [dopsR_cons, opAt, isEff, again, befBits, isRead, Nat.add_assoc, e0, hbits63]
        exact h2 σ3 (hf rfl)
    · have hjl' : j = R.length := by omega
      subst hjl'
      rw [hl] at hinv
      simp [wops_cons, e0, e8, e9, e10]
      exact h1 σ1 hinv
  · refine ⟨_, 0, rfl, ?_⟩
    simp
    exact h0
end Go.Sm
/- Stores: the laws' Make: a store, and the same as a map. -/
set_option linter.unusedVariables false
set_option linter.unusedSimpArgs false
namespace Go.Sm
open Go Go.Proofs
set_option maxRecDepth 100000
set_option maxHeartbeats 4000000
structure WW where
  key : Int
  v : VV
def encW (w : WW) : List Value := [.int .u8 w.key, .int .u8 w.v.at_, .int .u8 w.v.v, .bool w.v.gone]
theorem lenW (w : WW) : (encW w).length = 4 := rfl
def WW.ok (w : WW) : Prop := (0 ≤ w.key ∧ w.key < 256) ∧ w.v.ok
/-- A key, by a number below five. -/
def key12 (n : Int) : ByteArray := match n.toNat with
  | 0 => ⟨#[97]⟩ | 1 => ⟨#[98]⟩ | 2 => ⟨#[99]⟩ | 3 => ⟨#[100]⟩ | _ => ⟨#[101]⟩
def WW.k (w : WW) : ByteArray := key12 (w.key.tmod 5)
/-- A map as a list: the keys, and what was put, in order. -/
abbrev Fl := List (ByteArray × List VV)
def putF : Fl → ByteArray → VV → Fl
  | [], k, x => [(k, [x])]
  | p :: F, k, x => if p.1 = k then (k, p.2 ++ [x]) :: F else p :: putF F k x
def MRel (b : Nat) (σ : CSt) : Ml → Fl → Prop
  | [], [] => True
  | p :: M, q :: F => (p.1 = q.1 ∧ Own b σ 78 encU p.2 q.2) ∧ (∀ r ∈ M, ∀ i, objOf p.2 = some i → objOf r.2 ≠ some i) ∧ MRel b σ M F
  | _, _ => False
theorem Own.at_obj {α : Type} {b : Nat} {σ σ' : CSt} {e : TypeId} {enc : α → List Value} {v : Value} {l : List α} (h : Own b σ e enc v l) (hn : σ.n ≤ σ'.n) (hg : ∀ i, objOf v = some i → i < σ.n → σ'.get i = σ.get i) : Own b σ' e enc v l := by
  rcases h with h | ⟨i, cap, h1, hb, hi, h2, h3⟩
  · exact .inl h
  · exact .inr ⟨i, cap, h1, hb, Nat.lt_of_lt_of_le hi hn, by rw [hg i (by rw [h1]; rfl) hi]; exact h2, h3⟩
theorem MRel.own {b : Nat} {σ : CSt} : ∀ {M : Ml} {F : Fl}, MRel b σ M F → ∀ r ∈ M, ∃ l : List VV, Own b σ 78 encU r.2 l
  | [], [], _, r, hr => by cases hr
  | p :: M, q :: F, h, r, hr => by
    rcases List.mem_cons.1 hr with rfl | hr
    · exact ⟨_, h.1.2⟩
    · exact MRel.own h.2.2 r hr
theorem MRel.keep {b : Nat} {σ σ' : CSt} (hn : σ.n ≤ σ'.n) : ∀ {M : Ml} {F : Fl}, MRel b σ M F → (∀ r ∈ M, ∀ i, objOf r.2 = some i → i < σ.n → σ'.get i = σ.get i) → MRel b σ' M F
  | [], [], _, _ => trivial
  | p :: M, q :: F, h, hg => ⟨⟨h.1.1, h.1.2.at_obj hn (hg p (by simp))⟩, h.2.1, MRel.keep hn h.2.2 fun r hr => hg r (by simp [hr])⟩
theorem MRel.fr {T : TypeId → Prop} {b b' : Nat} {σ σ' : CSt} (ht : ¬ T 78) (hg : Fr T b' σ σ') : ∀ {M : Ml} {F : Fl}, MRel b σ M F → MRel b σ' M F
  | [], [], _ => trivial
  | p :: M, q :: F, h => ⟨⟨h.1.1, h.1.2.fr ht hg⟩, h.2.1, MRel.fr ht hg h.2.2⟩
def getF (F : Fl) (k : ByteArray) : List VV := match F.find? (fun p => decide (p.1 = k)) with | some p => p.2 | none => []
theorem MRel.get {b : Nat} {σ : CSt} (k : ByteArray) : ∀ {M : Ml} {F : Fl}, MRel b σ M F → Own b σ 78 encU ((getM M k).getD (.slice none 0 0)) (getF F k)
  | [], [], _ => Own.nil
  | p :: M, q :: F, h => by
    have ih := MRel.get k h.2.2
    unfold getM getF at ih ⊢
    rw [List.find?_cons, List.find?_cons, h.1.1]
    by_cases e : q.1 = k
    · simp only [e, decide_true]; exact h.1.2
    · simp only [e, decide_false]; exact ih
theorem MRel.set {b : Nat} {σ σ' : CSt} (k : ByteArray) (x : VV) (v' : Value) {n c : Nat} (hn : σ.n ≤ σ'.n) (hv : v' = .slice (some ⟨σ.n, 0, none⟩) n c) : ∀ {M : Ml} {F : Fl}, MRel b σ M F → Own b σ' 78 encU v' (getF F k ++ [x]) →
    (∀ j, j < σ.n → (∀ i, objOf ((getM M k).getD (.slice none 0 0)) = some i → j ≠ i) → σ'.get j = σ.get j) → MRel b σ' (setM M k v') (putF F k x)
  | [], [], _, ho, _ => ⟨⟨rfl, ho⟩, by simp, trivial⟩
  | p :: M, q :: F, h, ho, hg => by
    unfold getM at hg
    unfold getF at ho
    rw [List.find?_cons] at hg ho
    unfold setM putF
    rw [h.1.1] at hg ⊢
    have hobj : objOf v' = some σ.n := by rw [hv]; rfl
    by_cases e : q.1 = k
    · simp only [e, decide_true, Option.map_some, Option.getD_some] at hg ho
      rw [if_pos e, if_pos e]
      refine ⟨⟨rfl, ho⟩, fun r hr i hi => ?_, MRel.keep hn h.2.2 fun r hr i hi hlt => hg i hlt fun i' hi' e' => h.2.1 r hr i' hi' (by rw [← e']; exact hi)⟩
      rw [hobj] at hi
      cases hi
      intro h2
      obtain ⟨l, hl⟩ := MRel.own h.2.2 r hr
      have := hl.obj_lt h2
      omega
    · simp only [e, decide_false] at hg ho
      rw [if_neg e, if_neg e]
      refine ⟨⟨h.1.1, h.1.2.at_obj hn fun i hi hlt => hg i hlt fun i' hi' e' => ?_⟩, fun r hr i hi => ?_, MRel.set k x v' hn hv h.2.2 ho hg⟩
      · subst e'
        cases hf : M.find? (fun p => decide (p.1 = k)) with
        | none => rw [hf] at hi'; cases hi'
        | some r =>
          rw [hf] at hi'
          exact h.2.1 r (List.mem_of_find?_eq_some hf) i hi hi'
      · have hlt := h.1.2.obj_lt hi
        have hmem : ∀ {M : Ml}, r ∈ setM M k v' → r ∈ M ∨ r.2 = v' := by
          intro M
          induction M with
          | nil => intro hr; simp [setM] at hr; right; rw [hr]
          | cons a M ih =>
            unfold setM
            split
            · intro hr
              rcases List.mem_cons.1 hr with rfl | hr
              · exact .inr rfl
              · exact .inl (by simp [hr])
            · intro hr
              rcases List.mem_cons.1 hr with rfl | hr
              · exact .inl (by simp)
              · rcases ih hr with h | h
                · exact .inl (by simp [h])
                · exact .inr h
        rcases hmem hr with h1 | h1
        · exact h.2.1 r h1 i hi
        · rw [h1, hobj]
          intro e2
          cases e2
          omega
end Go.Sm
/- Stores as lists: puts, one after the other. -/
set_option linter.unusedSimpArgs false
namespace Go.Sm
def ofK (ws : List WW) (k : ByteArray) : List Ver := (ws.filter fun w => decide (w.k = k)).map fun w => verOf w.v
/-- The store of these versions. -/
structure SRel (S : Stl) (ws : List WW) : Prop where
  ks : KS S
  val : ∀ s ∈ S, s.2 = makeL (ofK ws s.1)
  all : ∀ w ∈ ws, ∃ s ∈ S, s.1 = w.k
  only : ∀ s ∈ S, ∃ w ∈ ws, w.k = s.1
  len : S.length ≤ ws.length
theorem ofK_snoc (ws : List WW) (w : WW) (k : ByteArray) : ofK (ws ++ [w]) k = if w.k = k then ofK ws k ++ [verOf w.v] else ofK ws k := by
  unfold ofK
  rw [List.filter_append]
  by_cases e : w.k = k <;> simp [e]
theorem SRel.srt {S : Stl} {ws : List WW} (h : SRel S ws) : ∀ s ∈ S, Srt s.2 := fun s hs => by rw [h.val s hs]; exact makeL_srt _
theorem SRel.short {S : Stl} {ws : List WW} (h : SRel S ws) : ∀ s ∈ S, s.2.length ≤ ws.length := fun s hs => by
  rw [h.val s hs]
  refine Nat.le_trans (make_len _) ?_
  unfold ofK
  rw [List.length_map]
  exact List.length_filter_le _ _
theorem SRel.nil : SRel [] [] := ⟨List.Pairwise.nil, by simp, by simp, by simp, Nat.le_refl _⟩
theorem SRel.put {S : Stl} {ws : List WW} {w : WW} {n : Nat} (h : SRel S ws) (hp : Pos S w.k n) : SRel (putAt S w.k (verOf w.v) n) (ws ++ [w]) := by
  have hnew : (∀ s, S[n]? = some s → s.1 ≠ w.k) → SRel (S.take n ++ (w.k, putL [] (verOf w.v)) :: S.drop n) (ws ++ [w]) := by
    intro hne
    have hlo : ∀ s ∈ S.take n, klt s.1 w.k = true := fun s hs => by
      obtain ⟨j, hj, rfl⟩ := List.mem_iff_getElem.1 hs
      rw [List.length_take] at hj
      rw [List.getElem_take]
      exact hp.lo j (by omega) (by omega)
    have hhi : ∀ s ∈ S.drop n, klt w.k s.1 = true := fun s hs => by
      obtain ⟨j, hj, rfl⟩ := List.mem_iff_getElem.1 hs
      rw [List.length_drop] at hj
      rw [List.getElem_drop]
      have h1 := hp.hi (n + j) (by omega) (by omega)
      have h0 := hne S[n] (List.getElem?_eq_getElem (by omega))
      have h2 := hp.hi n (by omega) (Nat.le_refl _)
      have h3 : klt w.k S[n].1 = true := by
        cases h4 : klt w.k S[n].1 with
        | true => rfl
        | false => exact absurd (klt_tri h2 h4) h0
      cases j with
      | zero => exact h3
      | succ j => exact klt_trans h3 (List.pairwise_iff_getElem.1 h.ks n (n + (j + 1)) (by omega) (by omega) (by omega))
    have hno : ∀ s ∈ S, s.1 ≠ w.k := fun s hs e => by
      rw [← List.take_append_drop n S] at hs
      rcases List.mem_append.1 hs with hs | hs
      · have := hlo s hs; rw [e, klt_irrefl] at this; cases this
      · have := hhi s hs; rw [e, klt_irrefl] at this; cases this
    have hmem : ∀ s, s ∈ S.take n ++ (w.k, putL [] (verOf w.v)) :: S.drop n ↔ s = (w.k, putL [] (verOf w.v)) ∨ s ∈ S := fun s => by
      conv => rhs; rw [← List.take_append_drop n S]
      simp only [List.mem_append, List.mem_cons]
      exact or_left_comm
    have hempty : ofK ws w.k = [] := by
      unfold ofK
      rw [List.map_eq_nil_iff, List.filter_eq_nil_iff]
      intro u hu
      obtain ⟨s, hs, e⟩ := h.all u hu
      have := hno s hs
      simp
      intro e2
      exact this (by rw [e, e2])
    refine ⟨?_, fun s hs => ?_, fun u hu => ?_, fun s hs => ?_, ?_⟩
    · unfold KS
      rw [List.pairwise_append]
      have hks := h.ks
      unfold KS at hks
      refine ⟨List.Pairwise.sublist (List.take_sublist n S) hks, List.pairwise_cons.2 ⟨fun s hs => hhi s hs, List.Pairwise.sublist (List.drop_sublist n S) hks⟩, fun a ha c hc => ?_⟩
      rcases List.mem_cons.1 hc with rfl | hc
      · exact hlo a ha
      · exact klt_trans (hlo a ha) (hhi c hc)
    · rw [ofK_snoc]
      rcases (hmem s).1 hs with rfl | hs
      · simp only [if_true, hempty, List.nil_append]; rfl
      · rw [if_neg (Ne.symm (hno s hs))]; exact h.val s hs
    · rcases List.mem_append.1 hu with hu | hu
      · obtain ⟨s, hs, e⟩ := h.all u hu
        exact ⟨s, (hmem s).2 (.inr hs), e⟩
      · rw [List.mem_singleton] at hu
        subst hu
        exact ⟨_, (hmem _).2 (.inl rfl), rfl⟩
    · rcases (hmem s).1 hs with rfl | hs
      · exact ⟨w, by simp, rfl⟩
      · obtain ⟨u, hu, e⟩ := h.only s hs
        exact ⟨u, by simp [hu], e⟩
    · have := h.len; have := hp.le; simp; omega
  unfold putAt
  cases hn : S[n]? with
  | none => exact hnew fun s hs => by rw [hn] at hs; cases hs
  | some s =>
    simp only
    by_cases e : s.1 = w.k
    · rw [if_pos e]
      obtain ⟨hnS, hs⟩ := List.getElem?_eq_some_iff.1 hn
      have hks := h.ks
      unfold KS at hks
      have hother : ∀ j (hj : j < S.length), j ≠ n → S[j].1 ≠ w.k := fun j hj hjn e2 => by
        rcases Nat.lt_or_gt_of_ne hjn with h1 | h1
        · have := List.pairwise_iff_getElem.1 hks j n hj hnS h1
          rw [e2, hs, e, klt_irrefl] at this; cases this
        · have := List.pairwise_iff_getElem.1 hks n j hnS hj h1
          rw [e2, hs, e, klt_irrefl] at this; cases this
      have hval := h.val s (by rw [← hs]; exact List.getElem_mem hnS)
      have hget : ∀ j (hj : j < (S.set n (w.k, putL s.2 (verOf w.v))).length), ((S.set n (w.k, putL s.2 (verOf w.v)))[j]).1 = (S[j]'(by simpa using hj)).1 := fun j hj => by
        by_cases e2 : n = j
        · subst e2; simp [hs, e]
        · rw [List.getElem_set_ne e2]
      refine ⟨?_, fun u hu => ?_, fun u hu => ?_, fun u hu => ?_, ?_⟩
      · unfold KS
        rw [List.pairwise_iff_getElem]
        intro i j hi hj hij
        rw [hget, hget]
        exact List.pairwise_iff_getElem.1 hks i j _ _ hij
      · rw [ofK_snoc]
        obtain ⟨j, hj, rfl⟩ := List.mem_iff_getElem.1 hu
        by_cases e2 : n = j
        · subst e2
          simp only [List.getElem_set_self, if_true]
          rw [hval, e, makeL_snoc]
        · rw [List.getElem_set_ne e2]
          have hj' : j < S.length := by simpa using hj
          rw [if_neg (Ne.symm (hother j hj' (Ne.symm e2)))]
          exact h.val _ (List.getElem_mem hj')
      · rcases List.mem_append.1 hu with hu | hu
        · obtain ⟨r, hr, e2⟩ := h.all u hu
          obtain ⟨j, hj, rfl⟩ := List.mem_iff_getElem.1 hr
          have hj' : j < (S.set n (w.k, putL s.2 (verOf w.v))).length := by simpa using hj
          exact ⟨_, List.getElem_mem hj', by rw [hget]; exact e2⟩
        · rw [List.mem_singleton] at hu
          subst hu
          have hn' : n < (S.set n (u.k, putL s.2 (verOf u.v))).length := by simpa using hnS
          exact ⟨_, List.getElem_mem hn', by rw [hget, hs]; exact e⟩
      · obtain ⟨j, hj, rfl⟩ := List.mem_iff_getElem.1 hu
        rw [hget]
        obtain ⟨r, hr, e2⟩ := h.only _ (List.getElem_mem (by simpa using hj : j < S.length))
        exact ⟨r, by simp [hr], e2⟩
      · have := h.len; simp; omega
    · rw [if_neg e]
      exact hnew fun r hr => by rw [hn] at hr; cases hr; exact e
end Go.Sm
/- Stores: All, ranged over by a body that changes nothing. -/
set_option linter.unusedVariables false
set_option linter.unusedSimpArgs false
namespace Go.Sm
open Go Go.Proofs
set_option maxRecDepth 100000
set_option maxHeartbeats 4000000
def allF (q : Nat) : Value := .func (.func 58) #[] #[.pointer (some ⟨q, 0, none⟩)]
theorem all33 (p : Addr) (σ : CSt) (Q : Out → CSt → Prop) (h : Q (.ret (allF σ.n) false) (σ.alloc (.cells [.pointer (some p)] 61 false))) : W E1 (.fn 32 #[.pointer (some p)] none) σ Q := by
  rw [W_fn (fn := Tryz.f32) Tryz.func32 rfl rfl rfl]
  simpa [wops_cons, allF] using h
end Go.Sm
/- Stores: All, ranged over by a body that changes its own, and may break off. -/
set_option linter.unusedVariables false
set_option linter.unusedSimpArgs false
namespace Go.Sm
open Go Go.Proofs
set_option maxRecDepth 100000
set_option maxHeartbeats 4000000
/-- A round that goes on, or breaks off. -/
def RoundEnd (L : Nat) (ob : CObj) (I : CSt → Prop) (D : Code → CSt → Prop) : Out → CSt → Prop := fun o2 s2 =>
  ∃ e a2 jj, o2 = .code e a2 ∧ jumpOf e = some jj ∧ s2.get L = some ob ∧ (jj = none → ∀ ob', I (s2.put L ob')) ∧ (∀ c, jj = some c → ∀ ob', D c (s2.put L ob'))
theorem round_gen {L : Nat} {fn : FuncId} {tm : Tr Value} {sz : Nat} {ps : Array Tmp} {asg body : Code} {s : CSt} {args : Array Value} {I : CSt → Prop} {D : Code → CSt → Prop} {Q : Out → CSt → Prop} (hL : s.get L = some (.loop .ready none fn tm sz ps asg body)) (hs : args.size = ps.size)
    (h : ∃ a' s1, (W E1 (.code ⟨fn, some L, none⟩ asg { tm := (ps.toList.zip args.toList).foldl (fun t p => if p.1 < sz then t.set p.1 p.2 else t) tm, sz := sz, df := [], tk := false }) s fun o s' => o = .code .normal a' ∧ s' = s1) ∧ s1.get L = some (.loop .ready none fn tm sz ps asg body) ∧ ∀ ob : CObj,
      W E1 (.code ⟨fn, some L, none⟩ body a') (s1.put L ob) (RoundEnd L ob I D))
    (h1 : ∀ s2, I s2 → s2.get L = some (.loop .ready none fn tm sz ps asg body) → Q (.ret (.bool true) false) s2)
    (h2 : ∀ c s2, D c s2 → s2.get L = some (.loop .done (some c) fn tm sz ps asg body) → Q (.ret (.bool false) false) s2) : W E1 (.round L args) s Q := by
  rw [W_round hL hs]
  obtain ⟨a', s1, h, hL1, h4⟩ := h
  refine W.weaken h fun o s' h3 => ?_
  obtain ⟨rfl, rfl⟩ := h3
  unfold kround1
  simp only [hL1]
  refine W.weaken (h4 _) fun o2 s2 h5 => ?_
  obtain ⟨e, a2, jj, rfl, hj, hL2, hI, hD⟩ := h5
  simp only [hj, hL2]
  cases jj with
  | none => exact h1 _ (hI rfl _) (by simp)
  | some c => exact h2 c _ (hD c rfl _) (by simp)
theorem range_allG {b i : Nat} {S : Stl} {q : Nat} {qo : Bool} {x : Ctx} {a : CAct} {σ : CSt} {f : Operand} {p1 p2 : Tmp} {asg body : Code} {K : Out → CSt → Prop} (hf : a.eval f = allF q) (ha : aroundOk σ x.rnd = true) (hst : St b σ i S)
    (hq : σ.get q = some (.cells [.pointer (some ⟨i, 0, none⟩)] 61 qo)) (hqn : q < σ.n) (hbig : S.length < 2 ^ 38) (hcl : ∀ s ∈ S, s.2.length < 2 ^ 38) (hp1 : p1 < a.sz) (hp2 : p2 < a.sz)
    (Inv : Nat → CSt → Prop) (Done : Code → CSt → Prop) (hkept : ∀ j s, Inv j s → Kept σ s ∧ σ.n < s.n) (hgrow : ∀ j s s', Inv j s → Grow s s' → Inv j s') (h0 : ∀ o, Inv 0 (σ.alloc o))
    (hround : ∀ (j : Nat) (hj : j < S.length) (s : CSt) (v : Value) (b' : Nat), Inv j s → σ.n < b' → b' ≤ s.n → Own b' s 33 encV v S[j].2 → s.get σ.n = some (.loop .ready none x.f a.tm a.sz #[p1, p2] asg body) →
      ∃ a' s1, (W E1 (.code ⟨x.f, some σ.n, none⟩ asg { tm := (a.tm.set p1 (.string S[j].1)).set p2 v, sz := a.sz, df := [], tk := false }) s fun o s' => o = .code .normal a' ∧ s' = s1) ∧ s1.get σ.n = some (.loop .ready none x.f a.tm a.sz #[p1, p2] asg body) ∧ ∀ ob : CObj,
        W E1 (.code ⟨x.f, some σ.n, none⟩ body a') (s1.put σ.n ob) (RoundEnd σ.n ob (Inv (j + 1)) Done))
    (h : ∀ s o, Inv S.length s → K (.code .normal a) (s.put σ.n o)) (hd : ∀ c s o, Done c s → W E1 (.code x c a) (s.put σ.n o) K) : W E1 (.code x (.rangeFunc f #[p1, p2] asg body) a) σ K := by
  rw [W_rangeFunc hf ha]
  have hg : Grow σ (σ.alloc (.loop .ready none x.f a.tm a.sz #[p1, p2] asg body)) := (Grow.refl σ).alloc _
  have hL : (σ.alloc (.loop .ready none x.f a.tm a.sz #[p1, p2] asg body)).get σ.n = some (.loop .ready none x.f a.tm a.sz #[p1, p2] asg body) := by simp
  have hLn : σ.n < (σ.alloc (.loop .ready none x.f a.tm a.sz #[p1, p2] asg body)).n := by simp
  have h00 := h0 (.loop .ready none x.f a.tm a.sz #[p1, p2] asg body)
  have hkp : ∀ j s, Inv j s → Kept (σ.alloc (.loop .ready none x.f a.tm a.sz #[p1, p2] asg body)) s := fun j s hi => by
    obtain ⟨h1, h2⟩ := hkept j s hi
    refine ⟨by simp; omega, fun m hm row e ro hg he => ?_⟩
    simp at hm
    rw [CSt.get_alloc] at hg ⊢
    by_cases hmn : m = σ.n
    · rw [if_pos hmn] at hg; cases hg
    · rw [if_neg hmn] at hg ⊢
      exact h1.2 m (by omega) row e ro hg he
  generalize σ.alloc (.loop .ready none x.f a.tm a.sz #[p1, p2] asg body) = σL at hg hL hLn h00 hkp ⊢
  refine all_spec b i S q σ.n qo σL (hst.grow hg) (hg.get hq hqn) (Nat.lt_of_lt_of_le hqn hg.n) hbig hcl (fun j s => Inv j s ∧ s.get σ.n = some (.loop .ready none x.f a.tm a.sz #[p1, p2] asg body) ∧ σ.n < s.n) (fun s => ∃ c, Done c s ∧ s.get σ.n = some (.loop .done (some c) x.f a.tm a.sz #[p1, p2] asg body)) (fun j s h => hkp j s h.1) (fun j s s' h h' => ⟨hgrow j s s' h.1 h', h'.get h.2.1 h.2.2, Nat.lt_of_lt_of_le h.2.2 h'.n⟩) ⟨h00, hL, hLn⟩ ?_ _ (fun s h' => ?_) (fun s h' => ?_)
  · intro j hj s v b' Q' hi hb1 hb2 ho hk
    have hr := hround j hj s v b' hi.1 (Nat.lt_of_lt_of_le hLn hb1) hb2 ho hi.2.1
    refine round_gen (I := fun s2 => Inv (j + 1) s2 ∧ σ.n < s2.n) (D := Done) hi.2.1 rfl ?_ (fun s2 h1 h2 => hk true s2 (fun _ => ⟨h1.1, h2, h1.2⟩) (fun h => by cases h)) (fun c s2 h1 h2 => hk false s2 (fun h => by cases h) (fun _ => ⟨c, h1, h2⟩))
    simp only [List.zip_cons_cons, List.zip_nil_left, List.foldl_cons, List.foldl_nil, hp1, hp2, if_true]
    obtain ⟨a', s1, hr1, hL1, h4⟩ := hr
    refine ⟨a', s1, hr1, hL1, fun ob => W.weaken (h4 ob) fun o2 s2 h5 => ?_⟩
    obtain ⟨e, a2, jj, h6, h7, h8, h9, h10⟩ := h5
    exact ⟨e, a2, jj, h6, h7, h8, fun h ob' => ⟨h9 h ob', (hkept _ _ (h9 h ob')).2⟩, h10⟩
  · unfold krange
    rw [h'.2.1]
    simp only
    rw [if_neg (by decide)]
    exact h _ _ h'.1
  · obtain ⟨c, h1, h2⟩ := h'
    unfold krange
    rw [h2]
    simp only
    rw [if_neg (by decide)]
    exact hd c _ _ h1
end Go.Sm
/- Keys of maps by strings: gathered. -/
set_option linter.unusedVariables false
set_option linter.unusedSimpArgs false
namespace Go.Sm
open Go Go.Proofs
set_option maxRecDepth 100000
set_option maxHeartbeats 4000000
def keysF (q : Nat) : Value := .func (.func 74) #[] #[.pointer (some ⟨q, 0, none⟩)]
theorem perm_eraseIdx {α : Type} (l : List α) (j : Nat) (h : j < l.length) : (l[j] :: l.eraseIdx j).Perm l := by
  rw [List.eraseIdx_eq_take_drop_succ]
  have h1 : l = l.take j ++ l[j] :: l.drop (j + 1) := by rw [← List.drop_eq_getElem_cons h, List.take_append_drop]
  conv => rhs; rw [h1]
  exact List.perm_middle.symm
theorem keys_spec (m : Nat) (σ : CSt) (Q : Out → CSt → Prop) (h : Q (.ret (keysF σ.n) false) (σ.alloc (.cells [.map (some m)] 62 false))) : W E1 (.fn 57 #[.map (some m)] none) σ Q := by
  rw [W_fn (fn := Tryz.f57) Tryz.func57 rfl rfl rfl]
  simpa [wops_cons, keysF] using h
/-- A range over the keys. -/
theorem range_keys {x : Ctx} {a : CAct} {f : Operand} {p : Tmp} {asg body : Code} {K : Out → CSt → Prop} {q m : Nat} {qo : Bool} {M : Ml} (σ : CSt) (hf : a.eval f = keysF q) (ha : aroundOk σ x.rnd = true) (hp : p < a.sz) (hq : σ.get q = some (.cells [.map (some m)] 62 qo)) (hqn : q < σ.n) (hmn : m < σ.n) (hm : Mp σ m M)
    (Inv : List ByteArray → CSt → Prop) (h0 : ∀ o1 o2, Inv [] ((σ.alloc o1).alloc o2))
    (hput : ∀ D s o, Inv D s → Inv D (s.put (σ.n + 1) o)) (hputL : ∀ D s o, Inv D s → Inv D (s.put σ.n o))
    (hround : ∀ (D : List ByteArray) (k : ByteArray) (s : CSt) (v : Value), Inv D s → (k, v) ∈ M → D.length < M.length → σ.n + 2 ≤ s.n → s.get q = some (.cells [.map (some m)] 62 qo) → Mp s m M →
      W E1 (.code ⟨x.f, some σ.n, none⟩ asg { tm := a.tm.set p (.string k), sz := a.sz, df := [], tk := false }) s fun o s1 => ∃ a', o = .code .normal a' ∧ s1 = s ∧ ∀ ob : CObj,
        W E1 (.code ⟨x.f, some σ.n, none⟩ body a') (s.put σ.n ob) fun o2 s2 => (∃ a2, o2 = .code .normal a2) ∧ (∀ ob', Inv (D ++ [k]) (s2.put σ.n ob')) ∧ s.n ≤ s2.n ∧ s2.get σ.n = some ob ∧ s2.get (σ.n + 1) = s.get (σ.n + 1) ∧ s2.get q = s.get q ∧ s2.get m = s.get m)
    (h : ∀ (D : List ByteArray) (s : CSt), Inv D s → D.Perm (M.map (·.1)) → σ.n + 2 ≤ s.n → K (.code .normal a) s) : W E1 (.code x (.rangeFunc f #[p] asg body) a) σ K := by
  rw [W_rangeFunc hf ha, W_fn (fn := Tryz.f74) Tryz.func74 rfl rfl rfl]
  obtain ⟨hmp⟩ : Nonempty True := ⟨trivial⟩
  have hq1 : (σ.alloc (.loop .ready none x.f a.tm a.sz #[p] asg body)).get q = some (.cells [.map (some m)] 62 qo) := by rw [CSt.get_alloc, if_neg (by omega)]; exact hq
  have hm1 : Mp (σ.alloc (.loop .ready none x.f a.tm a.sz #[p] asg body)) m M := by
    obtain ⟨es, clock, h1, h2⟩ := hm
    exact ⟨es, clock, by rw [CSt.get_alloc, if_neg (by omega)]; exact h1, h2⟩
  obtain ⟨o, ho1, ho2⟩ := range_mpG (P := Tryz.prog) (t := 62) (kt := 9) (et := 75) Tryz.underlying62 hm1 (by simp; omega)
  simp at ho1
  simp [wops_cons, hq1, ho1]
  have hi0 := h0 (.loop .ready none x.f a.tm a.sz #[p] asg body) o
  have hL0 : ((σ.alloc (.loop .ready none x.f a.tm a.sz #[p] asg body)).alloc o).get σ.n = some (.loop .ready none x.f a.tm a.sz #[p] asg body) := by simp
  have hq2 : ((σ.alloc (.loop .ready none x.f a.tm a.sz #[p] asg body)).alloc o).get q = some (.cells [.map (some m)] 62 qo) := by rw [CSt.get_alloc, if_neg (by simp; omega)]; exact hq1
  have hn0 : σ.n + 2 ≤ ((σ.alloc (.loop .ready none x.f a.tm a.sz #[p] asg body)).alloc o).n := by simp
  generalize (σ.alloc (.loop .ready none x.f a.tm a.sz #[p] asg body)).alloc o = σ2 at ho2 hi0 hL0 hq2 hn0 ⊢
  refine W_loop_inv (fun n A s => ∃ tm S D, A = ⟨tm, 14, [], false⟩ ∧ tm.get 0 = some (.func (.yield σ.n) #[] #[]) ∧ tm.get 5 = some (.pointer (some ⟨σ.n + 1, 0, none⟩)) ∧ n = List.length S ∧ MIt Value.string s (σ.n + 1) m M S ∧ (D ++ S.map (·.1)).Perm (M.map (·.1)) ∧ (∀ e ∈ S, e ∈ M) ∧ Inv D s ∧ s.get σ.n = some (.loop .ready none x.f a.tm a.sz #[p] asg body) ∧ s.get q = some (.cells [.map (some m)] 62 qo) ∧ σ.n + 2 ≤ s.n) ?_ (List.length M) _ _ ?_
  · rintro n A s ⟨tm, S, D, rfl, e0, e5, hn, hit, hpm, hmem, hinv, hL, hqs, hsn⟩
    simp [wops_cons, e0, e5]
    refine wres_next hit (fun hS => ?_) (fun j hj ob hit' hent => ?_)
    · subst hS
      simp at hpm
      simp [wops_cons, e0, e5]
      unfold krange
      rw [hL]
      simp only
      rw [if_neg (by decide)]
      exact h D _ (hputL D _ _ hinv) hpm (by simpa using hsn)
    · have hSj := List.getElem_mem hj
      have hinv' := hput D s ob hinv
      have hL' : (s.put (σ.n + 1) ob).get σ.n = some (.loop .ready none x.f a.tm a.sz #[p] asg body) := by rw [CSt.get_put, if_neg (by omega)]; exact hL
      have hq' : (s.put (σ.n + 1) ob).get q = some (.cells [.map (some m)] 62 qo) := by rw [CSt.get_put, if_neg (by omega)]; exact hqs
      have hn' : σ.n + 2 ≤ (s.put (σ.n + 1) ob).n := by simpa using hsn
      generalize s.put (σ.n + 1) ob = s1 at hit' hent hinv' hL' hq' hn' ⊢
      simp [wops_cons, e0, e5, hent]
      rw [W_round hL' rfl]
      have hDl : D.length < List.length M := by
        have := hpm.length_eq
        simp at this
        omega
      have hr := hround D S[j].1 s1 S[j].2 hinv' (hmem _ hSj) hDl hn' hq' hit'.mp
      simp only [List.zip_cons_cons, List.zip_nil_left, List.foldl_cons, List.foldl_nil, hp, if_true]
      refine W.weaken hr fun o1 s2 h1 => ?_
      obtain ⟨a', rfl, rfl, h2⟩ := h1
      unfold kround1
      rw [hL']
      simp only
      refine W.weaken (h2 _) fun o2 s3 h3 => ?_
      obtain ⟨⟨a2, rfl⟩, h4, h5, h6, h7, h8, h9⟩ := h3
      simp only [jumpOf]
      rw [h6]
      simp only [Option.isNone_none, if_true]
      simp [wops_cons, e0, e5]
      have hne1 : σ.n + 1 ≠ σ.n := by omega
      refine ⟨S.length - 1, by omega, S.eraseIdx j, by rw [List.length_eraseIdx_of_lt hj], ?_, D ++ [S[j].1], ?_, fun a b he => hmem (a, b) (List.mem_of_mem_eraseIdx he), h4 _, ?_, by omega⟩
      · refine hit'.congr ?_ ?_
        · rw [CSt.get_put, if_neg hne1]; exact h7
        · rw [CSt.get_put, if_neg (by omega)]; exact h9
      · refine List.Perm.trans ?_ hpm
        rw [List.append_assoc]
        refine List.Perm.append_left D ?_
        have := (perm_eraseIdx S j hj).map (·.1)
        simpa using this
      · rw [if_neg (by omega), h8]; exact hq'
  · refine ⟨_, M, [], rfl, ?_⟩
    simp
    exact ⟨ho2, hi0, hL0, hq2, hn0⟩
theorem collect_keys (q m : Nat) (qo : Bool) (M : Ml) (σ : CSt) (hq : σ.get q = some (.cells [.map (some m)] 62 qo)) (hqn : q < σ.n) (hmn : m < σ.n) (hm : Mp σ m M) (hbig : M.length < 2 ^ 38) (Q : Out → CSt → Prop)
    (h : ∀ (v : Value) (D : List ByteArray) (σ' : CSt), D.Perm (M.map (·.1)) → Own σ.n σ' 9 encS v D → Grow σ σ' → Q (.ret v false) σ') : W E1 (.fn 72 #[keysF q] none) σ Q := by
  rw [W_fn (fn := Tryz.f72) Tryz.func72 rfl rfl rfl]
  simp [wops_cons]
  rw [W_fn (fn := Tryz.f91) Tryz.func91 rfl rfl rfl]
  simp [wops_cons]
  have hg0 : Grow σ (σ.alloc (.cells [.slice none 0 0] 106 false)) := (Grow.refl σ).alloc _
  have hb0 : (σ.alloc (.cells [.slice none 0 0] 106 false)).n = σ.n + 1 := by simp
  have hc0 : (σ.alloc (.cells [.slice none 0 0] 106 false)).get σ.n = some (.cells [.slice none 0 0] 106 false) := by simp
  have hq0 := hg0.get hq hqn
  have hm0 : Mp (σ.alloc (.cells [.slice none 0 0] 106 false)) m M := by
    obtain ⟨es, clock, h1, h2⟩ := hm
    exact ⟨es, clock, hg0.get h1 hmn, h2⟩
  generalize σ.alloc (.cells [.slice none 0 0] 106 false) = σ1 at hg0 hb0 hc0 hq0 hm0 ⊢
  have hML : ∀ (D : List ByteArray) (s : CSt) (k : ByteArray) (v : Value), (D ++ [k]).length ≤ M.length + 1 → True := fun _ _ _ _ _ => trivial
  refine range_keys (q := q) (m := m) (qo := qo) (M := M) σ1 rfl (by simp; rfl) (by simp) hq0 (by omega) (by omega) hm0
    (fun D s => ∃ v, s.get σ.n = some (.cells [v] 106 false) ∧ Own (σ1.n + 2) s 9 encS v D ∧ σ1.n + 2 ≤ s.n ∧ ∀ j, j < σ.n → s.get j = σ.get j) ?_ ?_ ?_ ?_ ?_
  · intro o1 o2
    refine ⟨_, ?_, Own.nil, by simp, fun j hj => ?_⟩
    · rw [CSt.get_alloc, if_neg (by simp; omega), CSt.get_alloc, if_neg (by omega)]; exact hc0
    · rw [CSt.get_alloc, if_neg (by simp; omega), CSt.get_alloc, if_neg (by omega)]; exact hg0.old j hj
  · rintro D s o ⟨v, h1, h2, h3, h4⟩
    exact ⟨v, by rw [CSt.get_put, if_neg (by omega)]; exact h1, h2.put (by omega) o, h3, fun j hj => by rw [CSt.get_put, if_neg (by omega)]; exact h4 j hj⟩
  · rintro D s o ⟨v, h1, h2, h3, h4⟩
    exact ⟨v, by rw [CSt.get_put, if_neg (by omega)]; exact h1, h2.put (by omega) o, h3, fun j hj => by rw [CSt.get_put, if_neg (by omega)]; exact h4 j hj⟩
  · rintro D k s vv ⟨v, h1, h2, h3, h4⟩ hk hDl hsn hqs hms
    have hne : ¬ σ.n = σ1.n := by omega
    have hcap : D.length < 2 ^ 38 := by omega
    simp [wops_cons, hne, h1]
    intro ob
    have h1' : (s.put σ1.n ob).get σ.n = some (.cells [v] 106 false) := by rw [CSt.get_put, if_neg hne]; exact h1
    have h2' := h2.put (i := σ1.n) (by omega) ob
    have hpn : (s.put σ1.n ob).n = s.n := rfl
    have hob : (s.put σ1.n ob).get σ1.n = some ob := by simp
    have hoth : ∀ j, j ≠ σ1.n → (s.put σ1.n ob).get j = s.get j := fun j hj => by rw [CSt.get_put, if_neg hj]
    generalize s.put σ1.n ob = s1 at h1' h2' hpn hob hoth ⊢
    have hga : Grow s1 (s1.alloc (.cells [.string k] 9 false)) := (Grow.refl s1).alloc _
    obtain ⟨v9, σ9, a1, a2, a3, a4, a5⟩ := append_only (P := Tryz.prog) (ts := #[106, 106]) (e := 9) (sz := 1) (enc := encS) (l := D) (m := [k]) (b := σ1.n + 2) ef106 (by simp) lenS cokS rfl (by decide) (by decide) rfl (σ := s1.alloc (.cells [.string k] 9 false))
      (h2'.grow hga) (by simp; omega) (Sl.all (l := [k]) (i := s.n) (cap := 1) (ro := false) lenS (by rw [← hpn]; simp [encS]) (by rw [← hpn]; simp) (.inr ⟨by simp, by simp [openCap]⟩)) (by simp; omega) (by omega)
    have hlt : σ.n < s1.n := by omega
    have hold : ∀ j, j < σ1.n + 2 → σ9.get j = s1.get j := fun j hj => by rw [a3.2 j hj]; exact hga.old j (by omega)
    have h19 : σ9.get σ.n = some (.cells [v] 106 false) := by rw [hold _ (by omega)]; exact h1'
    obtain ⟨p9, c9, rfl⟩ := (a2.sl (sz := 1) lenS).form
    have a1' : appendOp Tryz.prog (s1.alloc (.cells [.string k] 9 false)) #[106, 106] v (.slice (some ⟨s.n, 0, none⟩) 1 1) = some (.slice p9 (D ++ [k]).length c9, σ9) := a1
    have hn9 := a3.1
    simp at hn9 a1'
    simp [wops_cons, a1', h19]
    have e1 : ¬ σ1.n = σ.n := by omega
    have a2' : Own (σ1.n + 2) (σ9.put σ.n (.cells [.slice p9 (D.length + 1) c9] 106 false)) 9 encS (.slice p9 (D.length + 1) c9) (D ++ [k]) := by
      have := a2.put (i := σ.n) (by omega) (.cells [.slice p9 (D.length + 1) c9] 106 false)
      rwa [List.length_append] at this
    refine ⟨fun ob' => ⟨a2'.put (by omega) ob', by omega, fun j hj => ?_⟩, by omega, ?_, ?_, ?_, ?_⟩
    · rw [if_neg (by omega), if_neg (by omega), hold j (by omega), hoth j (by omega)]; exact h4 j hj
    · rw [if_neg e1, hold _ (by omega)]; exact hob
    · rw [if_neg (by omega), hold _ (by omega), hoth _ (by omega)]
    · by_cases e : q = σ.n
      · omega
      · rw [if_neg e, hold q (by omega), hoth q (by omega)]
    · by_cases e : m = σ.n
      · omega
      · rw [if_neg e, hold m (by omega), hoth m (by omega)]
  · rintro D s ⟨v, h1, h2, h3, h4⟩ hpm hsn
    have := h v D s hpm (h2.weaken (by omega)) ⟨by omega, h4⟩
    simpa [wops_cons, h1] using this
/-- slices.Sorted of a map's keys. -/
theorem sorted_keys (q m : Nat) (qo : Bool) (M : Ml) (σ : CSt) (hq : σ.get q = some (.cells [.map (some m)] 62 qo)) (hqn : q < σ.n) (hmn : m < σ.n) (hm : Mp σ m M) (hbig : M.length < 2 ^ 38) (Q : Out → CSt → Prop)
    (h : ∀ (v : Value) (D : List ByteArray) (σ' : CSt), D.Perm (M.map (·.1)) → (D.Pairwise fun x y => klt y x = false) → Own σ.n σ' 9 encS v D → Grow σ σ' → Q (.ret v false) σ') : W E1 (.fn 56 #[keysF q] none) σ Q := by
  rw [W_fn (fn := Tryz.f56) Tryz.func56 rfl rfl rfl]
  simp [wops_cons]
  refine collect_keys q m qo M σ hq hqn hmn hm hbig _ fun v D σ1 hpm hown hg => ?_
  simp [wops_cons]
  have hlen := hpm.length_eq
  simp at hlen
  refine sort_own σ.n D v σ1 hg.n hown (by omega) _ fun D' σ2 hp2 hs2 ho2 hg2 => ?_
  have := h v D' σ2 (hp2.trans hpm) hs2 ho2 (Grow.thenB hg hg2 (Nat.le_refl _))
  simpa [wops_cons] using this
end Go.Sm
/- Stores: the laws' Make, walked. -/
set_option linter.unusedVariables false
set_option linter.unusedSimpArgs false
namespace Go.Sm
open Go Go.Proofs
set_option maxRecDepth 100000
set_option maxHeartbeats 4000000
def mapF (ws : List WW) : Fl := ws.foldl (fun F w => putF F w.k w.v) []
theorem mapF_snoc (ws : List WW) (w : WW) : mapF (ws ++ [w]) = putF (mapF ws) w.k w.v := by simp [mapF]
theorem getF_putF (k : ByteArray) (x : VV) (k' : ByteArray) : ∀ F : Fl, getF (putF F k x) k' = if k = k' then getF F k ++ [x] else getF F k'
  | [] => by
    unfold putF getF
    by_cases e : k = k' <;> simp [e]
  | p :: F => by
    have ih := getF_putF k x k' F
    unfold getF at ih ⊢
    unfold putF
    by_cases e1 : p.1 = k
    · by_cases e : k = k' <;> simp [e1, e]
    · rw [if_neg e1]
      simp only [List.find?_cons, e1, decide_false]
      by_cases e2 : p.1 = k'
      · have e : ¬ k = k' := fun h => e1 (by rw [e2, h])
        simp [e2, e]
      · simp only [e2, decide_false]
        exact ih
theorem getF_len (ws : List WW) (k : ByteArray) : (getF (mapF ws) k).length ≤ ws.length := by
  refine rev_ind (P := fun ws => ∀ k, (getF (mapF ws) k).length ≤ ws.length) (fun k => by simp [mapF, getF]) (fun ws w ih k => ?_) ws k
  rw [mapF_snoc, getF_putF]
  have a := ih k
  have b := ih w.k
  split <;> simp <;> omega
theorem nil61_ne (a : Addr) : isNilCmp Tryz.prog .neq 61 (.pointer (some a)) (.pointer none) = some (.bool true) := by simp [isNilCmp, nilPair, Tryz.underlying61]
theorem Mp.fr {T : TypeId → Prop} {b : Nat} {σ σ' : CSt} {m : Nat} {M : Ml} (h : Mp σ m M) (hm : m < σ.n) (hf : Fr T b σ σ') : Mp σ' m M := by
  obtain ⟨es, clock, h1, h2⟩ := h
  exact ⟨es, clock, hf.get h1 hm (.inr fun _ _ _ h => by cases h), h2⟩
theorem Mp.grow {σ σ' : CSt} {m : Nat} {M : Ml} (h : Mp σ m M) (hm : m < σ.n) (hf : Grow σ σ') : Mp σ' m M := by
  obtain ⟨es, clock, h1, h2⟩ := h
  exact ⟨es, clock, hf.get h1 hm, h2⟩
theorem Own.is_cells {α : Type} {b : Nat} {σ : CSt} {e : TypeId} {enc : α → List Value} {v : Value} {l : List α} (h : Own b σ e enc v l) {i : Nat} (hi : objOf v = some i) : ∃ row, σ.get i = some (.cells row e false) := by
  rcases h with ⟨rfl, _⟩ | ⟨j, cap, rfl, _, _, h2, _⟩
  · cases hi
  · cases hi; exact ⟨_, h2⟩
theorem mset_step (b : Nat) {σ σ9 : CSt} {m : Nat} {M : Ml} {F : Fl} {k : ByteArray} {x : VV} {v' : Value} (hmp : Mp σ m M) (hm : m < σ.n) (hmr : MRel b σ M F) (hn : σ.n ≤ σ9.n)
    (hkeep : ∀ j, j < σ.n → (∀ i off n c, (getM M k).getD (.slice none 0 0) = .slice (some ⟨i, off, none⟩) n c → j ≠ i) → σ9.get j = σ.get j) (hv : ∃ n c, v' = .slice (some ⟨σ.n, 0, none⟩) n c) (ho : Own b σ9 78 encU v' (getF F k ++ [x])) :
    ∃ o, updateOp Tryz.prog σ9 62 (.map (some m)) (.string k) v' = some (σ9.put m o) ∧ Mp (σ9.put m o) m (setM M k v') ∧ MRel b (σ9.put m o) (setM M k v') (putF F k x) ∧ Kept σ (σ9.put m o) := by
  have hown := hmr.get k
  have hobj : ∀ i off n c, (getM M k).getD (.slice none 0 0) = .slice (some ⟨i, off, none⟩) n c → ∃ row, σ.get i = some (.cells row 78 false) := fun i off n c e => hown.is_cells (by rw [e]; rfl)
  have hmap : ∃ es clock, σ.get m = some (.map es clock) := by obtain ⟨es, clock, h1, _⟩ := hmp; exact ⟨es, clock, h1⟩
  obtain ⟨es, clock, hmg⟩ := hmap
  have hm9 : σ9.get m = σ.get m := hkeep m hm fun i off n c e e2 => by
    obtain ⟨row, hr⟩ := hobj i off n c e
    rw [← e2, hmg] at hr
    cases hr
  have hmp9 : Mp σ9 m M := by
    obtain ⟨es, clock, h1, h2⟩ := hmp
    exact ⟨es, clock, by rw [hm9]; exact h1, h2⟩
  obtain ⟨o, h1, h2⟩ := update_mp (P := Tryz.prog) (t := 62) (kt := 9) (et := 75) (k := k) Tryz.underlying62 (by kernel_rfl) hmp9 v'
  obtain ⟨n, c, hv'⟩ := hv
  have hset : MRel b σ9 (setM M k v') (putF F k x) := MRel.set k x v' hn hv' hmr ho fun j hj hne => hkeep j hj fun i off n c e => hne i (by rw [e]; rfl)
  refine ⟨o, h1, h2, MRel.keep (σ' := σ9.put m o) (Nat.le_refl σ9.n) hset fun r hr i hi hlt => ?_, hn, fun j hj row e ro hg he => ?_⟩
  · obtain ⟨l, hl⟩ := hset.own r hr
    obtain ⟨row, hrow⟩ := hl.is_cells hi
    rw [CSt.get_put, if_neg]
    rintro rfl
    rw [hm9, hmg] at hrow
    cases hrow
  · have hjm : ¬ j = m := by
      rintro rfl
      rw [hmg] at hg
      cases hg
    rw [CSt.get_put, if_neg hjm]
    refine hkeep j hj fun i off n c e' e2 => ?_
    obtain ⟨row', hr⟩ := hobj i off n c e'
    rw [← e2, hg] at hr
    injection hr with hr
    injection hr with _ h3 _
    have h4 : e = 78 := by first | exact h3 | exact h3.symm
    rw [h4] at he
    exact absurd he (by decide)
theorem St.kept {b : Nat} {σ σ' : CSt} {i : Nat} {S : Stl} (h : St b σ i S) (hk : Kept σ σ') : St b σ' i S := by
  obtain ⟨vr, R, h1, h2, h3, h4, h5⟩ := h
  refine ⟨vr, R, h1, Nat.lt_of_lt_of_le h2 hk.1, by rw [hk.2 i h2 _ _ _ h3 (by simp)]; exact h3, ?_, h5.1, fun j h6 h7 => ⟨(h5.2 j h6 h7).1, hk.sl (h5.2 j h6 h7).2 (by simp)⟩⟩
  rcases h4 with h | ⟨o, cap, zs, g1, g2, g3, g4, g5⟩
  · exact .inl h
  · exact .inr ⟨o, cap, zs, g1, g2, Nat.lt_of_lt_of_le g3 hk.1, by rw [hk.2 o g3 _ _ _ g4 (by simp)]; exact g4, g5⟩
theorem st82 : ¬ stT 82 := by unfold stT; decide
theorem st78 : ¬ stT 78 := by unfold stT; decide
theorem lenVV (x : VV) : (encU x).length = 3 := rfl
theorem cokVV (x : VV) : cokL (encU x) = true := rfl
theorem kspec (n : Int) (h0 : 0 ≤ n) (h1 : n < 5) (σ : CSt) (Q : Out → CSt → Prop) (h : ∀ σ', Grow σ σ' → Q (.ret (.string (key12 n)) false) σ') : W E1 (.fn 40 #[.int .u8 n] none) σ Q := by
  rw [W_fn (fn := Tryz.f40) Tryz.func40 rfl rfl rfl]
  obtain ⟨k, rfl⟩ : ∃ k : Nat, n = k := ⟨n.toNat, by omega⟩
  have h2 : ¬ (250 : Int) < (k : Int) := by omega
  have h3 : (k : Int).tmod 5 = (k : Int) := by rw [Int.tmod_eq_emod_of_nonneg (by omega)]; omega
  have hg := h _ ((Grow.refl σ).alloc (.cells [.string ⟨#[97]⟩, .string ⟨#[98]⟩, .string ⟨#[99]⟩, .string ⟨#[100]⟩, .string ⟨#[101]⟩] 9 false))
  have h5 : k < 5 := by omega
  simp [wops_cons, h2, h3]
  match k, h5, hg with
  | 0, _, hg => simpa [wops_cons, key12] using hg
  | 1, _, hg => simpa [wops_cons, key12] using hg
  | 2, _, hg => simpa [wops_cons, key12] using hg
  | 3, _, hg => simpa [wops_cons, key12] using hg
  | 4, _, hg => simpa [wops_cons, key12] using hg
/-- From time one on. -/
def fixV (x : VV) : VV := ⟨if x.at_ = 0 then 1 else x.at_, x.v, x.gone⟩
def fixW (w : WW) : WW := ⟨w.key, fixV w.v⟩
theorem fixV_ok {x : VV} (h : x.ok) : (fixV x).ok := by
  obtain ⟨⟨h1, h2⟩, h3⟩ := h
  refine ⟨?_, h3⟩
  show 0 ≤ (if x.at_ = 0 then 1 else x.at_) ∧ (if x.at_ = 0 then 1 else x.at_) < 256
  split <;> omega
theorem fixW_k (w : WW) : (fixW w).k = w.k := rfl
theorem store_spec (l : List WW) (hok : ∀ w ∈ l, w.ok) (v : Value) (σ : CSt) (hsl : Sl σ 82 4 encW v l) (hbig : l.length < 2 ^ 30) (Q : Out → CSt → Prop)
    (h : ∀ (i m : Nat) (S : Stl) (M : Ml) (σ' : CSt), SRel S (l.map fixW) → St σ.n σ' i S → Mp σ' m M → MRel σ.n σ' M (mapF (l.map fixW)) → σ.n ≤ m → m < σ'.n → Grow σ σ' → Q (.ret (.tuple #[.pointer (some ⟨i, 0, none⟩), .map (some m)]) false) σ') :
    W E1 (.fn 28 #[v] none) σ Q := by
  rw [W_fn (fn := Tryz.f28) Tryz.func28 rfl rfl rfl]
  obtain ⟨p, c, rfl⟩ := hsl.form
  simp [wops_cons]
  refine new_spec σ _ fun σ1 h1 g1 => ?_
  have hn1 : σ.n < σ1.n := by obtain ⟨_, _, _, h, _⟩ := h1; exact h
  have hm : Mp (σ1.alloc (.map #[] 0)) σ1.n [] := ⟨#[], 0, by simp, entsOk_nil _ _⟩
  have gm : Grow σ1 (σ1.alloc (.map #[] 0)) := (Grow.refl σ1).alloc _
  simp [wops_cons, copE_makeMap (P := Tryz.prog) (t := 62) Tryz.underlying62]
  refine W_loop_inv (fun n a σ' => ∃ tm, ∃ j : Nat, ∃ S M, a = ⟨tm, 45, [], false⟩ ∧ tm.get 4 = some (.pointer (some ⟨σ.n, 0, none⟩)) ∧ tm.get 5 = some (.map (some σ1.n)) ∧ tm.get 11 = some (.slice p l.length c) ∧ tm.get 12 = some (.int .i64 l.length) ∧ tm.get 13 = some (.int .i64 (j : Nat)) ∧ (j ≤ l.length ∧ n = l.length - j ∧
    SRel S ((l.map fixW).take j) ∧ St σ.n σ' σ.n S ∧ Mp σ' σ1.n M ∧ MRel σ.n σ' M (mapF ((l.map fixW).take j)) ∧ σ1.n < σ'.n ∧ Grow σ σ')) ?_ l.length _ _ ?_
  · rintro n a σ2 ⟨tm, j, S, M, rfl, e4, e5, e11, e12, e13, hj, hn, hS, hst, hmp, hmr, hn2, hgr⟩
    by_cases hjl : j < l.length
    · have hjl' : (j : Int) < (l.length : Int) := by omega
      obtain ⟨i, off, row, ro, hpl, hg, hin, hrow, hle⟩ := (hsl.grow hgr).at hjl
      have hld := row_get (enc := encW) lenW hrow j hjl
      have hl1 := row_le hle j hjl
      have hw2 := i64s j (by omega)
      have hx := hok _ (List.getElem_mem hjl)
      have htk : (l.map fixW).take (j + 1) = (l.map fixW).take j ++ [fixW l[j]] := by rw [List.take_succ_eq_append_getElem (by simpa using hjl)]; simp
      have hxk := fixW_k l[j]
      have hxv : (fixW l[j]).v = fixV l[j].v := rfl
      have hxo := fixV_ok hx.2
      generalize hW : fixW l[j] = w1 at htk hxk hxv
      have hkd : l[j].k = key12 (l[j].key.tmod 5) := rfl
      generalize l[j] = w at hld hx hxk hxv hxo hkd
      obtain ⟨key, vv⟩ := w
      obtain ⟨⟨hk0, hk1⟩, hvo⟩ := hx
      simp only at hk0 hk1 hvo hxv hxo hkd
      simp only [encW] at hld
      have ht5 : 0 ≤ key.tmod 5 ∧ key.tmod 5 < 5 := ⟨Int.tmod_nonneg _ hk0, Int.tmod_lt_of_pos _ (by decide)⟩
      have hu5 : IntKind.u8.wrap (key.tmod 5) = key.tmod 5 := IntWalk.u8_in _ (by omega)
      have hgw : Grow σ2 ((σ2.alloc (.cells [.int .u8 0, .int .u8 0, .int .u8 0, .bool false] 82 false)).put σ2.n (.cells [.int .u8 key, .int .u8 vv.at_, .int .u8 vv.v, .bool vv.gone] 82 false)) := ⟨by simp, fun j hj => by rw [CSt.get_put, if_neg (by omega), CSt.get_alloc, if_neg (by omega)]⟩
      have hc3 : ((σ2.alloc (.cells [.int .u8 0, .int .u8 0, .int .u8 0, .bool false] 82 false)).put σ2.n (.cells [.int .u8 key, .int .u8 vv.at_, .int .u8 vv.v, .bool vv.gone] 82 false)).get σ2.n = some (.cells [.int .u8 key, .int .u8 vv.at_, .int .u8 vv.v, .bool vv.gone] 82 false) := by simp
      have hn3 : σ2.n < ((σ2.alloc (.cells [.int .u8 0, .int .u8 0, .int .u8 0, .bool false] 82 false)).put σ2.n (.cells [.int .u8 key, .int .u8 vv.at_, .int .u8 vv.v, .bool vv.gone] 82 false)).n := by simp
      simp [wops_cons, e4, e5, e11, e12, e13, hjl, hjl', hpl, hg, hld, hl1, hu5]
      generalize (σ2.alloc (.cells [.int .u8 0, .int .u8 0, .int .u8 0, .bool false] 82 false)).put σ2.n (.cells [.int .u8 key, .int .u8 vv.at_, .int .u8 vv.v, .bool vv.gone] 82 false) = σ3 at hgw hc3 hn3
      refine kspec _ ht5.1 ht5.2 σ3 _ fun σ4 g4 => ?_
      have gn4 := g4.n
      have hc4 := g4.get hc3 hn3
      rw [← hkd]
      generalize hK : WW.k ⟨key, vv⟩ = K at hkd hxk
      have g24 := hgw.trans g4
      have hst4 := hst.grow g24
      simp [wops_cons, e4, e5, e11, e12, e13, hc4, -W_condK]
      -- no time is nought
      refine W_cut (fun out z => ∃ tm, out = .code .normal ⟨tm, 45, [], false⟩ ∧ tm.get 4 = some (.pointer (some ⟨σ.n, 0, none⟩)) ∧ tm.get 5 = some (.map (some σ1.n)) ∧ tm.get 7 = some (.pointer (some ⟨σ2.n, 0, none⟩)) ∧ tm.get 8 = some (.string K) ∧ tm.get 11 = some (.slice p l.length c) ∧ tm.get 12 = some (.int .i64 l.length) ∧ tm.get 13 = some (.int .i64 (j : Nat)) ∧ z.get σ2.n = some (.cells [.int .u8 key, .int .u8 (fixV vv).at_, .int .u8 (fixV vv).v, .bool (fixV vv).gone] 82 false) ∧ Grow σ2 z ∧ σ2.n < z.n) ?_ ?_
      · by_cases h0 : vv.at_ = 0
        · have hz : (fixV vv).at_ = 1 := by unfold fixV; simp [h0]
          simp [wops_cons, e4, e5, e11, e12, e13, hc4, h0, hz]
          exact ⟨⟨rfl, rfl⟩, ⟨by have := hgw.n; simp; omega, fun j hj => by rw [CSt.get_put, if_neg (by omega)]; exact g24.old j hj⟩, by omega⟩
        · have hz : (fixV vv).at_ = vv.at_ := by unfold fixV; simp [h0]
          simp [wops_cons, e4, e5, e11, e12, e13, hc4, h0, hz]
          exact ⟨⟨rfl, rfl⟩, g24, by omega⟩
      rintro out z ⟨tm, rfl, e4, e5, e7, e8, e11, e12, e13, hcz, gz, hnz⟩
      rw [← hxv] at hcz hxo
      obtain ⟨x, hx⟩ : ∃ x, x = w1.v := ⟨_, rfl⟩
      rw [← hx] at hcz hxo
      simp [wops_cons, e4, e5, e7, e8, e11, e12, e13, hcz]
      have hvm := vmake_spec x hxo
      simp only [encU] at hvm
      refine hvm z _ fun σ5 g5 => ?_
      have g25 := gz.trans g5
      have hc5 := g5.get hcz hnz
      have hlt : ((l.map fixW).take j).length ≤ j := List.length_take_le _ _
      simp [wops_cons, e4, e5, e7, e8, e11, e12, e13]
      refine put_store σ.n σ.n S hS.ks hS.srt (fun s hs => by have := hS.short s hs; omega) _ (verOf x) σ5 (hgr.trans g25).n (hst.grow g25) (by have := hS.len; omega) _ fun n6 σ6 hp h6 f6 => ?_
      have hn25 : σ2.n < σ5.n := Nat.lt_of_lt_of_le hnz g5.n
      have hc6 := f6.get hc5 hn25 (.inr fun row e ro he => by injection he with _ h2 _; rw [← h2]; exact st82)
      have hmp6 := (hmp.grow hn2 g25).fr (Nat.lt_of_lt_of_le hn2 g25.n) f6
      have hmr6 := (hmr.fr (T := fun _ => False) (fun h => h) (b' := 0) g25.fr).fr (T := stT) st78 f6
      have hn26 : σ2.n < σ6.n := Nat.lt_of_lt_of_le hn25 f6.1
      have hn16 : σ1.n < σ6.n := Nat.lt_of_lt_of_le hn2 (Nat.le_trans g25.n f6.1)
      have hg06 : Grow σ σ6 := by
        have := (hgr.trans g25).fr (T := stT) (b := σ.n)
        exact (this.trans f6).grow (Nat.le_refl _)
      have hS6 := hS.put (w := w1) (n := n6) (by rw [hxk]; exact hp)
      rw [hxk, ← hx] at hS6
      have hlk : ∀ σ', Mp σ' σ1.n M → lookupOp Tryz.prog σ' 62 (.map (some σ1.n)) (.string K) false = some ((getM M K).getD (.slice none 0 0)) := fun σ' hm' => lookup_mp Tryz.underlying62 (by kernel_rfl) (by kernel_rfl) hm'
      have hgl := getF_len ((l.map fixW).take j) K
      have hga : Grow σ6 (σ6.alloc (.cells (encU x) 78 false)) := (Grow.refl σ6).alloc _
      have hmr8 := hmr6.fr (T := fun _ => False) (fun h => h) (b' := 0) hga.fr
      have hmp8 := hmp6.grow hn16 hga
      obtain ⟨v9, σ9, a1, a2, a3, a4, a5⟩ := append_only (P := Tryz.prog) (ts := #[75, 75]) (e := 78) (sz := 3) (enc := encU) (l := getF (mapF ((l.map fixW).take j)) K) (m := [x]) (b := σ.n) ef75 (by simp) lenVV cokVV rfl (by decide) (by decide) rfl (σ := σ6.alloc (.cells (encU x) 78 false)) (hmr8.get K)
        (hg06.trans hga).n (Sl.all (l := [x]) (i := σ6.n) (cap := 1) (ro := false) lenVV (by simp) (by simp) (.inr ⟨by simp, by simp [openCap]⟩)) (by show (_ + 1) * 3 ≤ _; omega) (by omega)
      obtain ⟨o, b1, b2, b3, b4⟩ := mset_step σ.n hmp8 (Nat.lt_of_lt_of_le hn16 hga.n) hmr8 a3.1 a4 (a5 (by simp)) a2
      have hlk6 := hlk σ6 hmp6
      simp only [encU, List.length_cons, List.length_nil, Nat.zero_add] at a1
      simp [wops_cons, e4, e5, e7, e8, e11, e12, e13, hlk6, hc6, a1, b1, hw2]
      have hmn : mapF ((l.map fixW).take j ++ [w1]) = putF (mapF ((l.map fixW).take j)) K x := by rw [mapF_snoc, hxk, ← hx]
      have hfr : Grow σ (σ9.put σ1.n o) := Grow.thenB (hg06.trans hga) (a3.put (by omega) _) (Nat.le_refl _)
      exact ⟨l.length - (j + 1), by omega, hpl, j + 1, by omega, by omega, rfl, _, by rw [htk]; exact hS6, (h6.grow hga).kept b4, _, b2, by rw [htk, hmn]; exact b3, Nat.lt_of_lt_of_le (Nat.lt_of_lt_of_le hn16 hga.n) a3.1, hfr⟩
    · have hj' : j = l.length := by omega
      subst hj'
      rw [List.take_of_length_le (by simp)] at hS hmr
      have := h σ.n σ1.n S M σ2 hS hst hmp hmr (by omega) hn2 hgr
      simpa [wops_cons, e4, e5, e11, e12, e13] using this
  · exact ⟨_, 0, [], [], rfl, by simp, by simp, by simp, by simp, by simp, by omega, rfl, SRel.nil, h1.grow gm, hm, trivial, by simp, g1.trans gm⟩
end Go.Sm
/- image.Encode. -/
set_option linter.unusedVariables false
set_option linter.unusedSimpArgs false
namespace Go.Sm
open Go Go.Proofs
set_option maxRecDepth 100000
set_option maxHeartbeats 4000000
/-- A key and its versions, as bytes. -/
def serRow (s : ByteArray × List Ver) : List UInt8 := serText s.1 ++ num s.2.length ++ s.2.flatMap serV
def serS (clock : Nat) (S : Stl) : List UInt8 := num clock ++ num S.length ++ S.flatMap serRow
def TI : TypeId → Prop := fun t => TW t ∨ t = 31
instance : DecidablePred TI := fun t => inferInstanceAs (Decidable (TW t ∨ t = 31))
theorem WtK.put {K : Nat → Prop} {b p L : Nat} {s : CSt} {l : List UInt8} (h : WtK K b p s l) (hL : K L) (ob : CObj) : WtK K b p (s.put L ob) l := by
  obtain ⟨v, h1, h2, h3, h4, h5⟩ := h
  obtain ⟨k1, k2, k3⟩ := h5 L hL
  refine ⟨v, by rw [CSt.get_put, if_neg (fun e => k1 e.symm)]; exact h1, h2, by simpa using h3, ?_, fun i hi => by simpa using h5 i hi⟩
  rcases h4 with h4 | ⟨i, cap, rfl, q1, q2, q3, q4⟩
  · exact .inl h4
  · exact .inr ⟨i, cap, rfl, q1, by simpa using q2, by rw [CSt.get_put, if_neg (fun e => k3 (by rw [← e]; rfl))]; exact q3, q4⟩
theorem Own.obj_ge {α : Type} {b : Nat} {s : CSt} {e : TypeId} {enc : α → List Value} {v : Value} {l : List α} (h : Own b s e enc v l) {i : Nat} (hi : objOf v = some i) : b ≤ i := by
  rcases h with ⟨rfl, _⟩ | ⟨j, cap, rfl, hb', hj, hg, hc⟩
  · cases hi
  · cases hi; exact hb'
/-- What a store must be like. -/
def OkS (S : Stl) : Prop := ∀ s ∈ S, s.1.size < 2 ^ 30 ∧ s.2.length < 2 ^ 30 ∧ ∀ x ∈ s.2, 0 ≤ x.at_ ∧ x.at_ < 2 ^ 64 ∧ x.val.size < 2 ^ 30
theorem row_le_S {s : ByteArray × List Ver} {S : Stl} (h : s ∈ S) : (serRow s).length ≤ (S.flatMap serRow).length := flat_mem_le serRow h
theorem imgenc_spec (b i : Nat) (S : Stl) (clock : Nat) (hc : clock < 2 ^ 64) (σ : CSt) (hb : b ≤ σ.n) (hst : St b σ i S) (hok : OkS S) (hbig : (serS clock S).length < 2 ^ 34) (hS : S.length < 2 ^ 34) (Q : Out → CSt → Prop)
    (h : ∀ v' σ', Own σ.n σ' 5 encY v' (serS clock S) → Grow σ σ' → Q (.ret v' false) σ') : W E1 (.fn 29 #[.int .u64 clock, .pointer (some ⟨i, 0, none⟩)] none) σ Q := by
  rw [W_fn (fn := Tryz.f29) Tryz.func29 rfl rfl rfl]
  simp [wops_cons]
  refine all33 _ _ _ ?_
  obtain ⟨s0, hs0⟩ : ∃ s0, s0 = (((((σ.alloc (.cells [.slice none 0 0] 27 false)).alloc (.cells [.slice none 0 0] 27 false)).alloc (.cells [.int .u64 0] 31 false)).put (σ.n + 1 + 1) (.cells [.int .u64 0] 31 false)).alloc (.cells [.pointer (some ⟨i, 0, none⟩)] 61 false)) := ⟨_, rfl⟩
  have g0 : Grow σ s0 := by
    rw [hs0]
    refine ⟨by simp; omega, fun j hj => ?_⟩
    rw [CSt.get_alloc, if_neg (by simp; omega), CSt.get_put, if_neg (by omega), CSt.get_alloc, if_neg (by simp; omega), CSt.get_alloc, if_neg (by simp; omega), CSt.get_alloc, if_neg (by omega)]
  have n0 : s0.n = σ.n + 4 := by rw [hs0]; simp
  have k5 : s0.get σ.n = some (.cells [.slice none 0 0] 27 false) := by
    rw [hs0, CSt.get_alloc, if_neg (by simp; omega), CSt.get_put, if_neg (by omega), CSt.get_alloc, if_neg (by simp; omega), CSt.get_alloc, if_neg (by simp), CSt.get_alloc, if_pos rfl]
  have k6 : s0.get (σ.n + 1) = some (.cells [.slice none 0 0] 27 false) := by
    rw [hs0, CSt.get_alloc, if_neg (by simp), CSt.get_put, if_neg (by omega), CSt.get_alloc, if_neg (by simp), CSt.get_alloc, if_pos (by simp)]
  have k7 : s0.get (σ.n + 1 + 1) = some (.cells [.int .u64 0] 31 false) := by
    rw [hs0, CSt.get_alloc, if_neg (by simp), CSt.get_put, if_pos rfl]
  have kq : s0.get (σ.n + 3) = some (.cells [.pointer (some ⟨i, 0, none⟩)] 61 false) := by
    rw [hs0, CSt.get_alloc, if_pos (by simp)]
  have hq : ((((σ.alloc (.cells [.slice none 0 0] 27 false)).alloc (.cells [.slice none 0 0] 27 false)).alloc (.cells [.int .u64 0] 31 false)).put (σ.n + 1 + 1) (.cells [.int .u64 0] 31 false)).n = σ.n + 3 := by simp
  rw [← hs0, hq]
  clear hs0
  simp [wops_cons]
  have hst0 := hst.grow g0
  have hpre : ∀ j, ((S.take j).flatMap serRow).length ≤ (S.flatMap serRow).length := fun j => flat_take_le serRow S j
  have hSb : (S.flatMap serRow).length ≤ (serS clock S).length := by unfold serS; simp only [List.length_append]; omega
  refine range_allG (q := σ.n + 3) (S := S) (i := i) (b := b) rfl rfl hst0 kq (by omega) (by omega) (fun s hs => by have := (hok s hs).2.1; omega) (by simp) (by simp)
    (fun j s => WtK (fun x => x = s0.n) (σ.n + 1) (σ.n + 1) s ((S.take j).flatMap serRow) ∧ s.get (σ.n + 1 + 1) = some (.cells [.int .u64 (j : Nat)] 31 false) ∧ Fr TI (σ.n + 1) s0 s ∧ s0.n < s.n) (fun _ _ => False) ?_ ?_ ?_ ?_ ?_ ?_
  · rintro j s ⟨h1, h2, h3, h4⟩
    refine ⟨⟨h3.1, fun m hm row e ro hg he => h3.2 m hm (.inr fun row' e' ro' hg' ht => ?_)⟩, h4⟩
    rw [hg] at hg'
    cases hg'
    rcases he with rfl | rfl | rfl | rfl <;> exact absurd ht (by decide)
  · rintro j s s' ⟨h1, h2, h3, h4⟩ hg
    exact ⟨h1.grow hg, hg.get h2 (by omega), h3.trans hg.fr, Nat.lt_of_lt_of_le h4 hg.n⟩
  · intro o
    refine ⟨⟨.slice none 0 0, ?_, Nat.le_refl _, by simp; omega, Own.nil, fun x hx => ⟨by omega, by simp; omega, by simp [objOf]⟩⟩, ?_, (Fr.refl _ _ _).alloc o, by simp⟩
    · rw [CSt.get_alloc, if_neg (by omega)]; exact k6
    · rw [CSt.get_alloc, if_neg (by omega)]; exact k7
  · rintro j hj s' v' b' ⟨h1, h2, h3, h4⟩ hb1 hb2 ho hL
    refine ⟨_, s', by simp [wops_cons]; rfl, hL, fun ob => ?_⟩
    have hw1 := h1.put (L := s0.n) rfl ob
    have hk7 : (s'.put s0.n ob).get (σ.n + 1 + 1) = some (.cells [.int .u64 (j : Nat)] 31 false) := by rw [CSt.get_put, if_neg (by omega)]; exact h2
    have hf1 : Fr TI (σ.n + 1) s0 (s'.put s0.n ob) := h3.new (Nat.le_refl _) ob
    have hob : (s'.put s0.n ob).get s0.n = some ob := by simp
    have hn1 : (s'.put s0.n ob).n = s'.n := rfl
    have ho1 : Own b' (s'.put s0.n ob) 33 encV v' S[j].2 := ho.put hb1 ob
    generalize s'.put s0.n ob = t1 at hw1 hk7 hf1 hob hn1 ho1 ⊢
    have hmem := List.getElem_mem hj
    obtain ⟨hks, hls, hvs⟩ := hok _ hmem
    have hrl := row_le_S hmem
    have htk : (S.take (j + 1)).flatMap serRow = (S.take j).flatMap serRow ++ serRow S[j] := by rw [List.take_succ_eq_append_getElem hj, List.flatMap_append]; simp
    have htl := hpre (j + 1)
    rw [htk, List.length_append] at htl
    generalize S[j] = r at hks hls hvs hrl htk ho1 htl
    obtain ⟨key, ch⟩ := r
    simp only at hks hls hvs ho1
    obtain ⟨pc, cc, rfl⟩ := (ho1.sl (sz := 3) lenV).form
    simp [wops_cons]
    generalize hpr : (S.take j).flatMap serRow = pre at hw1 htk htl
    have hrs : (serRow (key, ch)).length = (serText key).length + (num ch.length).length + (ch.flatMap serV).length := by unfold serRow; simp only [List.length_append]
    refine wtextK_spec (fun x => x = s0.n) (σ.n + 1) (σ.n + 1) key pre t1 (by omega) hw1 (by have := hf1.1; omega) (by omega) _ fun t2 hw2 f2 => ?_
    have fn2 := f2.1.1
    have hlu : IntKind.u64.wrap (ch.length : Int) = (ch.length : Int) := IntWalk.u64_in _ (by omega)
    simp [wops_cons, hlu]
    refine wnumK_spec (fun x => x = s0.n) (σ.n + 1) (σ.n + 1) ch.length _ t2 (by omega) hw2 (by have := hf1.1; omega) (by rw [List.length_append]; omega) _ fun t3 hw3 f3 => ?_
    have f13 := f2.trans f3
    have fn3 := f3.1.1
    simp [wops_cons]
    have hslc := ho1.sl (sz := 3) lenV
    refine W_loop_J (fun n a z => ∃ tm, ∃ m : Nat, a = ⟨tm, 42, [], false⟩ ∧ tm.get 6 = some (.pointer (some ⟨σ.n + 1, 0, none⟩)) ∧ tm.get 7 = some (.pointer (some ⟨σ.n + 1 + 1, 0, none⟩)) ∧ tm.get 22 = some (.slice pc ch.length cc) ∧ tm.get 23 = some (.int .i64 ch.length) ∧ tm.get 24 = some (.int .i64 (m : Nat)) ∧ (m ≤ ch.length ∧ n = ch.length - m ∧ WtK (fun x => x = s0.n) (σ.n + 1) (σ.n + 1) z (pre ++ serText key ++ num ch.length ++ (ch.take m).flatMap serV) ∧ FrK (fun x => x = s0.n) TW (σ.n + 1) t1 z))
      (fun out z => ∃ tm, out = .code (.exit 2) ⟨tm, 42, [], false⟩ ∧ tm.get 7 = some (.pointer (some ⟨σ.n + 1 + 1, 0, none⟩)) ∧ WtK (fun x => x = s0.n) (σ.n + 1) (σ.n + 1) z (pre ++ serRow (key, ch)) ∧ FrK (fun x => x = s0.n) TW (σ.n + 1) t1 z) ?_ ch.length _ _ ?_ ?_
    · rintro n a z ⟨tm, m, rfl, e6, e7, e22, e23, e24, hm, hn, hw, hf⟩
      have fnz := hf.1.1
      by_cases hlt : m < ch.length
      · have hlt' : (m : Int) < (ch.length : Int) := by omega
        obtain ⟨y, off, row, ro, hpc, hgy, hyn, hrow, hle⟩ := (hslc.fr (T := TW) (by decide) hf.1).at hlt
        have hld := row_get lenV hrow m hlt
        have hle2 := row_le hle m hlt
        have hw1' := i64s m (by omega)
        obtain ⟨hx0, hx1, hx2⟩ := hvs _ (List.getElem_mem hlt)
        have htv : (ch.take (m + 1)).flatMap serV = (ch.take m).flatMap serV ++ serV ch[m] := by rw [List.take_succ_eq_append_getElem hlt, List.flatMap_append]; simp
        have htvl := flat_take_le serV ch (m + 1)
        rw [htv, List.length_append] at htvl
        generalize ch[m] = X at hld hx0 hx1 hx2 htv htvl
        simp only [encV] at hld
        have g1 : Grow z ((z.alloc (.cells [.int .u64 0, .string ⟨#[]⟩, .bool false] 33 false)).put z.n (.cells [.int .u64 X.at_, .string X.val, .bool X.gone] 33 false)) := ⟨by simp, fun j hj => by rw [CSt.get_put, if_neg (by omega), CSt.get_alloc, if_neg (by omega)]⟩
        simp [wops_cons, e6, e7, e22, e23, e24, hlt, hlt', hpc, hgy, hld, hle2]
        have hvk := valuevK_spec (fun x => x = s0.n) (σ.n + 1) (σ.n + 1) X _ _ ⟨hx0, hx1⟩ (by omega) (hw.grow g1) (by have := g1.n; have := hf1.1; omega) (by simp only [List.length_append]; omega)
        simp only [encV] at hvk
        refine hvk _ fun z2 hw4 f4 => ?_
        simp [wops_cons, e6, e7, e22, e23, e24, hw1']
        exact ⟨ch.length - (m + 1), by omega, hpc, m + 1, by omega, by omega, rfl, by rw [htv]; simpa [List.append_assoc] using hw4, (hf.trans g1.frK).trans f4⟩
      · have hme : m = ch.length := by omega
        subst hme
        rw [List.take_of_length_le (Nat.le_refl _)] at hw
        simp [wops_cons, e6, e7, e22, e23, e24]
        exact ⟨by unfold serRow; simpa [List.append_assoc] using hw, hf⟩
    · exact ⟨_, 0, rfl, by simp, by simp, by simp, by simp, by simp, by omega, rfl, by simpa [List.append_assoc] using hw3, f13⟩
    · rintro out z ⟨tm, rfl, e7, hw, hf⟩
      have fnz := hf.1.1
      have hkz := hf.1.get hk7 (by have := hf1.1; omega) (.inr fun row e ro he => by cases he; decide)
      have hobz : z.get s0.n = some ob := by rw [hf.2 _ rfl (by omega)]; exact hob
      have hwj : IntKind.u64.wrap ((j : Int) + 1) = (j : Int) + 1 := IntWalk.u64_in _ (by omega)
      simp [wops_cons, e7, hkz, hwj]
      have f31 : Fr (fun t => t = 31) (σ.n + 1) z (z.put (σ.n + 1 + 1) (.cells [.int .u64 ((j : Int) + 1)] 31 false)) := (Fr.refl (fun t => t = 31) (σ.n + 1) z).put (by omega) hkz rfl _
      have hwz := hw.fr (T := fun t => t = 31) (by decide) (by decide) f31
      have hft : Fr TI (σ.n + 1) s0 (z.put (σ.n + 1 + 1) (.cells [.int .u64 ((j : Int) + 1)] 31 false)) := (hf1.trans (hf.1.mono (fun _ => .inl) (Nat.le_refl _))).trans (f31.mono (fun _ => .inr) (Nat.le_refl _))
      refine ⟨_, _, none, rfl, rfl, by rw [CSt.get_put, if_neg (by omega)]; exact hobz, fun _ ob' => ⟨by rw [htk]; exact hwz.put (L := s0.n) rfl ob', by rw [CSt.get_put, if_neg (by omega), CSt.get_put, if_pos rfl], hft.new (Nat.le_refl _) ob', by simp; omega⟩, fun c hc => by cases hc⟩
  · rintro s o ⟨h1, h2, h3, h4⟩
    rw [List.take_of_length_le (Nat.le_refl _)] at h1
    obtain ⟨vr, r1, r2, r3, r4, r5⟩ := h1.put (L := s0.n) rfl o
    have kw : (s.put s0.n o).get σ.n = some (.cells [.slice none 0 0] 27 false) := by rw [CSt.get_put, if_neg (by omega)]; exact h3.get k5 (by omega) (.inl (by omega))
    have kc : (s.put s0.n o).get (σ.n + 1 + 1) = some (.cells [.int .u64 S.length] 31 false) := by rw [CSt.get_put, if_neg (by omega)]; exact h2
    have hun : (s.put s0.n o).n = s.n := rfl
    have hgu : Fr TI σ.n σ (s.put s0.n o) := (g0.fr.trans (h3.mono (fun _ h => h) (by omega))).new (by omega) o
    generalize s.put s0.n o = u at r1 r3 r4 r5 kw kc hun hgu ⊢
    have hwK : WtK (fun x => x = σ.n + 1 ∨ objOf vr = some x) σ.n σ.n u [] := ⟨.slice none 0 0, kw, Nat.le_refl _, by omega, Own.nil, fun x hx => by
      rcases hx with rfl | hx
      · exact ⟨by omega, r3, by simp [objOf]⟩
      · have := r4.obj_lt hx
        have := r4.obj_ge hx
        exact ⟨by omega, by omega, by simp [objOf]⟩⟩
    have hnl := num_len10 hc
    have hnS := num_len10 (n := S.length) (by omega)
    simp [wops_cons]
    refine wnumK_spec _ σ.n σ.n clock [] u hc hwK (by omega) (by simp) _ fun u1 w1 f1 => ?_
    have fn1 := f1.1.1
    have kc1 := f1.1.get kc (by omega) (.inr fun row e ro he => by cases he; decide)
    simp [wops_cons, kc1]
    refine wnumK_spec _ σ.n σ.n S.length _ u1 (by omega) w1 (by omega) (by simp; omega) _ fun u2 w2 f2 => ?_
    have f12 := f1.trans f2
    have fn2 := f2.1.1
    obtain ⟨vw, q1, q2, q3, q4, q5⟩ := w2
    have kr2 : u2.get (σ.n + 1) = some (.cells [vr] 27 false) := by rw [f12.2 _ (.inl rfl) (by omega)]; exact r1
    have or2 := r4.frK f12 fun x hx => .inr hx
    obtain ⟨pr, cr, rfl⟩ := (or2.sl (sz := 1) encY_len).form
    obtain ⟨q, c, σ', a1, a2, a3⟩ := wapp_sl q4 (by omega) (or2.sl encY_len) (by simp only [List.length_append, List.length_nil]; omega)
    have hall : [] ++ num clock ++ num S.length ++ S.flatMap serRow = serS clock S := rfl
    rw [hall] at a2
    obtain ⟨pw, cw, rfl⟩ := (q4.sl (sz := 1) encY_len).form
    have hgr : Grow σ σ' := ((hgu.trans (f12.1.mono (fun _ => .inl) (Nat.le_refl _))).trans (a3.mono (fun _ h => .inl (.inr h)) (Nat.le_refl _))).grow (Nat.le_refl _)
    have hQ := h _ σ' a2 hgr
    simp only [List.nil_append, List.length_append] at a1 hQ q1
    simpa [wops_cons, q1, kr2, a1, -List.length_flatMap] using hQ
  · rintro c s o h; exact h.elim
end Go.Sm
/- Stores as lists: one put, whatever it is. -/
set_option linter.unusedSimpArgs false
namespace Go.Sm
theorem getF_ofK (ws : List WW) (k : ByteArray) : (getF (mapF ws) k).map verOf = ofK ws k := by
  refine rev_ind (P := fun ws => ∀ k, (getF (mapF ws) k).map verOf = ofK ws k) (fun k => by simp [mapF, getF, ofK]) (fun ws w ih k => ?_) ws k
  rw [mapF_snoc, getF_putF, ofK_snoc]
  by_cases e : w.k = k
  · rw [if_pos e, if_pos e, List.map_append, ih w.k, e]; rfl
  · rw [if_neg e, if_neg e, ih k]
theorem getF_ok (ws : List WW) (h : ∀ w ∈ ws, w.ok) (k : ByteArray) : ∀ x ∈ getF (mapF ws) k, x.ok := by
  refine rev_ind (P := fun ws => (∀ w ∈ ws, w.ok) → ∀ k, ∀ x ∈ getF (mapF ws) k, x.ok) (fun _ k x hx => by simp [mapF, getF] at hx) (fun ws w ih h k x hx => ?_) ws h k
  rw [mapF_snoc, getF_putF] at hx
  have ih' := ih fun w hw => h w (by simp [hw])
  split at hx
  · rcases List.mem_append.1 hx with hx | hx
    · exact ih' _ x hx
    · rw [List.mem_singleton] at hx; rw [hx]; exact (h w (by simp)).2
  · exact ih' _ x hx
end Go.Sm
/- Stores as lists: the keys in order; what a key has. -/
set_option linter.unusedSimpArgs false
namespace Go.Sm
open Go
theorem sorted_eq : ∀ {l m : List ByteArray}, (l.Pairwise fun x y => klt x y = true) → (m.Pairwise fun x y => klt y x = false) → l.Perm m → l = m
  | [], m, _, _, h => by rw [List.Perm.eq_nil h.symm]
  | a :: l, [], _, _, h => by cases List.Perm.eq_nil h
  | a :: l, b :: m, h1, h2, h => by
    rw [List.pairwise_cons] at h1 h2
    have hab : a = b := by
      have ha : a ∈ b :: m := h.subset (by simp)
      have hb : b ∈ a :: l := h.symm.subset (by simp)
      rcases List.mem_cons.1 ha with e | ha
      · exact e
      · rcases List.mem_cons.1 hb with e | hb
        · exact e.symm
        · have := h1.1 b hb
          rw [h2.1 a ha] at this
          cases this
    subst hab
    rw [sorted_eq h1.2 h2.2 (List.Perm.cons_inv h)]
theorem putF_keys (k : ByteArray) (x : VV) (q : ByteArray) : ∀ F : Fl, q ∈ (putF F k x).map (·.1) ↔ q = k ∨ q ∈ F.map (·.1)
  | [] => by simp [putF]
  | p :: F => by
    have ih := putF_keys k x q F
    unfold putF
    by_cases e : p.1 = k
    · rw [if_pos e]
      simp only [List.map_cons, List.mem_cons, e]
      constructor
      · rintro (h | h)
        · exact .inl h
        · exact .inr (.inr h)
      · rintro (h | h | h)
        · exact .inl h
        · exact .inl h
        · exact .inr h
    · rw [if_neg e, List.map_cons, List.mem_cons, ih, List.map_cons, List.mem_cons]
      exact or_left_comm
theorem mapF_keys (ws : List WW) (q : ByteArray) : q ∈ (mapF ws).map (·.1) ↔ ∃ w ∈ ws, w.k = q := by
  refine rev_ind (P := fun ws => q ∈ (mapF ws).map (·.1) ↔ ∃ w ∈ ws, w.k = q) (by simp [mapF]) (fun ws w ih => ?_) ws
  rw [mapF_snoc, putF_keys, ih]
  constructor
  · rintro (rfl | ⟨u, hu, e⟩)
    · exact ⟨w, by simp, rfl⟩
    · exact ⟨u, by simp [hu], e⟩
  · rintro ⟨u, hu, e⟩
    rcases List.mem_append.1 hu with h | h
    · exact .inr ⟨u, h, e⟩
    · rw [List.mem_singleton] at h; rw [← e, h]; exact .inl rfl
theorem MRel.keys {b : Nat} {σ : CSt} : ∀ {M : Ml} {F : Fl}, MRel b σ M F → M.map (·.1) = F.map (·.1)
  | [], [], _ => rfl
  | p :: M, q :: F, h => by rw [List.map_cons, List.map_cons, h.1.1, MRel.keys h.2.2]
theorem KS.nodup {S : Stl} (h : KS S) : (S.map (·.1)).Nodup := by
  have h1 : (S.map (·.1)).Pairwise fun a c => klt a c = true := by rw [List.pairwise_map]; exact h
  refine h1.imp fun {a c} hac e => ?_
  rw [e, klt_irrefl] at hac
  cases hac
theorem keys_eq {b : Nat} {σ σ' : CSt} {S : Stl} {l : List WW} {M : Ml} {m : Nat} {D : List ByteArray} (hS : SRel S l) (hmp : Mp σ m M) (hmr : MRel b σ' M (mapF l)) (hp : D.Perm (M.map (·.1))) (hs : D.Pairwise fun x y => klt y x = false) : D = S.map (·.1) := by
  have h1 : (S.map (·.1)).Pairwise fun a c => klt a c = true := by rw [List.pairwise_map]; exact hS.ks
  have h2 : (M.map (·.1)).Nodup := by obtain ⟨_, _, _, h⟩ := hmp; exact h.keys
  refine (sorted_eq h1 hs (List.Perm.trans ?_ hp.symm)).symm
  refine (List.perm_ext_iff_of_nodup hS.ks.nodup h2).2 fun k => ?_
  rw [hmr.keys, mapF_keys]
  constructor
  · intro h
    obtain ⟨s, hs, rfl⟩ := List.mem_map.1 h
    exact hS.only s hs
  · rintro ⟨w, hw, rfl⟩
    obtain ⟨s, hs, e⟩ := hS.all w hw
    exact List.mem_map.2 ⟨s, hs, e⟩
theorem at_ok (l : List VV) (h : ∀ x ∈ l, x.ok) : ∀ v ∈ l.map verOf, 0 ≤ v.at_ ∧ v.at_ < 256 := by
  intro v hv
  obtain ⟨x, hx, rfl⟩ := List.mem_map.1 hv
  rw [verOf_at]
  exact (h x hx).1
theorem ofK_at (ws : List WW) (h : ∀ w ∈ ws, w.ok) (k : ByteArray) : ∀ v ∈ ofK ws k, 0 ≤ v.at_ ∧ v.at_ < 256 := by
  rw [← getF_ofK]
  exact at_ok _ (getF_ok ws h k)
theorem SRel.plain {S : Stl} {ws : List WW} (h : SRel S ws) (hok : ∀ w ∈ ws, w.ok) : ∀ s ∈ S, s.2 = plainL (ofK ws s.1) := fun s hs => by rw [h.val s hs, make_plain _ (ofK_at ws hok s.1)]
theorem keys_len {b : Nat} {σ σ' : CSt} {S : Stl} {l : List WW} {M : Ml} {m : Nat} (hS : SRel S l) (hmp : Mp σ m M) (hmr : MRel b σ' M (mapF l)) : List.length M = S.length := by
  have h2 : (M.map (·.1)).Nodup := by obtain ⟨_, _, _, h⟩ := hmp; exact h.keys
  have h3 : (S.map (·.1)).Perm (M.map (·.1)) := by
    refine (List.perm_ext_iff_of_nodup hS.ks.nodup h2).2 fun k => ?_
    rw [hmr.keys, mapF_keys]
    constructor
    · intro h
      obtain ⟨s, hs, rfl⟩ := List.mem_map.1 h
      exact hS.only s hs
    · rintro ⟨w, hw, rfl⟩
      obtain ⟨s, hs, e⟩ := hS.all w hw
      exact List.mem_map.2 ⟨s, hs, e⟩
  have := h3.length_eq
  simp at this
  exact this.symm
end Go.Sm
/- The law's own image. -/
set_option linter.unusedVariables false
set_option linter.unusedSimpArgs false
namespace Go.Sm
open Go Go.Proofs
set_option maxRecDepth 100000
set_option maxHeartbeats 4000000
theorem keys57 (m : Nat) (σ : CSt) (Q : Out → CSt → Prop) (h : Q (.ret (keysF σ.n) false) (σ.alloc (.cells [.map (some m)] 62 false))) : W E1 (.fn 57 #[.map (some m)] none) σ Q := keys_spec m σ Q h
theorem make_mem (l : List Ver) (x : Ver) (h : x ∈ makeL l) : x ∈ l := by
  revert h
  refine rev_ind (P := fun l => x ∈ makeL l → x ∈ l) (by simp [makeL]) (fun l v ih h => ?_) l
  rw [makeL_snoc] at h
  unfold putL at h
  simp only [List.mem_append, List.mem_filter, List.mem_cons, List.not_mem_nil, or_false] at h ⊢
  rcases h with h | h | h
  · exact .inl (ih h.1)
  · exact .inr h
  · exact .inl (ih h.1)
theorem verOf_val (x : VV) : (verOf x).val.size < 2 ^ 30 := by
  unfold verOf
  split
  · show (⟨#[]⟩ : ByteArray).size < _
    decide
  · show (nameOf _).size < _
    unfold nameOf
    split <;> decide
theorem ofK_val (ws : List WW) (k : ByteArray) : ∀ x ∈ ofK ws k, x.val.size < 2 ^ 30 := by
  intro x hx
  unfold ofK at hx
  obtain ⟨w, _, rfl⟩ := List.mem_map.1 hx
  exact verOf_val _
theorem limg_spec (b m : Nat) (S : Stl) (ws : List WW) (M : Ml) (clock : Nat) (hc : clock < 2 ^ 64) (σ : CSt) (hok : ∀ w ∈ ws, w.ok) (hS : SRel S ws) (hmp : Mp σ m M) (hmn : m < σ.n) (hmr : MRel b σ M (mapF ws)) (hws : ws.length < 2 ^ 20) (hbig : (serS clock S).length < 2 ^ 34) (Q : Out → CSt → Prop)
    (h : ∀ v' σ', Ow σ.n σ' v' (serS clock S) → Grow σ σ' → Q (.ret v' false) σ') : W E1 (.fn 31 #[.int .u64 clock, .map (some m)] none) σ Q := by
  rw [W_fn (fn := Tryz.f31) Tryz.func31 rfl rfl rfl]
  have hkl := keys_len hS hmp hmr
  have hSl := hS.len
  simp [wops_cons]
  refine lnum_spec clock σ hc _ fun q1 c1 σ1 h1 g1 => ?_
  have hln := len_mp Tryz.underlying62 (hmp.grow hmn g1)
  have hlu : IntKind.u64.wrap (S.length : Int) = (S.length : Int) := IntWalk.u64_in _ (by omega)
  rw [hkl] at hln
  have gn1 := g1.n
  have hl1 := num_len10 hc
  have hl2 := num_len10 (n := S.length) (by omega)
  simp [wops_cons, hln, hlu]
  refine lnum_spec S.length σ1 (by omega) _ fun q2 c2 σ2 h2 g2 => ?_
  have gn2 := g2.n
  obtain ⟨q3, c3, s3, a1, a2, a3⟩ := oapp_sl (h1.grow g2) (by omega) h2.sl (by omega)
  have g3 : Grow σ s3 := ((g1.trans g2).fr.trans a3).grow (Nat.le_refl _)
  have gn3 := g3.n
  simp [wops_cons, a1]
  refine keys57 m s3 _ ?_
  have gk : Grow s3 (s3.alloc (.cells [.map (some m)] 62 false)) := (Grow.refl s3).alloc _
  have hmp4 := (hmp.grow hmn g3).grow (by omega) gk
  simp [wops_cons]
  refine sorted_keys s3.n m false M _ (by simp) (by simp) (by simp; omega) hmp4 (by omega) _ fun v4 D σ4 hp hs o4 g4 => ?_
  have hD := keys_eq hS hmp4 hmr hp hs
  have hDl : D.length = S.length := by rw [hD]; simp
  have g34 := gk.trans g4
  have g04 := g3.trans g34
  have gn4 := g04.n
  subst hD
  have hslD := o4.sl (sz := 1) lenS
  obtain ⟨pD, cD, rfl⟩ := hslD.form
  rw [List.length_map] at hslD
  have ho4 := a2.grow g34
  simp [wops_cons]
  have hpre : ∀ j, ((S.take j).flatMap serRow).length ≤ (S.flatMap serRow).length := fun j => flat_take_le serRow S j
  have hSb : (S.flatMap serRow).length + (num clock).length + (num S.length).length = (serS clock S).length := by unfold serS; simp only [List.length_append]; omega
  refine W_loop_inv (fun n a z => ∃ tm, ∃ j : Nat, ∃ vw, a = ⟨tm, 61, [], false⟩ ∧ tm.get 1 = some (.map (some m)) ∧ tm.get 5 = some vw ∧ tm.get 20 = some (.slice pD S.length cD) ∧ tm.get 21 = some (.int .i64 S.length) ∧ tm.get 22 = some (.int .i64 (j : Nat)) ∧ (j ≤ S.length ∧ n = S.length - j ∧ Ow σ.n z vw (num clock ++ num S.length ++ (S.take j).flatMap serRow) ∧ Fr (fun t => t = 5) σ.n σ4 z)) ?_ S.length _ _ ?_
  · rintro n a z ⟨tm, j, vw, rfl, e1, e5, e20, e21, e22, hj, hn, how, hf⟩
    have fnz := hf.1
    have hmz := (hmp.grow hmn g04).fr (by omega) hf
    have hrz := (hmr.fr (T := fun _ => False) (fun h => h) (b' := 0) g04.fr).fr (T := fun t => t = 5) (by decide) hf
    have hgz : Grow σ z := (g04.fr.trans hf).grow (Nat.le_refl _)
    by_cases hlt : j < S.length
    · have hlt' : (j : Int) < (S.length : Int) := by omega
      have hjm : j < (S.map (·.1)).length := by simpa using hlt
      obtain ⟨iD, offD, rowD, roD, hpD, hgD, hinD, hrowD, hleD⟩ := Sl.at (l := S.map (·.1)) (n := S.length) (hslD.fr (T := fun t => t = 5) (by decide) hf) hjm
      have hcD := row_cell (enc := encS) lenS hrowD j 0 hjm (by decide)
      have hle2 := row_le hleD j hjm
      have hcD' : rowD[offD + j]? = some (.string S[j].1) := by simpa [encS] using hcD
      simp at hle2
      have hw1 := i64s j (by omega)
      have hmem := List.getElem_mem hlt
      have hpl := hS.plain hok _ hmem
      have hsh := hS.short _ hmem
      have hrl := row_le_S hmem
      have htk : (S.take (j + 1)).flatMap serRow = (S.take j).flatMap serRow ++ serRow S[j] := by rw [List.take_succ_eq_append_getElem hlt, List.flatMap_append]; simp
      have htl := hpre (j + 1)
      rw [htk, List.length_append] at htl
      have hvs : ∀ x ∈ S[j].2, 0 ≤ x.at_ ∧ x.at_ < 256 ∧ x.val.size < 2 ^ 30 := by
        intro x hx
        rw [hS.val _ hmem] at hx
        have h1 := make_mem _ x hx
        obtain ⟨h2, h3⟩ := ofK_at ws hok _ x h1
        exact ⟨h2, h3, ofK_val ws _ x h1⟩
      have hlk : lookupOp Tryz.prog z 62 (.map (some m)) (.string S[j].1) false = some ((getM M S[j].1).getD (.slice none 0 0)) := lookup_mp Tryz.underlying62 (by kernel_rfl) (by kernel_rfl) hmz
      have hgo := getF_ok ws hok S[j].1
      have hgl := getF_len ws S[j].1
      obtain ⟨pw, cw, rfl⟩ := how.sl.form
      simp [wops_cons, e1, e5, e20, e21, e22, hlt, hlt', hpD, hgD, hcD', hle2, hlk]
      refine plain_spec (getF (mapF ws) S[j].1) hgo _ z ((hrz.get S[j].1).sl lenVV) (by omega) _ fun v8 z1 o8 g8 => ?_
      rw [getF_ofK, ← hpl] at o8
      have gn8 := g8.n
      have how1 := how.grow g8
      generalize hpr : num clock ++ num S.length ++ (S.take j).flatMap serRow = pre at how how1 e5
      have hprl : pre.length = (num clock).length + (num S.length).length + ((S.take j).flatMap serRow).length := by rw [← hpr]; simp only [List.length_append]
      generalize hr : S[j] = r at hrl htk htl hvs o8 hsh
      obtain ⟨key, ch⟩ := r
      simp only at hvs o8 hsh
      obtain ⟨p8, c8, rfl⟩ := (o8.sl (sz := 3) lenV).form
      have hrs : (serRow (key, ch)).length = (serText key).length + (num ch.length).length + (ch.flatMap serV).length := by unfold serRow; simp only [List.length_append]
      have hts : (serText key).length = (num key.size).length + key.size := by unfold serText; rw [List.length_append, len_byt]
      have hku : IntKind.u64.wrap (key.size : Int) = (key.size : Int) := IntWalk.u64_in _ (by omega)
      simp [wops_cons, e1, e5, e20, e21, e22, hku]
      refine lnum_spec key.size z1 (by omega) _ fun q2 c2 z2 h2 g2 => ?_
      obtain ⟨q3, c3, z3, b1, b2, b3⟩ := oapp_sl (how1.grow g2) (hgz.trans (g8.trans g2)).n h2.sl (by omega)
      have fz3 : Fr (fun t => t = 5) σ.n z z3 := (g8.trans g2).fr.trans b3
      have nz3 := fz3.1
      have hnz := hgz.n
      obtain ⟨q4, c4, z4, d1, d2, d3⟩ := oapp_str key b2 (by omega) (by simp only [List.length_append]; omega)
      have fz4 := fz3.trans d3
      have nz4 := fz4.1
      have o84 := ((o8.grow g2).fr (T := fun t => t = 5) (by decide) b3).fr (T := fun t => t = 5) (by decide) d3
      have hchu : IntKind.u64.wrap (ch.length : Int) = (ch.length : Int) := IntWalk.u64_in _ (by omega)
      have e4 : pre ++ num key.size ++ byt key = pre ++ serText key := by rw [serText, List.append_assoc]
      rw [e4] at d2
      simp only [List.length_append] at d1 d2
      simp [wops_cons, e1, e5, e20, e21, e22, b1, d1, hchu]
      refine lnum_spec ch.length z4 (by omega) _ fun q5 c5 z5 h5 g5 => ?_
      have nz5 := g5.n
      obtain ⟨q6, c6, z6, f1, f2, f3⟩ := oapp_sl (d2.grow g5) (by omega) h5.sl (by simp only [List.length_append]; omega)
      have nz6 := f3.1
      have fz6 := (fz4.trans g5.fr).trans f3
      have o86 := (o84.grow g5).fr (T := fun t => t = 5) (by decide) f3
      have hslc := o86.sl (sz := 3) lenV
      simp only [List.length_append] at f1 f2
      simp [wops_cons, e1, e5, e20, e21, e22, f1]
      have hreg : ∀ X ∈ ch, 0 ≤ X.at_ ∧ X.at_ < 256 ∧ X.val.size < 2 ^ 30 := hvs
      refine W_loop_J (fun n a y => ∃ tm, ∃ k : Nat, ∃ vw, a = ⟨tm, 61, [], false⟩ ∧ tm.get 1 = some (.map (some m)) ∧ tm.get 5 = some vw ∧ tm.get 20 = some (.slice pD S.length cD) ∧ tm.get 21 = some (.int .i64 S.length) ∧ tm.get 22 = some (.int .i64 (j : Nat)) ∧ tm.get 44 = some (.slice p8 ch.length c8) ∧ tm.get 45 = some (.int .i64 ch.length) ∧ tm.get 46 = some (.int .i64 (k : Nat)) ∧ (k ≤ ch.length ∧ n = ch.length - k ∧ Ow σ.n y vw (pre ++ serText key ++ num ch.length ++ (ch.take k).flatMap serV) ∧ Fr (fun t => t = 5) σ.n z6 y))
        (fun out y => ∃ tm vw, out = .code (.exit 2) ⟨tm, 61, [], false⟩ ∧ tm.get 1 = some (.map (some m)) ∧ tm.get 5 = some vw ∧ tm.get 20 = some (.slice pD S.length cD) ∧ tm.get 21 = some (.int .i64 S.length) ∧ tm.get 22 = some (.int .i64 (j : Nat)) ∧ Ow σ.n y vw (pre ++ serRow (key, ch)) ∧ Fr (fun t => t = 5) σ.n z6 y) ?_ ch.length _ _ ?_ ?_
      · rintro n2 a2 y ⟨tm2, k, vw, rfl, x1, x5, x20, x21, x22, x44, x45, x46, hk, hn2, owy, fy⟩
        have fny := fy.1
        obtain ⟨pw2, cw2, rfl⟩ := owy.sl.form
        by_cases hltk : k < ch.length
        · have hltk' : (k : Int) < (ch.length : Int) := by omega
          generalize hB : pre ++ serText key ++ num ch.length ++ (ch.take k).flatMap serV = B at owy x5
          have hBl : B.length = pre.length + (serText key).length + (num ch.length).length + ((ch.take k).flatMap serV).length := by rw [← hB]; simp only [List.length_append]
          obtain ⟨jj, off, row, ro, hp8, hgy, hyn, hrow, hle⟩ := (hslc.fr (T := fun t => t = 5) (by decide) fy).at hltk
          have hld := row_get lenV hrow k hltk
          have hle3 := row_le hle k hltk
          have hw2 := i64s k (by omega)
          obtain ⟨hx0, hx1, hx2⟩ := hreg _ (List.getElem_mem hltk)
          have htv : (ch.take (k + 1)).flatMap serV = (ch.take k).flatMap serV ++ serV ch[k] := by rw [List.take_succ_eq_append_getElem hltk, List.flatMap_append]; simp
          have htvl := flat_take_le serV ch (k + 1)
          rw [htv, List.length_append] at htvl
          generalize ch[k] = X at hld hx0 hx1 hx2 htv htvl
          simp only [encV] at hld
          have hlnX := num_len10 (n := X.at_.toNat) (by omega)
          have hlvX := serVer_len X (by omega)
          have hXn : ((X.at_.toNat : Nat) : Int) = X.at_ := by omega
          have hsx : (serV X).length = (num X.at_.toNat).length + (serVer X).length := by rw [serV, List.length_append]
          have gy1 : Grow y ((y.alloc (.cells [.int .u64 0, .string ⟨#[]⟩, .bool false] 33 false)).put y.n (.cells [.int .u64 X.at_, .string X.val, .bool X.gone] 33 false)) := ⟨by simp, fun j hj => by rw [CSt.get_put, if_neg (by omega), CSt.get_alloc, if_neg (by omega)]⟩
          have ky1 : ((y.alloc (.cells [.int .u64 0, .string ⟨#[]⟩, .bool false] 33 false)).put y.n (.cells [.int .u64 X.at_, .string X.val, .bool X.gone] 33 false)).get y.n = some (.cells [.int .u64 X.at_, .string X.val, .bool X.gone] 33 false) := by simp
          have ny1 : y.n < ((y.alloc (.cells [.int .u64 0, .string ⟨#[]⟩, .bool false] 33 false)).put y.n (.cells [.int .u64 X.at_, .string X.val, .bool X.gone] 33 false)).n := by simp
          simp [wops_cons, x1, x5, x20, x21, x22, x44, x45, x46, hltk, hltk', hp8, hgy, hld, hle3]
          generalize (y.alloc (.cells [.int .u64 0, .string ⟨#[]⟩, .bool false] 33 false)).put y.n (.cells [.int .u64 X.at_, .string X.val, .bool X.gone] 33 false) = y1 at gy1 ky1 ny1
          refine W_drawn (l := [0, 1, 2, 5, 3, 4, 6, 7, 8]) (b := #[0, 0, 2, 6, 15, 0, 63, 127, 255]) (by kernel_rfl) (by kernel_rfl) (by kernel_rfl) ?_
          simp [wops_cons, dopsR_cons, opAt, isEff, again, befBits, isRead, Nat.add_assoc, Nat.testBit_eq_decide_div_mod_eq, x1, x5, x20, x21, x22, x44, x45, x46, ky1]
          have ha := lnum_spec X.at_.toNat y1 (by omega)
          rw [hXn] at ha
          refine ha _ fun q7 c7 y2 h7 g7 => ?_
          have ny2 := g7.n
          have ky2 := g7.get ky1 ny1
          obtain ⟨q8, cc8, y3, u1, u2, u3⟩ := oapp_sl ((owy.grow gy1).grow g7) (by omega) h7.sl (by omega)
          have ny3 := u3.1
          have ky3 := u3.get ky2 (by omega) (.inr fun row e ro he => by cases he; decide)
          simp [wops_cons, dopsR_cons, opAt, isEff, again, befBits, isRead, Nat.add_assoc, Nat.testBit_eq_decide_div_mod_eq, x1, x5, x20, x21, x22, x44, x45, x46, ky2, ky3, u1]
          have hlv := lver_spec X y3 (by omega)
          simp only [encV] at hlv
          refine hlv _ fun q9 c9 y4 h9 g9 => ?_
          have ny4 := g9.n
          have ky4 := g9.get ky3 (by omega)
          obtain ⟨q10, c10, y5, w1, w2, w3⟩ := oapp_sl (u2.grow g9) (by omega) h9.sl (by rw [List.length_append]; omega)
          have ky5 := w3.get ky4 (by omega) (.inr fun row e ro he => by cases he; decide)
          have hfy5 : Fr (fun t => t = 5) σ.n z6 y5 := ((((fy.trans gy1.fr).trans g7.fr).trans u3).trans g9.fr).trans w3
          simp only [List.length_append] at w1 w2
          simp [wops_cons, dopsR_cons, opAt, isEff, again, befBits, isRead, Nat.add_assoc, Nat.testBit_eq_decide_div_mod_eq, x1, x5, x20, x21, x22, x44, x45, x46, ky4, ky5, w1, hw2]
          have hall : pre ++ serText key ++ num ch.length ++ (ch.take (k + 1)).flatMap serV = B ++ num X.at_.toNat ++ serVer X := by rw [htv, ← List.append_assoc, hB, serV, ← List.append_assoc]
          refine ⟨ch.length - (k + 1), by omega, hp8, k + 1, by omega, by omega, rfl, ?_, hfy5⟩
          have := w2
          rw [← hall] at this
          simpa [List.append_assoc, Nat.add_assoc] using this
        · have hke : k = ch.length := by omega
          subst hke
          rw [List.take_of_length_le (Nat.le_refl _)] at owy x5
          have hall : pre ++ serText key ++ num ch.length ++ ch.flatMap serV = pre ++ serRow (key, ch) := by unfold serRow; simp [List.append_assoc]
          rw [hall] at owy x5
          simp [wops_cons, x1, x5, x20, x21, x22, x44, x45, x46, -List.length_flatMap]
          exact ⟨by simpa using owy, fy⟩
      · exact ⟨_, 0, .slice q6 (pre.length + (serText key).length + (num ch.length).length) c6, rfl, by simp [e1], by simp, by simp [e20], by simp [e21], by simp [e22], by simp, by simp, by simp, by omega, rfl, by simpa [Nat.add_assoc] using f2, Fr.refl _ _ _⟩
      · rintro out y ⟨tm2, vw, rfl, x1, x5, x20, x21, x22, owy, fy⟩
        simp [wops_cons, x1, x5, x20, x21, x22, hw1]
        have hall : num clock ++ num S.length ++ (S.take (j + 1)).flatMap serRow = pre ++ serRow (key, ch) := by rw [htk, ← List.append_assoc, hpr]
        rw [← hall] at owy
        exact ⟨S.length - (j + 1), by omega, hpD, j + 1, by omega, by omega, rfl, by simpa [List.append_assoc] using owy, ((hf.trans g8.fr).trans ((((g2.fr.trans b3).trans d3).trans g5.fr).trans f3)).trans fy⟩
    · have hje : j = S.length := by omega
      subst hje
      rw [List.take_of_length_le (Nat.le_refl _)] at how
      obtain ⟨pw, cw, rfl⟩ := how.sl.form
      have hQ := h _ z how hgz
      simpa [wops_cons, e1, e5, e20, e21, e22, -List.length_flatMap] using hQ
  · exact ⟨_, 0, .slice q3 ((num clock).length + (num S.length).length) c3, rfl, by simp, by simp, by simp, by simp, by simp, by omega, rfl, by simpa using ho4, Fr.refl _ _ _⟩
end Go.Sm
/- image.row: a key and its versions, read. -/
set_option linter.unusedVariables false
set_option linter.unusedSimpArgs false
namespace Go.Sm
open Go Go.Proofs
set_option maxRecDepth 100000
set_option maxHeartbeats 40000000
/-- So many versions that bytes begin with, times rising. -/
def rdChain : Nat → Int → List UInt8 → Option (List Ver × List UInt8)
  | 0, _, b => some ([], b)
  | n + 1, at_, b => (rdV b).bind fun p => if at_ < p.1.at_ ∧ p.1.at_ ≤ 2 ^ 40 then (rdChain n p.1.at_ p.2).map fun r => (p.1 :: r.1, r.2) else none
theorem rdChain_step {n : Nat} {at_ : Int} {b : List UInt8} : rdChain (n + 1) at_ b = (rdV b).bind fun p => if at_ < p.1.at_ ∧ p.1.at_ ≤ 2 ^ 40 then (rdChain n p.1.at_ p.2).map fun r => (p.1 :: r.1, r.2) else none := rfl
/-- A key behind another one, and its versions. -/
def rdRow (last : ByteArray) (b : List UInt8) : Option ((ByteArray × List Ver) × List UInt8) :=
  (rdText 32 b).bind fun p => (rd p.2).bind fun q => if klt last p.1 = true ∧ q.1 ≠ 0 ∧ q.1 ≤ q.2.length then (rdChain q.1 0 q.2).map fun r => ((p.1, r.1), r.2) else none
theorem rdV_at {b : List UInt8} {x : Ver} {r : List UInt8} (h : rdV b = some (x, r)) : 0 ≤ x.at_ ∧ x.at_ < 2 ^ 64 ∧ r.length < b.length := by
  unfold rdV at h
  cases h1 : rd b with
  | none => rw [h1] at h; cases h
  | some p =>
    rw [h1, Option.bind_some] at h
    have hb := rd_len h1
    have hp := num_pos p.1
    have h64 := (rd_some (n := p.1) (r := p.2) h1).2
    unfold rdVer at h
    cases h2 : rd p.2 with
    | none => rw [h2] at h; cases h
    | some q =>
      rw [h2, Option.bind_some] at h
      have hq := rd_len h2
      split at h
      · cases h
        exact ⟨by simp only; omega, by simp only; omega, by omega⟩
      · split at h
        · cases h
          exact ⟨by simp only; omega, by simp only; omega, by rw [List.length_drop]; omega⟩
        · cases h
theorem row_spec (b p : Nat) (last : ByteArray) (o : Option (List UInt8)) (σ : CSt) (hr : Ro b p σ o) (hb : b ≤ σ.n) (Q : Out → CSt → Prop)
    (h : ∀ (key : ByteArray) (pl : Option Addr) (n c : Nat) σ', (∀ r, o.bind (rdRow last) = some r → key = r.1.1 ∧ n = r.1.2.length ∧ Own σ.n σ' 33 encV (.slice pl n c) r.1.2) → Ro b p σ' ((o.bind (rdRow last)).map (·.2)) → Fr TR b σ σ' → Q (.ret (.tuple #[.string key, .slice pl n c]) false) σ') : W E1 (.fn 55 #[.pointer (some ⟨p, 0, none⟩), .string last] none) σ Q := by
  rw [W_fn (fn := Tryz.f55) Tryz.func55 rfl rfl rfl]
  simp [wops_cons]
  refine rtext_spec b p 32 o σ hr hb (by decide) _ fun σ1 r1 f1 => ?_
  obtain ⟨key, hkey⟩ : ∃ key, ((o.bind (rdText 32)).map (·.1)).getD (str []) = key := ⟨_, rfl⟩
  rw [hkey]
  have fn1 := f1.1
  simp [wops_cons]
  refine rnum_spec b p _ σ1 r1 (by omega) _ fun n σ2 hn hn64 r2 f2 => ?_
  have fn2 := f2.1
  have f02 := f1.trans f2
  -- what is left to be read, if all was well
  obtain ⟨o3, hd3, v2, bad0, hg2, hb3, h3, f3⟩ : ∃ o3 : Option (List UInt8), (o.bind (rdRow last) = o3.bind fun rest => (rdChain n 0 rest).map fun r => ((key, r.1), r.2)) ∧ ∃ v2 bad0, σ2.get p = some (.cells [v2, .bool bad0] 41 false) ∧ (∃ l2 : List UInt8, (∃ q c, v2 = .slice q l2.length c) ∧ l2.length < 2 ^ 40 ∧ o3.isNone = (bad0 || (!klt last key || decide ((n : Int) = 0) || decide ((l2.length : Int) < (n : Int))))) ∧ Ro b p (σ2.put p (.cells [v2, .bool o3.isNone] 41 false)) o3 ∧ Fr TR b σ2 (σ2.put p (.cells [v2, .bool o3.isNone] 41 false)) := by
    obtain ⟨v2, l2, hg2, hbp2, hpn2, hsl2, hol2, hbig2⟩ := r2
    obtain ⟨q2, c2, rfl⟩ := hsl2.form
    cases ho : o.bind (rdText 32) with
    | none =>
      rw [ho] at hg2
      obtain ⟨c1, c2⟩ := Ro.back hg2 hbp2 hpn2 hsl2 hbig2 none (by simp)
      refine ⟨none, ?_, _, _, hg2, ⟨l2, ⟨_, _, rfl⟩, hbig2, by simp⟩, c1, c2⟩
      cases o with
      | none => rfl
      | some m => simp only [Option.bind_some] at ho ⊢; unfold rdRow; rw [ho]; rfl
    | some q1 =>
      rw [ho] at hg2 hkey hn hol2
      obtain rfl : q1.1 = key := hkey
      simp only [Option.map_some, Option.bind_some] at hg2 hn hol2
      have hoo : o.bind (rdRow last) = (rd q1.2).bind fun q => if klt last q1.1 = true ∧ q.1 ≠ 0 ∧ q.1 ≤ q.2.length then (rdChain q.1 0 q.2).map fun r => ((q1.1, r.1), r.2) else none := by
        cases o with
        | none => cases ho
        | some m => simp only [Option.bind_some] at ho ⊢; unfold rdRow; rw [ho]; rfl
      cases hr2 : rd q1.2 with
      | none =>
        rw [hr2] at hg2 hoo
        obtain ⟨c1, c2⟩ := Ro.back hg2 hbp2 hpn2 hsl2 hbig2 none (by simp)
        exact ⟨none, hoo, _, _, hg2, ⟨l2, ⟨_, _, rfl⟩, hbig2, by simp⟩, c1, c2⟩
      | some q3 =>
        rw [hr2] at hg2 hn hol2 hoo
        simp only [Option.map_some, Option.getD_some, Option.bind_some] at hg2 hn hol2 hoo
        subst hn
        have hl2 := hol2 _ rfl
        by_cases hc : klt last q1.1 = true ∧ q3.1 ≠ 0 ∧ q3.1 ≤ q3.2.length
        · rw [if_pos hc] at hoo
          obtain ⟨c1, c2⟩ := Ro.back hg2 hbp2 hpn2 hsl2 hbig2 (some q3.2) hol2
          have e2 : ¬ ((q3.1 : Int) = 0) := by omega
          have e3 : ¬ ((l2.length : Int) < (q3.1 : Int)) := by rw [hl2]; omega
          exact ⟨some q3.2, hoo, _, _, hg2, ⟨l2, ⟨_, _, rfl⟩, hbig2, by rw [hc.1, decide_eq_false e2, decide_eq_false e3]; rfl⟩, c1, c2⟩
        · rw [if_neg hc] at hoo
          obtain ⟨c1, c2⟩ := Ro.back hg2 hbp2 hpn2 hsl2 hbig2 none (by simp)
          refine ⟨none, hoo, _, _, hg2, ⟨l2, ⟨_, _, rfl⟩, hbig2, ?_⟩, c1, c2⟩
          cases hk : klt last q1.1 with
          | false => simp
          | true =>
            have hc' : ¬ (q3.1 ≠ 0 ∧ q3.1 ≤ q3.2.length) := fun h => hc ⟨hk, h⟩
            have : (q3.1 : Int) = 0 ∨ (l2.length : Int) < (q3.1 : Int) := by rw [hl2]; omega
            rcases this with h | h
            · rw [decide_eq_true h]; simp
            · rw [decide_eq_true h]; simp
  obtain ⟨l2, ⟨q2, c2, rfl⟩, hbig2, hb3⟩ := hb3
  have hpb : b ≤ p ∧ p < σ2.n := by obtain ⟨_, _, _, x, y, _⟩ := r2; exact ⟨x, y⟩
  have hlu : IntKind.u64.wrap (l2.length : Int) = (l2.length : Int) := IntWalk.u64_in _ (by omega)
  have fn3 := f3.1
  generalize hs3 : σ2.put p (.cells [.slice q2 l2.length c2, .bool o3.isNone] 41 false) = σ3 at h3 f3 fn3
  have f03 := f02.trans f3
  simp [wops_cons, -W_region]
  refine W_cut (fun out s => ∃ tm, out = .code .normal ⟨tm, 82, [], false⟩ ∧ tm.get 0 = some (.pointer (some ⟨p, 0, none⟩)) ∧ tm.get 6 = some (.string key) ∧ tm.get 7 = some (.int .u64 (n : Nat)) ∧ s = σ3) ?_ ?_
  · rw [W_region]
    have hkb := kle_eq key last
    cases bad0 with
    | true =>
      rw [hb3] at hs3
      simp [wops_cons, wops_if', dstOf, hg2]
      exact hs3
    | false =>
      rw [Bool.false_or] at hb3
      rw [hb3] at hs3
      cases hk : klt last key with
      | false =>
        rw [hk] at hkb hs3
        simp [wops_cons, wops_if', dstOf, hg2, hkb]
        simpa using hs3
      | true =>
        rw [hk] at hkb hs3
        by_cases e2 : (n : Int) = 0
        · rw [decide_eq_true e2] at hs3
          have e2' : n = 0 := by omega
          simp [wops_cons, wops_if', dstOf, hg2, hkb, e2']
          simpa using hs3
        · have e2' : ¬ n = 0 := by omega
          by_cases e3 : (l2.length : Int) < (n : Int)
          · rw [decide_eq_true e3] at hs3
            simp [wops_cons, wops_if', dstOf, hg2, hkb, e2', e3, hlu]
            simpa using hs3
          · rw [decide_eq_false e2, decide_eq_false e3] at hs3
            simp [wops_cons, wops_if', dstOf, hg2, hkb, e2', e3, hlu]
            simpa using hs3
  · rintro out s ⟨tm, rfl, t0, t6, t7, rfl⟩
    simp [wops_cons, t0, t6, t7]
    have hnl : o3.isSome = true → n < 2 ^ 40 := fun hs => by
      rw [Option.isNone_eq_false_iff.2 hs] at hb3
      simp at hb3
      omega
    have hrow : ∀ r, o.bind (rdRow last) = some r → r.1.1 = key := by
      intro r hr
      rw [hd3] at hr
      cases o3 with
      | none => cases hr
      | some rest =>
        simp only [Option.bind_some] at hr
        obtain ⟨x, _, rfl⟩ := Option.map_eq_some_iff.1 hr
        rfl
    refine W_loop_inv (fun k a s => ∃ tm, ∃ i : Nat, ∃ at_ : Int, ∃ o' done wv, a = ⟨tm, 82, [], false⟩ ∧ tm.get 0 = some (.pointer (some ⟨p, 0, none⟩)) ∧ tm.get 6 = some (.string key) ∧ tm.get 7 = some (.int .u64 (n : Nat)) ∧ tm.get 8 = some wv ∧ tm.get 9 = some (.int .u64 at_) ∧ tm.get 10 = some (.int .u64 (i : Nat)) ∧
      (i ≤ n ∧ k = n - i ∧ (o.bind (rdRow last) = Option.bind o' fun rest => (rdChain (n - i) at_ rest).map fun r => ((key, done ++ r.1), r.2)) ∧ Own σ.n s 33 encV wv done ∧ done.length = i ∧ i ≤ 2 ^ 40 ∧ Ro b p s o' ∧ Fr TR b σ s ∧ (o'.isSome = true → n < 2 ^ 40))) ?_ n _ _ ?_
    · rintro k a s ⟨tm, i, at_, o', done, wv, rfl, t0, t6, t7, t8, t9, t10, hi, hk, hde, hown, hdl, hil, hro, hf, hol⟩
      obtain ⟨pw, cw, rfl⟩ := (hown.sl (sz := 3) lenV).form
      have fns := hf.1
      by_cases hlt : i < n
      · have hlt' : (i : Int) < (n : Int) := by omega
        cases o' with
        | none =>
          obtain ⟨v4, l4, hg4, _⟩ := id hro
          simp only [Option.isNone_none] at hg4
          have hQ := h key pw done.length cw s (fun r hr => by rw [hde] at hr; cases hr) (by rw [hde]; exact hro) hf
          simpa [wops_cons, wops_if', dstOf, t0, t6, t7, t8, t9, t10, hlt, hlt', hg4] using hQ
        | some rest =>
          obtain ⟨v4, l4, hg4, hbp4, hpn4, hsl4, hol4, hbig4⟩ := id hro
          simp only [Option.isNone_some] at hg4
          have hn40 := hol rfl
          obtain ⟨m, hm⟩ : ∃ m, n - i = m + 1 := ⟨n - i - 1, by omega⟩
          simp [wops_cons, wops_if', dstOf, t0, t6, t7, t8, t9, t10, hlt, hlt', hg4]
          refine rreadv_spec b p _ s hro (by omega) _ fun x s1 hx r1 f1 => ?_
          rw [Option.bind_some] at r1 hx
          rw [Option.bind_some, hm, rdChain_step] at hde
          have fn1' := f1.1
          obtain ⟨v5, l5, hg5, hbp5, hpn5, hsl5, hol5, hbig5⟩ := id r1
          obtain ⟨q5, c5, rfl⟩ := hsl5.form
          -- what is left behind this one
          obtain ⟨o2, hd2, hb2, h2⟩ : ∃ o2 : Option (List UInt8), (o.bind (rdRow last) = o2.bind fun rest => (rdChain m x.at_ rest).map fun r => ((key, (done ++ [x]) ++ r.1), r.2)) ∧ (o2.isNone = ((Option.map (·.2) (rdV rest)).isNone || (decide (x.at_ ≤ at_) || decide (1099511627776 < x.at_)))) ∧ (∀ m', o2 = some m' → l5 = m') := by
            cases hv : rdV rest with
            | none =>
              rw [hv] at hde
              exact ⟨none, hde, by simp, by simp⟩
            | some q =>
              obtain rfl := hx q.1 q.2 hv
              rw [hv, Option.bind_some] at hde
              rw [hv] at hol5
              by_cases hc : at_ < q.1.at_ ∧ q.1.at_ ≤ 2 ^ 40
              · rw [if_pos hc] at hde
                refine ⟨some q.2, ?_, ?_, hol5⟩
                · rw [hde, Option.bind_some]
                  cases rdChain m q.1.at_ q.2 with
                  | none => rfl
                  | some r => simp
                · rw [decide_eq_false (by omega), decide_eq_false (by omega)]; rfl
              · rw [if_neg hc] at hde
                refine ⟨none, hde, ?_, by simp⟩
                have : q.1.at_ ≤ at_ ∨ 1099511627776 < q.1.at_ := by omega
                rcases this with h | h
                · rw [decide_eq_true h]; rfl
                · rw [decide_eq_true h]; simp
          have own1 := hown.fr (T := TR) (by decide) f1
          have hpn1 : ¬ (p = s1.n) := by omega
          have hpn2 : ¬ (s1.n = p) := by omega
          have g1 : Grow s1 ((s1.alloc (.cells [.int .u64 0, .string ⟨#[]⟩, .bool false] 33 false)).put s1.n (.cells (encV x) 33 false)) := ⟨by simp, fun j hj => by rw [CSt.get_put, if_neg (by omega), CSt.get_alloc, if_neg (by omega)]⟩
          have k11 : ((s1.alloc (.cells [.int .u64 0, .string ⟨#[]⟩, .bool false] 33 false)).put s1.n (.cells (encV x) 33 false)).get s1.n = some (.cells (encV x) 33 false) := by simp
          have n11 : s1.n < ((s1.alloc (.cells [.int .u64 0, .string ⟨#[]⟩, .bool false] 33 false)).put s1.n (.cells (encV x) 33 false)).n := by simp
          have hg5' := g1.get hg5 hpn5
          simp only [encV] at g1 k11 n11 hg5'
          simp [wops_cons, encV, t0, t6, t7, t8, t9, t10, -W_region]
          have own2 := own1.grow g1
          generalize (s1.alloc (.cells [.int .u64 0, .string ⟨#[]⟩, .bool false] 33 false)).put s1.n (.cells [.int .u64 x.at_, .string x.val, .bool x.gone] 33 false) = s2 at g1 k11 n11 hg5' own2
          have gn1 := g1.n
          obtain ⟨h2b, f2b⟩ := Ro.back hg5' hbp5 (by omega) (hsl5.grow g1) hbig5 o2 h2
          refine W_cut (fun out z => ∃ tm, out = .code .normal ⟨tm, 82, [], false⟩ ∧ tm.get 0 = some (.pointer (some ⟨p, 0, none⟩)) ∧ tm.get 6 = some (.string key) ∧ tm.get 7 = some (.int .u64 (n : Nat)) ∧ tm.get 8 = some (.slice pw done.length cw) ∧ tm.get 10 = some (.int .u64 (i : Nat)) ∧ tm.get 11 = some (.pointer (some ⟨s1.n, 0, none⟩)) ∧ z = s2.put p (.cells [.slice q5 l5.length c5, .bool o2.isNone] 41 false)) ?_ ?_
          · rw [W_region]
            cases hv : rdV rest with
            | none =>
              rw [hv] at hg5' hb2
              simp only [Option.map_none, Option.isNone_none] at hg5' hb2
              rw [Bool.true_or] at hb2
              simp [wops_cons, wops_if', dstOf, encV, t0, t6, t7, t8, t9, t10, hg5', hb2]
            | some q =>
              rw [hv] at hg5' hb2
              simp only [Option.map_some, Option.isNone_some] at hg5' hb2
              rw [Bool.false_or] at hb2
              by_cases e1 : x.at_ ≤ at_
              · rw [decide_eq_true e1] at hb2
                simp [wops_cons, wops_if', dstOf, encV, t0, t6, t7, t8, t9, t10, hg5', hb2, k11, e1]
              · by_cases e2 : 1099511627776 < x.at_
                · rw [decide_eq_true e2] at hb2
                  simp [wops_cons, wops_if', dstOf, encV, t0, t6, t7, t8, t9, t10, hg5', hb2, k11, e1, e2]
                · rw [decide_eq_false e1, decide_eq_false e2] at hb2
                  simp [wops_cons, wops_if', dstOf, encV, t0, t6, t7, t8, t9, t10, hg5', hb2, k11, e1, e2]
          rintro out z ⟨tm, rfl, t0, t6, t7, t8, t10, t11, rfl⟩
          have k11b : (s2.put p (.cells [.slice q5 l5.length c5, .bool o2.isNone] 41 false)).get s1.n = some (.cells [.int .u64 x.at_, .string x.val, .bool x.gone] 33 false) := by rw [CSt.get_put, if_neg hpn2]; exact k11
          have own3 := own2.fr (T := TR) (by decide) f2b
          have nz : s2.n = (s2.put p (.cells [.slice q5 l5.length c5, .bool o2.isNone] 41 false)).n := rfl
          generalize s2.put p (.cells [.slice q5 l5.length c5, .bool o2.isNone] 41 false) = z at h2b f2b k11b own3 nz
          obtain ⟨p9, c9, s9, a1, a2, a3, a4⟩ := app_ver (ts := #[72, 72]) (x := x) ef72 (by simp) rfl rfl rfl own3 (by omega) (by omega)
          simp [encV] at a1
          have f9 : Fr (fun t => t = 33) σ.n z s9 := own3.z.frV a3
          have k11c : s9.get s1.n = some (.cells [.int .u64 x.at_, .string x.val, .bool x.gone] 33 false) := by
            rw [a3.2 _ (by omega)]
            · exact k11b
            · intro e
              have := own1.obj_lt e
              omega
          have hn9 : ¬ (s1.n = z.n) := by omega
          simp [wops_cons, t0, t6, t7, t8, t10, t11]
          refine W_drawn (l := [0, 1, 2, 3, 4, 5, 6, 7]) (b := #[0, 1, 0, 0, 8, 28, 63, 127]) (by kernel_rfl) (by kernel_rfl) (by kernel_rfl) ?_
          have hw := IntWalk.u64_in ((i : Int) + 1) (by omega)
          simp [wops_cons, dopsR_cons, opAt, isEff, again, befBits, isRead, Nat.add_assoc, Nat.testBit_eq_decide_div_mod_eq, t0, t6, t7, t8, t10, t11, k11b, k11c, a1, hn9, hw]
          have fpre := ((hf.trans f1).trans g1.fr).trans f2b
          have fn9 := f9.1
          have fall : Fr TR b σ s9 := ⟨Nat.le_trans fpre.1 fn9, fun j hj hc => by rw [f9.2 j (Nat.lt_of_lt_of_le hj fpre.1) (.inl hj), fpre.2 j hj hc]⟩
          refine ⟨n - (i + 1), by omega, i + 1, by omega, by omega, rfl, o2, done ++ [x], ?_, a2, by simp [hdl], by omega, h2b.fr (T := fun t => t = 33) (by decide) (by decide) f9, fall, fun _ => hn40⟩
          rw [hd2, show n - (i + 1) = m by omega]
      · have hin : i = n := by omega
        subst hin
        rw [Nat.sub_self] at hde
        have hQ := h key pw done.length cw s (fun r hr => by
          rw [hde] at hr
          cases o' with
          | none => cases hr
          | some rest =>
            simp only [Option.bind_some, rdChain, Option.map_some, List.append_nil] at hr
            cases hr
            exact ⟨rfl, rfl, hown⟩) (by
          rw [hde]
          cases o' with
          | none => exact hro
          | some rest => simpa [rdChain] using hro) hf
        simpa [wops_cons, wops_if', dstOf, t0, t6, t7, t8, t9, t10] using hQ
    · exact ⟨_, 0, 0, o3, [], .slice none 0 0, rfl, by simp [t0], by simp [t6], by simp [t7], by simp, by simp, by simp, by omega, rfl, by simpa using hd3, Own.nil, rfl, by omega, h3, f03, hnl⟩
end Go.Sm
/- Images as bytes, plain. -/
set_option linter.unusedVariables false
set_option linter.unusedSimpArgs false
namespace Go.Sm
/-- The last version's time. -/
def lastT (c : List Ver) : Int := (c.getLast?.map (·.at_)).getD 0
/-- So many rows that bytes begin with, keys rising, none of them late. -/
def decRows (clock : Nat) : Nat → ByteArray → List UInt8 → Option (Stl × List UInt8)
  | 0, _, b => some ([], b)
  | n + 1, last, b => (rdRow last b).bind fun p => if lastT p.1.2 ≤ clock then (decRows clock n p.1.1 p.2).map fun r => (p.1 :: r.1, r.2) else none
theorem decRows_step {clock n : Nat} {last : ByteArray} {b : List UInt8} : decRows clock (n + 1) last b = (rdRow last b).bind fun p => if lastT p.1.2 ≤ clock then (decRows clock n p.1.1 p.2).map fun r => (p.1 :: r.1, r.2) else none := rfl
/-- The clock and the store whose bytes these are. -/
def decS (b : List UInt8) : Option (Nat × Stl) :=
  (rd b).bind fun p => (rd p.2).bind fun q => if p.1 ≤ 2 ^ 40 ∧ q.1 ≤ b.length then (decRows p.1 q.1 (str []) q.2).bind fun r => if r.2 = [] then some (p.1, r.1) else none else none
/-- A version of a time behind all others is put. -/
theorem putL_snoc {c : List Ver} {x : Ver} (h : ∀ y ∈ c, y.at_ < x.at_) : putL c x = c ++ [x] := by
  unfold putL
  have h1 : (c.filter fun u => decide (u.at_ < x.at_)) = c := List.filter_eq_self.2 fun y hy => by simpa using h y hy
  have h2 : (c.filter fun u => decide (x.at_ < u.at_)) = [] := List.filter_eq_nil_iff.2 fun y hy => by have := h y hy; simp; omega
  rw [h1, h2]
theorem pos_end {D : Stl} {k : ByteArray} {n : Nat} (hD : ∀ s ∈ D, klt s.1 k = true) (hp : Pos D k n) : n = D.length := by
  have h1 := hp.le
  rcases Nat.lt_or_ge n D.length with h | h
  · have := hp.hi n h (Nat.le_refl _)
    rw [hD _ (List.getElem_mem h)] at this
    cases this
  · omega
theorem put_first {D : Stl} {k : ByteArray} {x : Ver} {n : Nat} (hD : ∀ s ∈ D, klt s.1 k = true) (hp : Pos D k n) : putAt D k x n = D ++ [(k, [x])] := by
  obtain rfl := pos_end hD hp
  unfold putAt
  rw [List.getElem?_eq_none (Nat.le_refl _)]
  simp [putL]
theorem put_next {D : Stl} {k : ByteArray} {c : List Ver} {x : Ver} {n : Nat} (hD : ∀ s ∈ D, klt s.1 k = true) (hc : ∀ y ∈ c, y.at_ < x.at_) (hp : Pos (D ++ [(k, c)]) k n) : putAt (D ++ [(k, c)]) k x n = D ++ [(k, c ++ [x])] := by
  have h1 := hp.le
  rw [List.length_append] at h1
  simp only [List.length_cons, List.length_nil] at h1
  have hn : n = D.length := by
    rcases Nat.lt_or_ge n D.length with h | h
    · have := hp.hi n (by simp; omega) (Nat.le_refl _)
      rw [List.getElem_append_left h, hD _ (List.getElem_mem h)] at this
      cases this
    · rcases Nat.eq_or_lt_of_le h with h | h
      · exact h.symm
      · have := hp.lo D.length (by simp) h
        rw [List.getElem_append_right (Nat.le_refl _)] at this
        simp [klt_irrefl] at this
  subst hn
  unfold putAt
  rw [List.getElem?_append_right (Nat.le_refl _)]
  simp [putL_snoc hc]
/-- What rows are read. -/
theorem rdChain_ok : ∀ {n : Nat} {at_ : Int} {b : List UInt8} {c : List Ver} {r : List UInt8}, rdChain n at_ b = some (c, r) → c.length = n ∧ Srt c ∧ (∀ x ∈ c, at_ < x.at_ ∧ x.at_ ≤ 2 ^ 40) ∧ r.length + n ≤ b.length
  | 0, at_, b, c, r, h => by
    cases h
    exact ⟨rfl, List.Pairwise.nil, fun _ h => absurd h (by simp), Nat.le_refl _⟩
  | n + 1, at_, b, c, r, h => by
    rw [rdChain_step] at h
    cases h1 : rdV b with
    | none => rw [h1] at h; cases h
    | some p =>
      rw [h1, Option.bind_some] at h
      have hl := (rdV_at (x := p.1) (r := p.2) h1).2.2
      split at h
      · rename_i hc
        obtain ⟨q, hq, e⟩ := Option.map_eq_some_iff.1 h
        cases e
        obtain ⟨k1, k2, k3, k4⟩ := rdChain_ok (c := q.1) (r := q.2) hq
        refine ⟨by rw [List.length_cons, k1], List.pairwise_cons.2 ⟨fun y hy => (k3 y hy).1, k2⟩, fun x hx => ?_, by omega⟩
        rcases List.mem_cons.1 hx with rfl | hx
        · exact hc
        · have := k3 x hx
          exact ⟨by omega, this.2⟩
      · cases h
theorem rdRow_ok {last : ByteArray} {b : List UInt8} {s : ByteArray × List Ver} {r : List UInt8} (h : rdRow last b = some (s, r)) : klt last s.1 = true ∧ s.2 ≠ [] ∧ Srt s.2 ∧ s.1.size ≤ 32 ∧ (∀ x ∈ s.2, 0 < x.at_ ∧ x.at_ ≤ 2 ^ 40) ∧ r.length + s.2.length ≤ b.length := by
  unfold rdRow at h
  cases h1 : rdText 32 b with
  | none => rw [h1] at h; cases h
  | some p =>
    rw [h1, Option.bind_some] at h
    have hp : p.1.size ≤ 32 ∧ p.2.length ≤ b.length := by
      unfold rdText at h1
      cases h2 : rd b with
      | none => rw [h2] at h1; cases h1
      | some q =>
        rw [h2, Option.bind_some] at h1
        have := rd_len h2
        split at h1
        · rename_i hc
          cases h1
          exact ⟨by simp only [size_str, List.length_take]; omega, by simp only [List.length_drop]; omega⟩
        · cases h1
    cases h2 : rd p.2 with
    | none => rw [h2] at h; cases h
    | some q =>
      rw [h2, Option.bind_some] at h
      have hq := rd_len h2
      split at h
      · rename_i hc
        obtain ⟨x, hx, e⟩ := Option.map_eq_some_iff.1 h
        cases e
        obtain ⟨k1, k2, k3, k4⟩ := rdChain_ok (c := x.1) (r := x.2) hx
        refine ⟨hc.1, fun e => ?_, k2, hp.1, k3, by simp only; omega⟩
        simp only at e
        rw [e] at k1
        exact hc.2.1 k1.symm
      · cases h
end Go.Sm
/- image.Decode. -/
set_option linter.unusedVariables false
set_option linter.unusedSimpArgs false
namespace Go.Sm
open Go Go.Proofs
set_option maxRecDepth 100000
set_option maxHeartbeats 40000000
def RetI (b : Nat) (σ : CSt) (o : Option (Nat × Stl)) (v : Value) : Prop := match o with
  | none => v = .tuple #[.int .u64 0, .pointer none, .int .i64 10]
  | some q => ∃ i, v = .tuple #[.int .u64 q.1, .pointer (some ⟨i, 0, none⟩), .int .i64 0] ∧ St b σ i q.2
theorem Fr.kept {b : Nat} {σ σ' : CSt} (f : Fr TR b σ σ') : Kept σ σ' :=
  ⟨f.1, fun m hm row e ro hg he => f.2 m hm (.inr fun row' e' ro' hg' ht => by
    rw [hg] at hg'
    cases hg'
    rcases he with rfl | rfl | rfl | rfl <;> exact absurd ht (by decide))⟩
/-- The store once some of a row's versions are put. -/
def partS (D : Stl) (key : ByteArray) (ch : List Ver) (k : Nat) : Stl := if k = 0 then D else D ++ [(key, ch.take k)]
theorem srt_take {ch : List Ver} (h : Srt ch) (k : Nat) : Srt (ch.take k) := List.Pairwise.sublist (List.take_sublist k ch) h
theorem srt_lt {ch : List Ver} (h : Srt ch) (k : Nat) (hk : k < ch.length) : ∀ y ∈ ch.take k, y.at_ < ch[k].at_ := by
  intro y hy
  obtain ⟨j, hj, rfl⟩ := List.getElem_of_mem hy
  rw [List.length_take] at hj
  rw [List.getElem_take]
  exact List.pairwise_iff_getElem.1 h j k (by omega) hk (by omega)
theorem partS_ks {D : Stl} {key : ByteArray} {ch : List Ver} (hk : KS D) (hD : ∀ s ∈ D, klt s.1 key = true) (k : Nat) : KS (partS D key ch k) := by
  unfold partS
  split
  · exact hk
  · refine List.pairwise_append.2 ⟨hk, List.pairwise_singleton _ _, fun x hx y hy => ?_⟩
    obtain rfl := List.mem_singleton.1 hy
    exact hD x hx
theorem partS_all {D : Stl} {key : ByteArray} {ch : List Ver} {n : Nat} (hD : ∀ s ∈ D, Srt s.2 ∧ s.2.length ≤ n) (hc : Srt ch) (hn : ch.length ≤ n) (k : Nat) : ∀ s ∈ partS D key ch k, Srt s.2 ∧ s.2.length ≤ n := by
  intro s hs
  unfold partS at hs
  split at hs
  · exact hD s hs
  · rcases List.mem_append.1 hs with hs | hs
    · exact hD s hs
    · obtain rfl := List.mem_singleton.1 hs
      exact ⟨srt_take hc k, by simp only [List.length_take]; omega⟩
theorem partS_step {D : Stl} {key : ByteArray} {ch : List Ver} (hD : ∀ s ∈ D, klt s.1 key = true) (hc : Srt ch) {k n : Nat} (hk : k < ch.length) (hp : Pos (partS D key ch k) key n) : putAt (partS D key ch k) key ch[k] n = partS D key ch (k + 1) := by
  have e : partS D key ch (k + 1) = D ++ [(key, ch.take k ++ [ch[k]])] := by
    unfold partS
    rw [if_neg (by omega), List.take_succ_eq_append_getElem hk]
  rw [e]
  unfold partS at hp ⊢
  by_cases h0 : k = 0
  · subst h0
    rw [if_pos rfl] at hp ⊢
    rw [put_first hD hp]
    rfl
  · rw [if_neg h0] at hp ⊢
    exact put_next hD (srt_lt hc k hk) hp
theorem partS_len {D : Stl} {key : ByteArray} {ch : List Ver} (k : Nat) : (partS D key ch k).length ≤ D.length + 1 := by
  unfold partS
  split
  · omega
  · simp
theorem St.weaken {b b' : Nat} {σ : CSt} {i : Nat} {S : Stl} (h : St b σ i S) (hb : b' ≤ b) : St b' σ i S := by
  obtain ⟨vr, R, h1, h2, h3, h4, h5⟩ := h
  exact ⟨vr, R, by omega, h2, h3, h4.weaken hb, h5⟩
def TS : TypeId → Prop := fun t => TR t ∨ stT t
def finS (clock : Nat) (D : Stl) (r : Stl × List UInt8) : Option (Nat × Stl) := if r.2 = [] then some (clock, D ++ r.1) else none
theorem imgdec_spec (l : List UInt8) (v : Value) (σ : CSt) (hsl : Sl σ 5 1 encY v l) (hbig : l.length < 2 ^ 35) (Q : Out → CSt → Prop)
    (h : ∀ r σ', RetI σ.n σ' (decS l) r → Grow σ σ' → Q (.ret r false) σ') : W E1 (.fn 30 #[v] none) σ Q := by
  rw [W_fn (fn := Tryz.f30) Tryz.func30 rfl rfl rfl]
  obtain ⟨pv, cv, rfl⟩ := hsl.form
  simp [wops_cons]
  have g0 : Grow σ (σ.alloc (.cells [.slice pv l.length cv, .bool false] 41 false)) := (Grow.refl σ).alloc _
  have hr0 : Ro σ.n σ.n (σ.alloc (.cells [.slice pv l.length cv, .bool false] 41 false)) (some l) := ⟨_, l, by simp, by omega, by simp, hsl.grow g0, by simp, by omega⟩
  refine rnum_spec σ.n σ.n (some l) _ hr0 (by simp) _ fun clock σ1 hcl hcl64 h1 f1 => ?_
  have fn1 := f1.1
  simp at fn1
  simp [wops_cons]
  refine rnum_spec σ.n σ.n _ σ1 h1 (by omega) _ fun n σ2 hn hn64 h2 f2 => ?_
  have fn2 := f2.1
  have f02 : Fr TR σ.n σ σ2 := (g0.fr.trans f1).trans f2
  simp [wops_cons]
  refine new_spec σ2 _ fun σ3 hst g3 => ?_
  have fn3 := g3.n
  have hst0 : St σ.n σ3 σ2.n [] := hst.weaken (by omega)
  have h3 := h2.grow g3
  have f03 := f02.trans g3.fr
  have hlu : IntKind.u64.wrap (l.length : Int) = (l.length : Int) := IntWalk.u64_in _ (by omega)
  -- was it none?
  obtain ⟨v3, l3, kr, hbp3, hpn3, hsl3, hol3, hbig3⟩ := id h3
  obtain ⟨q3, c3, rfl⟩ := hsl3.form
  obtain ⟨bad, hb1, hb2, hb3⟩ : ∃ bad : Bool, bad = ((Option.map (fun x => x.snd) ((Option.map (fun x => x.snd) ((some l).bind rd)).bind rd)).isNone || (decide (1099511627776 < (clock : Int)) || decide ((l.length : Int) < (n : Int)))) ∧ (bad = true → decS l = none) ∧ (bad = false → clock ≤ 2 ^ 40 ∧ n ≤ l.length ∧ ∃ rest, Option.map (fun x => x.snd) ((Option.map (fun x => x.snd) ((some l).bind rd)).bind rd) = some rest ∧ rest.length ≤ l.length ∧ decS l = (decRows clock n (str []) rest).bind (finS clock [])) := by
    refine ⟨_, rfl, ?_, ?_⟩
    · intro hb
      unfold decS
      cases e1 : rd l with
      | none => rfl
      | some q1 =>
        rw [Option.bind_some, e1] at hb hcl hn
        simp only [Option.map_some, Option.getD_some, Option.bind_some] at hb hcl hn
        rw [Option.bind_some]
        cases e2 : rd q1.2 with
        | none => rfl
        | some q2 =>
          rw [e2] at hb hn
          simp only [Option.map_some, Option.getD_some, Option.isNone_some, Bool.false_or, Bool.or_eq_true, decide_eq_true_eq] at hb hn
          rw [Option.bind_some, if_neg (by omega)]
    · intro hb
      unfold decS
      cases e1 : rd l with
      | none => rw [Option.bind_some, e1] at hb; cases hb
      | some q1 =>
        rw [Option.bind_some, e1] at hb hcl hn
        simp only [Option.map_some, Option.getD_some, Option.bind_some] at hb hcl hn ⊢
        cases e2 : rd q1.2 with
        | none => rw [e2] at hb; cases hb
        | some q2 =>
          rw [e2] at hb hn
          simp only [Option.map_some, Option.getD_some, Option.isNone_some, Bool.false_or, Bool.or_eq_false_iff, decide_eq_false_iff_not] at hb hn
          have k1 := rd_len e1
          have k2 := rd_len e2
          refine ⟨by omega, by omega, q2.2, by rw [e1]; simp only [Option.map_some, Option.bind_some, e2], by omega, ?_⟩
          rw [Option.bind_some, if_pos (by omega), hcl, hn]
          rfl
  generalize hoo : Option.map (fun x => x.snd) ((Option.map (fun x => x.snd) ((some l).bind rd)).bind rd) = oo at *
  -- nothing of it
  have hnone : decS l = none → ∀ s, Grow σ s → Q (.ret (.tuple #[.int .u64 0, .pointer none, .int .i64 10]) false) s := fun hd s hg => h _ s (by rw [hd]; rfl) hg
  simp [wops_cons, -W_region]
  refine W_cut (fun out s => ∃ tm, out = .code .normal ⟨tm, 78, [], false⟩ ∧ tm.get 5 = some (.pointer (some ⟨σ.n, 0, none⟩)) ∧ tm.get 6 = some (.int .u64 (clock : Nat)) ∧ tm.get 7 = some (.int .u64 (n : Nat)) ∧ tm.get 8 = some (.pointer (some ⟨σ2.n, 0, none⟩)) ∧ tm.get 9 = some (.string (str [])) ∧ tm.get 36 = some (.bool bad) ∧ s = σ3) ?_ ?_
  · rw [W_region, hb1]
    cases oo with
    | none =>
      simp only [Option.isNone_none] at kr
      simp [wops_cons, wops_if', dstOf, kr, str]
    | some rest =>
      simp only [Option.isNone_some] at kr
      by_cases e1 : 1099511627776 < (clock : Int)
      · simp [wops_cons, wops_if', dstOf, kr, e1, str]
      · by_cases e2 : (l.length : Int) < (n : Int)
        · simp [wops_cons, wops_if', dstOf, kr, e1, e2, hlu, str]
        · simp [wops_cons, wops_if', dstOf, kr, e1, e2, hlu, str]
  rintro out s ⟨tm, rfl, t5, t6, t7, t8, t9, t36, rfl⟩
  cases bad with
  | true =>
    have hQ := hnone (hb2 rfl) s (f03.grow (Nat.le_refl _))
    simpa [wops_cons, kscope, findLabel, t36] using hQ
  | false =>
    obtain ⟨hcle, hnl, rest, rfl, hrl, hde⟩ := hb3 rfl
    clear hb1 hb2 hb3
    simp [wops_cons, t5, t6, t7, t8, t9, t36]
    refine W_loop_J (fun k a z => ∃ tm, ∃ i : Nat, ∃ last rest D, a = ⟨tm, 78, [], false⟩ ∧ tm.get 5 = some (.pointer (some ⟨σ.n, 0, none⟩)) ∧ tm.get 6 = some (.int .u64 (clock : Nat)) ∧ tm.get 8 = some (.pointer (some ⟨σ2.n, 0, none⟩)) ∧ tm.get 9 = some (.string last) ∧ tm.get 37 = some (.int .u64 (n : Nat)) ∧ tm.get 38 = some (.int .u64 (i : Nat)) ∧
      (i ≤ n ∧ k = n - i ∧ Ro σ.n σ.n z (some rest) ∧ St σ.n z σ2.n D ∧ KS D ∧ (∀ s ∈ D, Srt s.2 ∧ s.2.length ≤ l.length) ∧ (∀ s ∈ D, s.1 = last ∨ klt s.1 last = true) ∧ D.length = i ∧ rest.length ≤ l.length ∧ Fr TS σ.n s z ∧ decS l = (decRows clock (n - i) last rest).bind (finS clock D)))
      (fun out z => (∃ tm rest D, out = .code (.exit 0) ⟨tm, 78, [], false⟩ ∧ tm.get 5 = some (.pointer (some ⟨σ.n, 0, none⟩)) ∧ tm.get 6 = some (.int .u64 (clock : Nat)) ∧ tm.get 8 = some (.pointer (some ⟨σ2.n, 0, none⟩)) ∧ Ro σ.n σ.n z (some rest) ∧ St σ.n z σ2.n D ∧ Grow σ z ∧ decS l = finS clock D ([], rest)) ∨ (∃ tm, out = .code (.goto 0) ⟨tm, 78, [], false⟩ ∧ Grow σ z ∧ decS l = none)) ?_ n _ _ ?_ ?_
    · rintro k a z ⟨tm, i, last, rest, D, rfl, t5, t6, t8, t9, t37, t38, hi, hk, hro, hst, hks, hsr, hlast, hDl, hrl, hf, hde⟩
      have hgz : Grow σ z := ((f03.mono (T' := TS) (fun _ => .inl) (Nat.le_refl _)).trans hf).grow (Nat.le_refl _)
      have fnz := hf.1
      by_cases hlt : i < n
      · have hlt' : (i : Int) < (n : Int) := by omega
        obtain ⟨m, hm⟩ : ∃ m, n - i = m + 1 := ⟨n - i - 1, by omega⟩
        rw [hm, decRows_step] at hde
        simp [wops_cons, t5, t6, t8, t9, t37, t38, hlt, hlt']
        refine row_spec σ.n σ.n last (some rest) z hro hgz.n _ fun key pl nl cl z1 hrow r1 f1 => ?_
        have fn1' := f1.1
        have hst1 : St σ.n z1 σ2.n D := hst.kept f1.kept
        have hg1 : Grow σ z1 := (hgz.fr.trans f1).grow (Nat.le_refl _)
        rw [Option.bind_some] at r1
        obtain ⟨v5, l5, kr5, _⟩ := id r1
        cases hrr : rdRow last rest with
        | none =>
          rw [hrr] at kr5 hde
          simp only [Option.map_none, Option.isNone_none] at kr5
          have hd : decS l = none := hde
          simp [wops_cons, wops_if', dstOf, t5, t6, t8, t9, t37, t38, kr5]
          exact ⟨hg1, hd⟩
        | some q =>
          obtain ⟨⟨k2, ch⟩, rest2⟩ := q
          obtain ⟨rfl, rfl, how⟩ := hrow _ (by rw [Option.bind_some]; exact hrr)
          simp only at how
          rw [hrr] at kr5 hde r1
          simp only [Option.map_some, Option.isNone_some, Option.bind_some] at kr5 hde r1
          obtain ⟨c1, c2, c3, c4, c5, c6⟩ := rdRow_ok hrr
          simp only at c1 c2 c3 c4 c5 c6
          obtain ⟨mm, hmm⟩ : ∃ mm, ch.length = mm + 1 := ⟨ch.length - 1, by have := List.length_pos_iff.2 c2; omega⟩
          have hma : mm < ch.length := by omega
          have hlastT : lastT ch = ch[mm].at_ := by
            unfold lastT
            rw [List.getLast?_eq_getElem?, List.getElem?_eq_getElem (by omega)]
            simp [hmm]
          obtain ⟨y, off, row, ro, rfl, hgy, hyn, hrowv, hle⟩ := (how.sl (sz := 3) lenV).at hma
          have hcl := row_cell (enc := encV) lenV hrowv mm 0 hma (by decide)
          have hle4 := row_le hle mm hma
          have hwm : IntKind.i64.wrap (mm : Int) = (mm : Int) := IntWalk.i64_in _ (by omega)
          have hmp : (0 : Int) ≤ (mm : Int) := by omega
          have hmq : (mm : Int) < (mm : Int) + 1 := by omega
          simp [encV] at hcl
          by_cases hlate : (clock : Int) < ch[mm].at_
          · have hd : decS l = none := by rw [hde, hlastT, if_neg (by omega)]; rfl
            simp [wops_cons, wops_if', dstOf, t5, t6, t8, t9, t37, t38, kr5, hmm, hgy, hcl, hle4, hwm, hmp, hmq, hlate]
            exact ⟨hg1, hd⟩
          · rw [hlastT, if_pos (by omega)] at hde
            simp [wops_cons, wops_if', dstOf, t5, t6, t8, t9, t37, t38, kr5, hmm, hgy, hcl, hle4, hwm, hmp, hmq, hlate]
            have hDk : ∀ s ∈ D, klt s.1 key = true := by
              intro s hs
              rcases hlast s hs with e | e
              · rw [e]; exact c1
              · exact klt_trans e c1
            have hslc := how.sl (sz := 3) lenV
            rw [hmm] at hslc
            refine W_loop_J (fun k a w => ∃ tm, ∃ j : Nat, a = ⟨tm, 78, [], false⟩ ∧ tm.get 5 = some (.pointer (some ⟨σ.n, 0, none⟩)) ∧ tm.get 6 = some (.int .u64 (clock : Nat)) ∧ tm.get 8 = some (.pointer (some ⟨σ2.n, 0, none⟩)) ∧ tm.get 10 = some (.string key) ∧ tm.get 37 = some (.int .u64 (n : Nat)) ∧ tm.get 38 = some (.int .u64 (i : Nat)) ∧ tm.get 61 = some (.slice (some ⟨y, off, none⟩) (mm + 1) cl) ∧ tm.get 62 = some (.int .i64 ((mm : Int) + 1)) ∧ tm.get 63 = some (.int .i64 (j : Nat)) ∧ (j ≤ mm + 1 ∧ k = mm + 1 - j ∧ St σ.n w σ2.n (partS D key ch j) ∧ Ro σ.n σ.n w (some rest2) ∧ Fr stT σ.n z1 w))
              (fun out w => ∃ tm, out = .code (.exit 2) ⟨tm, 78, [], false⟩ ∧ tm.get 5 = some (.pointer (some ⟨σ.n, 0, none⟩)) ∧ tm.get 6 = some (.int .u64 (clock : Nat)) ∧ tm.get 8 = some (.pointer (some ⟨σ2.n, 0, none⟩)) ∧ tm.get 10 = some (.string key) ∧ tm.get 37 = some (.int .u64 (n : Nat)) ∧ tm.get 38 = some (.int .u64 (i : Nat)) ∧ St σ.n w σ2.n (D ++ [(key, ch)]) ∧ Ro σ.n σ.n w (some rest2) ∧ Fr stT σ.n z1 w) ?_ (mm + 1) _ _ ?_ ?_
            · rintro k' a w ⟨tm, j, rfl, t5, t6, t8, t10, t37, t38, t61, t62, t63, hj, hk', hstw, hrw, hfw⟩
              have fnw := hfw.1
              by_cases hjl : j < mm + 1
              · have hjc : j < ch.length := by omega
                have hjl' : (j : Int) < (mm : Int) + 1 := by omega
                obtain ⟨y', off', row', ro', hyy, hgy', hyn', hrow', hle'⟩ := Sl.at (n := mm + 1) (hslc.fr (T := stT) (by unfold stT; decide) hfw) hjc
                cases hyy
                have hld := row_get lenV hrow' j hjc
                have hle2 := row_le hle' j hjc
                have hw1 := i64s j (by omega)
                have hstep := fun n' hp => partS_step (n := n') hDk c3 hjc hp
                generalize ch[j] = X at hld hstep
                simp only [encV] at hld
                have g1 : Grow w ((w.alloc (.cells [.int .u64 0, .string ⟨#[]⟩, .bool false] 33 false)).put w.n (.cells [.int .u64 X.at_, .string X.val, .bool X.gone] 33 false)) := ⟨by simp, fun j hj => by rw [CSt.get_put, if_neg (by omega), CSt.get_alloc, if_neg (by omega)]⟩
                simp [wops_cons, t5, t6, t8, t10, t37, t38, t61, t62, t63, hjl, hjl', hgy', hld, hle2]
                have hps := put_store σ.n σ2.n (partS D key ch j) (partS_ks hks hDk j) (fun s hs => (partS_all hsr c3 (by omega) j s hs).1) (fun s hs => by have := (partS_all hsr c3 (show ch.length ≤ l.length by omega) j s hs).2; omega) key X _ (by have := g1.n; have := hg1.n; omega) (hstw.grow g1) (by have := partS_len (D := D) (key := key) (ch := ch) j; omega)
                simp only [encV] at hps
                refine hps _ fun n' w2 hp hst2 f2 => ?_
                rw [hstep n' hp] at hst2
                have hr2 := (hrw.grow g1).fr (T := stT) (by unfold stT; decide) (by unfold stT; decide) f2
                have hf2 : Fr stT σ.n z1 w2 := (hfw.trans g1.fr).trans f2
                simp [wops_cons, t5, t6, t8, t10, t37, t38, t61, t62, t63, hw1]
                exact ⟨mm + 1 - (j + 1), by omega, j + 1, by omega, by omega, rfl, hst2, hr2, hf2⟩
              · have hje : j = mm + 1 := by omega
                subst hje
                have hfin : partS D key ch (mm + 1) = D ++ [(key, ch)] := by
                  unfold partS
                  rw [if_neg (by omega), List.take_of_length_le (by omega)]
                rw [hfin] at hstw
                have hnl' : ¬ ((mm : Int) + 1 < (mm : Int) + 1) := by omega
                simp [wops_cons, t5, t6, t8, t10, t37, t38, t61, t62, t63, hnl']
                exact ⟨hstw, hrw, hfw⟩
            · exact ⟨_, 0, rfl, by simp [t5], by simp [t6], by simp [t8], by simp, by simp [t37], by simp [t38], by simp, by simp, by simp, by omega, rfl, by simpa [partS] using hst1, r1, Fr.refl _ _ _⟩
            · rintro out w ⟨tm, rfl, t5, t6, t8, t10, t37, t38, hstw, hrw, hfw⟩
              have hw := IntWalk.u64_in ((i : Int) + 1) (by omega)
              simp [wops_cons, t5, t6, t8, t10, t37, t38, hw]
              have hfall : Fr TS σ.n s w := (hf.trans (f1.mono (fun _ => .inl) (Nat.le_refl _))).trans (hfw.mono (fun _ => .inr) (Nat.le_refl _))
              refine ⟨n - (i + 1), by omega, i + 1, by omega, by omega, rfl, rest2, hrw, D ++ [(key, ch)], hstw, ?_, ?_, ?_, by simp [hDl], by omega, hfall, ?_⟩
              · have := partS_ks (ch := ch) hks hDk ch.length
                unfold partS at this
                rw [if_neg (by omega), List.take_of_length_le (Nat.le_refl _)] at this
                exact this
              · intro a b hab
                rcases List.mem_append.1 hab with hab | hab
                · exact hsr _ hab
                · cases List.mem_singleton.1 hab
                  exact ⟨c3, by omega⟩
              · intro a b hab
                rcases List.mem_append.1 hab with hab | hab
                · exact .inr (hDk _ hab)
                · cases List.mem_singleton.1 hab
                  exact .inl rfl
              · rw [hde, show n - (i + 1) = m by omega]
                cases decRows clock m key rest2 with
                | none => rfl
                | some r => simp [finS]
      · have hin : i = n := by omega
        subst hin
        rw [Nat.sub_self] at hde
        simp [wops_cons, t5, t6, t8, t9, t37, t38]
        exact ⟨rest, hro, D, hst, hgz, hde⟩
    · exact ⟨_, 0, str [], rest, [], rfl, by simp [t5], by simp [t6], by simp [t8], by simp [t9], by simp, by simp, by omega, rfl, h3, hst0, List.Pairwise.nil, by simp, by simp, rfl, hrl, Fr.refl _ _ _, hde⟩
    · rintro out z (⟨tm, rest, D, rfl, t5, t6, t8, hro, hst, hgz, hde⟩ | ⟨tm, rfl, hgz, hde⟩)
      · simp [wops_cons, t5, t6, t8]
        refine rend_spec σ.n σ.n (some rest) z hro _ ?_
        by_cases hre : rest = []
        · subst hre
          have hQ := h _ z (by rw [hde]; exact ⟨_, rfl, by simpa [finS] using hst⟩) hgz
          simpa [wops_cons, t5, t6, t8, finS] using hQ
        · have hQ := hnone (by rw [hde]; simp [finS, hre]) z hgz
          simpa [wops_cons, t5, t6, t8, hre, kscope, findLabel] using hQ
      · have hQ := hnone hde z hgz
        simpa [wops_cons, kscope, findLabel] using hQ
end Go.Sm
/- The law's good: its own reader; what it says, plain. -/
set_option linter.unusedVariables false
set_option linter.unusedSimpArgs false
namespace Go.Sm
open Go Go.Proofs
set_option maxRecDepth 100000
set_option maxHeartbeats 4000000
/-- The cell of the bytes that are left. -/
def Gc (k : Nat) (σ : CSt) (l : List UInt8) : Prop := ∃ v, σ.get k = some (.cells [v] 25 false) ∧ Sl σ 5 1 encY v l ∧ k < σ.n ∧ l.length < 2 ^ 35
def T25 : TypeId → Prop := fun t => t = 25
def takeF (k : Nat) : Value := .func (.func 60) #[] #[.pointer (some ⟨k, 0, none⟩)]
theorem ext60 (cs args : Array Value) (σ : CSt) : extOf E1 (.func (.func 60) #[] cs) args σ = none := extOf_none rfl
theorem Gc.drop {b k : Nat} {σ : CSt} {l : List UInt8} (h : Gc k σ l) (hb : b ≤ k) {q : Option Addr} {c i : Nat} {s : CSt} (hi : i ≤ l.length) (hg : Grow σ s) (hs : Sl s 5 1 encY (.slice q (l.length - i) c) (l.drop i)) : Gc k (s.put k (.cells [.slice q (l.length - i) c] 25 false)) (l.drop i) ∧ Fr T25 b σ (s.put k (.cells [.slice q (l.length - i) c] 25 false)) := by
  obtain ⟨v, h1, h2, h3, h4⟩ := h
  have hgk := hg.get h1 h3
  have hn := hg.n
  have hf : Fr T25 b s (s.put k (.cells [.slice q (l.length - i) c] 25 false)) := (Fr.refl T25 b s).put hb hgk rfl _
  exact ⟨⟨_, by simp, hs.fr (T := T25) (b := b) (by unfold T25; decide) hf, by simp; omega, by simp; omega⟩, hg.fr.trans hf⟩
theorem take60 (b k : Nat) (l : List UInt8) (σ : CSt) (hG : Gc k σ l) (hb : b ≤ k) (Q : Out → CSt → Prop)
    (h : ∀ σ', Gc k σ' (l.drop (tk l).2) → Fr T25 b σ σ' → Q (.ret (.tuple #[.int .u64 (tk l).1, .bool (decide (0 < (tk l).2))]) false) σ') : W E1 (.fn 60 #[.pointer (some ⟨k, 0, none⟩)] none) σ Q := by
  rw [W_fn (fn := Tryz.f60) Tryz.func60 rfl rfl rfl]
  obtain ⟨v, h1, h2, h3, h4⟩ := id hG
  simp [wops_cons, h1]
  refine take_spec l _ σ h2 (by omega) _ fun σ1 g1 => ?_
  have k1 := g1.get h1 h3
  have hi : (tk l).2 ≤ l.length := by
    rcases tk_cases l with ⟨_, h⟩ | ⟨n, r, k', _, h, _, h2, _⟩ <;> rw [h]
    · exact Nat.zero_le _
    · exact h2
  obtain ⟨q, c, hd, hs⟩ := ysl_tail (h2.grow g1) (tk l).2 hi .i64
  obtain ⟨d1, d2⟩ := hG.drop hb hi g1 hs
  have hQ := h _ d1 d2
  generalize (tk l).1 = n at hQ ⊢
  generalize (tk l).2 = m at hQ hd ⊢
  simpa [wops_cons, k1, hd] using hQ
/-- A version's bytes. -/
def gV (clock at_ : Nat) (b : List UInt8) : Option (Nat × List UInt8) :=
  (rd b).bind fun p => (rd p.2).bind fun q => if at_ < p.1 ∧ p.1 ≤ clock ∧ q.1 ≤ 201 ∧ q.1 - 1 ≤ q.2.length then some (p.1, q.2.drop (q.1 - 1)) else none
def gC (clock : Nat) : Nat → Nat → List UInt8 → Option (List UInt8)
  | 0, _, b => some b
  | n + 1, at_, b => (gV clock at_ b).bind fun p => gC clock n p.1 p.2
theorem gC_step {clock n at_ : Nat} {b : List UInt8} : gC clock (n + 1) at_ b = (gV clock at_ b).bind fun p => gC clock n p.1 p.2 := rfl
/-- A key's bytes, behind another key. -/
def gK (last : ByteArray) (b : List UInt8) : Option (ByteArray × Nat × List UInt8) :=
  (rd b).bind fun p => if 1 ≤ p.1 ∧ p.1 ≤ 32 ∧ p.1 ≤ p.2.length then (rd (p.2.drop p.1)).bind fun q => if q.1 ≠ 0 ∧ klt last (str (p.2.take p.1)) = true then some (str (p.2.take p.1), q.1, q.2) else none else none
def gRs (clock : Nat) : Nat → ByteArray → List UInt8 → Option (List UInt8)
  | 0, _, b => some b
  | n + 1, last, b => (gK last b).bind fun p => (gC clock p.2.1 0 p.2.2).bind fun r => gRs clock n p.1 r
theorem gRs_step {clock n : Nat} {last : ByteArray} {b : List UInt8} : gRs clock (n + 1) last b = (gK last b).bind fun p => (gC clock p.2.1 0 p.2.2).bind fun r => gRs clock n p.1 r := rfl
def gA (b : List UInt8) : Option (List UInt8) := (rd b).bind fun p => (rd p.2).bind fun q => if p.1 ≤ 2 ^ 40 then gRs p.1 q.1 (str []) q.2 else none
def endG (o : Option (List UInt8)) : Bool := match o with | some r => r.isEmpty | none => false
def goodI (b : List UInt8) : Bool := endG (gA b)
end Go.Sm
/- The law's good, walked. -/
set_option linter.unusedVariables false
set_option linter.unusedSimpArgs false
namespace Go.Sm
open Go Go.Proofs
set_option maxRecDepth 100000
set_option maxHeartbeats 40000000
theorem good_spec (l : List UInt8) (v : Value) (σ : CSt) (hsl : Sl σ 5 1 encY v l) (hbig : l.length < 2 ^ 35) (Q : Out → CSt → Prop)
    (h : ∀ σ', Grow σ σ' → Q (.ret (.bool (goodI l)) false) σ') : W E1 (.fn 35 #[v] none) σ Q := by
  rw [W_fn (fn := Tryz.f35) Tryz.func35 rfl rfl rfl]
  obtain ⟨pv, cv, rfl⟩ := hsl.form
  simp [wops_cons, ext60]
  have g0 : Grow σ (σ.alloc (.cells [.slice pv l.length cv] 25 false)) := (Grow.refl σ).alloc _
  have hG0 : Gc σ.n (σ.alloc (.cells [.slice pv l.length cv] 25 false)) l := ⟨_, by simp, hsl.grow g0, by simp, hbig⟩
  have hdone : ∀ z, Fr T25 σ.n σ z → Q (.ret (.bool (goodI l)) false) z := fun z hf => h z (hf.grow (Nat.le_refl _))
  have hbad : goodI l = false → ∀ z, Fr T25 σ.n σ z → Q (.ret (.bool false) false) z := fun hb z hf => by have := hdone z hf; rwa [hb] at this
  refine take60 σ.n σ.n l _ hG0 (Nat.le_refl _) _ fun σ1 hG1 f1 => ?_
  have f01 := g0.fr.trans f1
  simp [wops_cons, ext60]
  refine take60 σ.n σ.n _ σ1 hG1 (Nat.le_refl _) _ fun σ2 hG2 f2 => ?_
  have f02 := f01.trans f2
  rcases tk_cases l with ⟨h1, h2⟩ | ⟨clock, r, k, h1, h2, h3, h4, h5, h6, h7⟩
  · have hb : goodI l = false := by unfold goodI gA; rw [h1]; rfl
    have hQ := hbad hb σ2 f02
    simpa [wops_cons, wops_if', dstOf, h2] using hQ
  rw [h2] at hG1 hG2 ⊢
  simp only at hG1 hG2 ⊢
  rw [h5] at hG1 hG2 ⊢
  have hk0 : 0 < k := by omega
  rcases tk_cases r with ⟨q1, q2⟩ | ⟨many, r2, k2, q1, q2, q3, q4, q5, q6, q7⟩
  · have hb : goodI l = false := by unfold goodI gA; rw [h1, Option.bind_some]; simp only; rw [q1]; rfl
    have hQ := hbad hb σ2 f02
    simpa [wops_cons, wops_if', dstOf, q2, hk0] using hQ
  rw [q2] at hG2 ⊢
  simp only at hG2 ⊢
  rw [q5] at hG2
  have hk2 : 0 < k2 := by omega
  have hA : goodI l = endG (if clock ≤ 2 ^ 40 then gRs clock many (str []) r2 else none) := by
    unfold goodI gA; rw [h1, Option.bind_some]; simp only; rw [q1, Option.bind_some]
  by_cases e1 : (1099511627776 : Int) < (clock : Int)
  · have e1' : 1099511627776 < clock := by omega
    have hb : goodI l = false := by rw [hA, if_neg (by omega)]; rfl
    have hQ := hbad hb σ2 f02
    simpa [wops_cons, wops_if', dstOf, hk0, hk2, e1, e1'] using hQ
  have e1' : ¬ 1099511627776 < clock := by omega
  rw [if_pos (by omega)] at hA
  simp [wops_cons, wops_if', dstOf, hk0, hk2, e1, e1']
  refine W_loop_inv (fun m a z => ∃ tm, ∃ c : Nat, ∃ rest last, a = ⟨tm, 145, [], false⟩ ∧ tm.get 1 = some (.pointer (some ⟨σ.n, 0, none⟩)) ∧ tm.get 3 = some (takeF σ.n) ∧ tm.get 4 = some (.int .u64 (clock : Nat)) ∧ tm.get 6 = some (.int .u64 (c : Nat)) ∧ tm.get 8 = some (.string last) ∧
    (m = c ∧ c < 2 ^ 64 ∧ Gc σ.n z rest ∧ goodI l = endG (gRs clock c last rest) ∧ Fr T25 σ.n σ z)) ?_ many _ _ ?_
  · rintro m a z ⟨tm, c, rest, last, rfl, t1, t3, t4, t6, t8, rfl, hc64, hGz, hgl, hfz⟩
    rcases Nat.eq_zero_or_pos m with rfl | hpos
    · obtain ⟨vz, a1, a2, a3, a4⟩ := id hGz
      obtain ⟨qz, cz, rfl⟩ := a2.form
      have hQ := hdone z hfz
      rw [hgl] at hQ
      have hem : endG (gRs clock 0 last rest) = decide ((rest.length : Int) = 0) := by
        show rest.isEmpty = _
        cases rest <;> simp
        omega
      rw [hem] at hQ
      simpa [wops_cons, t1, t3, t4, t6, t8, a1] using hQ
    · obtain ⟨c, rfl⟩ : ∃ c, m = c + 1 := ⟨m - 1, by omega⟩
      have hpos' : (0 : Int) < (c : Int) + 1 := by omega
      simp [wops_cons, t1, t3, t4, t6, t8, hpos', takeF, ext60]
      refine take60 σ.n σ.n rest z hGz (Nat.le_refl _) _ fun z1 hG1 f1 => ?_
      have fz1 := hfz.trans f1
      rcases tk_cases rest with ⟨a1, a2⟩ | ⟨size, r3, k3, a1, a2, a3, a4, a5, a6, a7⟩
      · have hb : goodI l = false := by rw [hgl, gRs_step]; unfold gK; rw [a1]; rfl
        have hQ := hbad hb z1 fz1
        simpa [wops_cons, wops_if', dstOf, a2] using hQ
      rw [a2] at hG1 ⊢
      simp only at hG1 ⊢
      rw [a5] at hG1
      have hk3 : 0 < k3 := by omega
      obtain ⟨v3, b1, b2, b3, b4⟩ := id hG1
      obtain ⟨p3, c3, rfl⟩ := b2.form
      have hlu : IntKind.u64.wrap (r3.length : Int) = (r3.length : Int) := IntWalk.u64_in _ (by omega)
      have hK : gK last rest = if 1 ≤ size ∧ size ≤ 32 ∧ size ≤ r3.length then (rd (r3.drop size)).bind fun q => if q.1 ≠ 0 ∧ klt last (str (r3.take size)) = true then some (str (r3.take size), q.1, q.2) else none else none := by
        unfold gK; rw [a1]; rfl
      by_cases d1 : (size : Int) < 1
      · have hb : goodI l = false := by rw [hgl, gRs_step, hK, if_neg (by omega)]; rfl
        have hQ := hbad hb z1 fz1
        have d1' : size = 0 := by omega
        simpa [wops_cons, wops_if', dstOf, a2, hk3, d1, d1', b1] using hQ
      by_cases d2 : (32 : Int) < (size : Int)
      · have hb : goodI l = false := by rw [hgl, gRs_step, hK, if_neg (by omega)]; rfl
        have hQ := hbad hb z1 fz1
        have d2' : 32 < size := by omega
        have d1' : ¬ size = 0 := by omega
        simpa [wops_cons, wops_if', dstOf, a2, hk3, d1, d1', d2, d2', b1] using hQ
      have d1' : ¬ size = 0 := by omega
      have d2' : ¬ 32 < size := by omega
      by_cases d3 : (r3.length : Int) < (size : Int)
      · have hb : goodI l = false := by rw [hgl, gRs_step, hK, if_neg (by omega)]; rfl
        have hQ := hbad hb z1 fz1
        have d3' : r3.length < size := by omega
        simpa [wops_cons, wops_if', dstOf, a2, hk3, d1, d1', d2, d2', d3, d3', b1, hlu, t1] using hQ
      have d3' : ¬ r3.length < size := by omega
      rw [if_pos (by omega)] at hK
      obtain ⟨q4, c4, s1, s2⟩ := ysl_head b2 size (by omega) .u64
      have hcv := ystr s2
      obtain ⟨q5, c5, s3, s4⟩ := ysl_tail b2 size (by omega) .u64
      obtain ⟨hG2, f2⟩ := hG1.drop (b := σ.n) (Nat.le_refl _) (by omega) (Grow.refl z1) s4
      obtain ⟨key, hkey⟩ : ∃ K, K = str (r3.take size) := ⟨_, rfl⟩
      rw [← hkey] at hK hcv
      simp [wops_cons, wops_if', dstOf, a2, hk3, d1, d1', d2, d2', d3, d3', b1, hlu, s1, s3, hcv, t1, t3, t4, t6, t8, takeF, ext60]
      have fz2 := fz1.trans f2
      generalize z1.put σ.n (.cells [.slice q5 (r3.length - size) c5] 25 false) = z2 at hG2 f2 fz2 ⊢
      refine take60 σ.n σ.n _ z2 hG2 (Nat.le_refl _) _ fun z3 hG3 f3 => ?_
      have fz3 := fz2.trans f3
      rcases tk_cases (r3.drop size) with ⟨x1, x2⟩ | ⟨n, r4, k4, x1, x2, x3, x4, x5, x6, x7⟩
      · have hb : goodI l = false := by rw [hgl, gRs_step, hK, x1]; rfl
        have hQ := hbad hb z3 fz3
        simpa [wops_cons, wops_if', dstOf, x2, t1, t3, t4, t6, t8] using hQ
      rw [x2] at hG3 ⊢
      simp only at hG3 ⊢
      rw [x5] at hG3
      rw [x1, Option.bind_some] at hK
      have hk4 : 0 < k4 := by omega
      have hkb := kle_eq key last
      by_cases y1 : (n : Int) = 0
      · have hb : goodI l = false := by rw [hgl, gRs_step, hK, if_neg (fun h => h.1 (by simp; omega))]; rfl
        have hQ := hbad hb z3 fz3
        have y1' : n = 0 := by omega
        simpa [wops_cons, wops_if', dstOf, x2, hk4, y1', t1, t3, t4, t6, t8] using hQ
      have y1' : ¬ n = 0 := by omega
      by_cases y2 : klt last key = true
      · rw [if_pos ⟨y1', y2⟩] at hK
        rw [y2] at hkb
        rw [gRs_step, hK, Option.bind_some] at hgl
        simp only at hgl
        simp [wops_cons, wops_if', dstOf, x2, hk4, y1, y1', hkb, t1, t3, t4, t6, t8]
        refine W_loop_inv (fun m2 a y => ∃ tm, ∃ d at_ : Nat, ∃ u, a = ⟨tm, 145, [], false⟩ ∧ tm.get 1 = some (.pointer (some ⟨σ.n, 0, none⟩)) ∧ tm.get 3 = some (takeF σ.n) ∧ tm.get 4 = some (.int .u64 (clock : Nat)) ∧ tm.get 6 = some (.int .u64 ((c : Int) + 1)) ∧ tm.get 8 = some (.string key) ∧ tm.get 12 = some (.int .u64 (d : Nat)) ∧ tm.get 13 = some (.int .u64 (at_ : Nat)) ∧
          (m2 = d ∧ d < 2 ^ 64 ∧ Gc σ.n y u ∧ goodI l = endG ((gC clock d at_ u).bind fun r => gRs clock c key r) ∧ Fr T25 σ.n σ y)) ?_ n _ _ ?_
        · clear t1 t3 t4 t6 t8
          rintro m2 a y ⟨tm, d, at_, u, rfl, t1, t3, t4, t6, t8, t12, t13, rfl, hd64, hGy, hgy, hfy⟩
          have hwc : IntKind.u64.wrap (c : Int) = (c : Int) := IntWalk.u64_in _ (by omega)
          rcases Nat.eq_zero_or_pos m2 with rfl | hposd
          · simp [wops_cons, t1, t3, t4, t6, t8, t12, t13, hwc, takeF]
            exact ⟨c, by omega, c, rfl, rfl, by omega, u, hGy, hgy, hfy⟩
          obtain ⟨d, rfl⟩ : ∃ c, m2 = c + 1 := ⟨m2 - 1, by omega⟩
          have hposd' : (0 : Int) < (d : Int) + 1 := by omega
          have hwd : IntKind.u64.wrap (d : Int) = (d : Int) := IntWalk.u64_in _ (by omega)
          rw [gC_step] at hgy
          simp [wops_cons, t1, t3, t4, t6, t8, t12, t13, hposd', takeF, ext60]
          refine take60 σ.n σ.n u y hGy (Nat.le_refl _) _ fun y1 hG1 f1 => ?_
          have fy1 := hfy.trans f1
          simp [wops_cons, t1, t3, t4, t6, t8, t12, t13, takeF, ext60]
          refine take60 σ.n σ.n _ y1 hG1 (Nat.le_refl _) _ fun y2 hG2 f2 => ?_
          have fy2 := fy1.trans f2
          rcases tk_cases u with ⟨a1, a2⟩ | ⟨tt, u1, k1, a1, a2, a3, a4, a5, a6, a7⟩
          · have hb : goodI l = false := by rw [hgy]; unfold gV; rw [a1]; rfl
            have hQ := hbad hb y2 fy2
            simpa [wops_cons, wops_if', dstOf, a2, t1, t3, t4, t6, t8, t12, t13] using hQ
          rw [a2] at hG1 hG2 ⊢
          simp only at hG1 hG2 ⊢
          rw [a5] at hG1 hG2 ⊢
          have hk1 : 0 < k1 := by omega
          rcases tk_cases u1 with ⟨b1, b2⟩ | ⟨sz, u2, k2', b1, b2, b3, b4, b5, b6, b7⟩
          · have hb : goodI l = false := by rw [hgy]; unfold gV; rw [a1, Option.bind_some]; simp only; rw [b1]; rfl
            have hQ := hbad hb y2 fy2
            simpa [wops_cons, wops_if', dstOf, hk1, b2, t1, t3, t4, t6, t8, t12, t13] using hQ
          rw [b2] at hG2 ⊢
          simp only at hG2 ⊢
          rw [b5] at hG2
          have hk2' : 0 < k2' := by omega
          have hV : gV clock at_ u = if at_ < tt ∧ tt ≤ clock ∧ sz ≤ 201 ∧ sz - 1 ≤ u2.length then some (tt, u2.drop (sz - 1)) else none := by
            unfold gV; rw [a1, Option.bind_some]; simp only; rw [b1, Option.bind_some]
          rw [hV] at hgy
          obtain ⟨v5, v1, v2, v3, v4⟩ := id hG2
          obtain ⟨p5, c5', rfl⟩ := v2.form
          have hlu2 : IntKind.u64.wrap (u2.length : Int) = (u2.length : Int) := IntWalk.u64_in _ (by omega)
          by_cases w1 : tt ≤ at_
          · have hb : goodI l = false := by rw [hgy, if_neg (by omega)]; rfl
            have hQ := hbad hb y2 fy2
            simpa [wops_cons, wops_if', dstOf, hk1, hk2', w1, t1, t3, t4, t6, t8, t12, t13] using hQ
          by_cases w2 : clock < tt
          · have hb : goodI l = false := by rw [hgy, if_neg (by omega)]; rfl
            have hQ := hbad hb y2 fy2
            simpa [wops_cons, wops_if', dstOf, hk1, hk2', w1, w2, t1, t3, t4, t6, t8, t12, t13] using hQ
          by_cases w3 : 201 < sz
          · have hb : goodI l = false := by rw [hgy, if_neg (by omega)]; rfl
            have hQ := hbad hb y2 fy2
            have w3' : (201 : Int) < (sz : Int) := by omega
            simpa [wops_cons, wops_if', dstOf, hk1, hk2', w1, w2, w3, w3', t1, t3, t4, t6, t8, t12, t13] using hQ
          have w3' : ¬ (201 : Int) < (sz : Int) := by omega
          by_cases w4 : sz = 0
          · subst w4
            rw [if_pos (by omega), Option.bind_some] at hgy
            simp only [Nat.zero_sub, List.drop_zero] at hgy
            simp [wops_cons, wops_if', dstOf, hk1, hk2', w1, w2, t1, t3, t4, t6, t8, t12, t13, hwd, takeF]
            exact ⟨d, by omega, d, rfl, tt, rfl, rfl, by omega, u2, hG2, hgy, fy2⟩
          have w4' : 0 < sz := by omega
          have w4i : (0 : Int) < (sz : Int) := by omega
          have hws : IntKind.u64.wrap ((sz : Int) - 1) = ((sz - 1 : Nat) : Int) := by rw [IntWalk.u64_in _ (by omega)]; omega
          by_cases w5 : u2.length < sz - 1
          · have hb : goodI l = false := by rw [hgy, if_neg (by omega)]; rfl
            have hQ := hbad hb y2 fy2
            have w5' : (u2.length : Int) < (sz : Int) - 1 := by omega
            simpa [wops_cons, wops_if', dstOf, hk1, hk2', w1, w2, w3, w3', w4, w4', w4i, v1, hlu2, hws, w5, w5', t1, t3, t4, t6, t8, t12, t13] using hQ
          rw [if_pos (by omega), Option.bind_some] at hgy
          obtain ⟨q6, c6, s3, s4⟩ := ysl_tail v2 (sz - 1) (by omega) .u64
          obtain ⟨hG3, f3⟩ := hG2.drop (b := σ.n) (Nat.le_refl _) (by omega) (Grow.refl y2) s4
          have fy3 := fy2.trans f3
          have w5' : ¬ (u2.length : Int) < (sz : Int) - 1 := by omega
          simp [wops_cons, wops_if', dstOf, hk1, hk2', w1, w2, w3, w3', w4, w4', w4i, v1, hlu2, hws, w5, w5', s3, t1, t3, t4, t6, t8, t12, t13, hwd, takeF]
          exact ⟨d, by omega, d, rfl, tt, rfl, rfl, by omega, u2.drop (sz - 1), hG3, hgy, fy3⟩
        · exact ⟨_, n, 0, r4, rfl, by simp [t1], by simp [t3], by simp [t4], by simp [t6], by simp, by simp, by simp, rfl, x7, hG3, hgl, fz3⟩
      · have y2' : klt last key = false := by simpa using y2
        rw [y2'] at hkb
        have hb : goodI l = false := by rw [hgl, gRs_step, hK, if_neg (fun h => y2 h.2)]; rfl
        have hQ := hbad hb z3 fz3
        simpa [wops_cons, wops_if', dstOf, x2, hk4, y1, y1', hkb, t1, t3, t4, t6, t8] using hQ
  · exact ⟨_, many, r2, str [], rfl, by simp, by simp; rfl, by simp, by simp, by simp; rfl, rfl, q7, hG2, hA, f02⟩
end Go.Sm
/- A store's bytes, read again; plain. -/
set_option linter.unusedVariables false
set_option linter.unusedSimpArgs false
namespace Go.Sm
/-- What rows must be like to be an image's. -/
structure GoodS (S : Stl) : Prop where
  ks : KS S
  key : ∀ s ∈ S, 1 ≤ s.1.size ∧ s.1.size ≤ 32
  ne : ∀ s ∈ S, s.2 ≠ []
  srt : ∀ s ∈ S, Srt s.2
  ver : ∀ s ∈ S, ∀ x ∈ s.2, GoodV x ∧ 0 < x.at_ ∧ x.at_ ≤ 2 ^ 40
end Go.Sm
/- What the law's stores are like. -/
set_option linter.unusedVariables false
set_option linter.unusedSimpArgs false
namespace Go.Sm
theorem key12_size (n : Int) : (key12 n).size = 1 := by unfold key12; split <;> rfl
theorem verOf_good (x : VV) (h : x.ok) (h1 : 1 ≤ x.at_) : GoodV (verOf x) ∧ 0 < (verOf x).at_ ∧ (verOf x).at_ ≤ 255 := by
  obtain ⟨⟨a, b⟩, c⟩ := h
  rw [verOf_at]
  refine ⟨⟨fun hg => ?_, ?_⟩, by omega, by omega⟩
  · unfold verOf at hg ⊢
    by_cases e : x.gone = true
    · rw [if_pos e]; rfl
    · rw [if_neg e] at hg; cases hg
  · unfold verOf
    split
    · show (⟨#[]⟩ : ByteArray).size ≤ 200; decide
    · show (nameOf _).size ≤ 200
      unfold nameOf
      split <;> decide
theorem fixW_ok {w : WW} (h : w.ok) : (fixW w).ok ∧ 1 ≤ (fixW w).v.at_ := by
  obtain ⟨h1, h2⟩ := h
  refine ⟨⟨h1, fixV_ok h2⟩, ?_⟩
  obtain ⟨⟨a, b⟩, c⟩ := h2
  show 1 ≤ (if w.v.at_ = 0 then 1 else w.v.at_)
  split <;> omega
/-- Small numbers, keys and times from one on. -/
def WsOk (ws : List WW) : Prop := ∀ w ∈ ws, w.ok ∧ 1 ≤ w.v.at_
theorem wsOk_map {l : List WW} (h : ∀ w ∈ l, w.ok) : WsOk (l.map fixW) := by
  intro w hw
  obtain ⟨x, hx, rfl⟩ := List.mem_map.1 hw
  exact fixW_ok (h x hx)
theorem ofK_mem {ws : List WW} {k : ByteArray} {x : Ver} (h : x ∈ ofK ws k) : ∃ w ∈ ws, w.k = k ∧ x = verOf w.v := by
  unfold ofK at h
  obtain ⟨w, hw, rfl⟩ := List.mem_map.1 h
  obtain ⟨h1, h2⟩ := List.mem_filter.1 hw
  exact ⟨w, h1, by simpa using h2, rfl⟩
theorem makeL_ne : ∀ {l : List Ver}, l ≠ [] → makeL l ≠ [] := by
  intro l
  refine rev_ind (P := fun l => l ≠ [] → makeL l ≠ []) (fun h => absurd rfl h) (fun l v _ _ => ?_) l
  rw [makeL_snoc]
  unfold putL
  simp
theorem good_S {S : Stl} {ws : List WW} (h : SRel S ws) (hw : WsOk ws) : GoodS S := by
  have hv : ∀ s ∈ S, ∀ x ∈ s.2, GoodV x ∧ 0 < x.at_ ∧ x.at_ ≤ 255 := by
    intro s hs x hx
    rw [h.val s hs] at hx
    obtain ⟨w, hw1, _, rfl⟩ := ofK_mem (make_mem _ x hx)
    exact verOf_good _ (hw w hw1).1.2 (hw w hw1).2
  refine ⟨h.ks, fun s hs => ?_, fun s hs => ?_, h.srt, fun s hs x hx => ?_⟩
  · obtain ⟨w, _, e⟩ := h.only s hs
    rw [← e]
    have : w.k.size = 1 := key12_size _
    omega
  · rw [h.val s hs]
    refine makeL_ne ?_
    obtain ⟨w, hw1, e⟩ := h.only s hs
    have : verOf w.v ∈ ofK ws s.1 := by
      unfold ofK
      exact List.mem_map.2 ⟨w, List.mem_filter.2 ⟨hw1, by simpa using e⟩, rfl⟩
    exact List.ne_nil_of_mem this
  · obtain ⟨a, b, c⟩ := hv s hs x hx
    exact ⟨a, b, by omega⟩
theorem lastT_mem {c : List Ver} (h : c ≠ []) : ∃ x ∈ c, lastT c = x.at_ := by
  unfold lastT
  have hl := List.length_pos_iff.2 h
  rw [List.getLast?_eq_getElem?, List.getElem?_eq_getElem (by omega)]
  exact ⟨c[c.length - 1]'(by omega), List.getElem_mem (by omega), by simp⟩
theorem lastT_ge {c : List Ver} (hs : Srt c) : ∀ x ∈ c, x.at_ ≤ lastT c := by
  intro x hx
  have hne := List.ne_nil_of_mem hx
  obtain ⟨m, hm⟩ : ∃ m, c.length = m + 1 := ⟨c.length - 1, by have := List.length_pos_iff.2 hne; omega⟩
  have e : lastT c = (c[m]'(by omega)).at_ := by
    unfold lastT
    rw [List.getLast?_eq_getElem?, List.getElem?_eq_getElem (by omega)]
    simp [hm]
  rw [e]
  obtain ⟨j, hj, rfl⟩ := List.getElem_of_mem hx
  rcases Nat.lt_or_ge j m with h | h
  · have := List.pairwise_iff_getElem.1 hs j m hj (by omega) h
    omega
  · have : j = m := by omega
    subst this
    omega
theorem serS_small {S : Stl} {ws : List WW} {clock : Nat} (h : SRel S ws) (hw : WsOk ws) (hn : ws.length ≤ 1000) (hc : clock < 2 ^ 64) : (serS clock S).length < 2 ^ 28 := by
  have hg := good_S h hw
  have hS := h.len
  have e1 := num_len10 hc
  have e2 := num_len10 (n := S.length) (by omega)
  have e3 := flat_le serRow (100 + 250 * 1000) S fun s hs => by
    have k1 := serText_len s.1 (by have := (hg.key s hs).2; omega)
    have k2 := (hg.key s hs).2
    have k3 := h.short s hs
    have k4 := num_len10 (n := s.2.length) (by omega)
    have k5 := flat_le serV 250 s.2 fun x hx => by
      obtain ⟨⟨_, a⟩, b, c⟩ := hg.ver s hs x hx
      exact serV_len x (by omega) a
    have k6 : 250 * s.2.length ≤ 250 * 1000 := Nat.mul_le_mul_left _ (by omega)
    unfold serRow
    simp only [List.length_append]
    omega
  have e4 : (100 + 250 * 1000) * S.length ≤ (100 + 250 * 1000) * 1000 := Nat.mul_le_mul_left _ (by omega)
  unfold serS
  simp only [List.length_append]
  omega
end Go.Sm
/- What good says, plain; bytes of an image, written again. -/
set_option linter.unusedVariables false
set_option linter.unusedSimpArgs false
namespace Go.Sm
theorem rdV_inv {b : List UInt8} {x : Ver} {r : List UInt8} (h : rdV b = some (x, r)) : b = serV x ++ r ∧ 0 ≤ x.at_ ∧ x.at_ < 2 ^ 64 ∧ GoodV x := by
  unfold rdV at h
  cases h1 : rd b with
  | none => rw [h1] at h; cases h
  | some p =>
    rw [h1, Option.bind_some] at h
    obtain ⟨e1, e2⟩ := rd_some (n := p.1) (r := p.2) h1
    unfold rdVer at h
    cases h2 : rd p.2 with
    | none => rw [h2] at h; cases h
    | some q =>
      rw [h2, Option.bind_some] at h
      obtain ⟨e3, e4⟩ := rd_some (n := q.1) (r := q.2) h2
      split at h
      · rename_i hz
        cases h
        refine ⟨?_, by show (0 : Int) ≤ (p.1 : Int); omega, by show (p.1 : Int) < 2 ^ 64; omega, fun _ => rfl, by show (str []).size ≤ 200; rw [size_str]; simp⟩
        rw [e1, e3, hz]
        have e0 : num 0 = [0] := by rw [num]; rfl
        unfold serV serVer
        simp [e0]
      · split at h
        · rename_i hz hc
          cases h
          refine ⟨?_, by show (0 : Int) ≤ (p.1 : Int); omega, by show (p.1 : Int) < 2 ^ 64; omega, ⟨fun hg => Bool.noConfusion hg, by show (str (q.2.take (q.1 - 1))).size ≤ 200; rw [size_str, List.length_take]; omega⟩⟩
          rw [e1, e3]
          unfold serV serVer
          have hs : (str (q.2.take (q.1 - 1))).size + 1 = q.1 := by rw [size_str, List.length_take]; omega
          simp only [Bool.false_eq_true, if_false, hs, byt_str, Int.toNat_natCast, List.append_assoc, List.take_append_drop]
        · cases h
theorem rdText_inv {m : Nat} {b : List UInt8} {s : ByteArray} {r : List UInt8} (h : rdText m b = some (s, r)) : b = serText s ++ r ∧ r.length + s.size ≤ b.length := by
  unfold rdText at h
  cases h1 : rd b with
  | none => rw [h1] at h; cases h
  | some p =>
    rw [h1, Option.bind_some] at h
    obtain ⟨e1, e2⟩ := rd_some (n := p.1) (r := p.2) h1
    have := rd_len h1
    split at h
    · rename_i hc
      cases h
      have hs : (str (p.2.take p.1)).size = p.1 := by rw [size_str, List.length_take]; omega
      refine ⟨?_, by rw [hs, List.length_drop]; omega⟩
      rw [e1]
      unfold serText
      rw [hs, byt_str, List.append_assoc, List.take_append_drop]
    · cases h
theorem rdChain_inv : ∀ {n : Nat} {at_ : Int} {b : List UInt8} {c : List Ver} {r : List UInt8}, rdChain n at_ b = some (c, r) → b = c.flatMap serV ++ r ∧ ∀ x ∈ c, GoodV x
  | 0, at_, b, c, r, h => by cases h; exact ⟨rfl, fun x h => by cases h⟩
  | n + 1, at_, b, c, r, h => by
    rw [rdChain_step] at h
    cases h1 : rdV b with
    | none => rw [h1] at h; cases h
    | some p =>
      rw [h1, Option.bind_some] at h
      split at h
      · obtain ⟨q, hq, e⟩ := Option.map_eq_some_iff.1 h
        cases e
        obtain ⟨k1, k2⟩ := rdChain_inv (c := q.1) (r := q.2) hq
        obtain ⟨e1, _, _, hg⟩ := rdV_inv (x := p.1) (r := p.2) h1
        refine ⟨?_, fun x hx => ?_⟩
        · rw [e1, k1, List.flatMap_cons, List.append_assoc]
        · rcases List.mem_cons.1 hx with rfl | hx
          · exact hg
          · exact k2 x hx
      · cases h
theorem rdRow_inv {last : ByteArray} {b : List UInt8} {s : ByteArray × List Ver} {r : List UInt8} (h : rdRow last b = some (s, r)) : b = serRow s ++ r ∧ (∀ x ∈ s.2, GoodV x) ∧ r.length < b.length := by
  have hok := rdRow_ok h
  unfold rdRow at h
  cases h1 : rdText 32 b with
  | none => rw [h1] at h; cases h
  | some p =>
    rw [h1, Option.bind_some] at h
    cases h2 : rd p.2 with
    | none => rw [h2] at h; cases h
    | some q =>
      rw [h2, Option.bind_some] at h
      split at h
      · obtain ⟨w, hw, e⟩ := Option.map_eq_some_iff.1 h
        cases e
        obtain ⟨e1, _⟩ := rdText_inv (s := p.1) (r := p.2) h1
        obtain ⟨e2, _⟩ := rd_some (n := q.1) (r := q.2) h2
        obtain ⟨e3, e4⟩ := rdChain_inv (c := w.1) (r := w.2) hw
        have e5 := (rdChain_ok (c := w.1) (r := w.2) hw).1
        refine ⟨?_, e4, ?_⟩
        · rw [e1, e2, e3]
          unfold serRow
          simp only [e5, List.append_assoc]
        · have := hok.2.2.2.2.2
          have hne : 0 < w.1.length := List.length_pos_iff.2 hok.2.1
          simp only at this ⊢
          omega
      · cases h
theorem decRows_inv {clock : Nat} : ∀ {n : Nat} {last : ByteArray} {b : List UInt8} {S : Stl} {r : List UInt8}, decRows clock n last b = some (S, r) → S.length = n ∧ b = S.flatMap serRow ++ r ∧ r.length + n ≤ b.length ∧ KS S ∧ (∀ s ∈ S, klt last s.1 = true) ∧ ∀ s ∈ S, s.1.size ≤ 32 ∧ s.2 ≠ [] ∧ Srt s.2 ∧ s.2.length ≤ b.length ∧ ∀ x ∈ s.2, GoodV x ∧ 0 < x.at_ ∧ x.at_ ≤ 2 ^ 40
  | 0, last, b, S, r, h => by
    cases h
    exact ⟨rfl, rfl, Nat.le_refl _, List.Pairwise.nil, fun s h => by simp at h, fun s h => by simp at h⟩
  | n + 1, last, b, S, r, h => by
    rw [decRows_step] at h
    cases h1 : rdRow last b with
    | none => rw [h1] at h; cases h
    | some p =>
      rw [h1, Option.bind_some] at h
      split at h
      · obtain ⟨q, hq, e⟩ := Option.map_eq_some_iff.1 h
        cases e
        obtain ⟨k1, k2, k3, k4, k5, k6⟩ := decRows_inv (S := q.1) (r := q.2) hq
        obtain ⟨e1, e2, e3⟩ := rdRow_inv (s := p.1) (r := p.2) h1
        obtain ⟨o1, o2, o3, o4, o5, o6⟩ := rdRow_ok (s := p.1) (r := p.2) h1
        refine ⟨by rw [List.length_cons, k1], ?_, by omega, List.pairwise_cons.2 ⟨k5, k4⟩, fun s hs => ?_, fun s hs => ?_⟩
        · rw [List.flatMap_cons, List.append_assoc, ← k2]; exact e1
        · rcases List.mem_cons.1 hs with rfl | hs
          · exact o1
          · exact klt_trans o1 (k5 s hs)
        · rcases List.mem_cons.1 hs with rfl | hs
          · exact ⟨o4, o2, o3, by omega, fun x hx => ⟨e2 x hx, o5 x hx⟩⟩
          · obtain ⟨z1, z2, z3, z4, z5⟩ := k6 s hs
            exact ⟨z1, z2, z3, by omega, z5⟩
      · cases h
theorem decS_inv {b : List UInt8} {c : Nat} {S : Stl} (h : decS b = some (c, S)) : serS c S = b ∧ c ≤ 2 ^ 40 ∧ S.length ≤ b.length ∧ KS S ∧ ∀ s ∈ S, s.1.size ≤ 32 ∧ s.2 ≠ [] ∧ Srt s.2 ∧ s.2.length ≤ b.length ∧ ∀ x ∈ s.2, GoodV x ∧ 0 < x.at_ ∧ x.at_ ≤ 2 ^ 40 := by
  unfold decS at h
  cases h1 : rd b with
  | none => rw [h1] at h; cases h
  | some p =>
    rw [h1, Option.bind_some] at h
    cases h2 : rd p.2 with
    | none => rw [h2] at h; cases h
    | some q =>
      rw [h2, Option.bind_some] at h
      obtain ⟨e1, _⟩ := rd_some (n := p.1) (r := p.2) h1
      obtain ⟨e2, _⟩ := rd_some (n := q.1) (r := q.2) h2
      have l1 := rd_len h1
      have l2 := rd_len h2
      split at h
      · rename_i hc
        cases h3 : decRows p.1 q.1 (str []) q.2 with
        | none => rw [h3] at h; cases h
        | some r =>
          rw [h3, Option.bind_some] at h
          split at h
          · rename_i hr
            cases h
            obtain ⟨k1, k2, k3, k4, k5, k6⟩ := decRows_inv (S := r.1) (r := r.2) h3
            rw [hr, List.append_nil] at k2
            refine ⟨?_, hc.1, by omega, k4, fun s hs => ?_⟩
            · unfold serS
              rw [k1, ← k2, List.append_assoc, ← e2]
              exact e1.symm
            · obtain ⟨z1, z2, z3, z4, z5⟩ := k6 s hs
              exact ⟨z1, z2, z3, by omega, z5⟩
          · cases h
      · cases h
/-! ### good -/
theorem klt_none (k : ByteArray) : klt k (str []) = false := by
  rw [← str_byt k, klt_str]
  cases byt k <;> rfl
theorem gV_eq (clock at_ : Nat) (b : List UInt8) : gV clock at_ b = (rdV b).bind fun p => if (at_ : Int) < p.1.at_ ∧ p.1.at_ ≤ clock then some (p.1.at_.toNat, p.2) else none := by
  unfold gV rdV
  cases h1 : rd b with
  | none => rfl
  | some p =>
    simp only [Option.bind_some]
    unfold rdVer
    cases h2 : rd p.2 with
    | none => rfl
    | some q =>
      simp only [Option.bind_some]
      by_cases h0 : q.1 = 0
      · rw [if_pos h0, Option.bind_some]
        simp only [h0, Nat.zero_sub, List.drop_zero]
        by_cases hc : at_ < p.1 ∧ p.1 ≤ clock
        · rw [if_pos (by omega), if_pos (by omega)]; rfl
        · rw [if_neg (by omega), if_neg (by omega)]
      · rw [if_neg h0]
        by_cases hz : q.1 ≤ 201 ∧ q.1 - 1 ≤ q.2.length
        · rw [if_pos hz, Option.bind_some]
          simp only
          by_cases hc : at_ < p.1 ∧ p.1 ≤ clock
          · rw [if_pos (by omega), if_pos (by omega)]; rfl
          · rw [if_neg (by omega), if_neg (by omega)]
        · rw [if_neg hz, if_neg (by omega)]; rfl
theorem gC_eq {clock : Nat} (hc : clock ≤ 2 ^ 40) : ∀ (n at_ : Nat) (b : List UInt8), gC clock n at_ b = (rdChain n at_ b).bind fun p => if ∀ x ∈ p.1, x.at_ ≤ (clock : Int) then some p.2 else none
  | 0, at_, b => by
    show some b = _
    simp [rdChain]
  | n + 1, at_, b => by
    rw [gC_step, rdChain_step, gV_eq]
    cases h1 : rdV b with
    | none => rfl
    | some p =>
      simp only [Option.bind_some]
      have hp := rdV_at (x := p.1) (r := p.2) h1
      by_cases hlt : (at_ : Int) < p.1.at_
      · by_cases hle : p.1.at_ ≤ (clock : Int)
        · rw [if_pos ⟨hlt, hle⟩, if_pos ⟨hlt, by omega⟩, Option.bind_some]
          simp only
          rw [gC_eq hc, Int.toNat_of_nonneg hp.1]
          cases h2 : rdChain n p.1.at_ p.2 with
          | none => rfl
          | some w =>
            simp only [Option.bind_some, Option.map_some, List.mem_cons, forall_eq_or_imp, hle, true_and]
        · rw [if_neg (fun h => hle h.2), Option.bind_none]
          by_cases hle2 : p.1.at_ ≤ 2 ^ 40
          · rw [if_pos ⟨hlt, hle2⟩]
            cases h2 : rdChain n p.1.at_ p.2 with
            | none => rfl
            | some w =>
              simp only [Option.bind_some, Option.map_some, List.mem_cons, forall_eq_or_imp, hle, false_and, if_false]
          · rw [if_neg (fun h => hle2 h.2)]; rfl
      · rw [if_neg (fun h => hlt h.1), if_neg (fun h => hlt h.1)]; rfl
theorem gRow_eq {clock : Nat} (hc : clock ≤ 2 ^ 40) (last : ByteArray) (b : List UInt8) : ((gK last b).bind fun p => (gC clock p.2.1 0 p.2.2).map fun r => (p.1, r)) = (rdRow last b).bind fun p => if lastT p.1.2 ≤ (clock : Int) then some (p.1.1, p.2) else none := by
  unfold gK rdRow rdText
  cases h1 : rd b with
  | none => rfl
  | some p =>
    simp only [Option.bind_some]
    by_cases hs : p.1 ≤ p.2.length ∧ p.1 ≤ 32
    · rw [if_pos hs, Option.bind_some]
      simp only
      by_cases h0 : p.1 = 0
      · rw [if_neg (by omega)]
        simp only [h0, List.take_zero, List.drop_zero, klt_none, Bool.false_eq_true, false_and, if_false]
        cases rd p.2 <;> rfl
      · rw [if_pos (by omega)]
        cases h2 : rd (p.2.drop p.1) with
        | none => rfl
        | some q =>
          simp only [Option.bind_some]
          by_cases hk : klt last (str (p.2.take p.1)) = true
          · by_cases hn : q.1 = 0
            · rw [if_neg (fun h => h.1 hn), if_neg (fun h => h.2.1 hn)]; rfl
            · rw [if_pos ⟨hn, hk⟩, Option.bind_some]
              simp only
              rw [gC_eq hc]
              cases h3 : rdChain q.1 0 q.2 with
              | none =>
                by_cases hl : klt last (str (p.2.take p.1)) = true ∧ q.1 ≠ 0 ∧ q.1 ≤ q.2.length
                · rw [if_pos hl]; rfl
                · rw [if_neg hl]; rfl
              | some w =>
                obtain ⟨o1, o2, o3, o4⟩ := rdChain_ok (c := w.1) (r := w.2) h3
                rw [if_pos ⟨hk, hn, by omega⟩]
                simp only [Option.bind_some, Option.map_some]
                have hne : w.1 ≠ [] := fun h => hn (by rw [← o1, h]; rfl)
                by_cases hl : lastT w.1 ≤ (clock : Int)
                · rw [if_pos hl, if_pos fun x hx => by have := lastT_ge o2 x hx; omega]; rfl
                · rw [if_neg hl, if_neg fun h => hl (by obtain ⟨x, hx, e⟩ := lastT_mem hne; rw [e]; exact h x hx)]; rfl
          · rw [if_neg (fun h => hk h.2), if_neg (fun h => hk h.1)]; rfl
    · rw [if_neg hs, if_neg (fun h => hs ⟨h.2.2, h.2.1⟩)]; rfl
theorem gRs_eq {clock : Nat} (hc : clock ≤ 2 ^ 40) : ∀ (n : Nat) (last : ByteArray) (b : List UInt8), gRs clock n last b = (decRows clock n last b).map (·.2)
  | 0, last, b => rfl
  | n + 1, last, b => by
    rw [gRs_step, decRows_step]
    have h := gRow_eq hc last b
    have e : ((gK last b).bind fun p => (gC clock p.2.1 0 p.2.2).bind fun r => gRs clock n p.1 r) = (((gK last b).bind fun p => (gC clock p.2.1 0 p.2.2).map fun r => (p.1, r)).bind fun q => gRs clock n q.1 q.2) := by
      cases gK last b with
      | none => rfl
      | some p =>
        simp only [Option.bind_some]
        cases gC clock p.2.1 0 p.2.2 <;> rfl
    rw [e, h]
    cases h1 : rdRow last b with
    | none => rfl
    | some p =>
      simp only [Option.bind_some]
      by_cases hl : lastT p.1.2 ≤ (clock : Int)
      · rw [if_pos hl, if_pos hl, Option.bind_some]
        simp only
        rw [gRs_eq hc]
        cases decRows clock n p.1.1 p.2 <;> rfl
      · rw [if_neg hl, if_neg hl]; rfl
theorem goodI_eq (b : List UInt8) : goodI b = (decS b).isSome := by
  unfold goodI gA decS
  cases h1 : rd b with
  | none => rfl
  | some p =>
    simp only [Option.bind_some]
    cases h2 : rd p.2 with
    | none => rfl
    | some q =>
      simp only [Option.bind_some]
      have l1 := rd_len h1
      have l2 := rd_len h2
      by_cases hc : p.1 ≤ 2 ^ 40
      · rw [if_pos hc, gRs_eq hc]
        cases h3 : decRows p.1 q.1 (str []) q.2 with
        | none =>
          by_cases hq : p.1 ≤ 2 ^ 40 ∧ q.1 ≤ b.length
          · rw [if_pos hq]; rfl
          · rw [if_neg hq]; rfl
        | some r =>
          obtain ⟨k1, k2, k3, _⟩ := decRows_inv (S := r.1) (r := r.2) h3
          rw [if_pos ⟨hc, by omega⟩]
          simp only [Option.bind_some, Option.map_some, endG]
          cases hr : r.2 with
          | nil => rfl
          | cons a l => rfl
      · rw [if_neg hc, if_neg (fun h => hc h.1)]; rfl
end Go.Sm
/- Single plain arguments. -/
set_option linter.unusedVariables false
set_option linter.unusedSimpArgs false
namespace Go.Sm
open Go Go.WideShapes Go.ChangeShapes
section
variable {H : Type} {en : TypeId × Value → H} {P : Program} {w : World}
theorem open_one {base base' : Nat} {spare : Nat → Bool} {held : Bool} {t : TypeId} {f fuel : Nat} {ks : List PK} {v : Value} {x : DataW H × List MemPlace} {r : Reach}
    (hk : kindsF P f t = some ks) (hval : Value.okWide P w r base t v) (hd : DataW.trod en P w base' spare held fuel t v.cells.toList = some x) : ∃ xs, OkL ks xs ∧ v = wrapV P t xs := by
  have h := trod_kinds f t ks hk fuel _ x hd
  refine ⟨_, h, ?_⟩
  cases f with
  | zero => cases hk
  | succ f =>
    unfold kindsF at hk
    cases hu : P.underlying t with
    | none => rw [hu] at hk; cases hk
    | some d =>
      rw [hu] at hk
      cases d with
      | int k => obtain ⟨n, rfl⟩ := okWide_int hu hval; simp [wrapV, isAggT, hu, Value.cells]
      | bool => obtain ⟨n, rfl⟩ := okWide_bool hu hval; simp [wrapV, isAggT, hu, Value.cells]
      | string => obtain ⟨n, rfl⟩ := okWide_string hu hval; simp [wrapV, isAggT, hu, Value.cells]
      | struct fs => obtain ⟨cs, rfl, _⟩ := okWide_struct hu hval; simp [wrapV, isAggT, hu, Value.cells]
      | _ => cases hk
theorem open_i {base base' : Nat} {spare : Nat → Bool} {held : Bool} {t : TypeId} {fuel : Nat} {k : IntKind} {v : Value} {x : DataW H × List MemPlace} {r : Reach}
    (hk : P.underlying t = some (.int k)) (hval : Value.okWide P w r base t v) (hd : DataW.trod en P w base' spare held fuel t v.cells.toList = some x) : ∃ n, v = .int k n ∧ k.min ≤ n ∧ n ≤ k.max := by
  obtain ⟨xs, h, rfl⟩ := open_one (f := 1) (ks := [.int k]) (by simp [kindsF, hk]) hval hd
  match xs, h with
  | [a], ⟨⟨n, ha, hn⟩, _⟩ =>
    subst ha
    simp only [Lit.wf, Bool.and_eq_true, decide_eq_true_eq] at hn
    exact ⟨n, by simp [wrapV, isAggT, hk], hn⟩
end
end Go.Sm
/- Nil pointers, compared; a Boolean among the arguments. -/
set_option linter.unusedVariables false
set_option linter.unusedSimpArgs false
namespace Go.Sm
open Go Go.Proofs
set_option maxRecDepth 100000
theorem isNil_none61 (op : BinOp) : isNilCmp Tryz.prog op 61 (.pointer none) (.pointer none) = none := by simp [isNilCmp, nilPair, Tryz.underlying61]
theorem equal_nil61 : pureRun Tryz.prog (Op.equal 61 (.pointer none) (.pointer none)) = some true := by
  unfold Op.equal Op.equalIn
  simp only [Op.maxDepth, pureRun_bind, pureRun_underlying, Tryz.underlying61, Option.bind_some]
  rfl
theorem bin_nil61 {σ : CSt} {x y : Operand} : binF Tryz.prog σ .eql 61 x y (.pointer none) (.pointer none) = .val (.bool true) σ := by
  have : pureRun Tryz.prog (do eqGuard .eql 61 x y (.pointer none) (.pointer none); binOp .eql 61 (.pointer none) (.pointer none)) = some (.bool true) := by
    have h1 : binOp .eql 61 (.pointer none) (.pointer none) = (do pure (.bool (← Op.equal 61 (.pointer none) (.pointer none))) : Sem Value) := rfl
    have h2 : pureRun Tryz.prog (eqGuard .eql 61 x y (.pointer none) (.pointer none)) = some () := rfl
    rw [pureRun_bind, h2, Option.bind_some, h1, pureRun_bind, equal_nil61, Option.bind_some]
    rfl
  simp only [binF, Sm.flat, flat0, Bool.and_self, if_true, this]
section
open Go.WideShapes Go.ChangeShapes
variable {H : Type} {en : TypeId × Value → H} {P : Program} {w : World}
theorem open_b {base base' : Nat} {spare : Nat → Bool} {held : Bool} {t : TypeId} {fuel : Nat} {v : Value} {x : DataW H × List MemPlace} {r : Reach}
    (hk : P.underlying t = some .bool) (hval : Value.okWide P w r base t v) (hd : DataW.trod en P w base' spare held fuel t v.cells.toList = some x) : ∃ b : Bool, v = .bool b := by
  obtain ⟨xs, h, rfl⟩ := open_one (f := 1) (ks := [.bool]) (by simp [kindsF, hk]) hval hd
  match xs, h with
  | [a], ⟨⟨n, ha⟩, _⟩ =>
    subst ha
    exact ⟨n, by simp [wrapV, isAggT, hk]⟩
end
end Go.Sm
/- slices.Concat of bytes. -/
set_option linter.unusedVariables false
set_option linter.unusedSimpArgs false
namespace Go.Sm
open Go Go.Proofs
set_option maxRecDepth 100000
set_option maxHeartbeats 4000000
section
attribute [local simp] sliceOp_open3 sliceOp_cap sliceOp_open sliceOp_nil appendOp_K appendOp_N copyOp_K
theorem growY_spec (n : Nat) (hn : n < 2 ^ 30) (σ : CSt) (Q : Out → CSt → Prop) (h : ∀ v σ', OwnZ σ.n σ' 5 encY v [] → Grow σ σ' → Q (.ret v false) σ') : W E1 (.fn 52 #[.slice none 0 0, .int .i64 n] none) σ Q := by
  rw [W_fn (fn := Tryz.f52) Tryz.func52 rfl rfl rfl]
  have hw : IntKind.i64.wrap (n : Int) = n := IntWalk.i64_in _ (by omega)
  have hw0 : IntKind.i64.wrap 0 = 0 := by decide
  have h1 : ¬ (n : Int) < 0 := by omega
  rcases Nat.eq_zero_or_pos n with rfl | h0
  · have hQ := h _ σ OwnZ.nil (Grow.refl σ)
    simpa [wops_cons, hw0] using hQ
  · have h2 : (0 : Int) < n := by omega
    have h3 : (n : Int) ≤ 140737488355328 := by omega
    have h4 : n ≤ 140737488355328 := by omega
    have h5 : ¬ n = 0 := by omega
    have hck : cokL (List.replicate n (Value.int .u8 0)) = true := by
      unfold cokL
      rw [List.all_eq_true]
      intro x hx
      rw [List.eq_of_mem_replicate hx]
      rfl
    have hQ := h (.slice (some ⟨σ.n, 0, none⟩) 0 openCap) (σ.alloc (.cells (List.replicate n [Value.int .u8 0]).flatten 5 false)) (.inr ⟨σ.n, openCap, _, rfl, Nat.le_refl _, by simp, by simp; rfl, by simpa using hck, .inl rfl⟩) ((Grow.refl σ).alloc _)
    simpa [wops_cons, hw, hw0, h1, h2, h0, h3, h4, h5, hck, appNK, appendF, sliceO] using hQ
end
def encP (p : Value × List UInt8) : List Value := [p.1]
theorem lenP (p : Value × List UInt8) : (encP p).length = 1 := rfl
def catL (vs : List (Value × List UInt8)) : List UInt8 := vs.flatMap (·.2)
theorem catL_take (vs : List (Value × List UInt8)) (i : Nat) (h : i < vs.length) : catL (vs.take (i + 1)) = catL (vs.take i) ++ vs[i].2 := by
  unfold catL
  rw [List.take_succ_eq_append_getElem h, List.flatMap_append]; simp
theorem catL_le (vs : List (Value × List UInt8)) (i : Nat) : (catL (vs.take i)).length ≤ (catL vs).length := by
  unfold catL
  conv => rhs; rw [← List.take_append_drop i vs, List.flatMap_append, List.length_append]
  omega
theorem concatY_spec (vs : List (Value × List UInt8)) (v : Value) (σ : CSt) (hvs : ∀ p ∈ vs, Sl σ 5 1 encY p.1 p.2) (hv : Sl σ 25 1 encP v vs) (hbig : (catL vs).length < 2 ^ 30) (hn : vs.length < 2 ^ 20) (Q : Out → CSt → Prop)
    (h : ∀ v' σ', OwnZ σ.n σ' 5 encY v' (catL vs) → Grow σ σ' → Q (.ret v' false) σ') : W E1 (.fn 26 #[v] none) σ Q := by
  rw [W_fn (fn := Tryz.f26) Tryz.func26 rfl rfl rfl]
  obtain ⟨pv, cv, rfl⟩ := hv.form
  simp [wops_cons]
  refine W_loop_J (fun n a s => ∃ tm, ∃ i : Nat, a = ⟨tm, 36, [], false⟩ ∧ tm.get 0 = some (.slice pv vs.length cv) ∧ tm.get 3 = some (.int .i64 (catL (vs.take i)).length) ∧ tm.get 9 = some (.slice pv vs.length cv) ∧ tm.get 10 = some (.int .i64 vs.length) ∧ tm.get 11 = some (.int .i64 (i : Nat)) ∧ (i ≤ vs.length ∧ n = vs.length - i ∧ s = σ))
    (fun out s => ∃ tm, out = .code (.exit 0) ⟨tm, 36, [], false⟩ ∧ tm.get 0 = some (.slice pv vs.length cv) ∧ tm.get 3 = some (.int .i64 (catL vs).length) ∧ s = σ) ?_ vs.length _ _ ?_ ?_
  · rintro n a s ⟨tm, i, rfl, t0, t3, t9, t10, t11, hi, hn', rfl⟩
    by_cases hlt : i < vs.length
    · have hlt' : (i : Int) < (vs.length : Int) := by omega
      obtain ⟨j, off, row, ro, rfl, hgj, hjn, hrow, hle⟩ := hv.at hlt
      have hld := row_cell (enc := encP) lenP hrow i 0 hlt (by decide)
      have hle2 := row_le hle i hlt
      have hw1 := i64s i (by omega)
      have hct := catL_take vs i hlt
      have hcl := catL_le vs (i + 1)
      have hsp := hvs _ (List.getElem_mem hlt)
      generalize hp : vs[i] = p at hld hct hsp
      obtain ⟨pv1, l1⟩ := p
      simp only at hsp
      obtain ⟨q1, c1, rfl⟩ := hsp.form
      rw [hct, List.length_append] at hcl
      simp only at hct hcl
      have hw2 : IntKind.i64.wrap (((catL (vs.take i)).length : Int) + (l1.length : Int)) = ((catL (vs.take i)).length : Int) + (l1.length : Int) := IntWalk.i64_in _ (by omega)
      have hneg : ¬ (((catL (vs.take i)).length : Int) + (l1.length : Int) < 0) := by omega
      simp [encP] at hld
      simp at hle2
      simp [wops_cons, t0, t3, t9, t10, t11, hlt, hlt', hgj, hld, hle2, hw1, hw2, hneg]
      exact ⟨vs.length - (i + 1), by omega, i + 1, by rw [hct, List.length_append]; simp, by omega, by omega, rfl⟩
    · have hie : i = vs.length := by omega
      subst hie
      rw [List.take_of_length_le (Nat.le_refl _)] at t3
      simp [wops_cons, t0, t3, t9, t10, t11]
  · exact ⟨_, 0, rfl, by simp, by simp [catL], by simp, by simp, by simp, by omega, rfl, rfl⟩
  · rintro out s ⟨tm, rfl, t0, t3, rfl⟩
    simp [wops_cons, t0, t3]
    refine growY_spec (catL vs).length hbig s _ fun v1 σ1 o1 g1 => ?_
    obtain ⟨p1, c1, rfl⟩ := (o1.sl (sz := 1) encY_len).form
    simp [wops_cons, t0, t3]
    refine W_loop_inv (fun n a z => ∃ tm, ∃ i : Nat, ∃ w, a = ⟨tm, 36, [], false⟩ ∧ tm.get 6 = some w ∧ tm.get 25 = some (.slice pv vs.length cv) ∧ tm.get 26 = some (.int .i64 vs.length) ∧ tm.get 27 = some (.int .i64 (i : Nat)) ∧ (i ≤ vs.length ∧ n = vs.length - i ∧ OwnZ s.n z 5 encY w (catL (vs.take i)) ∧ Grow s z)) ?_ vs.length _ _ ?_
    · rintro n a z ⟨tm, i, w, rfl, t6, t25, t26, t27, hi, hn', ow, gz⟩
      have hvz := hv.grow gz
      obtain ⟨pw, cw, rfl⟩ := (ow.sl (sz := 1) encY_len).form
      by_cases hlt : i < vs.length
      · have hlt' : (i : Int) < (vs.length : Int) := by omega
        obtain ⟨j, off, row, ro, rfl, hgj, hjn, hrow, hle⟩ := hvz.at hlt
        have hld := row_cell (enc := encP) lenP hrow i 0 hlt (by decide)
        have hle2 := row_le hle i hlt
        have hw1 := i64s i (by omega)
        have hct := catL_take vs i hlt
        have hcl := catL_le vs (i + 1)
        have hsp := hvs _ (List.getElem_mem hlt)
        generalize hp : vs[i] = p at hld hct hsp
        obtain ⟨pv1, l1⟩ := p
        simp only at hsp
        rw [hct, List.length_append] at hcl
        simp only at hct hcl
        obtain ⟨v', σ', a1, a2, a3, a4⟩ := append_Z (P := Tryz.prog) (ts := #[25, 25]) (e := 5) (sz := 1) (enc := encY) (m := l1) ef25 (by simp) encY_len encY_cok rfl (by decide) (by decide) rfl ow gz.n (hsp.grow gz) (by show _ * 1 ≤ _; omega) (by omega)
        have hg' : Grow s σ' := (gz.fr.trans (ow.frV a3)).grow (Nat.le_refl _)
        obtain ⟨pv', cv', rfl⟩ := (a2.sl (sz := 1) encY_len).form
        obtain ⟨q1, c1, rfl⟩ := hsp.form
        simp [encP] at hld
        simp at hle2
        simp only [List.length_append] at a1 a2
        simp [wops_cons, t6, t25, t26, t27, hlt, hlt', hgj, hld, hle2, hw1, a1]
        exact ⟨vs.length - (i + 1), by omega, i + 1, by omega, by omega, rfl, by rw [hct]; exact a2, hg'⟩
      · have hie : i = vs.length := by omega
        subst hie
        rw [List.take_of_length_le (Nat.le_refl _)] at ow t6
        have hQ := h _ z ow gz
        simpa [wops_cons, t6, t25, t26, t27] using hQ
    · exact ⟨_, 0, .slice p1 0 c1, rfl, by simp, by simp [t0], by simp, by simp, by omega, rfl, by simpa [catL] using o1, g1⟩
end Go.Sm
/- ImageRaw, walked. -/
set_option linter.unusedVariables false
set_option linter.unusedSimpArgs false
namespace Go.Sm
open Go Go.Proofs
set_option maxRecDepth 100000
set_option maxHeartbeats 4000000
theorem law_ImageRaw (mo : List UInt8) (u : Value) (l : List WW) (hok : ∀ w ∈ l, w.ok) (v : Value) (i c : Nat) (hi1 : i ≤ 65535) (hc1 : c ≤ 255) (raw : Bool) (σ : CSt) (hn : gnone σ) (hz : 1 < σ.n) (hsm : Sl σ 5 1 encY u mo) (hsl : Sl σ 82 4 encW v l) : W E1 (.fn 10 #[u, v, .int .u16 i, .int .u8 c, .bool raw] none) σ isTrueP := by
  rw [W_fn (fn := Tryz.f10) Tryz.func10 rfl rfl rfl]
  obtain ⟨pl, cl, rfl⟩ := hsl.form
  obtain ⟨pm, cm, rfl⟩ := hsm.form
  simp [wops_cons]
  rw [awake_spec rfl hn]
  simp [wops_cons]
  by_cases hm : 60 < mo.length
  · have hm' : (60 : Int) < mo.length := by omega
    simp [wops_cons, wops_if', dstOf, hm', isTrueP]
  have hm' : ¬ (60 : Int) < mo.length := by omega
  by_cases hl : 20 < l.length
  · have hl' : (20 : Int) < l.length := by omega
    simp [wops_cons, wops_if', dstOf, hl', hm', isTrueP]
  have hl' : ¬ (20 : Int) < l.length := by omega
  simp [wops_cons, wops_if', dstOf, hl', hm', -W_condK, W_cond_t, W_cond_f]
  refine W_cut (fun out z => ∃ tm L p cc, out = .code .normal ⟨tm, 96, [], false⟩ ∧ tm.get 0 = some (.slice p (List.length L) cc) ∧ Sl z 5 1 encY (.slice p (List.length L) cc) L ∧ List.length L < 2 ^ 29 ∧ σ.n ≤ z.n) ?_ ?_
  · by_cases hraw : raw = true
    · simp [wops_cons, hraw]
      exact ⟨mo, pm, cm, ⟨rfl, rfl, rfl⟩, hsm, by omega⟩
    have hraw' : raw = false := by simpa using hraw
    simp [wops_cons, hraw']
    refine store_spec l hok _ _ hsl (by omega) _ fun i0 m S M σ1 hS hst hmp hmr hm1 hm2 g1 => ?_
    have gn1 := g1.n
    have hw := wsOk_map hok
    have hok' : ∀ w ∈ l.map fixW, w.ok := fun w h => (hw w h).1
    have hSl := hS.len
    simp only [List.length_map] at hSl
    have hsm2 := serS_small (clock := 300) hS hw (by simp; omega) (by omega)
    simp [wops_cons]
    refine limg_spec σ.n m S (l.map fixW) M 300 (by omega) σ1 hok' hS hmp hm2 hmr (by simp; omega) (by omega) _ fun v2 σ2 o2 g2 => ?_
    have hb := o2.sl
    have hser := hsm2
    generalize serS 300 S = B at hb hser
    obtain ⟨p2, c2, rfl⟩ := hb.form
    have hwi : IntKind.i64.wrap (i : Int) = (i : Int) := IntWalk.i64_in _ (by omega)
    have hwb : IntKind.i64.wrap ((B.length : Int) + 1) = (B.length : Int) + 1 := IntWalk.i64_in _ (by omega)
    have hmod : (i : Int).tmod ((B.length : Int) + 1) = ((i % (B.length + 1) : Nat) : Int) := by
      rw [Int.tmod_eq_emod_of_nonneg (by omega)]
      push_cast
      rfl
    have hk : i % (B.length + 1) ≤ B.length := by
      have := Nat.mod_lt i (show 0 < B.length + 1 by omega)
      omega
    have hne0 : ¬ ((B.length : Int) + 1 = 0) := by omega
    generalize i % (B.length + 1) = k at hmod hk
    have hwk : IntKind.i64.wrap (k : Int) = (k : Int) := IntWalk.i64_in _ (by omega)
    obtain ⟨j, hj⟩ : ∃ j : Nat, (if (B.length : Int) < (k : Int) + (c : Int).tmod 6 then (B.length : Int) else (k : Int) + (c : Int).tmod 6) = j ∧ j ≤ B.length := by
      have h6 : (c : Int).tmod 6 = (c : Int) % 6 := Int.tmod_eq_emod_of_nonneg (by omega)
      rw [h6]
      split
      · exact ⟨B.length, rfl, Nat.le_refl _⟩
      · exact ⟨k + c % 6, by push_cast; rfl, by omega⟩
    obtain ⟨q1, d1, x1, x2⟩ := ysl_head hb k hk .i64
    obtain ⟨q2, d2, x3, x4⟩ := ysl_tail hb j hj.2 .i64
    simp [wops_cons, hwi, hwb, hmod, hne0, hwk]
    have h6r : 0 ≤ (c : Int).tmod 6 ∧ (c : Int).tmod 6 < 6 := by
      have h6 : (c : Int).tmod 6 = (c : Int) % 6 := Int.tmod_eq_emod_of_nonneg (by omega)
      rw [h6]
      omega
    have hw6 : IntKind.i64.wrap ((c : Int).tmod 6) = (c : Int).tmod 6 := IntWalk.i64_in _ (by omega)
    have hw68 : IntKind.u8.wrap ((c : Int).tmod 6) = (c : Int).tmod 6 := IntWalk.u8_in _ (by omega)
    have hwk6 : IntKind.i64.wrap ((k : Int) + (c : Int).tmod 6) = (k : Int) + (c : Int).tmod 6 := IntWalk.i64_in _ (by omega)
    have hjj := hj.1
    refine W_calm (by kernel_rfl) ?_
    simp [dops_cons, minK, hw6, hw68, hwk6, hjj, x1, x3]
    have hga : Grow σ2 (σ2.alloc (.cells [.slice q1 k d1, .slice pm mo.length cm, .slice q2 (B.length - j) d2] 25 false)) := (Grow.refl σ2).alloc _
    have hb1 := x2.grow hga
    have hb2 := ((hsm.grow g1).grow g2).grow hga
    have hb3 := x4.grow hga
    have hbl : (catL [(Value.slice q1 k d1, B.take k), (Value.slice pm mo.length cm, mo), (Value.slice q2 (B.length - j) d2, B.drop j)]).length < 2 ^ 29 := by
      simp [catL]
      omega
    refine concatY_spec [(.slice q1 k d1, B.take k), (.slice pm mo.length cm, mo), (.slice q2 (B.length - j) d2, B.drop j)] (.slice (some ⟨σ2.n, 0, none⟩) 3 3) _ ?_ ?_ (by omega) (by simp) _ fun v3 σ3 o3 g3 => ?_
    · intro p hp
      simp only [List.mem_cons, List.not_mem_nil, or_false] at hp
      rcases hp with rfl | rfl | rfl
      · exact hb1
      · exact hb2
      · exact hb3
    · exact Sl.all (cap := 3) (ro := false) (l := [(Value.slice q1 k d1, B.take k), (Value.slice pm mo.length cm, mo), (Value.slice q2 (B.length - j) d2, B.drop j)]) lenP (by simp; rfl) (by simp) (.inr ⟨by simp, by simp [openCap]⟩)
    have hsL := o3.sl (sz := 1) encY_len
    generalize catL [(Value.slice q1 k d1, B.take k), (Value.slice pm mo.length cm, mo), (Value.slice q2 (B.length - j) d2, B.drop j)] = L at hsL hbl
    obtain ⟨p3, c3, rfl⟩ := hsL.form
    simp [dops_cons, wops_cons]
    exact ⟨L, p3, c3, ⟨rfl, rfl, rfl⟩, hsL, by omega, by have := g2.n; have := hga.n; have := g3.n; omega⟩
  · rintro out z ⟨tm, L, p, cc, rfl, t0, hsL, hbl, hzn⟩
    simp [wops_cons, t0]
    refine imgdec_spec L _ z hsL (by omega) _ fun r σ4 hr g4 => ?_
    have hsL4 := hsL.grow g4
    cases hd : decS L with
    | none =>
      rw [hd] at hr
      obtain rfl := hr
      simp [wops_cons, t0]
      refine good_spec L _ σ4 hsL4 (by omega) _ fun σ5 g5 => ?_
      rw [goodI_eq, hd]
      simp [wops_cons, wops_if', dstOf, t0, isNil_none61, bin_nil61, isTrueP]
    | some q =>
      obtain ⟨ck, S⟩ := q
      rw [hd] at hr
      obtain ⟨i4, rfl, hst⟩ := hr
      obtain ⟨w1, w2, w3, w4, w5⟩ := decS_inv hd
      have hOk : OkS S := fun s hs => by
        obtain ⟨a1, a2, a3, a4, a5⟩ := w5 s hs
        refine ⟨by omega, by omega, fun x hx => ?_⟩
        obtain ⟨⟨_, b0⟩, b1, b2⟩ := a5 x hx
        exact ⟨by omega, by omega, by omega⟩
      simp [wops_cons, t0]
      refine good_spec L _ σ4 hsL4 (by omega) _ fun σ5 g5 => ?_
      rw [goodI_eq, hd]
      have nl2 : ∀ a, isNilCmp Tryz.prog .neq 61 (.pointer (some a)) (.pointer none) = some (.bool true) := nil61_ne
      simp [wops_cons, wops_if', dstOf, t0, nl2]
      refine imgenc_spec z.n i4 S ck (by omega) σ5 (by have := g4.n; have := g5.n; omega) (hst.grow g5) hOk (by rw [w1]; omega) (by omega) _ fun v6 σ6 o6 g6 => ?_
      have s6 := o6.sl (sz := 1) encY_len
      rw [w1] at s6
      obtain ⟨p6, c6, rfl⟩ := s6.form
      simp [wops_cons, wops_if', dstOf, t0]
      refine yeq_spec _ _ _ _ σ6 s6 ((hsL4.grow g5).grow g6) (by omega) (by omega) _ ?_
      simp [wops_cons, wops_if', dstOf, t0, isTrueP]
end Go.Sm
