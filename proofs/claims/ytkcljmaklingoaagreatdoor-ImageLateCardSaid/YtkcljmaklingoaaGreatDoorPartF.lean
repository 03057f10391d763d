/- Part F of the proof. -/
import Derived.Test.YtkcljmaklingoaaGreatDoorPartC
import Derived.Test.YtkcljmaklingoaaGreatDoorPartD
import Derived.Test.YtkcljmaklingoaaGreatDoorPartE
/- Stores: a row more; the store itself. -/
set_option linter.unusedVariables false
set_option linter.unusedSimpArgs false
namespace Go.Sm
open Go Go.Proofs
set_option maxRecDepth 100000
set_option maxHeartbeats 1000000
theorem ins_own_95 (b : Nat) (l : List RV) (x : RV) (a : Nat) (ha : a ≤ l.length) (v : Value) (σ : CSt) (hb : b ≤ σ.n) (hown : OwnZ b σ 116 encR v l) (j : Nat) (hj : σ.get j = some (.cells (encR x) 116 false))
    (hji : ∀ i off n c, v = .slice (some ⟨i, off, none⟩) n c → i ≠ j) (hbig : l.length < 2 ^ 40) (Q : Out → CSt → Prop)
    (h : ∀ (v' : Value) (σ' : CSt), Own b σ' 116 encR v' (l.take a ++ x :: l.drop a) → Fr (fun t => t = 116) b σ σ' → Q (.ret v' false) σ') :
    W E1 (.fn 65 #[v, .int .i64 a, .slice (some ⟨j, 0, none⟩) 1 1] none) σ Q := by
  have hxl : (encR x).length = 2 := rfl
  rcases hown with ⟨rfl, rfl⟩ | ⟨i, cap, zs, rfl, hbi, hin, hg, hzs, hcap⟩
  · have ha0 : a = 0 := by simpa using ha
    subst ha0
    rw [Int.natCast_zero, W_gam (E := E1) (f := 65) (g := insG 116 2 40) rfl rfl (v := .slice (some ⟨σ.n, 0, none⟩) 1 openCap) (σ' := σ.alloc (.cells (encR x) 116 false)) (insG_nil hj rfl rfl (by omega))]
    exact h _ _ (.inr ⟨σ.n, openCap, rfl, hb, by simp, by simp, .inl rfl⟩) ((Fr.refl (fun t => t = 116) b σ).alloc _)
  · have hij := hji i 0 _ _ rfl
    have hrl : (l.flatMap encR).length = l.length * 2 := enc_length encR (fun _ => rfl) l
    have hck : cokL (l.flatMap encR) = true := cokL_enc (fun _ => rfl) l
    have hck2 : cokL (l.flatMap encR ++ zs) = true := by rw [cokL_append, hck, hzs]; rfl
    have hrl2 : (l.flatMap encR ++ zs).length = l.length * 2 + zs.length := by rw [List.length_append, hrl]
    rcases hcap with rfl | ⟨rfl, rfl, rfl⟩
    · have he := insRow_encZ (enc := encR) (l := l) (sz := 2) (fun _ => rfl) a ha x zs
      rw [W_gam (E := E1) (f := 65) (g := insG 116 2 40) rfl rfl (v := .slice (some ⟨σ.n, 0, none⟩) (l.length + 1) openCap) (σ' := (σ.put i .dead).alloc (.cells ((l.take a ++ x :: l.drop a).flatMap encR) 116 false)) (by
        rw [insG_some (sz := 2) hg hj rfl rfl (by omega) (by omega) hij (by omega) (cokL_take hck2 _) (by omega) (by omega) hbig, if_pos rfl, ← he]
        rfl)]
      refine h _ _ (.inr ⟨σ.n, openCap, ?_, hb, by simp, by simp, .inl rfl⟩) (((Fr.refl (fun t => t = 116) b σ).put hbi hg rfl _).alloc _)
      have : (l.take a ++ x :: l.drop a).length = l.length + 1 := by simp; omega
      rw [this]
    · have ha0 : a = 0 := by simpa using ha
      subst ha0
      rw [Int.natCast_zero, W_gam (E := E1) (f := 65) (g := insG 116 2 40) rfl rfl (v := .slice (some ⟨σ.n, 0, none⟩) 1 openCap) (σ' := σ.alloc (.cells (encR x) 116 false)) (by
        have hg' : σ.get i = some (.cells [] 116 false) := hg
        exact (insG_some (sz := 2) (n := 0) hg' hj rfl rfl (by omega) (by omega) hij (by simp) (by simp) (by omega) (by omega) (by omega)).trans ((if_neg (by simp [openCap])).trans (if_pos ⟨rfl, rfl⟩)))]
      exact h _ _ (.inr ⟨σ.n, openCap, rfl, hb, by simp, by simp, .inl rfl⟩) ((Fr.refl (fun t => t = 116) b σ).alloc _)

def Rws (σ : CSt) (R : List RV) (S : Stl) : Prop := R.length = S.length ∧ ∀ j (h : j < R.length) (h' : j < S.length), R[j].key = S[j].1 ∧ Sl σ 33 3 encV (.slice R[j].p R[j].n R[j].c) S[j].2
theorem Rws.fr {T : TypeId → Prop} {b : Nat} {σ σ' : CSt} {R : List RV} {S : Stl} (h : Rws σ R S) (ht : ¬ T 33) (hg : Fr T b σ σ') : Rws σ' R S := ⟨h.1, fun j h1 h2 => ⟨(h.2 j h1 h2).1, (h.2 j h1 h2).2.fr ht hg⟩⟩
theorem Rws.grow {σ σ' : CSt} {R : List RV} {S : Stl} (h : Rws σ R S) (hg : Grow σ σ') : Rws σ' R S := ⟨h.1, fun j h1 h2 => ⟨(h.2 j h1 h2).1, (h.2 j h1 h2).2.grow hg⟩⟩
theorem Rws.ins {σ : CSt} {R : List RV} {S : Stl} (h : Rws σ R S) (a : Nat) (ha : a ≤ R.length) (r : RV) (s : ByteArray × List Ver) (hr : r.key = s.1) (hs : Sl σ 33 3 encV (.slice r.p r.n r.c) s.2) : Rws σ (R.take a ++ r :: R.drop a) (S.take a ++ s :: S.drop a) := by
  have hl := h.1
  refine ⟨by simp; omega, fun j h1 h2 => ?_⟩
  rcases Nat.lt_trichotomy j a with hj | hj | hj
  · have e1 : (R.take a ++ r :: R.drop a)[j] = R[j] := by rw [List.getElem_append_left (by simp; omega), List.getElem_take]
    have e2 : (S.take a ++ s :: S.drop a)[j] = S[j] := by rw [List.getElem_append_left (by simp; omega), List.getElem_take]
    rw [e1, e2]; exact h.2 j _ _
  · subst hj
    have e1 : (R.take j ++ r :: R.drop j)[j] = r := by rw [List.getElem_append_right (by simp; omega)]; simp [Nat.min_eq_left ha]
    have e2 : (S.take j ++ s :: S.drop j)[j] = s := by rw [List.getElem_append_right (by simp; omega)]; simp [Nat.min_eq_left (hl ▸ ha)]
    rw [e1, e2]; exact ⟨hr, hs⟩
  · obtain ⟨k, rfl⟩ : ∃ k, j = a + 1 + k := ⟨j - (a + 1), by omega⟩
    have hk : a + k < R.length := by simp at h1; omega
    have e1 : (R.take a ++ r :: R.drop a)[a + 1 + k] = R[a + k] := by
      rw [List.getElem_append_right (by simp; omega)]
      have : a + 1 + k - (R.take a).length = k + 1 := by simp; omega
      simp only [this, List.getElem_cons_succ, List.getElem_drop]
    have e2 : (S.take a ++ s :: S.drop a)[a + 1 + k] = S[a + k] := by
      rw [List.getElem_append_right (by simp; omega)]
      have : a + 1 + k - (S.take a).length = k + 1 := by simp; omega
      simp only [this, List.getElem_cons_succ, List.getElem_drop]
    rw [e1, e2]; exact h.2 (a + k) _ _
theorem Rws.set {σ : CSt} {R : List RV} {S : Stl} (h : Rws σ R S) (a : Nat) (r : RV) (s : ByteArray × List Ver) (hr : r.key = s.1) (hs : Sl σ 33 3 encV (.slice r.p r.n r.c) s.2) : Rws σ (R.set a r) (S.set a s) := by
  have hl := h.1
  refine ⟨by simp; omega, fun j h1 h2 => ?_⟩
  by_cases e : a = j
  · subst e; simp; exact ⟨hr, hs⟩
  · rw [List.getElem_set_ne e, List.getElem_set_ne e]; exact h.2 j _ _
/-- A store that was made behind a point. -/
def St (b : Nat) (σ : CSt) (i : Nat) (S : Stl) : Prop := ∃ vr R, b ≤ i ∧ i < σ.n ∧ σ.get i = some (.cells [vr] 114 false) ∧ OwnZ b σ 116 encR vr R ∧ Rws σ R S
def stT (t : TypeId) : Prop := t = 116 ∨ t = 114
theorem St.grow {b : Nat} {σ σ' : CSt} {i : Nat} {S : Stl} (h : St b σ i S) (hg : Grow σ σ') : St b σ' i S := by
  obtain ⟨vr, R, h1, h2, h3, h4, h5⟩ := h
  exact ⟨vr, R, h1, Nat.lt_of_lt_of_le h2 hg.n, hg.get h3 h2, h4.grow hg, h5.grow hg⟩
theorem new_spec (σ : CSt) (Q : Out → CSt → Prop) (h : ∀ σ', St σ.n σ' σ.n [] → Grow σ σ' → Q (.ret (.pointer (some ⟨σ.n, 0, none⟩)) false) σ') : W E1 (.fn 53 #[] none) σ Q := by
  rw [W_fn (fn := Tryz.f53) Tryz.func53 rfl rfl rfl]
  have := h (σ.alloc (.cells [.slice none 0 0] 114 false)) ⟨.slice none 0 0, [], Nat.le_refl _, by simp, by simp, OwnZ.nil, rfl, fun j h => by simp at h⟩ ((Grow.refl σ).alloc _)
  simpa [wops_cons] using this
theorem find_store (S : Stl) (hk : KS S) (R : List RV) (v : Value) (k : ByteArray) (σ : CSt) (hr : Rws σ R S) (hsl : Sl σ 116 2 encR v R) (hbig : S.length < 2 ^ 40) (Q : Out → CSt → Prop)
    (h : ∀ (n : Nat) (σ' : CSt), Pos S k n → Grow σ σ' → Q (.ret (.tuple #[.int .i64 n, .bool (decide (∃ h : n < S.length, S[n].1 = k))]) false) σ') :
    W E1 (.fn 63 #[v, .string k, .func (.func 64) #[] #[]] none) σ Q := by
  have hl := hr.1
  have hlt : ∀ r : RV, ordR k r < 0 ↔ klt r.key k = true := by
    intro r
    unfold ordR
    cases h1 : klt r.key k
    · by_cases h2 : r.key = k <;> simp [h2]
    · simp
  have hz : ∀ r : RV, ordR k r = 0 ↔ r.key = k := by
    intro r
    unfold ordR
    cases h1 : klt r.key k
    · by_cases h2 : r.key = k <;> simp [h2]
    · simp
      intro e
      rw [e, klt_irrefl] at h1
      cases h1
  refine search_95 R v _ rfl (ordR k) σ hsl (by omega) (fun x σ Q h => orderR_spec k x σ Q h) (fun j m hj hm hjm ho => ?_) Q fun n σ' hc hg => ?_
  · rw [hlt] at ho ⊢
    have h1 := (hr.2 j hj (by omega)).1
    have h2 := (hr.2 m hm (by omega)).1
    have h3 := List.pairwise_iff_getElem.1 hk j m (by omega) (by omega) hjm
    rw [h2] at ho
    rw [h1]
    exact klt_trans h3 ho
  · have hp : Pos S k n := by
      refine ⟨by have := hc.le; omega, fun j hj hjn => ?_, fun j hj hjn => ?_⟩
      · have := hc.lo j (by omega) hjn
        rw [hlt, (hr.2 j (by omega) hj).1] at this
        exact this
      · have := hc.hi j (by omega) hjn
        cases h1 : klt S[j].1 k
        · rfl
        · have h2 := (hlt R[j]).2 (by rw [(hr.2 j (by omega) hj).1]; exact h1)
          omega
    have := h n σ' hp hg
    have e : (∃ h : n < R.length, ordR k R[n] = 0) ↔ ∃ h : n < S.length, S[n].1 = k :=
      ⟨fun ⟨h1, h2⟩ => ⟨by omega, by rw [← (hr.2 n h1 (by omega)).1]; exact (hz _).1 h2⟩, fun ⟨h1, h2⟩ => ⟨by omega, (hz _).2 (by rw [(hr.2 n (by omega) h1).1]; exact h2)⟩⟩
    rw [decide_eq_decide.2 e]
    exact this
end Go.Sm
/- Stores: Put. -/
set_option linter.unusedVariables false
set_option linter.unusedSimpArgs false
namespace Go.Sm
open Go Go.Proofs
set_option maxRecDepth 100000
set_option maxHeartbeats 4000000
theorem encR_set1 (R : List RV) (n : Nat) (h : n < R.length) (p : Option Addr) (m c : Nat) : (R.flatMap encR).take (n * 2 + 1) ++ .slice p m c :: (R.flatMap encR).drop (n * 2 + 1 + 1) = (R.set n ⟨R[n].key, p, m, c⟩).flatMap encR := by
  have h1 := enc_set encR (n := 2) lenR R n ⟨R[n].key, p, m, c⟩ h
  rw [← h1]
  have hl : (R.flatMap encR).length = R.length * 2 := enc_length encR lenR R
  have h2 : n * 2 < (R.flatMap encR).length := by omega
  have hrow : ((R.flatMap encR).drop 0).take (R.length * 2) = R.flatMap encR := by rw [List.drop_zero, List.take_of_length_le (by omega)]
  have h3 := row_cell (enc := encR) lenR hrow n 0 h (by omega)
  rw [Nat.zero_add, Nat.add_zero, List.getElem?_eq_getElem h2] at h3
  have h4 : (R.flatMap encR)[n * 2] = .string R[n].key := by simpa [encR] using h3
  rw [List.take_succ_eq_append_getElem h2, h4]
  simp [encR]
theorem hbits : ∀ j, j < 17 → Nat.testBit 131071 j = true := by decide
theorem put_store (b : Nat) (i : Nat) (S : Stl) (hk : KS S) (hc : ∀ s ∈ S, Srt s.2) (hcl : ∀ s ∈ S, s.2.length < 2 ^ 38) (k : ByteArray) (x : Ver) (σ : CSt) (hb : b ≤ σ.n) (hst : St b σ i S) (hbig : S.length < 2 ^ 38) (Q : Out → CSt → Prop)
    (h : ∀ (n : Nat) (σ' : CSt), Pos S k n → St b σ' i (putAt S k x n) → Fr stT b σ σ' → Q (.ret (.tuple #[]) false) σ') :
    W E1 (.fn 39 #[.pointer (some ⟨i, 0, none⟩), .string k, .agg (encV x).toArray] none) σ Q := by
  obtain ⟨vr, R, hbi, hin, hg, hown, hrw⟩ := hst
  rw [W_fn (fn := Tryz.f39) Tryz.func39 rfl rfl rfl]
  have hni : ¬ i = σ.n := by omega
  have hga : Grow σ (σ.alloc (.cells (encV x) 33 false)) := (Grow.refl σ).alloc _
  obtain ⟨pr, cr, rfl⟩ := (hown.sl (sz := 2) lenR).form
  have hl := hrw.1
  simp [wops_cons, encV, hg, hni]
  simp only [encV] at hga
  refine find_store S hk R _ k _ (hrw.grow hga) ((hown.grow hga).sl lenR) (by omega) _ fun n σ1 hp g1 => ?_
  have hg1 := hga.trans g1
  have hgi := hg1.get hg hin
  have hcell : σ1.get σ.n = some (.cells [.int .u64 x.at_, .string x.val, .bool x.gone] 33 false) := g1.get (by simp) (by simp)
  have hn1 : σ.n < σ1.n := by have := g1.n; simp at this; omega
  have hown1 := hown.grow hg1
  have hrw1 := hrw.grow hg1
  by_cases hfo : ∃ h : n < S.length, S[n].1 = k
  · obtain ⟨hnS, hkey⟩ := hfo
    rw [decide_eq_true ⟨hnS, hkey⟩]
    have hput : putAt S k x n = S.set n (k, putL S[n].2 x) := by
      unfold putAt
      rw [List.getElem?_eq_getElem hnS]
      simp only [hkey, if_true]
    have hnR : n < R.length := by omega
    obtain ⟨hkeyR, hslR⟩ := hrw1.2 n hnR hnS
    rcases hown1 with ⟨h1, h2⟩ | ⟨o, cap, zs, h1, hbo, hon, hgo, hzs, hcap⟩
    · rw [h2] at hnR; simp at hnR
    · cases h1
      have hrl : (R.flatMap encR).length = R.length * 2 := enc_length encR lenR R
      have hrow : ((R.flatMap encR ++ zs).drop 0).take (R.length * 2) = R.flatMap encR := by rw [List.drop_zero, ← hrl, List.take_left]
      have hrlz : (R.flatMap encR ++ zs).length = R.length * 2 + zs.length := by rw [List.length_append, hrl]
      have hsetz : ∀ (p : Option Addr) (m c : Nat), (R.flatMap encR ++ zs).take (n * 2 + 1) ++ .slice p m c :: (R.flatMap encR ++ zs).drop (n * 2 + 1 + 1) = (R.set n ⟨R[n].key, p, m, c⟩).flatMap encR ++ zs := fun p m c => by
        rw [List.take_append_of_le_length (by omega), List.drop_append_of_le_length (by omega), ← List.cons_append, ← List.append_assoc, encR_set1 R n hnR p m c]
      generalize R.flatMap encR ++ zs = row at hgo hrow hrlz hsetz
      have hcel := row_cell (enc := encR) lenR hrow n 1 hnR (by omega)
      rw [Nat.zero_add] at hcel
      have hcel2 : row[n * 2 + 1]? = some (.slice R[n].p R[n].n R[n].c) := hcel
      have hle2 : n * 2 + 1 + 1 ≤ row.length := by omega
      simp [wops_cons, hgi, hcell]
      refine W_drawn (l := [0, 1, 2, 3, 4, 5, 6, 7, 8, 9, 10, 11, 12, 13, 14, 15, 16, 17]) (b := #[0, 1, 3, 7, 0, 0, 32, 96, 224, 0, 992, 2016, 4064, 0, 16352, 32767, 65535, 131071]) (by kernel_rfl) (by kernel_rfl) (by kernel_rfl) ?_
      simp [dopsR_cons, opAt, isEff, again, befBits, isRead, Nat.add_assoc, hgi, hcell, hgo, hnR, hcel2, hrl, -List.length_flatMap]
      have hsrt := hc _ (List.getElem_mem hnS)
      have hlen := hcl _ (List.getElem_mem hnS)
      have hps := fun Q => put_spec S[n].2 hsrt (.slice R[n].p R[n].n R[n].c) x σ1 hslR (by omega) Q
      simp only [encV] at hps
      refine hps _ fun v2 σ2 h2 g2 => ?_
      obtain ⟨p2, c2, rfl⟩ := (h2.sl (sz := 3) (fun _ => rfl)).form
      have hgi2 := g2.get hgi (Nat.lt_of_lt_of_le hin hg1.n)
      have hgo2 := g2.get hgo hon
      have hcell2 := g2.get hcell hn1
      simp [dopsR_cons, opAt, isEff, again, befBits, isRead, Nat.add_assoc, hgi2, hgo2, hcell2, hnR, hcel2, hrl, hle2, hbits, -List.length_flatMap]
      rw [hsetz]
      have hR2 := (hrw1.grow g2).set n ⟨R[n].key, p2, (putL S[n].2 x).length, c2⟩ (k, putL S[n].2 x) (by rw [hkeyR, hkey]) (h2.sl (fun _ => rfl))
      have hoi : ¬ i = o := by
        intro e
        subst e
        rw [hgi] at hgo
        have h1 := Option.some.inj hgo
        injection h1 with _ h2
        exact absurd h2 (by decide)
      have hF : Fr stT b σ (σ2.put o (.cells ((R.set n ⟨R[n].key, p2, (putL S[n].2 x).length, c2⟩).flatMap encR ++ zs) 116 false)) := ((hg1.trans g2).fr (T := stT)).put hbo hgo2 (.inl rfl) _
      refine h n _ hp ?_ hF
      rw [hput]
      have hon2 := Nat.lt_of_lt_of_le hon g2.n
      have hin2 := Nat.lt_of_lt_of_le (Nat.lt_of_lt_of_le hin hg1.n) g2.n
      have hfr : Fr (fun t => t = 116) 0 σ2 (σ2.put o (.cells ((R.set n ⟨R[n].key, p2, (putL S[n].2 x).length, c2⟩).flatMap encR ++ zs) 116 false)) := (Fr.refl (fun t => t = 116) 0 σ2).put (Nat.zero_le _) hgo2 rfl _
      refine ⟨_, R.set n ⟨R[n].key, p2, (putL S[n].2 x).length, c2⟩, hbi, by simpa using hin2, by rw [CSt.get_put, if_neg hoi]; exact hgi2, .inr ⟨o, cr, zs, by simp, hbo, by simpa using hon2, by simp, hzs, ?_⟩, hR2.fr (by decide) hfr⟩
      rcases hcap with h | ⟨h, _⟩
      · exact .inl h
      · rw [h] at hnR; simp at hnR
  · have hput : putAt S k x n = S.take n ++ (k, putL [] x) :: S.drop n := by
      unfold putAt
      cases hn : S[n]? with
      | none => rfl
      | some s =>
        have hs : ¬ s.1 = k := fun e => hfo (by
          obtain ⟨h1, h2⟩ := List.getElem?_eq_some_iff.1 hn
          exact ⟨h1, by rw [h2]; exact e⟩)
        simp only [hs, if_false]
    rw [decide_eq_false hfo]
    have hnR : n ≤ R.length := by have := hp.le; omega
    have hg2a : Grow σ1 (σ1.alloc (.cells (encR ⟨k, none, 0, 0⟩) 116 false)) := (Grow.refl σ1).alloc _
    have hji : ∀ o off m c, Value.slice pr R.length cr = .slice (some ⟨o, off, none⟩) m c → o ≠ σ1.n := by
      rintro o off m c e
      rcases hown1 with ⟨h0, _⟩ | ⟨i', cap, _, h0, _, h1, _⟩
      · rw [h0] at e; cases e
      · rw [h0] at e; cases e; omega
    have hins := fun Q => ins_own_95 b R ⟨k, none, 0, 0⟩ n hnR (.slice pr R.length cr) _ (by have := hg1.n; simp; omega) (hown1.grow hg2a) σ1.n (by simp) hji (by omega) Q
    simp only [encR] at hins hg2a
    simp [wops_cons, hgi, hcell]
    refine hins _ fun v2 σ2 h2 g2 => ?_
    have hin1 := Nat.lt_of_lt_of_le hin hg1.n
    have hgi2 : σ2.get i = some (.cells [.slice pr R.length cr] 114 false) := g2.get (hg2a.get hgi hin1) (by simp; omega) (.inr fun row e ro he => by injection he with _ h2 _; rw [← h2]; decide)
    have hcell2 : σ2.get σ.n = some (.cells [.int .u64 x.at_, .string x.val, .bool x.gone] 33 false) := g2.get (hg2a.get hcell hn1) (by simp; omega) (.inr fun row e ro he => by injection he with _ h2 _; rw [← h2]; decide)
    have hRl : (R.take n ++ (⟨k, none, 0, 0⟩ : RV) :: R.drop n).length = R.length + 1 := by simp; omega
    have hRn : (R.take n ++ (⟨k, none, 0, 0⟩ : RV) :: R.drop n)[n]? = some ⟨k, none, 0, 0⟩ := by
      rw [List.getElem?_append_right (by simp; omega)]
      simp [Nat.min_eq_left hnR]
    have hrw2 := (((hrw1.grow hg2a).fr (T := fun t => t = 116) (by decide) g2)).ins n hnR ⟨k, none, 0, 0⟩ (k, []) rfl Sl.nil
    have hSset : (S.take n ++ ((k, []) : ByteArray × List Ver) :: S.drop n).set n (k, putL [] x) = S.take n ++ (k, putL [] x) :: S.drop n := by
      have h0 : n = (S.take n).length + 0 := by rw [List.length_take, Nat.min_eq_left hp.le, Nat.add_zero]
      conv => lhs; arg 2; rw [h0]
      rw [List.set_append_right _ _ (by omega)]
      simp
    generalize hR' : (R.take n ++ (⟨k, none, 0, 0⟩ : RV) :: R.drop n) = R' at h2 hRl hRn hrw2
    obtain ⟨hnR', hRn'⟩ := List.getElem?_eq_some_iff.1 hRn
    have hslR : Sl σ2 33 3 encV (.slice none 0 0) ([] : List Ver) := Sl.nil
    rcases h2 with ⟨h1, h2⟩ | ⟨o, cap, h1, hbo, hon, hgo, hcap⟩
    · rw [h2] at hnR'; simp at hnR'
    · subst h1
      have hrl : (R'.flatMap encR).length = R'.length * 2 := enc_length encR lenR R'
      have hrow : ((R'.flatMap encR).drop 0).take (R'.length * 2) = R'.flatMap encR := by rw [List.drop_zero, List.take_of_length_le (by omega)]
      have hcel := row_cell (enc := encR) lenR hrow n 1 hnR' (by omega)
      rw [Nat.zero_add, hRn'] at hcel
      have hcel2 : (R'.flatMap encR)[n * 2 + 1]? = some (.slice none 0 0) := hcel
      have hle2 : n * 2 + 1 + 1 ≤ R'.length * 2 := by omega
      have hoi : ¬ i = o := by
        intro e
        subst e
        rw [hgi2] at hgo
        have h1 := Option.some.inj hgo
        injection h1 with _ h2
        exact absurd h2 (by decide)
      have hni2 : ¬ σ.n = i := by omega
      have hoi2 : ¬ o = i := fun e => hoi e.symm
      have hin2 : i < σ2.n := by have := g2.1; simp at this; omega
      simp [wops_cons, hgi2, hcell2]
      refine W_drawn (l := [0, 1, 2, 3, 4, 5, 6, 7, 8, 9, 10, 11, 12, 13, 14, 15, 16, 17]) (b := #[0, 1, 3, 7, 0, 0, 32, 96, 224, 0, 992, 2016, 4064, 0, 16352, 32767, 65535, 131071]) (by kernel_rfl) (by kernel_rfl) (by kernel_rfl) ?_
      simp [dopsR_cons, opAt, isEff, again, befBits, isRead, Nat.add_assoc, hgi2, hcell2, hgo, hnR', hcel2, hrl, hoi, hoi2, hni2, -List.length_flatMap]
      have hgp : (σ2.put i (.cells [.slice (some ⟨o, 0, none⟩) R'.length cap] 114 false)).get o = some (.cells (R'.flatMap encR) 116 false) := by rw [CSt.get_put, if_neg hoi2]; exact hgo
      have hgip : (σ2.put i (.cells [.slice (some ⟨o, 0, none⟩) R'.length cap] 114 false)).get i = some (.cells [.slice (some ⟨o, 0, none⟩) R'.length cap] 114 false) := by rw [CSt.get_put, if_pos rfl]
      have hcep : (σ2.put i (.cells [.slice (some ⟨o, 0, none⟩) R'.length cap] 114 false)).get σ.n = some (.cells [.int .u64 x.at_, .string x.val, .bool x.gone] 33 false) := by rw [CSt.get_put, if_neg hni2]; exact hcell2
      have hFi : Fr (fun t => t = 114) 0 σ2 (σ2.put i (.cells [.slice (some ⟨o, 0, none⟩) R'.length cap] 114 false)) := (Fr.refl (fun t => t = 114) 0 σ2).put (Nat.zero_le _) hgi2 rfl _
      have hF3 : Fr stT b σ (σ2.put i (.cells [.slice (some ⟨o, 0, none⟩) R'.length cap] 114 false)) := ((((hg1.trans hg2a).fr (T := stT) (b := b)).trans (g2.mono (fun e he => .inl he) (Nat.le_refl _)))).put hbi hgi2 (.inr rfl) _
      have hrw3 := hrw2.fr (T := fun t => t = 114) (by decide) hFi
      have hn3 : (σ2.put i (.cells [.slice (some ⟨o, 0, none⟩) R'.length cap] 114 false)).n = σ2.n := rfl
      have hns2 : σ.n < σ2.n := by have := g2.1; simp at this; omega
      generalize hσ3 : σ2.put i (.cells [.slice (some ⟨o, 0, none⟩) R'.length cap] 114 false) = σ3 at hgp hgip hcep hF3 hrw3 hn3 ⊢
      have hps := fun Q => put_spec [] List.Pairwise.nil (.slice none 0 0) x σ3 Sl.nil (by simp) Q
      simp only [encV] at hps
      refine hps _ fun v4 σ4 h4 g4 => ?_
      obtain ⟨p4, c4, rfl⟩ := (h4.sl (sz := 3) (fun _ => rfl)).form
      have hgi4 := g4.get hgip (by omega)
      have hgo4 := g4.get hgp (by omega)
      have hcell4 := g4.get hcep (by omega)
      simp [dopsR_cons, opAt, isEff, again, befBits, isRead, Nat.add_assoc, hgi4, hgo4, hcell4, hnR', hcel2, hrl, hle2, hbits, -List.length_flatMap]
      have hset := encR_set1 R' n hnR' p4 (putL [] x).length c4
      rw [hRn'] at hset
      rw [hset]
      have hR4 := (hrw3.grow g4).set n ⟨k, p4, (putL [] x).length, c4⟩ (k, putL [] x) rfl (h4.sl (fun _ => rfl))
      rw [hSset, ← hput] at hR4
      have hF : Fr stT b σ (σ4.put o (.cells ((R'.set n ⟨k, p4, (putL [] x).length, c4⟩).flatMap encR) 116 false)) := (hF3.trans g4.fr).put hbo hgo4 (.inl rfl) _
      refine h n _ hp ?_ hF
      have hn4 := g4.n
      have hfr : Fr (fun t => t = 116) 0 σ4 (σ4.put o (.cells ((R'.set n ⟨k, p4, (putL [] x).length, c4⟩).flatMap encR) 116 false)) := (Fr.refl (fun t => t = 116) 0 σ4).put (Nat.zero_le _) hgo4 rfl _
      refine ⟨_, R'.set n ⟨k, p4, (putL [] x).length, c4⟩, hbi, by simp; omega, by rw [CSt.get_put, if_neg hoi]; exact hgi4, .inr ⟨o, cap, [], by simp, hbo, by simp; omega, by simp, rfl, ?_⟩, hR4.fr (by decide) hfr⟩
      rcases hcap with h | ⟨h, _⟩
      · exact .inl h
      · rw [h] at hnR'; simp at hnR'
end Go.Sm
/- Stores: All, gone over. -/
set_option linter.unusedVariables false
set_option linter.unusedSimpArgs false
namespace Go.Sm
open Go Go.Proofs
set_option maxRecDepth 100000
set_option maxHeartbeats 4000000
/-- The store's objects are as they were. -/
def Kept (σ σ' : CSt) : Prop := σ.n ≤ σ'.n ∧ ∀ m, m < σ.n → ∀ row e ro, σ.get m = some (.cells row e ro) → (e = 116 ∨ e = 114 ∨ e = 33 ∨ e = 61) → σ'.get m = σ.get m
theorem Kept.sl {α : Type} {σ σ' : CSt} {e : TypeId} {sz : Nat} {enc : α → List Value} {v : Value} {l : List α} (hk : Kept σ σ') (h : Sl σ e sz enc v l) (he : e = 116 ∨ e = 114 ∨ e = 33 ∨ e = 61) : Sl σ' e sz enc v l := by
  rcases h with h | ⟨i, off, cap, row, ro, h1, h2, h3, h4⟩
  · exact .inl h
  · exact .inr ⟨i, off, cap, row, ro, h1, by rw [hk.2 i h3 _ _ _ h2 he]; exact h2, Nat.lt_of_lt_of_le h3 hk.1, h4⟩
theorem Grow.kept {σ σ' : CSt} (h : Grow σ σ') : Kept σ σ' := ⟨h.n, fun m hm _ _ _ _ _ => h.old m hm⟩
end Go.Sm
/- Stores: the laws' Make: a store, and the same as a map. -/
set_option linter.unusedVariables false
set_option linter.unusedSimpArgs false
namespace Go.Sm
open Go Go.Proofs
set_option maxRecDepth 100000
set_option maxHeartbeats 4000000
structure WW where
  key : Int
  v : VV
def encW (w : WW) : List Value := [.int .u8 w.key, .int .u8 w.v.at_, .int .u8 w.v.v, .bool w.v.gone]
theorem lenW (w : WW) : (encW w).length = 4 := rfl
def WW.ok (w : WW) : Prop := (0 ≤ w.key ∧ w.key < 256) ∧ w.v.ok
/-- A key, by a number below five. -/
def key12 (n : Int) : ByteArray := match n.toNat with
  | 0 => ⟨#[97]⟩ | 1 => ⟨#[98]⟩ | 2 => ⟨#[99]⟩ | 3 => ⟨#[100]⟩ | _ => ⟨#[101]⟩
def WW.k (w : WW) : ByteArray := key12 (w.key.tmod 5)
/-- A map as a list: the keys, and what was put, in order. -/
abbrev Fl := List (ByteArray × List VV)
def putF : Fl → ByteArray → VV → Fl
  | [], k, x => [(k, [x])]
  | p :: F, k, x => if p.1 = k then (k, p.2 ++ [x]) :: F else p :: putF F k x
def MRel (b : Nat) (σ : CSt) : Ml → Fl → Prop
  | [], [] => True
  | p :: M, q :: F => (p.1 = q.1 ∧ Own b σ 78 encU p.2 q.2) ∧ (∀ r ∈ M, ∀ i, objOf p.2 = some i → objOf r.2 ≠ some i) ∧ MRel b σ M F
  | _, _ => False
theorem Own.at_obj {α : Type} {b : Nat} {σ σ' : CSt} {e : TypeId} {enc : α → List Value} {v : Value} {l : List α} (h : Own b σ e enc v l) (hn : σ.n ≤ σ'.n) (hg : ∀ i, objOf v = some i → i < σ.n → σ'.get i = σ.get i) : Own b σ' e enc v l := by
  rcases h with h | ⟨i, cap, h1, hb, hi, h2, h3⟩
  · exact .inl h
  · exact .inr ⟨i, cap, h1, hb, Nat.lt_of_lt_of_le hi hn, by rw [hg i (by rw [h1]; rfl) hi]; exact h2, h3⟩
theorem MRel.own {b : Nat} {σ : CSt} : ∀ {M : Ml} {F : Fl}, MRel b σ M F → ∀ r ∈ M, ∃ l : List VV, Own b σ 78 encU r.2 l
  | [], [], _, r, hr => by cases hr
  | p :: M, q :: F, h, r, hr => by
    rcases List.mem_cons.1 hr with rfl | hr
    · exact ⟨_, h.1.2⟩
    · exact MRel.own h.2.2 r hr
theorem MRel.keep {b : Nat} {σ σ' : CSt} (hn : σ.n ≤ σ'.n) : ∀ {M : Ml} {F : Fl}, MRel b σ M F → (∀ r ∈ M, ∀ i, objOf r.2 = some i → i < σ.n → σ'.get i = σ.get i) → MRel b σ' M F
  | [], [], _, _ => trivial
  | p :: M, q :: F, h, hg => ⟨⟨h.1.1, h.1.2.at_obj hn (hg p (by simp))⟩, h.2.1, MRel.keep hn h.2.2 fun r hr => hg r (by simp [hr])⟩
theorem MRel.fr {T : TypeId → Prop} {b b' : Nat} {σ σ' : CSt} (ht : ¬ T 78) (hg : Fr T b' σ σ') : ∀ {M : Ml} {F : Fl}, MRel b σ M F → MRel b σ' M F
  | [], [], _ => trivial
  | p :: M, q :: F, h => ⟨⟨h.1.1, h.1.2.fr ht hg⟩, h.2.1, MRel.fr ht hg h.2.2⟩
def getF (F : Fl) (k : ByteArray) : List VV := match F.find? (fun p => decide (p.1 = k)) with | some p => p.2 | none => []
theorem MRel.get {b : Nat} {σ : CSt} (k : ByteArray) : ∀ {M : Ml} {F : Fl}, MRel b σ M F → Own b σ 78 encU ((getM M k).getD (.slice none 0 0)) (getF F k)
  | [], [], _ => Own.nil
  | p :: M, q :: F, h => by
    have ih := MRel.get k h.2.2
    unfold getM getF at ih ⊢
    rw [List.find?_cons, List.find?_cons, h.1.1]
    by_cases e : q.1 = k
    · simp only [e, decide_true]; exact h.1.2
    · simp only [e, decide_false]; exact ih
theorem MRel.set {b : Nat} {σ σ' : CSt} (k : ByteArray) (x : VV) (v' : Value) {n c : Nat} (hn : σ.n ≤ σ'.n) (hv : v' = .slice (some ⟨σ.n, 0, none⟩) n c) : ∀ {M : Ml} {F : Fl}, MRel b σ M F → Own b σ' 78 encU v' (getF F k ++ [x]) →
    (∀ j, j < σ.n → (∀ i, objOf ((getM M k).getD (.slice none 0 0)) = some i → j ≠ i) → σ'.get j = σ.get j) → MRel b σ' (setM M k v') (putF F k x)
  | [], [], _, ho, _ => ⟨⟨rfl, ho⟩, by simp, trivial⟩
  | p :: M, q :: F, h, ho, hg => by
    unfold getM at hg
    unfold getF at ho
    rw [List.find?_cons] at hg ho
    unfold setM putF
    rw [h.1.1] at hg ⊢
    have hobj : objOf v' = some σ.n := by rw [hv]; rfl
    by_cases e : q.1 = k
    · simp only [e, decide_true, Option.map_some, Option.getD_some] at hg ho
      rw [if_pos e, if_pos e]
      refine ⟨⟨rfl, ho⟩, fun r hr i hi => ?_, MRel.keep hn h.2.2 fun r hr i hi hlt => hg i hlt fun i' hi' e' => h.2.1 r hr i' hi' (by rw [← e']; exact hi)⟩
      rw [hobj] at hi
      cases hi
      intro h2
      obtain ⟨l, hl⟩ := MRel.own h.2.2 r hr
      have := hl.obj_lt h2
      omega
    · simp only [e, decide_false] at hg ho
      rw [if_neg e, if_neg e]
      refine ⟨⟨h.1.1, h.1.2.at_obj hn fun i hi hlt => hg i hlt fun i' hi' e' => ?_⟩, fun r hr i hi => ?_, MRel.set k x v' hn hv h.2.2 ho hg⟩
      · subst e'
        cases hf : M.find? (fun p => decide (p.1 = k)) with
        | none => rw [hf] at hi'; cases hi'
        | some r =>
          rw [hf] at hi'
          exact h.2.1 r (List.mem_of_find?_eq_some hf) i hi hi'
      · have hlt := h.1.2.obj_lt hi
        have hmem : ∀ {M : Ml}, r ∈ setM M k v' → r ∈ M ∨ r.2 = v' := by
          intro M
          induction M with
          | nil => intro hr; simp [setM] at hr; right; rw [hr]
          | cons a M ih =>
            unfold setM
            split
            · intro hr
              rcases List.mem_cons.1 hr with rfl | hr
              · exact .inr rfl
              · exact .inl (by simp [hr])
            · intro hr
              rcases List.mem_cons.1 hr with rfl | hr
              · exact .inl (by simp)
              · rcases ih hr with h | h
                · exact .inl (by simp [h])
                · exact .inr h
        rcases hmem hr with h1 | h1
        · exact h.2.1 r h1 i hi
        · rw [h1, hobj]
          intro e2
          cases e2
          omega
end Go.Sm
/- Stores as lists: puts, one after the other. -/
set_option linter.unusedSimpArgs false
namespace Go.Sm
def ofK (ws : List WW) (k : ByteArray) : List Ver := (ws.filter fun w => decide (w.k = k)).map fun w => verOf w.v
/-- The store of these versions. -/
structure SRel (S : Stl) (ws : List WW) : Prop where
  ks : KS S
  val : ∀ s ∈ S, s.2 = makeL (ofK ws s.1)
  all : ∀ w ∈ ws, ∃ s ∈ S, s.1 = w.k
  only : ∀ s ∈ S, ∃ w ∈ ws, w.k = s.1
  len : S.length ≤ ws.length
theorem ofK_snoc (ws : List WW) (w : WW) (k : ByteArray) : ofK (ws ++ [w]) k = if w.k = k then ofK ws k ++ [verOf w.v] else ofK ws k := by
  unfold ofK
  rw [List.filter_append]
  by_cases e : w.k = k <;> simp [e]
theorem SRel.srt {S : Stl} {ws : List WW} (h : SRel S ws) : ∀ s ∈ S, Srt s.2 := fun s hs => by rw [h.val s hs]; exact makeL_srt _
theorem SRel.short {S : Stl} {ws : List WW} (h : SRel S ws) : ∀ s ∈ S, s.2.length ≤ ws.length := fun s hs => by
  rw [h.val s hs]
  refine Nat.le_trans (make_len _) ?_
  unfold ofK
  rw [List.length_map]
  exact List.length_filter_le _ _
theorem SRel.nil : SRel [] [] := ⟨List.Pairwise.nil, by simp, by simp, by simp, Nat.le_refl _⟩
theorem SRel.put {S : Stl} {ws : List WW} {w : WW} {n : Nat} (h : SRel S ws) (hp : Pos S w.k n) : SRel (putAt S w.k (verOf w.v) n) (ws ++ [w]) := by
  have hnew : (∀ s, S[n]? = some s → s.1 ≠ w.k) → SRel (S.take n ++ (w.k, putL [] (verOf w.v)) :: S.drop n) (ws ++ [w]) := by
    intro hne
    have hlo : ∀ s ∈ S.take n, klt s.1 w.k = true := fun s hs => by
      obtain ⟨j, hj, rfl⟩ := List.mem_iff_getElem.1 hs
      rw [List.length_take] at hj
      rw [List.getElem_take]
      exact hp.lo j (by omega) (by omega)
    have hhi : ∀ s ∈ S.drop n, klt w.k s.1 = true := fun s hs => by
      obtain ⟨j, hj, rfl⟩ := List.mem_iff_getElem.1 hs
      rw [List.length_drop] at hj
      rw [List.getElem_drop]
      have h1 := hp.hi (n + j) (by omega) (by omega)
      have h0 := hne S[n] (List.getElem?_eq_getElem (by omega))
      have h2 := hp.hi n (by omega) (Nat.le_refl _)
      have h3 : klt w.k S[n].1 = true := by
        cases h4 : klt w.k S[n].1 with
        | true => rfl
        | false => exact absurd (klt_tri h2 h4) h0
      cases j with
      | zero => exact h3
      | succ j => exact klt_trans h3 (List.pairwise_iff_getElem.1 h.ks n (n + (j + 1)) (by omega) (by omega) (by omega))
    have hno : ∀ s ∈ S, s.1 ≠ w.k := fun s hs e => by
      rw [← List.take_append_drop n S] at hs
      rcases List.mem_append.1 hs with hs | hs
      · have := hlo s hs; rw [e, klt_irrefl] at this; cases this
      · have := hhi s hs; rw [e, klt_irrefl] at this; cases this
    have hmem : ∀ s, s ∈ S.take n ++ (w.k, putL [] (verOf w.v)) :: S.drop n ↔ s = (w.k, putL [] (verOf w.v)) ∨ s ∈ S := fun s => by
      conv => rhs; rw [← List.take_append_drop n S]
      simp only [List.mem_append, List.mem_cons]
      exact or_left_comm
    have hempty : ofK ws w.k = [] := by
      unfold ofK
      rw [List.map_eq_nil_iff, List.filter_eq_nil_iff]
      intro u hu
      obtain ⟨s, hs, e⟩ := h.all u hu
      have := hno s hs
      simp
      intro e2
      exact this (by rw [e, e2])
    refine ⟨?_, fun s hs => ?_, fun u hu => ?_, fun s hs => ?_, ?_⟩
    · unfold KS
      rw [List.pairwise_append]
      have hks := h.ks
      unfold KS at hks
      refine ⟨List.Pairwise.sublist (List.take_sublist n S) hks, List.pairwise_cons.2 ⟨fun s hs => hhi s hs, List.Pairwise.sublist (List.drop_sublist n S) hks⟩, fun a ha c hc => ?_⟩
      rcases List.mem_cons.1 hc with rfl | hc
      · exact hlo a ha
      · exact klt_trans (hlo a ha) (hhi c hc)
    · rw [ofK_snoc]
      rcases (hmem s).1 hs with rfl | hs
      · simp only [if_true, hempty, List.nil_append]; rfl
      · rw [if_neg (Ne.symm (hno s hs))]; exact h.val s hs
    · rcases List.mem_append.1 hu with hu | hu
      · obtain ⟨s, hs, e⟩ := h.all u hu
        exact ⟨s, (hmem s).2 (.inr hs), e⟩
      · rw [List.mem_singleton] at hu
        subst hu
        exact ⟨_, (hmem _).2 (.inl rfl), rfl⟩
    · rcases (hmem s).1 hs with rfl | hs
      · exact ⟨w, by simp, rfl⟩
      · obtain ⟨u, hu, e⟩ := h.only s hs
        exact ⟨u, by simp [hu], e⟩
    · have := h.len; have := hp.le; simp; omega
  unfold putAt
  cases hn : S[n]? with
  | none => exact hnew fun s hs => by rw [hn] at hs; cases hs
  | some s =>
    simp only
    by_cases e : s.1 = w.k
    · rw [if_pos e]
      obtain ⟨hnS, hs⟩ := List.getElem?_eq_some_iff.1 hn
      have hks := h.ks
      unfold KS at hks
      have hother : ∀ j (hj : j < S.length), j ≠ n → S[j].1 ≠ w.k := fun j hj hjn e2 => by
        rcases Nat.lt_or_gt_of_ne hjn with h1 | h1
        · have := List.pairwise_iff_getElem.1 hks j n hj hnS h1
          rw [e2, hs, e, klt_irrefl] at this; cases this
        · have := List.pairwise_iff_getElem.1 hks n j hnS hj h1
          rw [e2, hs, e, klt_irrefl] at this; cases this
      have hval := h.val s (by rw [← hs]; exact List.getElem_mem hnS)
      have hget : ∀ j (hj : j < (S.set n (w.k, putL s.2 (verOf w.v))).length), ((S.set n (w.k, putL s.2 (verOf w.v)))[j]).1 = (S[j]'(by simpa using hj)).1 := fun j hj => by
        by_cases e2 : n = j
        · subst e2; simp [hs, e]
        · rw [List.getElem_set_ne e2]
      refine ⟨?_, fun u hu => ?_, fun u hu => ?_, fun u hu => ?_, ?_⟩
      · unfold KS
        rw [List.pairwise_iff_getElem]
        intro i j hi hj hij
        rw [hget, hget]
        exact List.pairwise_iff_getElem.1 hks i j _ _ hij
      · rw [ofK_snoc]
        obtain ⟨j, hj, rfl⟩ := List.mem_iff_getElem.1 hu
        by_cases e2 : n = j
        · subst e2
          simp only [List.getElem_set_self, if_true]
          rw [hval, e, makeL_snoc]
        · rw [List.getElem_set_ne e2]
          have hj' : j < S.length := by simpa using hj
          rw [if_neg (Ne.symm (hother j hj' (Ne.symm e2)))]
          exact h.val _ (List.getElem_mem hj')
      · rcases List.mem_append.1 hu with hu | hu
        · obtain ⟨r, hr, e2⟩ := h.all u hu
          obtain ⟨j, hj, rfl⟩ := List.mem_iff_getElem.1 hr
          have hj' : j < (S.set n (w.k, putL s.2 (verOf w.v))).length := by simpa using hj
          exact ⟨_, List.getElem_mem hj', by rw [hget]; exact e2⟩
        · rw [List.mem_singleton] at hu
          subst hu
          have hn' : n < (S.set n (u.k, putL s.2 (verOf u.v))).length := by simpa using hnS
          exact ⟨_, List.getElem_mem hn', by rw [hget, hs]; exact e⟩
      · obtain ⟨j, hj, rfl⟩ := List.mem_iff_getElem.1 hu
        rw [hget]
        obtain ⟨r, hr, e2⟩ := h.only _ (List.getElem_mem (by simpa using hj : j < S.length))
        exact ⟨r, by simp [hr], e2⟩
      · have := h.len; simp; omega
    · rw [if_neg e]
      exact hnew fun r hr => by rw [hn] at hr; cases hr; exact e
end Go.Sm
/- Stores: All, ranged over by a body that changes nothing. -/
set_option linter.unusedVariables false
set_option linter.unusedSimpArgs false
namespace Go.Sm
open Go Go.Proofs
set_option maxRecDepth 100000
set_option maxHeartbeats 4000000
end Go.Sm
/- Stores: All, ranged over by a body that changes its own, and may break off. -/
set_option linter.unusedVariables false
set_option linter.unusedSimpArgs false
namespace Go.Sm
open Go Go.Proofs
set_option maxRecDepth 100000
set_option maxHeartbeats 4000000
end Go.Sm
/- Keys of maps by strings: gathered. -/
set_option linter.unusedVariables false
set_option linter.unusedSimpArgs false
namespace Go.Sm
open Go Go.Proofs
set_option maxRecDepth 100000
set_option maxHeartbeats 4000000
def keysF (q : Nat) : Value := .func (.func 74) #[] #[.pointer (some ⟨q, 0, none⟩)]
theorem perm_eraseIdx {α : Type} (l : List α) (j : Nat) (h : j < l.length) : (l[j] :: l.eraseIdx j).Perm l := by
  rw [List.eraseIdx_eq_take_drop_succ]
  have h1 : l = l.take j ++ l[j] :: l.drop (j + 1) := by rw [← List.drop_eq_getElem_cons h, List.take_append_drop]
  conv => rhs; rw [h1]
  exact List.perm_middle.symm
theorem keys_spec (m : Nat) (σ : CSt) (Q : Out → CSt → Prop) (h : Q (.ret (keysF σ.n) false) (σ.alloc (.cells [.map (some m)] 62 false))) : W E1 (.fn 57 #[.map (some m)] none) σ Q := by
  rw [W_fn (fn := Tryz.f57) Tryz.func57 rfl rfl rfl]
  simpa [wops_cons, keysF] using h
/-- A range over the keys. -/
theorem range_keys {x : Ctx} {a : CAct} {f : Operand} {p : Tmp} {asg body : Code} {K : Out → CSt → Prop} {q m : Nat} {qo : Bool} {M : Ml} (σ : CSt) (hf : a.eval f = keysF q) (ha : aroundOk σ x.rnd = true) (hp : p < a.sz) (hq : σ.get q = some (.cells [.map (some m)] 62 qo)) (hqn : q < σ.n) (hmn : m < σ.n) (hm : Mp σ m M)
    (Inv : List ByteArray → CSt → Prop) (h0 : ∀ o1 o2, Inv [] ((σ.alloc o1).alloc o2))
    (hput : ∀ D s o, Inv D s → Inv D (s.put (σ.n + 1) o)) (hputL : ∀ D s o, Inv D s → Inv D (s.put σ.n o))
    (hround : ∀ (D : List ByteArray) (k : ByteArray) (s : CSt) (v : Value), Inv D s → (k, v) ∈ M → D.length < M.length → σ.n + 2 ≤ s.n → s.get q = some (.cells [.map (some m)] 62 qo) → Mp s m M →
      W E1 (.code ⟨x.f, some σ.n, none⟩ asg { tm := a.tm.set p (.string k), sz := a.sz, df := [], tk := false }) s fun o s1 => ∃ a', o = .code .normal a' ∧ s1 = s ∧ ∀ ob : CObj,
        W E1 (.code ⟨x.f, some σ.n, none⟩ body a') (s.put σ.n ob) fun o2 s2 => (∃ a2, o2 = .code .normal a2) ∧ (∀ ob', Inv (D ++ [k]) (s2.put σ.n ob')) ∧ s.n ≤ s2.n ∧ s2.get σ.n = some ob ∧ s2.get (σ.n + 1) = s.get (σ.n + 1) ∧ s2.get q = s.get q ∧ s2.get m = s.get m)
    (h : ∀ (D : List ByteArray) (s : CSt), Inv D s → D.Perm (M.map (·.1)) → σ.n + 2 ≤ s.n → K (.code .normal a) s) : W E1 (.code x (.rangeFunc f #[p] asg body) a) σ K := by
  rw [W_rangeFunc hf ha, W_fn (fn := Tryz.f74) Tryz.func74 rfl rfl rfl]
  obtain ⟨hmp⟩ : Nonempty True := ⟨trivial⟩
  have hq1 : (σ.alloc (.loop .ready none x.f a.tm a.sz #[p] asg body)).get q = some (.cells [.map (some m)] 62 qo) := by rw [CSt.get_alloc, if_neg (by omega)]; exact hq
  have hm1 : Mp (σ.alloc (.loop .ready none x.f a.tm a.sz #[p] asg body)) m M := by
    obtain ⟨es, clock, h1, h2⟩ := hm
    exact ⟨es, clock, by rw [CSt.get_alloc, if_neg (by omega)]; exact h1, h2⟩
  obtain ⟨o, ho1, ho2⟩ := range_mpG (P := Tryz.prog) (t := 62) (kt := 9) (et := 75) Tryz.underlying62 hm1 (by simp; omega)
  simp at ho1
  simp [wops_cons, hq1, ho1]
  have hi0 := h0 (.loop .ready none x.f a.tm a.sz #[p] asg body) o
  have hL0 : ((σ.alloc (.loop .ready none x.f a.tm a.sz #[p] asg body)).alloc o).get σ.n = some (.loop .ready none x.f a.tm a.sz #[p] asg body) := by simp
  have hq2 : ((σ.alloc (.loop .ready none x.f a.tm a.sz #[p] asg body)).alloc o).get q = some (.cells [.map (some m)] 62 qo) := by rw [CSt.get_alloc, if_neg (by simp; omega)]; exact hq1
  have hn0 : σ.n + 2 ≤ ((σ.alloc (.loop .ready none x.f a.tm a.sz #[p] asg body)).alloc o).n := by simp
  generalize (σ.alloc (.loop .ready none x.f a.tm a.sz #[p] asg body)).alloc o = σ2 at ho2 hi0 hL0 hq2 hn0 ⊢
  refine W_loop_inv (fun n A s => ∃ tm S D, A = ⟨tm, 14, [], false⟩ ∧ tm.get 0 = some (.func (.yield σ.n) #[] #[]) ∧ tm.get 5 = some (.pointer (some ⟨σ.n + 1, 0, none⟩)) ∧ n = List.length S ∧ MIt Value.string s (σ.n + 1) m M S ∧ (D ++ S.map (·.1)).Perm (M.map (·.1)) ∧ (∀ e ∈ S, e ∈ M) ∧ Inv D s ∧ s.get σ.n = some (.loop .ready none x.f a.tm a.sz #[p] asg body) ∧ s.get q = some (.cells [.map (some m)] 62 qo) ∧ σ.n + 2 ≤ s.n) ?_ (List.length M) _ _ ?_
  · rintro n A s ⟨tm, S, D, rfl, e0, e5, hn, hit, hpm, hmem, hinv, hL, hqs, hsn⟩
    simp [wops_cons, e0, e5]
    refine wres_next hit (fun hS => ?_) (fun j hj ob hit' hent => ?_)
    · subst hS
      simp at hpm
      simp [wops_cons, e0, e5]
      unfold krange
      rw [hL]
      simp only
      rw [if_neg (by decide)]
      exact h D _ (hputL D _ _ hinv) hpm (by simpa using hsn)
    · have hSj := List.getElem_mem hj
      have hinv' := hput D s ob hinv
      have hL' : (s.put (σ.n + 1) ob).get σ.n = some (.loop .ready none x.f a.tm a.sz #[p] asg body) := by rw [CSt.get_put, if_neg (by omega)]; exact hL
      have hq' : (s.put (σ.n + 1) ob).get q = some (.cells [.map (some m)] 62 qo) := by rw [CSt.get_put, if_neg (by omega)]; exact hqs
      have hn' : σ.n + 2 ≤ (s.put (σ.n + 1) ob).n := by simpa using hsn
      generalize s.put (σ.n + 1) ob = s1 at hit' hent hinv' hL' hq' hn' ⊢
      simp [wops_cons, e0, e5, hent]
      rw [W_round hL' rfl]
      have hDl : D.length < List.length M := by
        have := hpm.length_eq
        simp at this
        omega
      have hr := hround D S[j].1 s1 S[j].2 hinv' (hmem _ hSj) hDl hn' hq' hit'.mp
      simp only [List.zip_cons_cons, List.zip_nil_left, List.foldl_cons, List.foldl_nil, hp, if_true]
      refine W.weaken hr fun o1 s2 h1 => ?_
      obtain ⟨a', rfl, rfl, h2⟩ := h1
      unfold kround1
      rw [hL']
      simp only
      refine W.weaken (h2 _) fun o2 s3 h3 => ?_
      obtain ⟨⟨a2, rfl⟩, h4, h5, h6, h7, h8, h9⟩ := h3
      simp only [jumpOf]
      rw [h6]
      simp only [Option.isNone_none, if_true]
      simp [wops_cons, e0, e5]
      have hne1 : σ.n + 1 ≠ σ.n := by omega
      refine ⟨S.length - 1, by omega, S.eraseIdx j, by rw [List.length_eraseIdx_of_lt hj], ?_, D ++ [S[j].1], ?_, fun a b he => hmem (a, b) (List.mem_of_mem_eraseIdx he), h4 _, ?_, by omega⟩
      · refine hit'.congr ?_ ?_
        · rw [CSt.get_put, if_neg hne1]; exact h7
        · rw [CSt.get_put, if_neg (by omega)]; exact h9
      · refine List.Perm.trans ?_ hpm
        rw [List.append_assoc]
        refine List.Perm.append_left D ?_
        have := (perm_eraseIdx S j hj).map (·.1)
        simpa using this
      · rw [if_neg (by omega), h8]; exact hq'
  · refine ⟨_, M, [], rfl, ?_⟩
    simp
    exact ⟨ho2, hi0, hL0, hq2, hn0⟩
theorem collect_keys (q m : Nat) (qo : Bool) (M : Ml) (σ : CSt) (hq : σ.get q = some (.cells [.map (some m)] 62 qo)) (hqn : q < σ.n) (hmn : m < σ.n) (hm : Mp σ m M) (hbig : M.length < 2 ^ 38) (Q : Out → CSt → Prop)
    (h : ∀ (v : Value) (D : List ByteArray) (σ' : CSt), D.Perm (M.map (·.1)) → Own σ.n σ' 9 encS v D → Grow σ σ' → Q (.ret v false) σ') : W E1 (.fn 72 #[keysF q] none) σ Q := by
  rw [W_fn (fn := Tryz.f72) Tryz.func72 rfl rfl rfl]
  simp [wops_cons]
  rw [W_fn (fn := Tryz.f91) Tryz.func91 rfl rfl rfl]
  simp [wops_cons]
  have hg0 : Grow σ (σ.alloc (.cells [.slice none 0 0] 106 false)) := (Grow.refl σ).alloc _
  have hb0 : (σ.alloc (.cells [.slice none 0 0] 106 false)).n = σ.n + 1 := by simp
  have hc0 : (σ.alloc (.cells [.slice none 0 0] 106 false)).get σ.n = some (.cells [.slice none 0 0] 106 false) := by simp
  have hq0 := hg0.get hq hqn
  have hm0 : Mp (σ.alloc (.cells [.slice none 0 0] 106 false)) m M := by
    obtain ⟨es, clock, h1, h2⟩ := hm
    exact ⟨es, clock, hg0.get h1 hmn, h2⟩
  generalize σ.alloc (.cells [.slice none 0 0] 106 false) = σ1 at hg0 hb0 hc0 hq0 hm0 ⊢
  have hML : ∀ (D : List ByteArray) (s : CSt) (k : ByteArray) (v : Value), (D ++ [k]).length ≤ M.length + 1 → True := fun _ _ _ _ _ => trivial
  refine range_keys (q := q) (m := m) (qo := qo) (M := M) σ1 rfl (by simp; rfl) (by simp) hq0 (by omega) (by omega) hm0
    (fun D s => ∃ v, s.get σ.n = some (.cells [v] 106 false) ∧ Own (σ1.n + 2) s 9 encS v D ∧ σ1.n + 2 ≤ s.n ∧ ∀ j, j < σ.n → s.get j = σ.get j) ?_ ?_ ?_ ?_ ?_
  · intro o1 o2
    refine ⟨_, ?_, Own.nil, by simp, fun j hj => ?_⟩
    · rw [CSt.get_alloc, if_neg (by simp; omega), CSt.get_alloc, if_neg (by omega)]; exact hc0
    · rw [CSt.get_alloc, if_neg (by simp; omega), CSt.get_alloc, if_neg (by omega)]; exact hg0.old j hj
  · rintro D s o ⟨v, h1, h2, h3, h4⟩
    exact ⟨v, by rw [CSt.get_put, if_neg (by omega)]; exact h1, h2.put (by omega) o, h3, fun j hj => by rw [CSt.get_put, if_neg (by omega)]; exact h4 j hj⟩
  · rintro D s o ⟨v, h1, h2, h3, h4⟩
    exact ⟨v, by rw [CSt.get_put, if_neg (by omega)]; exact h1, h2.put (by omega) o, h3, fun j hj => by rw [CSt.get_put, if_neg (by omega)]; exact h4 j hj⟩
  · rintro D k s vv ⟨v, h1, h2, h3, h4⟩ hk hDl hsn hqs hms
    have hne : ¬ σ.n = σ1.n := by omega
    have hcap : D.length < 2 ^ 38 := by omega
    simp [wops_cons, hne, h1]
    intro ob
    have h1' : (s.put σ1.n ob).get σ.n = some (.cells [v] 106 false) := by rw [CSt.get_put, if_neg hne]; exact h1
    have h2' := h2.put (i := σ1.n) (by omega) ob
    have hpn : (s.put σ1.n ob).n = s.n := rfl
    have hob : (s.put σ1.n ob).get σ1.n = some ob := by simp
    have hoth : ∀ j, j ≠ σ1.n → (s.put σ1.n ob).get j = s.get j := fun j hj => by rw [CSt.get_put, if_neg hj]
    generalize s.put σ1.n ob = s1 at h1' h2' hpn hob hoth ⊢
    have hga : Grow s1 (s1.alloc (.cells [.string k] 9 false)) := (Grow.refl s1).alloc _
    obtain ⟨v9, σ9, a1, a2, a3, a4, a5⟩ := append_only (P := Tryz.prog) (ts := #[106, 106]) (e := 9) (sz := 1) (enc := encS) (l := D) (m := [k]) (b := σ1.n + 2) ef106 (by simp) lenS cokS rfl (by decide) (by decide) rfl (σ := s1.alloc (.cells [.string k] 9 false))
      (h2'.grow hga) (by simp; omega) (Sl.all (l := [k]) (i := s.n) (cap := 1) (ro := false) lenS (by rw [← hpn]; simp [encS]) (by rw [← hpn]; simp) (.inr ⟨by simp, by simp [openCap]⟩)) (by simp; omega) (by omega)
    have hlt : σ.n < s1.n := by omega
    have hold : ∀ j, j < σ1.n + 2 → σ9.get j = s1.get j := fun j hj => by rw [a3.2 j hj]; exact hga.old j (by omega)
    have h19 : σ9.get σ.n = some (.cells [v] 106 false) := by rw [hold _ (by omega)]; exact h1'
    obtain ⟨p9, c9, rfl⟩ := (a2.sl (sz := 1) lenS).form
    have a1' : appendOp Tryz.prog (s1.alloc (.cells [.string k] 9 false)) #[106, 106] v (.slice (some ⟨s.n, 0, none⟩) 1 1) = some (.slice p9 (D ++ [k]).length c9, σ9) := a1
    have hn9 := a3.1
    simp at hn9 a1'
    simp [wops_cons, a1', h19]
    have e1 : ¬ σ1.n = σ.n := by omega
    have a2' : Own (σ1.n + 2) (σ9.put σ.n (.cells [.slice p9 (D.length + 1) c9] 106 false)) 9 encS (.slice p9 (D.length + 1) c9) (D ++ [k]) := by
      have := a2.put (i := σ.n) (by omega) (.cells [.slice p9 (D.length + 1) c9] 106 false)
      rwa [List.length_append] at this
    refine ⟨fun ob' => ⟨a2'.put (by omega) ob', by omega, fun j hj => ?_⟩, by omega, ?_, ?_, ?_, ?_⟩
    · rw [if_neg (by omega), if_neg (by omega), hold j (by omega), hoth j (by omega)]; exact h4 j hj
    · rw [if_neg e1, hold _ (by omega)]; exact hob
    · rw [if_neg (by omega), hold _ (by omega), hoth _ (by omega)]
    · by_cases e : q = σ.n
      · omega
      · rw [if_neg e, hold q (by omega), hoth q (by omega)]
    · by_cases e : m = σ.n
      · omega
      · rw [if_neg e, hold m (by omega), hoth m (by omega)]
  · rintro D s ⟨v, h1, h2, h3, h4⟩ hpm hsn
    have := h v D s hpm (h2.weaken (by omega)) ⟨by omega, h4⟩
    simpa [wops_cons, h1] using this
/-- slices.Sorted of a map's keys. -/
theorem sorted_keys (q m : Nat) (qo : Bool) (M : Ml) (σ : CSt) (hq : σ.get q = some (.cells [.map (some m)] 62 qo)) (hqn : q < σ.n) (hmn : m < σ.n) (hm : Mp σ m M) (hbig : M.length < 2 ^ 38) (Q : Out → CSt → Prop)
    (h : ∀ (v : Value) (D : List ByteArray) (σ' : CSt), D.Perm (M.map (·.1)) → (D.Pairwise fun x y => klt y x = false) → Own σ.n σ' 9 encS v D → Grow σ σ' → Q (.ret v false) σ') : W E1 (.fn 56 #[keysF q] none) σ Q := by
  rw [W_fn (fn := Tryz.f56) Tryz.func56 rfl rfl rfl]
  simp [wops_cons]
  refine collect_keys q m qo M σ hq hqn hmn hm hbig _ fun v D σ1 hpm hown hg => ?_
  simp [wops_cons]
  have hlen := hpm.length_eq
  simp at hlen
  refine sort_own σ.n D v σ1 hg.n hown (by omega) _ fun D' σ2 hp2 hs2 ho2 hg2 => ?_
  have := h v D' σ2 (hp2.trans hpm) hs2 ho2 (Grow.thenB hg hg2 (Nat.le_refl _))
  simpa [wops_cons] using this
end Go.Sm
/- Stores: the laws' Make, walked. -/
set_option linter.unusedVariables false
set_option linter.unusedSimpArgs false
namespace Go.Sm
open Go Go.Proofs
set_option maxRecDepth 100000
set_option maxHeartbeats 4000000
def mapF (ws : List WW) : Fl := ws.foldl (fun F w => putF F w.k w.v) []
theorem mapF_snoc (ws : List WW) (w : WW) : mapF (ws ++ [w]) = putF (mapF ws) w.k w.v := by simp [mapF]
theorem getF_putF (k : ByteArray) (x : VV) (k' : ByteArray) : ∀ F : Fl, getF (putF F k x) k' = if k = k' then getF F k ++ [x] else getF F k'
  | [] => by
    unfold putF getF
    by_cases e : k = k' <;> simp [e]
  | p :: F => by
    have ih := getF_putF k x k' F
    unfold getF at ih ⊢
    unfold putF
    by_cases e1 : p.1 = k
    · by_cases e : k = k' <;> simp [e1, e]
    · rw [if_neg e1]
      simp only [List.find?_cons, e1, decide_false]
      by_cases e2 : p.1 = k'
      · have e : ¬ k = k' := fun h => e1 (by rw [e2, h])
        simp [e2, e]
      · simp only [e2, decide_false]
        exact ih
theorem getF_len (ws : List WW) (k : ByteArray) : (getF (mapF ws) k).length ≤ ws.length := by
  refine rev_ind (P := fun ws => ∀ k, (getF (mapF ws) k).length ≤ ws.length) (fun k => by simp [mapF, getF]) (fun ws w ih k => ?_) ws k
  rw [mapF_snoc, getF_putF]
  have a := ih k
  have b := ih w.k
  split <;> simp <;> omega
theorem nil61_ne (a : Addr) : isNilCmp Tryz.prog .neq 61 (.pointer (some a)) (.pointer none) = some (.bool true) := by simp [isNilCmp, nilPair, Tryz.underlying61]
theorem nil61_eq (a : Addr) : isNilCmp Tryz.prog .eql 61 (.pointer (some a)) (.pointer none) = some (.bool false) := by simp [isNilCmp, nilPair, Tryz.underlying61]
theorem Mp.fr {T : TypeId → Prop} {b : Nat} {σ σ' : CSt} {m : Nat} {M : Ml} (h : Mp σ m M) (hm : m < σ.n) (hf : Fr T b σ σ') : Mp σ' m M := by
  obtain ⟨es, clock, h1, h2⟩ := h
  exact ⟨es, clock, hf.get h1 hm (.inr fun _ _ _ h => by cases h), h2⟩
theorem Mp.grow {σ σ' : CSt} {m : Nat} {M : Ml} (h : Mp σ m M) (hm : m < σ.n) (hf : Grow σ σ') : Mp σ' m M := by
  obtain ⟨es, clock, h1, h2⟩ := h
  exact ⟨es, clock, hf.get h1 hm, h2⟩
theorem Own.is_cells {α : Type} {b : Nat} {σ : CSt} {e : TypeId} {enc : α → List Value} {v : Value} {l : List α} (h : Own b σ e enc v l) {i : Nat} (hi : objOf v = some i) : ∃ row, σ.get i = some (.cells row e false) := by
  rcases h with ⟨rfl, _⟩ | ⟨j, cap, rfl, _, _, h2, _⟩
  · cases hi
  · cases hi; exact ⟨_, h2⟩
theorem mset_step (b : Nat) {σ σ9 : CSt} {m : Nat} {M : Ml} {F : Fl} {k : ByteArray} {x : VV} {v' : Value} (hmp : Mp σ m M) (hm : m < σ.n) (hmr : MRel b σ M F) (hn : σ.n ≤ σ9.n)
    (hkeep : ∀ j, j < σ.n → (∀ i off n c, (getM M k).getD (.slice none 0 0) = .slice (some ⟨i, off, none⟩) n c → j ≠ i) → σ9.get j = σ.get j) (hv : ∃ n c, v' = .slice (some ⟨σ.n, 0, none⟩) n c) (ho : Own b σ9 78 encU v' (getF F k ++ [x])) :
    ∃ o, updateOp Tryz.prog σ9 62 (.map (some m)) (.string k) v' = some (σ9.put m o) ∧ Mp (σ9.put m o) m (setM M k v') ∧ MRel b (σ9.put m o) (setM M k v') (putF F k x) ∧ Kept σ (σ9.put m o) := by
  have hown := hmr.get k
  have hobj : ∀ i off n c, (getM M k).getD (.slice none 0 0) = .slice (some ⟨i, off, none⟩) n c → ∃ row, σ.get i = some (.cells row 78 false) := fun i off n c e => hown.is_cells (by rw [e]; rfl)
  have hmap : ∃ es clock, σ.get m = some (.map es clock) := by obtain ⟨es, clock, h1, _⟩ := hmp; exact ⟨es, clock, h1⟩
  obtain ⟨es, clock, hmg⟩ := hmap
  have hm9 : σ9.get m = σ.get m := hkeep m hm fun i off n c e e2 => by
    obtain ⟨row, hr⟩ := hobj i off n c e
    rw [← e2, hmg] at hr
    cases hr
  have hmp9 : Mp σ9 m M := by
    obtain ⟨es, clock, h1, h2⟩ := hmp
    exact ⟨es, clock, by rw [hm9]; exact h1, h2⟩
  obtain ⟨o, h1, h2⟩ := update_mp (P := Tryz.prog) (t := 62) (kt := 9) (et := 75) (k := k) Tryz.underlying62 (by kernel_rfl) hmp9 v'
  obtain ⟨n, c, hv'⟩ := hv
  have hset : MRel b σ9 (setM M k v') (putF F k x) := MRel.set k x v' hn hv' hmr ho fun j hj hne => hkeep j hj fun i off n c e => hne i (by rw [e]; rfl)
  refine ⟨o, h1, h2, MRel.keep (σ' := σ9.put m o) (Nat.le_refl σ9.n) hset fun r hr i hi hlt => ?_, hn, fun j hj row e ro hg he => ?_⟩
  · obtain ⟨l, hl⟩ := hset.own r hr
    obtain ⟨row, hrow⟩ := hl.is_cells hi
    rw [CSt.get_put, if_neg]
    rintro rfl
    rw [hm9, hmg] at hrow
    cases hrow
  · have hjm : ¬ j = m := by
      rintro rfl
      rw [hmg] at hg
      cases hg
    rw [CSt.get_put, if_neg hjm]
    refine hkeep j hj fun i off n c e' e2 => ?_
    obtain ⟨row', hr⟩ := hobj i off n c e'
    rw [← e2, hg] at hr
    injection hr with hr
    injection hr with _ h3 _
    have h4 : e = 78 := by first | exact h3 | exact h3.symm
    rw [h4] at he
    exact absurd he (by decide)
theorem St.kept {b : Nat} {σ σ' : CSt} {i : Nat} {S : Stl} (h : St b σ i S) (hk : Kept σ σ') : St b σ' i S := by
  obtain ⟨vr, R, h1, h2, h3, h4, h5⟩ := h
  refine ⟨vr, R, h1, Nat.lt_of_lt_of_le h2 hk.1, by rw [hk.2 i h2 _ _ _ h3 (by simp)]; exact h3, ?_, h5.1, fun j h6 h7 => ⟨(h5.2 j h6 h7).1, hk.sl (h5.2 j h6 h7).2 (by simp)⟩⟩
  rcases h4 with h | ⟨o, cap, zs, g1, g2, g3, g4, g5⟩
  · exact .inl h
  · exact .inr ⟨o, cap, zs, g1, g2, Nat.lt_of_lt_of_le g3 hk.1, by rw [hk.2 o g3 _ _ _ g4 (by simp)]; exact g4, g5⟩
theorem st82 : ¬ stT 82 := by unfold stT; decide
theorem st78 : ¬ stT 78 := by unfold stT; decide
theorem lenVV (x : VV) : (encU x).length = 3 := rfl
theorem cokVV (x : VV) : cokL (encU x) = true := rfl
theorem kspec (n : Int) (h0 : 0 ≤ n) (h1 : n < 5) (σ : CSt) (Q : Out → CSt → Prop) (h : ∀ σ', Grow σ σ' → Q (.ret (.string (key12 n)) false) σ') : W E1 (.fn 40 #[.int .u8 n] none) σ Q := by
  rw [W_fn (fn := Tryz.f40) Tryz.func40 rfl rfl rfl]
  obtain ⟨k, rfl⟩ : ∃ k : Nat, n = k := ⟨n.toNat, by omega⟩
  have h2 : ¬ (250 : Int) < (k : Int) := by omega
  have h3 : (k : Int).tmod 5 = (k : Int) := by rw [Int.tmod_eq_emod_of_nonneg (by omega)]; omega
  have hg := h _ ((Grow.refl σ).alloc (.cells [.string ⟨#[97]⟩, .string ⟨#[98]⟩, .string ⟨#[99]⟩, .string ⟨#[100]⟩, .string ⟨#[101]⟩] 9 false))
  have h5 : k < 5 := by omega
  simp [wops_cons, h2, h3]
  match k, h5, hg with
  | 0, _, hg => simpa [wops_cons, key12] using hg
  | 1, _, hg => simpa [wops_cons, key12] using hg
  | 2, _, hg => simpa [wops_cons, key12] using hg
  | 3, _, hg => simpa [wops_cons, key12] using hg
  | 4, _, hg => simpa [wops_cons, key12] using hg
/-- From time one on. -/
def fixV (x : VV) : VV := ⟨if x.at_ = 0 then 1 else x.at_, x.v, x.gone⟩
def fixW (w : WW) : WW := ⟨w.key, fixV w.v⟩
theorem fixV_ok {x : VV} (h : x.ok) : (fixV x).ok := by
  obtain ⟨⟨h1, h2⟩, h3⟩ := h
  refine ⟨?_, h3⟩
  show 0 ≤ (if x.at_ = 0 then 1 else x.at_) ∧ (if x.at_ = 0 then 1 else x.at_) < 256
  split <;> omega
theorem fixW_k (w : WW) : (fixW w).k = w.k := rfl
theorem store_spec (l : List WW) (hok : ∀ w ∈ l, w.ok) (v : Value) (σ : CSt) (hsl : Sl σ 82 4 encW v l) (hbig : l.length < 2 ^ 30) (Q : Out → CSt → Prop)
    (h : ∀ (i m : Nat) (S : Stl) (M : Ml) (σ' : CSt), SRel S (l.map fixW) → St σ.n σ' i S → Mp σ' m M → MRel σ.n σ' M (mapF (l.map fixW)) → σ.n ≤ m → m < σ'.n → Grow σ σ' → Q (.ret (.tuple #[.pointer (some ⟨i, 0, none⟩), .map (some m)]) false) σ') :
    W E1 (.fn 28 #[v] none) σ Q := by
  rw [W_fn (fn := Tryz.f28) Tryz.func28 rfl rfl rfl]
  obtain ⟨p, c, rfl⟩ := hsl.form
  simp [wops_cons]
  refine new_spec σ _ fun σ1 h1 g1 => ?_
  have hn1 : σ.n < σ1.n := by obtain ⟨_, _, _, h, _⟩ := h1; exact h
  have hm : Mp (σ1.alloc (.map #[] 0)) σ1.n [] := ⟨#[], 0, by simp, entsOk_nil _ _⟩
  have gm : Grow σ1 (σ1.alloc (.map #[] 0)) := (Grow.refl σ1).alloc _
  simp [wops_cons, copE_makeMap (P := Tryz.prog) (t := 62) Tryz.underlying62]
  refine W_loop_inv (fun n a σ' => ∃ tm, ∃ j : Nat, ∃ S M, a = ⟨tm, 45, [], false⟩ ∧ tm.get 4 = some (.pointer (some ⟨σ.n, 0, none⟩)) ∧ tm.get 5 = some (.map (some σ1.n)) ∧ tm.get 11 = some (.slice p l.length c) ∧ tm.get 12 = some (.int .i64 l.length) ∧ tm.get 13 = some (.int .i64 (j : Nat)) ∧ (j ≤ l.length ∧ n = l.length - j ∧
    SRel S ((l.map fixW).take j) ∧ St σ.n σ' σ.n S ∧ Mp σ' σ1.n M ∧ MRel σ.n σ' M (mapF ((l.map fixW).take j)) ∧ σ1.n < σ'.n ∧ Grow σ σ')) ?_ l.length _ _ ?_
  · rintro n a σ2 ⟨tm, j, S, M, rfl, e4, e5, e11, e12, e13, hj, hn, hS, hst, hmp, hmr, hn2, hgr⟩
    by_cases hjl : j < l.length
    · have hjl' : (j : Int) < (l.length : Int) := by omega
      obtain ⟨i, off, row, ro, hpl, hg, hin, hrow, hle⟩ := (hsl.grow hgr).at hjl
      have hld := row_get (enc := encW) lenW hrow j hjl
      have hl1 := row_le hle j hjl
      have hw2 := i64s j (by omega)
      have hx := hok _ (List.getElem_mem hjl)
      have htk : (l.map fixW).take (j + 1) = (l.map fixW).take j ++ [fixW l[j]] := by rw [List.take_succ_eq_append_getElem (by simpa using hjl)]; simp
      have hxk := fixW_k l[j]
      have hxv : (fixW l[j]).v = fixV l[j].v := rfl
      have hxo := fixV_ok hx.2
      generalize hW : fixW l[j] = w1 at htk hxk hxv
      have hkd : l[j].k = key12 (l[j].key.tmod 5) := rfl
      generalize l[j] = w at hld hx hxk hxv hxo hkd
      obtain ⟨key, vv⟩ := w
      obtain ⟨⟨hk0, hk1⟩, hvo⟩ := hx
      simp only at hk0 hk1 hvo hxv hxo hkd
      simp only [encW] at hld
      have ht5 : 0 ≤ key.tmod 5 ∧ key.tmod 5 < 5 := ⟨Int.tmod_nonneg _ hk0, Int.tmod_lt_of_pos _ (by decide)⟩
      have hu5 : IntKind.u8.wrap (key.tmod 5) = key.tmod 5 := IntWalk.u8_in _ (by omega)
      have hgw : Grow σ2 ((σ2.alloc (.cells [.int .u8 0, .int .u8 0, .int .u8 0, .bool false] 82 false)).put σ2.n (.cells [.int .u8 key, .int .u8 vv.at_, .int .u8 vv.v, .bool vv.gone] 82 false)) := ⟨by simp, fun j hj => by rw [CSt.get_put, if_neg (by omega), CSt.get_alloc, if_neg (by omega)]⟩
      have hc3 : ((σ2.alloc (.cells [.int .u8 0, .int .u8 0, .int .u8 0, .bool false] 82 false)).put σ2.n (.cells [.int .u8 key, .int .u8 vv.at_, .int .u8 vv.v, .bool vv.gone] 82 false)).get σ2.n = some (.cells [.int .u8 key, .int .u8 vv.at_, .int .u8 vv.v, .bool vv.gone] 82 false) := by simp
      have hn3 : σ2.n < ((σ2.alloc (.cells [.int .u8 0, .int .u8 0, .int .u8 0, .bool false] 82 false)).put σ2.n (.cells [.int .u8 key, .int .u8 vv.at_, .int .u8 vv.v, .bool vv.gone] 82 false)).n := by simp
      simp [wops_cons, e4, e5, e11, e12, e13, hjl, hjl', hpl, hg, hld, hl1, hu5]
      generalize (σ2.alloc (.cells [.int .u8 0, .int .u8 0, .int .u8 0, .bool false] 82 false)).put σ2.n (.cells [.int .u8 key, .int .u8 vv.at_, .int .u8 vv.v, .bool vv.gone] 82 false) = σ3 at hgw hc3 hn3
      refine kspec _ ht5.1 ht5.2 σ3 _ fun σ4 g4 => ?_
      have gn4 := g4.n
      have hc4 := g4.get hc3 hn3
      rw [← hkd]
      generalize hK : WW.k ⟨key, vv⟩ = K at hkd hxk
      have g24 := hgw.trans g4
      have hst4 := hst.grow g24
      simp [wops_cons, e4, e5, e11, e12, e13, hc4, -W_condK]
      -- no time is nought
      refine W_cut (fun out z => ∃ tm, out = .code .normal ⟨tm, 45, [], false⟩ ∧ tm.get 4 = some (.pointer (some ⟨σ.n, 0, none⟩)) ∧ tm.get 5 = some (.map (some σ1.n)) ∧ tm.get 7 = some (.pointer (some ⟨σ2.n, 0, none⟩)) ∧ tm.get 8 = some (.string K) ∧ tm.get 11 = some (.slice p l.length c) ∧ tm.get 12 = some (.int .i64 l.length) ∧ tm.get 13 = some (.int .i64 (j : Nat)) ∧ z.get σ2.n = some (.cells [.int .u8 key, .int .u8 (fixV vv).at_, .int .u8 (fixV vv).v, .bool (fixV vv).gone] 82 false) ∧ Grow σ2 z ∧ σ2.n < z.n) ?_ ?_
      · by_cases h0 : vv.at_ = 0
        · have hz : (fixV vv).at_ = 1 := by unfold fixV; simp [h0]
          simp [wops_cons, e4, e5, e11, e12, e13, hc4, h0, hz]
          exact ⟨⟨rfl, rfl⟩, ⟨by have := hgw.n; simp; omega, fun j hj => by rw [CSt.get_put, if_neg (by omega)]; exact g24.old j hj⟩, by omega⟩
        · have hz : (fixV vv).at_ = vv.at_ := by unfold fixV; simp [h0]
          simp [wops_cons, e4, e5, e11, e12, e13, hc4, h0, hz]
          exact ⟨⟨rfl, rfl⟩, g24, by omega⟩
      rintro out z ⟨tm, rfl, e4, e5, e7, e8, e11, e12, e13, hcz, gz, hnz⟩
      rw [← hxv] at hcz hxo
      obtain ⟨x, hx⟩ : ∃ x, x = w1.v := ⟨_, rfl⟩
      rw [← hx] at hcz hxo
      simp [wops_cons, e4, e5, e7, e8, e11, e12, e13, hcz]
      have hvm := vmake_spec x hxo
      simp only [encU] at hvm
      refine hvm z _ fun σ5 g5 => ?_
      have g25 := gz.trans g5
      have hc5 := g5.get hcz hnz
      have hlt : ((l.map fixW).take j).length ≤ j := List.length_take_le _ _
      simp [wops_cons, e4, e5, e7, e8, e11, e12, e13]
      refine put_store σ.n σ.n S hS.ks hS.srt (fun s hs => by have := hS.short s hs; omega) _ (verOf x) σ5 (hgr.trans g25).n (hst.grow g25) (by have := hS.len; omega) _ fun n6 σ6 hp h6 f6 => ?_
      have hn25 : σ2.n < σ5.n := Nat.lt_of_lt_of_le hnz g5.n
      have hc6 := f6.get hc5 hn25 (.inr fun row e ro he => by injection he with _ h2 _; rw [← h2]; exact st82)
      have hmp6 := (hmp.grow hn2 g25).fr (Nat.lt_of_lt_of_le hn2 g25.n) f6
      have hmr6 := (hmr.fr (T := fun _ => False) (fun h => h) (b' := 0) g25.fr).fr (T := stT) st78 f6
      have hn26 : σ2.n < σ6.n := Nat.lt_of_lt_of_le hn25 f6.1
      have hn16 : σ1.n < σ6.n := Nat.lt_of_lt_of_le hn2 (Nat.le_trans g25.n f6.1)
      have hg06 : Grow σ σ6 := by
        have := (hgr.trans g25).fr (T := stT) (b := σ.n)
        exact (this.trans f6).grow (Nat.le_refl _)
      have hS6 := hS.put (w := w1) (n := n6) (by rw [hxk]; exact hp)
      rw [hxk, ← hx] at hS6
      have hlk : ∀ σ', Mp σ' σ1.n M → lookupOp Tryz.prog σ' 62 (.map (some σ1.n)) (.string K) false = some ((getM M K).getD (.slice none 0 0)) := fun σ' hm' => lookup_mp Tryz.underlying62 (by kernel_rfl) (by kernel_rfl) hm'
      have hgl := getF_len ((l.map fixW).take j) K
      have hga : Grow σ6 (σ6.alloc (.cells (encU x) 78 false)) := (Grow.refl σ6).alloc _
      have hmr8 := hmr6.fr (T := fun _ => False) (fun h => h) (b' := 0) hga.fr
      have hmp8 := hmp6.grow hn16 hga
      obtain ⟨v9, σ9, a1, a2, a3, a4, a5⟩ := append_only (P := Tryz.prog) (ts := #[75, 75]) (e := 78) (sz := 3) (enc := encU) (l := getF (mapF ((l.map fixW).take j)) K) (m := [x]) (b := σ.n) ef75 (by simp) lenVV cokVV rfl (by decide) (by decide) rfl (σ := σ6.alloc (.cells (encU x) 78 false)) (hmr8.get K)
        (hg06.trans hga).n (Sl.all (l := [x]) (i := σ6.n) (cap := 1) (ro := false) lenVV (by simp) (by simp) (.inr ⟨by simp, by simp [openCap]⟩)) (by show (_ + 1) * 3 ≤ _; omega) (by omega)
      obtain ⟨o, b1, b2, b3, b4⟩ := mset_step σ.n hmp8 (Nat.lt_of_lt_of_le hn16 hga.n) hmr8 a3.1 a4 (a5 (by simp)) a2
      have hlk6 := hlk σ6 hmp6
      simp only [encU, List.length_cons, List.length_nil, Nat.zero_add] at a1
      simp [wops_cons, e4, e5, e7, e8, e11, e12, e13, hlk6, hc6, a1, b1, hw2]
      have hmn : mapF ((l.map fixW).take j ++ [w1]) = putF (mapF ((l.map fixW).take j)) K x := by rw [mapF_snoc, hxk, ← hx]
      have hfr : Grow σ (σ9.put σ1.n o) := Grow.thenB (hg06.trans hga) (a3.put (by omega) _) (Nat.le_refl _)
      exact ⟨l.length - (j + 1), by omega, hpl, j + 1, by omega, by omega, rfl, _, by rw [htk]; exact hS6, (h6.grow hga).kept b4, _, b2, by rw [htk, hmn]; exact b3, Nat.lt_of_lt_of_le (Nat.lt_of_lt_of_le hn16 hga.n) a3.1, hfr⟩
    · have hj' : j = l.length := by omega
      subst hj'
      rw [List.take_of_length_le (by simp)] at hS hmr
      have := h σ.n σ1.n S M σ2 hS hst hmp hmr (by omega) hn2 hgr
      simpa [wops_cons, e4, e5, e11, e12, e13] using this
  · exact ⟨_, 0, [], [], rfl, by simp, by simp, by simp, by simp, by simp, by omega, rfl, SRel.nil, h1.grow gm, hm, trivial, by simp, g1.trans gm⟩
end Go.Sm
/- image.Encode. -/
set_option linter.unusedVariables false
set_option linter.unusedSimpArgs false
namespace Go.Sm
open Go Go.Proofs
set_option maxRecDepth 100000
set_option maxHeartbeats 4000000
/-- A key and its versions, as bytes. -/
def serRow (s : ByteArray × List Ver) : List UInt8 := serText s.1 ++ num s.2.length ++ s.2.flatMap serV
def serS (clock : Nat) (S : Stl) : List UInt8 := num clock ++ num S.length ++ S.flatMap serRow
def TI : TypeId → Prop := fun t => TW t ∨ t = 31
instance : DecidablePred TI := fun t => inferInstanceAs (Decidable (TW t ∨ t = 31))
theorem WtK.put {K : Nat → Prop} {b p L : Nat} {s : CSt} {l : List UInt8} (h : WtK K b p s l) (hL : K L) (ob : CObj) : WtK K b p (s.put L ob) l := by
  obtain ⟨v, h1, h2, h3, h4, h5⟩ := h
  obtain ⟨k1, k2, k3⟩ := h5 L hL
  refine ⟨v, by rw [CSt.get_put, if_neg (fun e => k1 e.symm)]; exact h1, h2, by simpa using h3, ?_, fun i hi => by simpa using h5 i hi⟩
  rcases h4 with h4 | ⟨i, cap, rfl, q1, q2, q3, q4⟩
  · exact .inl h4
  · exact .inr ⟨i, cap, rfl, q1, by simpa using q2, by rw [CSt.get_put, if_neg (fun e => k3 (by rw [← e]; rfl))]; exact q3, q4⟩
/-- What a store must be like. -/
def OkS (S : Stl) : Prop := ∀ s ∈ S, s.1.size < 2 ^ 30 ∧ s.2.length < 2 ^ 30 ∧ ∀ x ∈ s.2, 0 ≤ x.at_ ∧ x.at_ < 2 ^ 64 ∧ x.val.size < 2 ^ 30
theorem row_le_S {s : ByteArray × List Ver} {S : Stl} (h : s ∈ S) : (serRow s).length ≤ (S.flatMap serRow).length := flat_mem_le serRow h
end Go.Sm
/- Stores as lists: one put, whatever it is. -/
set_option linter.unusedSimpArgs false
namespace Go.Sm
theorem getF_ofK (ws : List WW) (k : ByteArray) : (getF (mapF ws) k).map verOf = ofK ws k := by
  refine rev_ind (P := fun ws => ∀ k, (getF (mapF ws) k).map verOf = ofK ws k) (fun k => by simp [mapF, getF, ofK]) (fun ws w ih k => ?_) ws k
  rw [mapF_snoc, getF_putF, ofK_snoc]
  by_cases e : w.k = k
  · rw [if_pos e, if_pos e, List.map_append, ih w.k, e]; rfl
  · rw [if_neg e, if_neg e, ih k]
theorem getF_ok (ws : List WW) (h : ∀ w ∈ ws, w.ok) (k : ByteArray) : ∀ x ∈ getF (mapF ws) k, x.ok := by
  refine rev_ind (P := fun ws => (∀ w ∈ ws, w.ok) → ∀ k, ∀ x ∈ getF (mapF ws) k, x.ok) (fun _ k x hx => by simp [mapF, getF] at hx) (fun ws w ih h k x hx => ?_) ws h k
  rw [mapF_snoc, getF_putF] at hx
  have ih' := ih fun w hw => h w (by simp [hw])
  split at hx
  · rcases List.mem_append.1 hx with hx | hx
    · exact ih' _ x hx
    · rw [List.mem_singleton] at hx; rw [hx]; exact (h w (by simp)).2
  · exact ih' _ x hx
end Go.Sm
/- Stores as lists: the keys in order; what a key has. -/
set_option linter.unusedSimpArgs false
namespace Go.Sm
open Go
theorem sorted_eq : ∀ {l m : List ByteArray}, (l.Pairwise fun x y => klt x y = true) → (m.Pairwise fun x y => klt y x = false) → l.Perm m → l = m
  | [], m, _, _, h => by rw [List.Perm.eq_nil h.symm]
  | a :: l, [], _, _, h => by cases List.Perm.eq_nil h
  | a :: l, b :: m, h1, h2, h => by
    rw [List.pairwise_cons] at h1 h2
    have hab : a = b := by
      have ha : a ∈ b :: m := h.subset (by simp)
      have hb : b ∈ a :: l := h.symm.subset (by simp)
      rcases List.mem_cons.1 ha with e | ha
      · exact e
      · rcases List.mem_cons.1 hb with e | hb
        · exact e.symm
        · have := h1.1 b hb
          rw [h2.1 a ha] at this
          cases this
    subst hab
    rw [sorted_eq h1.2 h2.2 (List.Perm.cons_inv h)]
theorem putF_keys (k : ByteArray) (x : VV) (q : ByteArray) : ∀ F : Fl, q ∈ (putF F k x).map (·.1) ↔ q = k ∨ q ∈ F.map (·.1)
  | [] => by simp [putF]
  | p :: F => by
    have ih := putF_keys k x q F
    unfold putF
    by_cases e : p.1 = k
    · rw [if_pos e]
      simp only [List.map_cons, List.mem_cons, e]
      constructor
      · rintro (h | h)
        · exact .inl h
        · exact .inr (.inr h)
      · rintro (h | h | h)
        · exact .inl h
        · exact .inl h
        · exact .inr h
    · rw [if_neg e, List.map_cons, List.mem_cons, ih, List.map_cons, List.mem_cons]
      exact or_left_comm
theorem mapF_keys (ws : List WW) (q : ByteArray) : q ∈ (mapF ws).map (·.1) ↔ ∃ w ∈ ws, w.k = q := by
  refine rev_ind (P := fun ws => q ∈ (mapF ws).map (·.1) ↔ ∃ w ∈ ws, w.k = q) (by simp [mapF]) (fun ws w ih => ?_) ws
  rw [mapF_snoc, putF_keys, ih]
  constructor
  · rintro (rfl | ⟨u, hu, e⟩)
    · exact ⟨w, by simp, rfl⟩
    · exact ⟨u, by simp [hu], e⟩
  · rintro ⟨u, hu, e⟩
    rcases List.mem_append.1 hu with h | h
    · exact .inr ⟨u, h, e⟩
    · rw [List.mem_singleton] at h; rw [← e, h]; exact .inl rfl
theorem MRel.keys {b : Nat} {σ : CSt} : ∀ {M : Ml} {F : Fl}, MRel b σ M F → M.map (·.1) = F.map (·.1)
  | [], [], _ => rfl
  | p :: M, q :: F, h => by rw [List.map_cons, List.map_cons, h.1.1, MRel.keys h.2.2]
theorem KS.nodup {S : Stl} (h : KS S) : (S.map (·.1)).Nodup := by
  have h1 : (S.map (·.1)).Pairwise fun a c => klt a c = true := by rw [List.pairwise_map]; exact h
  refine h1.imp fun {a c} hac e => ?_
  rw [e, klt_irrefl] at hac
  cases hac
theorem keys_eq {b : Nat} {σ σ' : CSt} {S : Stl} {l : List WW} {M : Ml} {m : Nat} {D : List ByteArray} (hS : SRel S l) (hmp : Mp σ m M) (hmr : MRel b σ' M (mapF l)) (hp : D.Perm (M.map (·.1))) (hs : D.Pairwise fun x y => klt y x = false) : D = S.map (·.1) := by
  have h1 : (S.map (·.1)).Pairwise fun a c => klt a c = true := by rw [List.pairwise_map]; exact hS.ks
  have h2 : (M.map (·.1)).Nodup := by obtain ⟨_, _, _, h⟩ := hmp; exact h.keys
  refine (sorted_eq h1 hs (List.Perm.trans ?_ hp.symm)).symm
  refine (List.perm_ext_iff_of_nodup hS.ks.nodup h2).2 fun k => ?_
  rw [hmr.keys, mapF_keys]
  constructor
  · intro h
    obtain ⟨s, hs, rfl⟩ := List.mem_map.1 h
    exact hS.only s hs
  · rintro ⟨w, hw, rfl⟩
    obtain ⟨s, hs, e⟩ := hS.all w hw
    exact List.mem_map.2 ⟨s, hs, e⟩
theorem at_ok (l : List VV) (h : ∀ x ∈ l, x.ok) : ∀ v ∈ l.map verOf, 0 ≤ v.at_ ∧ v.at_ < 256 := by
  intro v hv
  obtain ⟨x, hx, rfl⟩ := List.mem_map.1 hv
  rw [verOf_at]
  exact (h x hx).1
theorem ofK_at (ws : List WW) (h : ∀ w ∈ ws, w.ok) (k : ByteArray) : ∀ v ∈ ofK ws k, 0 ≤ v.at_ ∧ v.at_ < 256 := by
  rw [← getF_ofK]
  exact at_ok _ (getF_ok ws h k)
theorem SRel.plain {S : Stl} {ws : List WW} (h : SRel S ws) (hok : ∀ w ∈ ws, w.ok) : ∀ s ∈ S, s.2 = plainL (ofK ws s.1) := fun s hs => by rw [h.val s hs, make_plain _ (ofK_at ws hok s.1)]
theorem keys_len {b : Nat} {σ σ' : CSt} {S : Stl} {l : List WW} {M : Ml} {m : Nat} (hS : SRel S l) (hmp : Mp σ m M) (hmr : MRel b σ' M (mapF l)) : List.length M = S.length := by
  have h2 : (M.map (·.1)).Nodup := by obtain ⟨_, _, _, h⟩ := hmp; exact h.keys
  have h3 : (S.map (·.1)).Perm (M.map (·.1)) := by
    refine (List.perm_ext_iff_of_nodup hS.ks.nodup h2).2 fun k => ?_
    rw [hmr.keys, mapF_keys]
    constructor
    · intro h
      obtain ⟨s, hs, rfl⟩ := List.mem_map.1 h
      exact hS.only s hs
    · rintro ⟨w, hw, rfl⟩
      obtain ⟨s, hs, e⟩ := hS.all w hw
      exact List.mem_map.2 ⟨s, hs, e⟩
  have := h3.length_eq
  simp at this
  exact this.symm
end Go.Sm
/- The law's own image. -/
set_option linter.unusedVariables false
set_option linter.unusedSimpArgs false
namespace Go.Sm
open Go Go.Proofs
set_option maxRecDepth 100000
set_option maxHeartbeats 4000000
theorem keys57 (m : Nat) (σ : CSt) (Q : Out → CSt → Prop) (h : Q (.ret (keysF σ.n) false) (σ.alloc (.cells [.map (some m)] 62 false))) : W E1 (.fn 57 #[.map (some m)] none) σ Q := keys_spec m σ Q h
theorem make_mem (l : List Ver) (x : Ver) (h : x ∈ makeL l) : x ∈ l := by
  revert h
  refine rev_ind (P := fun l => x ∈ makeL l → x ∈ l) (by simp [makeL]) (fun l v ih h => ?_) l
  rw [makeL_snoc] at h
  unfold putL at h
  simp only [List.mem_append, List.mem_filter, List.mem_cons, List.not_mem_nil, or_false] at h ⊢
  rcases h with h | h | h
  · exact .inl (ih h.1)
  · exact .inr h
  · exact .inl (ih h.1)
theorem verOf_val (x : VV) : (verOf x).val.size < 2 ^ 30 := by
  unfold verOf
  split
  · show (⟨#[]⟩ : ByteArray).size < _
    decide
  · show (nameOf _).size < _
    unfold nameOf
    split <;> decide
theorem ofK_val (ws : List WW) (k : ByteArray) : ∀ x ∈ ofK ws k, x.val.size < 2 ^ 30 := by
  intro x hx
  unfold ofK at hx
  obtain ⟨w, _, rfl⟩ := List.mem_map.1 hx
  exact verOf_val _
theorem limg_spec (b m : Nat) (S : Stl) (ws : List WW) (M : Ml) (clock : Nat) (hc : clock < 2 ^ 64) (σ : CSt) (hok : ∀ w ∈ ws, w.ok) (hS : SRel S ws) (hmp : Mp σ m M) (hmn : m < σ.n) (hmr : MRel b σ M (mapF ws)) (hws : ws.length < 2 ^ 20) (hbig : (serS clock S).length < 2 ^ 34) (Q : Out → CSt → Prop)
    (h : ∀ v' σ', Ow σ.n σ' v' (serS clock S) → Grow σ σ' → Q (.ret v' false) σ') : W E1 (.fn 31 #[.int .u64 clock, .map (some m)] none) σ Q := by
  rw [W_fn (fn := Tryz.f31) Tryz.func31 rfl rfl rfl]
  have hkl := keys_len hS hmp hmr
  have hSl := hS.len
  simp [wops_cons]
  refine lnum_spec clock σ hc _ fun q1 c1 σ1 h1 g1 => ?_
  have hln := len_mp Tryz.underlying62 (hmp.grow hmn g1)
  have hlu : IntKind.u64.wrap (S.length : Int) = (S.length : Int) := IntWalk.u64_in _ (by omega)
  rw [hkl] at hln
  have gn1 := g1.n
  have hl1 := num_len10 hc
  have hl2 := num_len10 (n := S.length) (by omega)
  simp [wops_cons, hln, hlu]
  refine lnum_spec S.length σ1 (by omega) _ fun q2 c2 σ2 h2 g2 => ?_
  have gn2 := g2.n
  obtain ⟨q3, c3, s3, a1, a2, a3⟩ := oapp_sl (h1.grow g2) (by omega) h2.sl (by omega)
  have g3 : Grow σ s3 := ((g1.trans g2).fr.trans a3).grow (Nat.le_refl _)
  have gn3 := g3.n
  simp [wops_cons, a1]
  refine keys57 m s3 _ ?_
  have gk : Grow s3 (s3.alloc (.cells [.map (some m)] 62 false)) := (Grow.refl s3).alloc _
  have hmp4 := (hmp.grow hmn g3).grow (by omega) gk
  simp [wops_cons]
  refine sorted_keys s3.n m false M _ (by simp) (by simp) (by simp; omega) hmp4 (by omega) _ fun v4 D σ4 hp hs o4 g4 => ?_
  have hD := keys_eq hS hmp4 hmr hp hs
  have hDl : D.length = S.length := by rw [hD]; simp
  have g34 := gk.trans g4
  have g04 := g3.trans g34
  have gn4 := g04.n
  subst hD
  have hslD := o4.sl (sz := 1) lenS
  obtain ⟨pD, cD, rfl⟩ := hslD.form
  rw [List.length_map] at hslD
  have ho4 := a2.grow g34
  simp [wops_cons]
  have hpre : ∀ j, ((S.take j).flatMap serRow).length ≤ (S.flatMap serRow).length := fun j => flat_take_le serRow S j
  have hSb : (S.flatMap serRow).length + (num clock).length + (num S.length).length = (serS clock S).length := by unfold serS; simp only [List.length_append]; omega
  refine W_loop_inv (fun n a z => ∃ tm, ∃ j : Nat, ∃ vw, a = ⟨tm, 61, [], false⟩ ∧ tm.get 1 = some (.map (some m)) ∧ tm.get 5 = some vw ∧ tm.get 20 = some (.slice pD S.length cD) ∧ tm.get 21 = some (.int .i64 S.length) ∧ tm.get 22 = some (.int .i64 (j : Nat)) ∧ (j ≤ S.length ∧ n = S.length - j ∧ Ow σ.n z vw (num clock ++ num S.length ++ (S.take j).flatMap serRow) ∧ Fr (fun t => t = 5) σ.n σ4 z)) ?_ S.length _ _ ?_
  · rintro n a z ⟨tm, j, vw, rfl, e1, e5, e20, e21, e22, hj, hn, how, hf⟩
    have fnz := hf.1
    have hmz := (hmp.grow hmn g04).fr (by omega) hf
    have hrz := (hmr.fr (T := fun _ => False) (fun h => h) (b' := 0) g04.fr).fr (T := fun t => t = 5) (by decide) hf
    have hgz : Grow σ z := (g04.fr.trans hf).grow (Nat.le_refl _)
    by_cases hlt : j < S.length
    · have hlt' : (j : Int) < (S.length : Int) := by omega
      have hjm : j < (S.map (·.1)).length := by simpa using hlt
      obtain ⟨iD, offD, rowD, roD, hpD, hgD, hinD, hrowD, hleD⟩ := Sl.at (l := S.map (·.1)) (n := S.length) (hslD.fr (T := fun t => t = 5) (by decide) hf) hjm
      have hcD := row_cell (enc := encS) lenS hrowD j 0 hjm (by decide)
      have hle2 := row_le hleD j hjm
      have hcD' : rowD[offD + j]? = some (.string S[j].1) := by simpa [encS] using hcD
      simp at hle2
      have hw1 := i64s j (by omega)
      have hmem := List.getElem_mem hlt
      have hpl := hS.plain hok _ hmem
      have hsh := hS.short _ hmem
      have hrl := row_le_S hmem
      have htk : (S.take (j + 1)).flatMap serRow = (S.take j).flatMap serRow ++ serRow S[j] := by rw [List.take_succ_eq_append_getElem hlt, List.flatMap_append]; simp
      have htl := hpre (j + 1)
      rw [htk, List.length_append] at htl
      have hvs : ∀ x ∈ S[j].2, 0 ≤ x.at_ ∧ x.at_ < 256 ∧ x.val.size < 2 ^ 30 := by
        intro x hx
        rw [hS.val _ hmem] at hx
        have h1 := make_mem _ x hx
        obtain ⟨h2, h3⟩ := ofK_at ws hok _ x h1
        exact ⟨h2, h3, ofK_val ws _ x h1⟩
      have hlk : lookupOp Tryz.prog z 62 (.map (some m)) (.string S[j].1) false = some ((getM M S[j].1).getD (.slice none 0 0)) := lookup_mp Tryz.underlying62 (by kernel_rfl) (by kernel_rfl) hmz
      have hgo := getF_ok ws hok S[j].1
      have hgl := getF_len ws S[j].1
      obtain ⟨pw, cw, rfl⟩ := how.sl.form
      simp [wops_cons, e1, e5, e20, e21, e22, hlt, hlt', hpD, hgD, hcD', hle2, hlk]
      refine plain_spec (getF (mapF ws) S[j].1) hgo _ z ((hrz.get S[j].1).sl lenVV) (by omega) _ fun v8 z1 o8 g8 => ?_
      rw [getF_ofK, ← hpl] at o8
      have gn8 := g8.n
      have how1 := how.grow g8
      generalize hpr : num clock ++ num S.length ++ (S.take j).flatMap serRow = pre at how how1 e5
      have hprl : pre.length = (num clock).length + (num S.length).length + ((S.take j).flatMap serRow).length := by rw [← hpr]; simp only [List.length_append]
      generalize hr : S[j] = r at hrl htk htl hvs o8 hsh
      obtain ⟨key, ch⟩ := r
      simp only at hvs o8 hsh
      obtain ⟨p8, c8, rfl⟩ := (o8.sl (sz := 3) lenV).form
      have hrs : (serRow (key, ch)).length = (serText key).length + (num ch.length).length + (ch.flatMap serV).length := by unfold serRow; simp only [List.length_append]
      have hts : (serText key).length = (num key.size).length + key.size := by unfold serText; rw [List.length_append, len_byt]
      have hku : IntKind.u64.wrap (key.size : Int) = (key.size : Int) := IntWalk.u64_in _ (by omega)
      simp [wops_cons, e1, e5, e20, e21, e22, hku]
      refine lnum_spec key.size z1 (by omega) _ fun q2 c2 z2 h2 g2 => ?_
      obtain ⟨q3, c3, z3, b1, b2, b3⟩ := oapp_sl (how1.grow g2) (hgz.trans (g8.trans g2)).n h2.sl (by omega)
      have fz3 : Fr (fun t => t = 5) σ.n z z3 := (g8.trans g2).fr.trans b3
      have nz3 := fz3.1
      have hnz := hgz.n
      obtain ⟨q4, c4, z4, d1, d2, d3⟩ := oapp_str key b2 (by omega) (by simp only [List.length_append]; omega)
      have fz4 := fz3.trans d3
      have nz4 := fz4.1
      have o84 := ((o8.grow g2).fr (T := fun t => t = 5) (by decide) b3).fr (T := fun t => t = 5) (by decide) d3
      have hchu : IntKind.u64.wrap (ch.length : Int) = (ch.length : Int) := IntWalk.u64_in _ (by omega)
      have e4 : pre ++ num key.size ++ byt key = pre ++ serText key := by rw [serText, List.append_assoc]
      rw [e4] at d2
      simp only [List.length_append] at d1 d2
      simp [wops_cons, e1, e5, e20, e21, e22, b1, d1, hchu]
      refine lnum_spec ch.length z4 (by omega) _ fun q5 c5 z5 h5 g5 => ?_
      have nz5 := g5.n
      obtain ⟨q6, c6, z6, f1, f2, f3⟩ := oapp_sl (d2.grow g5) (by omega) h5.sl (by simp only [List.length_append]; omega)
      have nz6 := f3.1
      have fz6 := (fz4.trans g5.fr).trans f3
      have o86 := (o84.grow g5).fr (T := fun t => t = 5) (by decide) f3
      have hslc := o86.sl (sz := 3) lenV
      simp only [List.length_append] at f1 f2
      simp [wops_cons, e1, e5, e20, e21, e22, f1]
      have hreg : ∀ X ∈ ch, 0 ≤ X.at_ ∧ X.at_ < 256 ∧ X.val.size < 2 ^ 30 := hvs
      refine W_loop_J (fun n a y => ∃ tm, ∃ k : Nat, ∃ vw, a = ⟨tm, 61, [], false⟩ ∧ tm.get 1 = some (.map (some m)) ∧ tm.get 5 = some vw ∧ tm.get 20 = some (.slice pD S.length cD) ∧ tm.get 21 = some (.int .i64 S.length) ∧ tm.get 22 = some (.int .i64 (j : Nat)) ∧ tm.get 44 = some (.slice p8 ch.length c8) ∧ tm.get 45 = some (.int .i64 ch.length) ∧ tm.get 46 = some (.int .i64 (k : Nat)) ∧ (k ≤ ch.length ∧ n = ch.length - k ∧ Ow σ.n y vw (pre ++ serText key ++ num ch.length ++ (ch.take k).flatMap serV) ∧ Fr (fun t => t = 5) σ.n z6 y))
        (fun out y => ∃ tm vw, out = .code (.exit 2) ⟨tm, 61, [], false⟩ ∧ tm.get 1 = some (.map (some m)) ∧ tm.get 5 = some vw ∧ tm.get 20 = some (.slice pD S.length cD) ∧ tm.get 21 = some (.int .i64 S.length) ∧ tm.get 22 = some (.int .i64 (j : Nat)) ∧ Ow σ.n y vw (pre ++ serRow (key, ch)) ∧ Fr (fun t => t = 5) σ.n z6 y) ?_ ch.length _ _ ?_ ?_
      · rintro n2 a2 y ⟨tm2, k, vw, rfl, x1, x5, x20, x21, x22, x44, x45, x46, hk, hn2, owy, fy⟩
        have fny := fy.1
        obtain ⟨pw2, cw2, rfl⟩ := owy.sl.form
        by_cases hltk : k < ch.length
        · have hltk' : (k : Int) < (ch.length : Int) := by omega
          generalize hB : pre ++ serText key ++ num ch.length ++ (ch.take k).flatMap serV = B at owy x5
          have hBl : B.length = pre.length + (serText key).length + (num ch.length).length + ((ch.take k).flatMap serV).length := by rw [← hB]; simp only [List.length_append]
          obtain ⟨jj, off, row, ro, hp8, hgy, hyn, hrow, hle⟩ := (hslc.fr (T := fun t => t = 5) (by decide) fy).at hltk
          have hld := row_get lenV hrow k hltk
          have hle3 := row_le hle k hltk
          have hw2 := i64s k (by omega)
          obtain ⟨hx0, hx1, hx2⟩ := hreg _ (List.getElem_mem hltk)
          have htv : (ch.take (k + 1)).flatMap serV = (ch.take k).flatMap serV ++ serV ch[k] := by rw [List.take_succ_eq_append_getElem hltk, List.flatMap_append]; simp
          have htvl := flat_take_le serV ch (k + 1)
          rw [htv, List.length_append] at htvl
          generalize ch[k] = X at hld hx0 hx1 hx2 htv htvl
          simp only [encV] at hld
          have hlnX := num_len10 (n := X.at_.toNat) (by omega)
          have hlvX := serVer_len X (by omega)
          have hXn : ((X.at_.toNat : Nat) : Int) = X.at_ := by omega
          have hsx : (serV X).length = (num X.at_.toNat).length + (serVer X).length := by rw [serV, List.length_append]
          have gy1 : Grow y ((y.alloc (.cells [.int .u64 0, .string ⟨#[]⟩, .bool false] 33 false)).put y.n (.cells [.int .u64 X.at_, .string X.val, .bool X.gone] 33 false)) := ⟨by simp, fun j hj => by rw [CSt.get_put, if_neg (by omega), CSt.get_alloc, if_neg (by omega)]⟩
          have ky1 : ((y.alloc (.cells [.int .u64 0, .string ⟨#[]⟩, .bool false] 33 false)).put y.n (.cells [.int .u64 X.at_, .string X.val, .bool X.gone] 33 false)).get y.n = some (.cells [.int .u64 X.at_, .string X.val, .bool X.gone] 33 false) := by simp
          have ny1 : y.n < ((y.alloc (.cells [.int .u64 0, .string ⟨#[]⟩, .bool false] 33 false)).put y.n (.cells [.int .u64 X.at_, .string X.val, .bool X.gone] 33 false)).n := by simp
          simp [wops_cons, x1, x5, x20, x21, x22, x44, x45, x46, hltk, hltk', hp8, hgy, hld, hle3]
          generalize (y.alloc (.cells [.int .u64 0, .string ⟨#[]⟩, .bool false] 33 false)).put y.n (.cells [.int .u64 X.at_, .string X.val, .bool X.gone] 33 false) = y1 at gy1 ky1 ny1
          refine W_drawn (l := [0, 1, 2, 5, 3, 4, 6, 7, 8]) (b := #[0, 0, 2, 6, 15, 0, 63, 127, 255]) (by kernel_rfl) (by kernel_rfl) (by kernel_rfl) ?_
          simp [wops_cons, dopsR_cons, opAt, isEff, again, befBits, isRead, Nat.add_assoc, Nat.testBit_eq_decide_div_mod_eq, x1, x5, x20, x21, x22, x44, x45, x46, ky1]
          have ha := lnum_spec X.at_.toNat y1 (by omega)
          rw [hXn] at ha
          refine ha _ fun q7 c7 y2 h7 g7 => ?_
          have ny2 := g7.n
          have ky2 := g7.get ky1 ny1
          obtain ⟨q8, cc8, y3, u1, u2, u3⟩ := oapp_sl ((owy.grow gy1).grow g7) (by omega) h7.sl (by omega)
          have ny3 := u3.1
          have ky3 := u3.get ky2 (by omega) (.inr fun row e ro he => by cases he; decide)
          simp [wops_cons, dopsR_cons, opAt, isEff, again, befBits, isRead, Nat.add_assoc, Nat.testBit_eq_decide_div_mod_eq, x1, x5, x20, x21, x22, x44, x45, x46, ky2, ky3, u1]
          have hlv := lver_spec X y3 (by omega)
          simp only [encV] at hlv
          refine hlv _ fun q9 c9 y4 h9 g9 => ?_
          have ny4 := g9.n
          have ky4 := g9.get ky3 (by omega)
          obtain ⟨q10, c10, y5, w1, w2, w3⟩ := oapp_sl (u2.grow g9) (by omega) h9.sl (by rw [List.length_append]; omega)
          have ky5 := w3.get ky4 (by omega) (.inr fun row e ro he => by cases he; decide)
          have hfy5 : Fr (fun t => t = 5) σ.n z6 y5 := ((((fy.trans gy1.fr).trans g7.fr).trans u3).trans g9.fr).trans w3
          simp only [List.length_append] at w1 w2
          simp [wops_cons, dopsR_cons, opAt, isEff, again, befBits, isRead, Nat.add_assoc, Nat.testBit_eq_decide_div_mod_eq, x1, x5, x20, x21, x22, x44, x45, x46, ky4, ky5, w1, hw2]
          have hall : pre ++ serText key ++ num ch.length ++ (ch.take (k + 1)).flatMap serV = B ++ num X.at_.toNat ++ serVer X := by rw [htv, ← List.append_assoc, hB, serV, ← List.append_assoc]
          refine ⟨ch.length - (k + 1), by omega, hp8, k + 1, by omega, by omega, rfl, ?_, hfy5⟩
          have := w2
          rw [← hall] at this
          simpa [List.append_assoc, Nat.add_assoc] using this
        · have hke : k = ch.length := by omega
          subst hke
          rw [List.take_of_length_le (Nat.le_refl _)] at owy x5
          have hall : pre ++ serText key ++ num ch.length ++ ch.flatMap serV = pre ++ serRow (key, ch) := by unfold serRow; simp [List.append_assoc]
          rw [hall] at owy x5
          simp [wops_cons, x1, x5, x20, x21, x22, x44, x45, x46, -List.length_flatMap]
          exact ⟨by simpa using owy, fy⟩
      · exact ⟨_, 0, .slice q6 (pre.length + (serText key).length + (num ch.length).length) c6, rfl, by simp [e1], by simp, by simp [e20], by simp [e21], by simp [e22], by simp, by simp, by simp, by omega, rfl, by simpa [Nat.add_assoc] using f2, Fr.refl _ _ _⟩
      · rintro out y ⟨tm2, vw, rfl, x1, x5, x20, x21, x22, owy, fy⟩
        simp [wops_cons, x1, x5, x20, x21, x22, hw1]
        have hall : num clock ++ num S.length ++ (S.take (j + 1)).flatMap serRow = pre ++ serRow (key, ch) := by rw [htk, ← List.append_assoc, hpr]
        rw [← hall] at owy
        exact ⟨S.length - (j + 1), by omega, hpD, j + 1, by omega, by omega, rfl, by simpa [List.append_assoc] using owy, ((hf.trans g8.fr).trans ((((g2.fr.trans b3).trans d3).trans g5.fr).trans f3)).trans fy⟩
    · have hje : j = S.length := by omega
      subst hje
      rw [List.take_of_length_le (Nat.le_refl _)] at how
      obtain ⟨pw, cw, rfl⟩ := how.sl.form
      have hQ := h _ z how hgz
      simpa [wops_cons, e1, e5, e20, e21, e22, -List.length_flatMap] using hQ
  · exact ⟨_, 0, .slice q3 ((num clock).length + (num S.length).length) c3, rfl, by simp, by simp, by simp, by simp, by simp, by omega, rfl, by simpa using ho4, Fr.refl _ _ _⟩
end Go.Sm
/- image.row: a key and its versions, read. -/
set_option linter.unusedVariables false
set_option linter.unusedSimpArgs false
namespace Go.Sm
open Go Go.Proofs
set_option maxRecDepth 100000
set_option maxHeartbeats 40000000
/-- So many versions that bytes begin with, times rising. -/
def rdChain : Nat → Int → List UInt8 → Option (List Ver × List UInt8)
  | 0, _, b => some ([], b)
  | n + 1, at_, b => (rdV b).bind fun p => if at_ < p.1.at_ ∧ p.1.at_ ≤ 2 ^ 40 then (rdChain n p.1.at_ p.2).map fun r => (p.1 :: r.1, r.2) else none
theorem rdChain_step {n : Nat} {at_ : Int} {b : List UInt8} : rdChain (n + 1) at_ b = (rdV b).bind fun p => if at_ < p.1.at_ ∧ p.1.at_ ≤ 2 ^ 40 then (rdChain n p.1.at_ p.2).map fun r => (p.1 :: r.1, r.2) else none := rfl
/-- A key behind another one, and its versions. -/
def rdRow (last : ByteArray) (b : List UInt8) : Option ((ByteArray × List Ver) × List UInt8) :=
  (rdText 32 b).bind fun p => (rd p.2).bind fun q => if klt last p.1 = true ∧ q.1 ≠ 0 ∧ q.1 ≤ q.2.length then (rdChain q.1 0 q.2).map fun r => ((p.1, r.1), r.2) else none
theorem rdV_at {b : List UInt8} {x : Ver} {r : List UInt8} (h : rdV b = some (x, r)) : 0 ≤ x.at_ ∧ x.at_ < 2 ^ 64 ∧ r.length < b.length := by
  unfold rdV at h
  cases h1 : rd b with
  | none => rw [h1] at h; cases h
  | some p =>
    rw [h1, Option.bind_some] at h
    have hb := rd_len h1
    have hp := num_pos p.1
    have h64 := (rd_some (n := p.1) (r := p.2) h1).2
    unfold rdVer at h
    cases h2 : rd p.2 with
    | none => rw [h2] at h; cases h
    | some q =>
      rw [h2, Option.bind_some] at h
      have hq := rd_len h2
      split at h
      · cases h
        exact ⟨by simp only; omega, by simp only; omega, by omega⟩
      · split at h
        · cases h
          exact ⟨by simp only; omega, by simp only; omega, by rw [List.length_drop]; omega⟩
        · cases h
theorem row_spec (b p : Nat) (last : ByteArray) (o : Option (List UInt8)) (σ : CSt) (hr : Ro b p σ o) (hb : b ≤ σ.n) (Q : Out → CSt → Prop)
    (h : ∀ (key : ByteArray) (pl : Option Addr) (n c : Nat) σ', (∀ r, o.bind (rdRow last) = some r → key = r.1.1 ∧ n = r.1.2.length ∧ Own σ.n σ' 33 encV (.slice pl n c) r.1.2) → Ro b p σ' ((o.bind (rdRow last)).map (·.2)) → Fr TR b σ σ' → Q (.ret (.tuple #[.string key, .slice pl n c]) false) σ') : W E1 (.fn 55 #[.pointer (some ⟨p, 0, none⟩), .string last] none) σ Q := by
  rw [W_fn (fn := Tryz.f55) Tryz.func55 rfl rfl rfl]
  simp [wops_cons]
  refine rtext_spec b p 32 o σ hr hb (by decide) _ fun σ1 r1 f1 => ?_
  obtain ⟨key, hkey⟩ : ∃ key, ((o.bind (rdText 32)).map (·.1)).getD (str []) = key := ⟨_, rfl⟩
  rw [hkey]
  have fn1 := f1.1
  simp [wops_cons]
  refine rnum_spec b p _ σ1 r1 (by omega) _ fun n σ2 hn hn64 r2 f2 => ?_
  have fn2 := f2.1
  have f02 := f1.trans f2
  -- what is left to be read, if all was well
  obtain ⟨o3, hd3, v2, bad0, hg2, hb3, h3, f3⟩ : ∃ o3 : Option (List UInt8), (o.bind (rdRow last) = o3.bind fun rest => (rdChain n 0 rest).map fun r => ((key, r.1), r.2)) ∧ ∃ v2 bad0, σ2.get p = some (.cells [v2, .bool bad0] 41 false) ∧ (∃ l2 : List UInt8, (∃ q c, v2 = .slice q l2.length c) ∧ l2.length < 2 ^ 40 ∧ o3.isNone = (bad0 || (!klt last key || decide ((n : Int) = 0) || decide ((l2.length : Int) < (n : Int))))) ∧ Ro b p (σ2.put p (.cells [v2, .bool o3.isNone] 41 false)) o3 ∧ Fr TR b σ2 (σ2.put p (.cells [v2, .bool o3.isNone] 41 false)) := by
    obtain ⟨v2, l2, hg2, hbp2, hpn2, hsl2, hol2, hbig2⟩ := r2
    obtain ⟨q2, c2, rfl⟩ := hsl2.form
    cases ho : o.bind (rdText 32) with
    | none =>
      rw [ho] at hg2
      obtain ⟨c1, c2⟩ := Ro.back hg2 hbp2 hpn2 hsl2 hbig2 none (by simp)
      refine ⟨none, ?_, _, _, hg2, ⟨l2, ⟨_, _, rfl⟩, hbig2, by simp⟩, c1, c2⟩
      cases o with
      | none => rfl
      | some m => simp only [Option.bind_some] at ho ⊢; unfold rdRow; rw [ho]; rfl
    | some q1 =>
      rw [ho] at hg2 hkey hn hol2
      obtain rfl : q1.1 = key := hkey
      simp only [Option.map_some, Option.bind_some] at hg2 hn hol2
      have hoo : o.bind (rdRow last) = (rd q1.2).bind fun q => if klt last q1.1 = true ∧ q.1 ≠ 0 ∧ q.1 ≤ q.2.length then (rdChain q.1 0 q.2).map fun r => ((q1.1, r.1), r.2) else none := by
        cases o with
        | none => cases ho
        | some m => simp only [Option.bind_some] at ho ⊢; unfold rdRow; rw [ho]; rfl
      cases hr2 : rd q1.2 with
      | none =>
        rw [hr2] at hg2 hoo
        obtain ⟨c1, c2⟩ := Ro.back hg2 hbp2 hpn2 hsl2 hbig2 none (by simp)
        exact ⟨none, hoo, _, _, hg2, ⟨l2, ⟨_, _, rfl⟩, hbig2, by simp⟩, c1, c2⟩
      | some q3 =>
        rw [hr2] at hg2 hn hol2 hoo
        simp only [Option.map_some, Option.getD_some, Option.bind_some] at hg2 hn hol2 hoo
        subst hn
        have hl2 := hol2 _ rfl
        by_cases hc : klt last q1.1 = true ∧ q3.1 ≠ 0 ∧ q3.1 ≤ q3.2.length
        · rw [if_pos hc] at hoo
          obtain ⟨c1, c2⟩ := Ro.back hg2 hbp2 hpn2 hsl2 hbig2 (some q3.2) hol2
          have e2 : ¬ ((q3.1 : Int) = 0) := by omega
          have e3 : ¬ ((l2.length : Int) < (q3.1 : Int)) := by rw [hl2]; omega
          exact ⟨some q3.2, hoo, _, _, hg2, ⟨l2, ⟨_, _, rfl⟩, hbig2, by rw [hc.1, decide_eq_false e2, decide_eq_false e3]; rfl⟩, c1, c2⟩
        · rw [if_neg hc] at hoo
          obtain ⟨c1, c2⟩ := Ro.back hg2 hbp2 hpn2 hsl2 hbig2 none (by simp)
          refine ⟨none, hoo, _, _, hg2, ⟨l2, ⟨_, _, rfl⟩, hbig2, ?_⟩, c1, c2⟩
          cases hk : klt last q1.1 with
          | false => simp
          | true =>
            have hc' : ¬ (q3.1 ≠ 0 ∧ q3.1 ≤ q3.2.length) := fun h => hc ⟨hk, h⟩
            have : (q3.1 : Int) = 0 ∨ (l2.length : Int) < (q3.1 : Int) := by rw [hl2]; omega
            rcases this with h | h
            · rw [decide_eq_true h]; simp
            · rw [decide_eq_true h]; simp
  obtain ⟨l2, ⟨q2, c2, rfl⟩, hbig2, hb3⟩ := hb3
  have hpb : b ≤ p ∧ p < σ2.n := by obtain ⟨_, _, _, x, y, _⟩ := r2; exact ⟨x, y⟩
  have hlu : IntKind.u64.wrap (l2.length : Int) = (l2.length : Int) := IntWalk.u64_in _ (by omega)
  have fn3 := f3.1
  generalize hs3 : σ2.put p (.cells [.slice q2 l2.length c2, .bool o3.isNone] 41 false) = σ3 at h3 f3 fn3
  have f03 := f02.trans f3
  simp [wops_cons, -W_region]
  refine W_cut (fun out s => ∃ tm, out = .code .normal ⟨tm, 82, [], false⟩ ∧ tm.get 0 = some (.pointer (some ⟨p, 0, none⟩)) ∧ tm.get 6 = some (.string key) ∧ tm.get 7 = some (.int .u64 (n : Nat)) ∧ s = σ3) ?_ ?_
  · rw [W_region]
    have hkb := kle_eq key last
    cases bad0 with
    | true =>
      rw [hb3] at hs3
      simp [wops_cons, wops_if', dstOf, hg2]
      exact hs3
    | false =>
      rw [Bool.false_or] at hb3
      rw [hb3] at hs3
      cases hk : klt last key with
      | false =>
        rw [hk] at hkb hs3
        simp [wops_cons, wops_if', dstOf, hg2, hkb]
        simpa using hs3
      | true =>
        rw [hk] at hkb hs3
        by_cases e2 : (n : Int) = 0
        · rw [decide_eq_true e2] at hs3
          have e2' : n = 0 := by omega
          simp [wops_cons, wops_if', dstOf, hg2, hkb, e2']
          simpa using hs3
        · have e2' : ¬ n = 0 := by omega
          by_cases e3 : (l2.length : Int) < (n : Int)
          · rw [decide_eq_true e3] at hs3
            simp [wops_cons, wops_if', dstOf, hg2, hkb, e2', e3, hlu]
            simpa using hs3
          · rw [decide_eq_false e2, decide_eq_false e3] at hs3
            simp [wops_cons, wops_if', dstOf, hg2, hkb, e2', e3, hlu]
            simpa using hs3
  · rintro out s ⟨tm, rfl, t0, t6, t7, rfl⟩
    simp [wops_cons, t0, t6, t7]
    have hnl : o3.isSome = true → n < 2 ^ 40 := fun hs => by
      rw [Option.isNone_eq_false_iff.2 hs] at hb3
      simp at hb3
      omega
    have hrow : ∀ r, o.bind (rdRow last) = some r → r.1.1 = key := by
      intro r hr
      rw [hd3] at hr
      cases o3 with
      | none => cases hr
      | some rest =>
        simp only [Option.bind_some] at hr
        obtain ⟨x, _, rfl⟩ := Option.map_eq_some_iff.1 hr
        rfl
    refine W_loop_inv (fun k a s => ∃ tm, ∃ i : Nat, ∃ at_ : Int, ∃ o' done wv, a = ⟨tm, 82, [], false⟩ ∧ tm.get 0 = some (.pointer (some ⟨p, 0, none⟩)) ∧ tm.get 6 = some (.string key) ∧ tm.get 7 = some (.int .u64 (n : Nat)) ∧ tm.get 8 = some wv ∧ tm.get 9 = some (.int .u64 at_) ∧ tm.get 10 = some (.int .u64 (i : Nat)) ∧
      (i ≤ n ∧ k = n - i ∧ (o.bind (rdRow last) = Option.bind o' fun rest => (rdChain (n - i) at_ rest).map fun r => ((key, done ++ r.1), r.2)) ∧ Own σ.n s 33 encV wv done ∧ done.length = i ∧ i ≤ 2 ^ 40 ∧ Ro b p s o' ∧ Fr TR b σ s ∧ (o'.isSome = true → n < 2 ^ 40))) ?_ n _ _ ?_
    · rintro k a s ⟨tm, i, at_, o', done, wv, rfl, t0, t6, t7, t8, t9, t10, hi, hk, hde, hown, hdl, hil, hro, hf, hol⟩
      obtain ⟨pw, cw, rfl⟩ := (hown.sl (sz := 3) lenV).form
      have fns := hf.1
      by_cases hlt : i < n
      · have hlt' : (i : Int) < (n : Int) := by omega
        cases o' with
        | none =>
          obtain ⟨v4, l4, hg4, _⟩ := id hro
          simp only [Option.isNone_none] at hg4
          have hQ := h key pw done.length cw s (fun r hr => by rw [hde] at hr; cases hr) (by rw [hde]; exact hro) hf
          simpa [wops_cons, wops_if', dstOf, t0, t6, t7, t8, t9, t10, hlt, hlt', hg4] using hQ
        | some rest =>
          obtain ⟨v4, l4, hg4, hbp4, hpn4, hsl4, hol4, hbig4⟩ := id hro
          simp only [Option.isNone_some] at hg4
          have hn40 := hol rfl
          obtain ⟨m, hm⟩ : ∃ m, n - i = m + 1 := ⟨n - i - 1, by omega⟩
          simp [wops_cons, wops_if', dstOf, t0, t6, t7, t8, t9, t10, hlt, hlt', hg4]
          refine rreadv_spec b p _ s hro (by omega) _ fun x s1 hx r1 f1 => ?_
          rw [Option.bind_some] at r1 hx
          rw [Option.bind_some, hm, rdChain_step] at hde
          have fn1' := f1.1
          obtain ⟨v5, l5, hg5, hbp5, hpn5, hsl5, hol5, hbig5⟩ := id r1
          obtain ⟨q5, c5, rfl⟩ := hsl5.form
          -- what is left behind this one
          obtain ⟨o2, hd2, hb2, h2⟩ : ∃ o2 : Option (List UInt8), (o.bind (rdRow last) = o2.bind fun rest => (rdChain m x.at_ rest).map fun r => ((key, (done ++ [x]) ++ r.1), r.2)) ∧ (o2.isNone = ((Option.map (·.2) (rdV rest)).isNone || (decide (x.at_ ≤ at_) || decide (1099511627776 < x.at_)))) ∧ (∀ m', o2 = some m' → l5 = m') := by
            cases hv : rdV rest with
            | none =>
              rw [hv] at hde
              exact ⟨none, hde, by simp, by simp⟩
            | some q =>
              obtain rfl := hx q.1 q.2 hv
              rw [hv, Option.bind_some] at hde
              rw [hv] at hol5
              by_cases hc : at_ < q.1.at_ ∧ q.1.at_ ≤ 2 ^ 40
              · rw [if_pos hc] at hde
                refine ⟨some q.2, ?_, ?_, hol5⟩
                · rw [hde, Option.bind_some]
                  cases rdChain m q.1.at_ q.2 with
                  | none => rfl
                  | some r => simp
                · rw [decide_eq_false (by omega), decide_eq_false (by omega)]; rfl
              · rw [if_neg hc] at hde
                refine ⟨none, hde, ?_, by simp⟩
                have : q.1.at_ ≤ at_ ∨ 1099511627776 < q.1.at_ := by omega
                rcases this with h | h
                · rw [decide_eq_true h]; rfl
                · rw [decide_eq_true h]; simp
          have own1 := hown.fr (T := TR) (by decide) f1
          have hpn1 : ¬ (p = s1.n) := by omega
          have hpn2 : ¬ (s1.n = p) := by omega
          have g1 : Grow s1 ((s1.alloc (.cells [.int .u64 0, .string ⟨#[]⟩, .bool false] 33 false)).put s1.n (.cells (encV x) 33 false)) := ⟨by simp, fun j hj => by rw [CSt.get_put, if_neg (by omega), CSt.get_alloc, if_neg (by omega)]⟩
          have k11 : ((s1.alloc (.cells [.int .u64 0, .string ⟨#[]⟩, .bool false] 33 false)).put s1.n (.cells (encV x) 33 false)).get s1.n = some (.cells (encV x) 33 false) := by simp
          have n11 : s1.n < ((s1.alloc (.cells [.int .u64 0, .string ⟨#[]⟩, .bool false] 33 false)).put s1.n (.cells (encV x) 33 false)).n := by simp
          have hg5' := g1.get hg5 hpn5
          simp only [encV] at g1 k11 n11 hg5'
          simp [wops_cons, encV, t0, t6, t7, t8, t9, t10, -W_region]
          have own2 := own1.grow g1
          generalize (s1.alloc (.cells [.int .u64 0, .string ⟨#[]⟩, .bool false] 33 false)).put s1.n (.cells [.int .u64 x.at_, .string x.val, .bool x.gone] 33 false) = s2 at g1 k11 n11 hg5' own2
          have gn1 := g1.n
          obtain ⟨h2b, f2b⟩ := Ro.back hg5' hbp5 (by omega) (hsl5.grow g1) hbig5 o2 h2
          refine W_cut (fun out z => ∃ tm, out = .code .normal ⟨tm, 82, [], false⟩ ∧ tm.get 0 = some (.pointer (some ⟨p, 0, none⟩)) ∧ tm.get 6 = some (.string key) ∧ tm.get 7 = some (.int .u64 (n : Nat)) ∧ tm.get 8 = some (.slice pw done.length cw) ∧ tm.get 10 = some (.int .u64 (i : Nat)) ∧ tm.get 11 = some (.pointer (some ⟨s1.n, 0, none⟩)) ∧ z = s2.put p (.cells [.slice q5 l5.length c5, .bool o2.isNone] 41 false)) ?_ ?_
          · rw [W_region]
            cases hv : rdV rest with
            | none =>
              rw [hv] at hg5' hb2
              simp only [Option.map_none, Option.isNone_none] at hg5' hb2
              rw [Bool.true_or] at hb2
              simp [wops_cons, wops_if', dstOf, encV, t0, t6, t7, t8, t9, t10, hg5', hb2]
            | some q =>
              rw [hv] at hg5' hb2
              simp only [Option.map_some, Option.isNone_some] at hg5' hb2
              rw [Bool.false_or] at hb2
              by_cases e1 : x.at_ ≤ at_
              · rw [decide_eq_true e1] at hb2
                simp [wops_cons, wops_if', dstOf, encV, t0, t6, t7, t8, t9, t10, hg5', hb2, k11, e1]
              · by_cases e2 : 1099511627776 < x.at_
                · rw [decide_eq_true e2] at hb2
                  simp [wops_cons, wops_if', dstOf, encV, t0, t6, t7, t8, t9, t10, hg5', hb2, k11, e1, e2]
                · rw [decide_eq_false e1, decide_eq_false e2] at hb2
                  simp [wops_cons, wops_if', dstOf, encV, t0, t6, t7, t8, t9, t10, hg5', hb2, k11, e1, e2]
          rintro out z ⟨tm, rfl, t0, t6, t7, t8, t10, t11, rfl⟩
          have k11b : (s2.put p (.cells [.slice q5 l5.length c5, .bool o2.isNone] 41 false)).get s1.n = some (.cells [.int .u64 x.at_, .string x.val, .bool x.gone] 33 false) := by rw [CSt.get_put, if_neg hpn2]; exact k11
          have own3 := own2.fr (T := TR) (by decide) f2b
          have nz : s2.n = (s2.put p (.cells [.slice q5 l5.length c5, .bool o2.isNone] 41 false)).n := rfl
          generalize s2.put p (.cells [.slice q5 l5.length c5, .bool o2.isNone] 41 false) = z at h2b f2b k11b own3 nz
          obtain ⟨p9, c9, s9, a1, a2, a3, a4⟩ := app_ver (ts := #[72, 72]) (x := x) ef72 (by simp) rfl rfl rfl own3 (by omega) (by omega)
          simp [encV] at a1
          have f9 : Fr (fun t => t = 33) σ.n z s9 := own3.z.frV a3
          have k11c : s9.get s1.n = some (.cells [.int .u64 x.at_, .string x.val, .bool x.gone] 33 false) := by
            rw [a3.2 _ (by omega)]
            · exact k11b
            · intro e
              have := own1.obj_lt e
              omega
          have hn9 : ¬ (s1.n = z.n) := by omega
          simp [wops_cons, t0, t6, t7, t8, t10, t11]
          refine W_drawn (l := [0, 1, 2, 3, 4, 5, 6, 7]) (b := #[0, 1, 0, 0, 8, 28, 63, 127]) (by kernel_rfl) (by kernel_rfl) (by kernel_rfl) ?_
          have hw := IntWalk.u64_in ((i : Int) + 1) (by omega)
          simp [wops_cons, dopsR_cons, opAt, isEff, again, befBits, isRead, Nat.add_assoc, Nat.testBit_eq_decide_div_mod_eq, t0, t6, t7, t8, t10, t11, k11b, k11c, a1, hn9, hw]
          have fpre := ((hf.trans f1).trans g1.fr).trans f2b
          have fn9 := f9.1
          have fall : Fr TR b σ s9 := ⟨Nat.le_trans fpre.1 fn9, fun j hj hc => by rw [f9.2 j (Nat.lt_of_lt_of_le hj fpre.1) (.inl hj), fpre.2 j hj hc]⟩
          refine ⟨n - (i + 1), by omega, i + 1, by omega, by omega, rfl, o2, done ++ [x], ?_, a2, by simp [hdl], by omega, h2b.fr (T := fun t => t = 33) (by decide) (by decide) f9, fall, fun _ => hn40⟩
          rw [hd2, show n - (i + 1) = m by omega]
      · have hin : i = n := by omega
        subst hin
        rw [Nat.sub_self] at hde
        have hQ := h key pw done.length cw s (fun r hr => by
          rw [hde] at hr
          cases o' with
          | none => cases hr
          | some rest =>
            simp only [Option.bind_some, rdChain, Option.map_some, List.append_nil] at hr
            cases hr
            exact ⟨rfl, rfl, hown⟩) (by
          rw [hde]
          cases o' with
          | none => exact hro
          | some rest => simpa [rdChain] using hro) hf
        simpa [wops_cons, wops_if', dstOf, t0, t6, t7, t8, t9, t10] using hQ
    · exact ⟨_, 0, 0, o3, [], .slice none 0 0, rfl, by simp [t0], by simp [t6], by simp [t7], by simp, by simp, by simp, by omega, rfl, by simpa using hd3, Own.nil, rfl, by omega, h3, f03, hnl⟩
end Go.Sm
/- Images as bytes, plain. -/
set_option linter.unusedVariables false
set_option linter.unusedSimpArgs false
namespace Go.Sm
/-- The last version's time. -/
def lastT (c : List Ver) : Int := (c.getLast?.map (·.at_)).getD 0
/-- So many rows that bytes begin with, keys rising, none of them late. -/
def decRows (clock : Nat) : Nat → ByteArray → List UInt8 → Option (Stl × List UInt8)
  | 0, _, b => some ([], b)
  | n + 1, last, b => (rdRow last b).bind fun p => if lastT p.1.2 ≤ clock then (decRows clock n p.1.1 p.2).map fun r => (p.1 :: r.1, r.2) else none
theorem decRows_step {clock n : Nat} {last : ByteArray} {b : List UInt8} : decRows clock (n + 1) last b = (rdRow last b).bind fun p => if lastT p.1.2 ≤ clock then (decRows clock n p.1.1 p.2).map fun r => (p.1 :: r.1, r.2) else none := rfl
/-- The clock and the store whose bytes these are. -/
def decS (b : List UInt8) : Option (Nat × Stl) :=
  (rd b).bind fun p => (rd p.2).bind fun q => if p.1 ≤ 2 ^ 40 ∧ q.1 ≤ b.length then (decRows p.1 q.1 (str []) q.2).bind fun r => if r.2 = [] then some (p.1, r.1) else none else none
/-- A version of a time behind all others is put. -/
theorem putL_snoc {c : List Ver} {x : Ver} (h : ∀ y ∈ c, y.at_ < x.at_) : putL c x = c ++ [x] := by
  unfold putL
  have h1 : (c.filter fun u => decide (u.at_ < x.at_)) = c := List.filter_eq_self.2 fun y hy => by simpa using h y hy
  have h2 : (c.filter fun u => decide (x.at_ < u.at_)) = [] := List.filter_eq_nil_iff.2 fun y hy => by have := h y hy; simp; omega
  rw [h1, h2]
theorem pos_end {D : Stl} {k : ByteArray} {n : Nat} (hD : ∀ s ∈ D, klt s.1 k = true) (hp : Pos D k n) : n = D.length := by
  have h1 := hp.le
  rcases Nat.lt_or_ge n D.length with h | h
  · have := hp.hi n h (Nat.le_refl _)
    rw [hD _ (List.getElem_mem h)] at this
    cases this
  · omega
theorem put_first {D : Stl} {k : ByteArray} {x : Ver} {n : Nat} (hD : ∀ s ∈ D, klt s.1 k = true) (hp : Pos D k n) : putAt D k x n = D ++ [(k, [x])] := by
  obtain rfl := pos_end hD hp
  unfold putAt
  rw [List.getElem?_eq_none (Nat.le_refl _)]
  simp [putL]
theorem put_next {D : Stl} {k : ByteArray} {c : List Ver} {x : Ver} {n : Nat} (hD : ∀ s ∈ D, klt s.1 k = true) (hc : ∀ y ∈ c, y.at_ < x.at_) (hp : Pos (D ++ [(k, c)]) k n) : putAt (D ++ [(k, c)]) k x n = D ++ [(k, c ++ [x])] := by
  have h1 := hp.le
  rw [List.length_append] at h1
  simp only [List.length_cons, List.length_nil] at h1
  have hn : n = D.length := by
    rcases Nat.lt_or_ge n D.length with h | h
    · have := hp.hi n (by simp; omega) (Nat.le_refl _)
      rw [List.getElem_append_left h, hD _ (List.getElem_mem h)] at this
      cases this
    · rcases Nat.eq_or_lt_of_le h with h | h
      · exact h.symm
      · have := hp.lo D.length (by simp) h
        rw [List.getElem_append_right (Nat.le_refl _)] at this
        simp [klt_irrefl] at this
  subst hn
  unfold putAt
  rw [List.getElem?_append_right (Nat.le_refl _)]
  simp [putL_snoc hc]
/-- What rows are read. -/
theorem rdChain_ok : ∀ {n : Nat} {at_ : Int} {b : List UInt8} {c : List Ver} {r : List UInt8}, rdChain n at_ b = some (c, r) → c.length = n ∧ Srt c ∧ (∀ x ∈ c, at_ < x.at_ ∧ x.at_ ≤ 2 ^ 40) ∧ r.length + n ≤ b.length
  | 0, at_, b, c, r, h => by
    cases h
    exact ⟨rfl, List.Pairwise.nil, fun _ h => absurd h (by simp), Nat.le_refl _⟩
  | n + 1, at_, b, c, r, h => by
    rw [rdChain_step] at h
    cases h1 : rdV b with
    | none => rw [h1] at h; cases h
    | some p =>
      rw [h1, Option.bind_some] at h
      have hl := (rdV_at (x := p.1) (r := p.2) h1).2.2
      split at h
      · rename_i hc
        obtain ⟨q, hq, e⟩ := Option.map_eq_some_iff.1 h
        cases e
        obtain ⟨k1, k2, k3, k4⟩ := rdChain_ok (c := q.1) (r := q.2) hq
        refine ⟨by rw [List.length_cons, k1], List.pairwise_cons.2 ⟨fun y hy => (k3 y hy).1, k2⟩, fun x hx => ?_, by omega⟩
        rcases List.mem_cons.1 hx with rfl | hx
        · exact hc
        · have := k3 x hx
          exact ⟨by omega, this.2⟩
      · cases h
theorem rdRow_ok {last : ByteArray} {b : List UInt8} {s : ByteArray × List Ver} {r : List UInt8} (h : rdRow last b = some (s, r)) : klt last s.1 = true ∧ s.2 ≠ [] ∧ Srt s.2 ∧ s.1.size ≤ 32 ∧ (∀ x ∈ s.2, 0 < x.at_ ∧ x.at_ ≤ 2 ^ 40) ∧ r.length + s.2.length ≤ b.length := by
  unfold rdRow at h
  cases h1 : rdText 32 b with
  | none => rw [h1] at h; cases h
  | some p =>
    rw [h1, Option.bind_some] at h
    have hp : p.1.size ≤ 32 ∧ p.2.length ≤ b.length := by
      unfold rdText at h1
      cases h2 : rd b with
      | none => rw [h2] at h1; cases h1
      | some q =>
        rw [h2, Option.bind_some] at h1
        have := rd_len h2
        split at h1
        · rename_i hc
          cases h1
          exact ⟨by simp only [size_str, List.length_take]; omega, by simp only [List.length_drop]; omega⟩
        · cases h1
    cases h2 : rd p.2 with
    | none => rw [h2] at h; cases h
    | some q =>
      rw [h2, Option.bind_some] at h
      have hq := rd_len h2
      split at h
      · rename_i hc
        obtain ⟨x, hx, e⟩ := Option.map_eq_some_iff.1 h
        cases e
        obtain ⟨k1, k2, k3, k4⟩ := rdChain_ok (c := x.1) (r := x.2) hx
        refine ⟨hc.1, fun e => ?_, k2, hp.1, k3, by simp only; omega⟩
        simp only at e
        rw [e] at k1
        exact hc.2.1 k1.symm
      · cases h
end Go.Sm
/- image.Decode. -/
set_option linter.unusedVariables false
set_option linter.unusedSimpArgs false
namespace Go.Sm
open Go Go.Proofs
set_option maxRecDepth 100000
set_option maxHeartbeats 40000000
def RetI (b : Nat) (σ : CSt) (o : Option (Nat × Stl)) (v : Value) : Prop := match o with
  | none => v = .tuple #[.int .u64 0, .pointer none, .int .i64 10]
  | some q => ∃ i, v = .tuple #[.int .u64 q.1, .pointer (some ⟨i, 0, none⟩), .int .i64 0] ∧ St b σ i q.2
theorem Fr.kept {b : Nat} {σ σ' : CSt} (f : Fr TR b σ σ') : Kept σ σ' :=
  ⟨f.1, fun m hm row e ro hg he => f.2 m hm (.inr fun row' e' ro' hg' ht => by
    rw [hg] at hg'
    cases hg'
    rcases he with rfl | rfl | rfl | rfl <;> exact absurd ht (by decide))⟩
/-- The store once some of a row's versions are put. -/
def partS (D : Stl) (key : ByteArray) (ch : List Ver) (k : Nat) : Stl := if k = 0 then D else D ++ [(key, ch.take k)]
theorem srt_take {ch : List Ver} (h : Srt ch) (k : Nat) : Srt (ch.take k) := List.Pairwise.sublist (List.take_sublist k ch) h
theorem srt_lt {ch : List Ver} (h : Srt ch) (k : Nat) (hk : k < ch.length) : ∀ y ∈ ch.take k, y.at_ < ch[k].at_ := by
  intro y hy
  obtain ⟨j, hj, rfl⟩ := List.getElem_of_mem hy
  rw [List.length_take] at hj
  rw [List.getElem_take]
  exact List.pairwise_iff_getElem.1 h j k (by omega) hk (by omega)
theorem partS_ks {D : Stl} {key : ByteArray} {ch : List Ver} (hk : KS D) (hD : ∀ s ∈ D, klt s.1 key = true) (k : Nat) : KS (partS D key ch k) := by
  unfold partS
  split
  · exact hk
  · refine List.pairwise_append.2 ⟨hk, List.pairwise_singleton _ _, fun x hx y hy => ?_⟩
    obtain rfl := List.mem_singleton.1 hy
    exact hD x hx
theorem partS_all {D : Stl} {key : ByteArray} {ch : List Ver} {n : Nat} (hD : ∀ s ∈ D, Srt s.2 ∧ s.2.length ≤ n) (hc : Srt ch) (hn : ch.length ≤ n) (k : Nat) : ∀ s ∈ partS D key ch k, Srt s.2 ∧ s.2.length ≤ n := by
  intro s hs
  unfold partS at hs
  split at hs
  · exact hD s hs
  · rcases List.mem_append.1 hs with hs | hs
    · exact hD s hs
    · obtain rfl := List.mem_singleton.1 hs
      exact ⟨srt_take hc k, by simp only [List.length_take]; omega⟩
theorem partS_step {D : Stl} {key : ByteArray} {ch : List Ver} (hD : ∀ s ∈ D, klt s.1 key = true) (hc : Srt ch) {k n : Nat} (hk : k < ch.length) (hp : Pos (partS D key ch k) key n) : putAt (partS D key ch k) key ch[k] n = partS D key ch (k + 1) := by
  have e : partS D key ch (k + 1) = D ++ [(key, ch.take k ++ [ch[k]])] := by
    unfold partS
    rw [if_neg (by omega), List.take_succ_eq_append_getElem hk]
  rw [e]
  unfold partS at hp ⊢
  by_cases h0 : k = 0
  · subst h0
    rw [if_pos rfl] at hp ⊢
    rw [put_first hD hp]
    rfl
  · rw [if_neg h0] at hp ⊢
    exact put_next hD (srt_lt hc k hk) hp
theorem partS_len {D : Stl} {key : ByteArray} {ch : List Ver} (k : Nat) : (partS D key ch k).length ≤ D.length + 1 := by
  unfold partS
  split
  · omega
  · simp
theorem St.weaken {b b' : Nat} {σ : CSt} {i : Nat} {S : Stl} (h : St b σ i S) (hb : b' ≤ b) : St b' σ i S := by
  obtain ⟨vr, R, h1, h2, h3, h4, h5⟩ := h
  exact ⟨vr, R, by omega, h2, h3, h4.weaken hb, h5⟩
def TS : TypeId → Prop := fun t => TR t ∨ stT t
def finS (clock : Nat) (D : Stl) (r : Stl × List UInt8) : Option (Nat × Stl) := if r.2 = [] then some (clock, D ++ r.1) else none
theorem imgdec_spec (l : List UInt8) (v : Value) (σ : CSt) (hsl : Sl σ 5 1 encY v l) (hbig : l.length < 2 ^ 35) (Q : Out → CSt → Prop)
    (h : ∀ r σ', RetI σ.n σ' (decS l) r → Grow σ σ' → Q (.ret r false) σ') : W E1 (.fn 30 #[v] none) σ Q := by
  rw [W_fn (fn := Tryz.f30) Tryz.func30 rfl rfl rfl]
  obtain ⟨pv, cv, rfl⟩ := hsl.form
  simp [wops_cons]
  have g0 : Grow σ (σ.alloc (.cells [.slice pv l.length cv, .bool false] 41 false)) := (Grow.refl σ).alloc _
  have hr0 : Ro σ.n σ.n (σ.alloc (.cells [.slice pv l.length cv, .bool false] 41 false)) (some l) := ⟨_, l, by simp, by omega, by simp, hsl.grow g0, by simp, by omega⟩
  refine rnum_spec σ.n σ.n (some l) _ hr0 (by simp) _ fun clock σ1 hcl hcl64 h1 f1 => ?_
  have fn1 := f1.1
  simp at fn1
  simp [wops_cons]
  refine rnum_spec σ.n σ.n _ σ1 h1 (by omega) _ fun n σ2 hn hn64 h2 f2 => ?_
  have fn2 := f2.1
  have f02 : Fr TR σ.n σ σ2 := (g0.fr.trans f1).trans f2
  simp [wops_cons]
  refine new_spec σ2 _ fun σ3 hst g3 => ?_
  have fn3 := g3.n
  have hst0 : St σ.n σ3 σ2.n [] := hst.weaken (by omega)
  have h3 := h2.grow g3
  have f03 := f02.trans g3.fr
  have hlu : IntKind.u64.wrap (l.length : Int) = (l.length : Int) := IntWalk.u64_in _ (by omega)
  -- was it none?
  obtain ⟨v3, l3, kr, hbp3, hpn3, hsl3, hol3, hbig3⟩ := id h3
  obtain ⟨q3, c3, rfl⟩ := hsl3.form
  obtain ⟨bad, hb1, hb2, hb3⟩ : ∃ bad : Bool, bad = ((Option.map (fun x => x.snd) ((Option.map (fun x => x.snd) ((some l).bind rd)).bind rd)).isNone || (decide (1099511627776 < (clock : Int)) || decide ((l.length : Int) < (n : Int)))) ∧ (bad = true → decS l = none) ∧ (bad = false → clock ≤ 2 ^ 40 ∧ n ≤ l.length ∧ ∃ rest, Option.map (fun x => x.snd) ((Option.map (fun x => x.snd) ((some l).bind rd)).bind rd) = some rest ∧ rest.length ≤ l.length ∧ decS l = (decRows clock n (str []) rest).bind (finS clock [])) := by
    refine ⟨_, rfl, ?_, ?_⟩
    · intro hb
      unfold decS
      cases e1 : rd l with
      | none => rfl
      | some q1 =>
        rw [Option.bind_some, e1] at hb hcl hn
        simp only [Option.map_some, Option.getD_some, Option.bind_some] at hb hcl hn
        rw [Option.bind_some]
        cases e2 : rd q1.2 with
        | none => rfl
        | some q2 =>
          rw [e2] at hb hn
          simp only [Option.map_some, Option.getD_some, Option.isNone_some, Bool.false_or, Bool.or_eq_true, decide_eq_true_eq] at hb hn
          rw [Option.bind_some, if_neg (by omega)]
    · intro hb
      unfold decS
      cases e1 : rd l with
      | none => rw [Option.bind_some, e1] at hb; cases hb
      | some q1 =>
        rw [Option.bind_some, e1] at hb hcl hn
        simp only [Option.map_some, Option.getD_some, Option.bind_some] at hb hcl hn ⊢
        cases e2 : rd q1.2 with
        | none => rw [e2] at hb; cases hb
        | some q2 =>
          rw [e2] at hb hn
          simp only [Option.map_some, Option.getD_some, Option.isNone_some, Bool.false_or, Bool.or_eq_false_iff, decide_eq_false_iff_not] at hb hn
          have k1 := rd_len e1
          have k2 := rd_len e2
          refine ⟨by omega, by omega, q2.2, by rw [e1]; simp only [Option.map_some, Option.bind_some, e2], by omega, ?_⟩
          rw [Option.bind_some, if_pos (by omega), hcl, hn]
          rfl
  generalize hoo : Option.map (fun x => x.snd) ((Option.map (fun x => x.snd) ((some l).bind rd)).bind rd) = oo at *
  -- nothing of it
  have hnone : decS l = none → ∀ s, Grow σ s → Q (.ret (.tuple #[.int .u64 0, .pointer none, .int .i64 10]) false) s := fun hd s hg => h _ s (by rw [hd]; rfl) hg
  simp [wops_cons, -W_region]
  refine W_cut (fun out s => ∃ tm, out = .code .normal ⟨tm, 78, [], false⟩ ∧ tm.get 5 = some (.pointer (some ⟨σ.n, 0, none⟩)) ∧ tm.get 6 = some (.int .u64 (clock : Nat)) ∧ tm.get 7 = some (.int .u64 (n : Nat)) ∧ tm.get 8 = some (.pointer (some ⟨σ2.n, 0, none⟩)) ∧ tm.get 9 = some (.string (str [])) ∧ tm.get 36 = some (.bool bad) ∧ s = σ3) ?_ ?_
  · rw [W_region, hb1]
    cases oo with
    | none =>
      simp only [Option.isNone_none] at kr
      simp [wops_cons, wops_if', dstOf, kr, str]
    | some rest =>
      simp only [Option.isNone_some] at kr
      by_cases e1 : 1099511627776 < (clock : Int)
      · simp [wops_cons, wops_if', dstOf, kr, e1, str]
      · by_cases e2 : (l.length : Int) < (n : Int)
        · simp [wops_cons, wops_if', dstOf, kr, e1, e2, hlu, str]
        · simp [wops_cons, wops_if', dstOf, kr, e1, e2, hlu, str]
  rintro out s ⟨tm, rfl, t5, t6, t7, t8, t9, t36, rfl⟩
  cases bad with
  | true =>
    have hQ := hnone (hb2 rfl) s (f03.grow (Nat.le_refl _))
    simpa [wops_cons, kscope, findLabel, t36] using hQ
  | false =>
    obtain ⟨hcle, hnl, rest, rfl, hrl, hde⟩ := hb3 rfl
    clear hb1 hb2 hb3
    simp [wops_cons, t5, t6, t7, t8, t9, t36]
    refine W_loop_J (fun k a z => ∃ tm, ∃ i : Nat, ∃ last rest D, a = ⟨tm, 78, [], false⟩ ∧ tm.get 5 = some (.pointer (some ⟨σ.n, 0, none⟩)) ∧ tm.get 6 = some (.int .u64 (clock : Nat)) ∧ tm.get 8 = some (.pointer (some ⟨σ2.n, 0, none⟩)) ∧ tm.get 9 = some (.string last) ∧ tm.get 37 = some (.int .u64 (n : Nat)) ∧ tm.get 38 = some (.int .u64 (i : Nat)) ∧
      (i ≤ n ∧ k = n - i ∧ Ro σ.n σ.n z (some rest) ∧ St σ.n z σ2.n D ∧ KS D ∧ (∀ s ∈ D, Srt s.2 ∧ s.2.length ≤ l.length) ∧ (∀ s ∈ D, s.1 = last ∨ klt s.1 last = true) ∧ D.length = i ∧ rest.length ≤ l.length ∧ Fr TS σ.n s z ∧ decS l = (decRows clock (n - i) last rest).bind (finS clock D)))
      (fun out z => (∃ tm rest D, out = .code (.exit 0) ⟨tm, 78, [], false⟩ ∧ tm.get 5 = some (.pointer (some ⟨σ.n, 0, none⟩)) ∧ tm.get 6 = some (.int .u64 (clock : Nat)) ∧ tm.get 8 = some (.pointer (some ⟨σ2.n, 0, none⟩)) ∧ Ro σ.n σ.n z (some rest) ∧ St σ.n z σ2.n D ∧ Grow σ z ∧ decS l = finS clock D ([], rest)) ∨ (∃ tm, out = .code (.goto 0) ⟨tm, 78, [], false⟩ ∧ Grow σ z ∧ decS l = none)) ?_ n _ _ ?_ ?_
    · rintro k a z ⟨tm, i, last, rest, D, rfl, t5, t6, t8, t9, t37, t38, hi, hk, hro, hst, hks, hsr, hlast, hDl, hrl, hf, hde⟩
      have hgz : Grow σ z := ((f03.mono (T' := TS) (fun _ => .inl) (Nat.le_refl _)).trans hf).grow (Nat.le_refl _)
      have fnz := hf.1
      by_cases hlt : i < n
      · have hlt' : (i : Int) < (n : Int) := by omega
        obtain ⟨m, hm⟩ : ∃ m, n - i = m + 1 := ⟨n - i - 1, by omega⟩
        rw [hm, decRows_step] at hde
        simp [wops_cons, t5, t6, t8, t9, t37, t38, hlt, hlt']
        refine row_spec σ.n σ.n last (some rest) z hro hgz.n _ fun key pl nl cl z1 hrow r1 f1 => ?_
        have fn1' := f1.1
        have hst1 : St σ.n z1 σ2.n D := hst.kept f1.kept
        have hg1 : Grow σ z1 := (hgz.fr.trans f1).grow (Nat.le_refl _)
        rw [Option.bind_some] at r1
        obtain ⟨v5, l5, kr5, _⟩ := id r1
        cases hrr : rdRow last rest with
        | none =>
          rw [hrr] at kr5 hde
          simp only [Option.map_none, Option.isNone_none] at kr5
          have hd : decS l = none := hde
          simp [wops_cons, wops_if', dstOf, t5, t6, t8, t9, t37, t38, kr5]
          exact ⟨hg1, hd⟩
        | some q =>
          obtain ⟨⟨k2, ch⟩, rest2⟩ := q
          obtain ⟨rfl, rfl, how⟩ := hrow _ (by rw [Option.bind_some]; exact hrr)
          simp only at how
          rw [hrr] at kr5 hde r1
          simp only [Option.map_some, Option.isNone_some, Option.bind_some] at kr5 hde r1
          obtain ⟨c1, c2, c3, c4, c5, c6⟩ := rdRow_ok hrr
          simp only at c1 c2 c3 c4 c5 c6
          obtain ⟨mm, hmm⟩ : ∃ mm, ch.length = mm + 1 := ⟨ch.length - 1, by have := List.length_pos_iff.2 c2; omega⟩
          have hma : mm < ch.length := by omega
          have hlastT : lastT ch = ch[mm].at_ := by
            unfold lastT
            rw [List.getLast?_eq_getElem?, List.getElem?_eq_getElem (by omega)]
            simp [hmm]
          obtain ⟨y, off, row, ro, rfl, hgy, hyn, hrowv, hle⟩ := (how.sl (sz := 3) lenV).at hma
          have hcl := row_cell (enc := encV) lenV hrowv mm 0 hma (by decide)
          have hle4 := row_le hle mm hma
          have hwm : IntKind.i64.wrap (mm : Int) = (mm : Int) := IntWalk.i64_in _ (by omega)
          have hmp : (0 : Int) ≤ (mm : Int) := by omega
          have hmq : (mm : Int) < (mm : Int) + 1 := by omega
          simp [encV] at hcl
          by_cases hlate : (clock : Int) < ch[mm].at_
          · have hd : decS l = none := by rw [hde, hlastT, if_neg (by omega)]; rfl
            simp [wops_cons, wops_if', dstOf, t5, t6, t8, t9, t37, t38, kr5, hmm, hgy, hcl, hle4, hwm, hmp, hmq, hlate]
            exact ⟨hg1, hd⟩
          · rw [hlastT, if_pos (by omega)] at hde
            simp [wops_cons, wops_if', dstOf, t5, t6, t8, t9, t37, t38, kr5, hmm, hgy, hcl, hle4, hwm, hmp, hmq, hlate]
            have hDk : ∀ s ∈ D, klt s.1 key = true := by
              intro s hs
              rcases hlast s hs with e | e
              · rw [e]; exact c1
              · exact klt_trans e c1
            have hslc := how.sl (sz := 3) lenV
            rw [hmm] at hslc
            refine W_loop_J (fun k a w => ∃ tm, ∃ j : Nat, a = ⟨tm, 78, [], false⟩ ∧ tm.get 5 = some (.pointer (some ⟨σ.n, 0, none⟩)) ∧ tm.get 6 = some (.int .u64 (clock : Nat)) ∧ tm.get 8 = some (.pointer (some ⟨σ2.n, 0, none⟩)) ∧ tm.get 10 = some (.string key) ∧ tm.get 37 = some (.int .u64 (n : Nat)) ∧ tm.get 38 = some (.int .u64 (i : Nat)) ∧ tm.get 61 = some (.slice (some ⟨y, off, none⟩) (mm + 1) cl) ∧ tm.get 62 = some (.int .i64 ((mm : Int) + 1)) ∧ tm.get 63 = some (.int .i64 (j : Nat)) ∧ (j ≤ mm + 1 ∧ k = mm + 1 - j ∧ St σ.n w σ2.n (partS D key ch j) ∧ Ro σ.n σ.n w (some rest2) ∧ Fr stT σ.n z1 w))
              (fun out w => ∃ tm, out = .code (.exit 2) ⟨tm, 78, [], false⟩ ∧ tm.get 5 = some (.pointer (some ⟨σ.n, 0, none⟩)) ∧ tm.get 6 = some (.int .u64 (clock : Nat)) ∧ tm.get 8 = some (.pointer (some ⟨σ2.n, 0, none⟩)) ∧ tm.get 10 = some (.string key) ∧ tm.get 37 = some (.int .u64 (n : Nat)) ∧ tm.get 38 = some (.int .u64 (i : Nat)) ∧ St σ.n w σ2.n (D ++ [(key, ch)]) ∧ Ro σ.n σ.n w (some rest2) ∧ Fr stT σ.n z1 w) ?_ (mm + 1) _ _ ?_ ?_
            · rintro k' a w ⟨tm, j, rfl, t5, t6, t8, t10, t37, t38, t61, t62, t63, hj, hk', hstw, hrw, hfw⟩
              have fnw := hfw.1
              by_cases hjl : j < mm + 1
              · have hjc : j < ch.length := by omega
                have hjl' : (j : Int) < (mm : Int) + 1 := by omega
                obtain ⟨y', off', row', ro', hyy, hgy', hyn', hrow', hle'⟩ := Sl.at (n := mm + 1) (hslc.fr (T := stT) (by unfold stT; decide) hfw) hjc
                cases hyy
                have hld := row_get lenV hrow' j hjc
                have hle2 := row_le hle' j hjc
                have hw1 := i64s j (by omega)
                have hstep := fun n' hp => partS_step (n := n') hDk c3 hjc hp
                generalize ch[j] = X at hld hstep
                simp only [encV] at hld
                have g1 : Grow w ((w.alloc (.cells [.int .u64 0, .string ⟨#[]⟩, .bool false] 33 false)).put w.n (.cells [.int .u64 X.at_, .string X.val, .bool X.gone] 33 false)) := ⟨by simp, fun j hj => by rw [CSt.get_put, if_neg (by omega), CSt.get_alloc, if_neg (by omega)]⟩
                simp [wops_cons, t5, t6, t8, t10, t37, t38, t61, t62, t63, hjl, hjl', hgy', hld, hle2]
                have hps := put_store σ.n σ2.n (partS D key ch j) (partS_ks hks hDk j) (fun s hs => (partS_all hsr c3 (by omega) j s hs).1) (fun s hs => by have := (partS_all hsr c3 (show ch.length ≤ l.length by omega) j s hs).2; omega) key X _ (by have := g1.n; have := hg1.n; omega) (hstw.grow g1) (by have := partS_len (D := D) (key := key) (ch := ch) j; omega)
                simp only [encV] at hps
                refine hps _ fun n' w2 hp hst2 f2 => ?_
                rw [hstep n' hp] at hst2
                have hr2 := (hrw.grow g1).fr (T := stT) (by unfold stT; decide) (by unfold stT; decide) f2
                have hf2 : Fr stT σ.n z1 w2 := (hfw.trans g1.fr).trans f2
                simp [wops_cons, t5, t6, t8, t10, t37, t38, t61, t62, t63, hw1]
                exact ⟨mm + 1 - (j + 1), by omega, j + 1, by omega, by omega, rfl, hst2, hr2, hf2⟩
              · have hje : j = mm + 1 := by omega
                subst hje
                have hfin : partS D key ch (mm + 1) = D ++ [(key, ch)] := by
                  unfold partS
                  rw [if_neg (by omega), List.take_of_length_le (by omega)]
                rw [hfin] at hstw
                have hnl' : ¬ ((mm : Int) + 1 < (mm : Int) + 1) := by omega
                simp [wops_cons, t5, t6, t8, t10, t37, t38, t61, t62, t63, hnl']
                exact ⟨hstw, hrw, hfw⟩
            · exact ⟨_, 0, rfl, by simp [t5], by simp [t6], by simp [t8], by simp, by simp [t37], by simp [t38], by simp, by simp, by simp, by omega, rfl, by simpa [partS] using hst1, r1, Fr.refl _ _ _⟩
            · rintro out w ⟨tm, rfl, t5, t6, t8, t10, t37, t38, hstw, hrw, hfw⟩
              have hw := IntWalk.u64_in ((i : Int) + 1) (by omega)
              simp [wops_cons, t5, t6, t8, t10, t37, t38, hw]
              have hfall : Fr TS σ.n s w := (hf.trans (f1.mono (fun _ => .inl) (Nat.le_refl _))).trans (hfw.mono (fun _ => .inr) (Nat.le_refl _))
              refine ⟨n - (i + 1), by omega, i + 1, by omega, by omega, rfl, rest2, hrw, D ++ [(key, ch)], hstw, ?_, ?_, ?_, by simp [hDl], by omega, hfall, ?_⟩
              · have := partS_ks (ch := ch) hks hDk ch.length
                unfold partS at this
                rw [if_neg (by omega), List.take_of_length_le (Nat.le_refl _)] at this
                exact this
              · intro a b hab
                rcases List.mem_append.1 hab with hab | hab
                · exact hsr _ hab
                · cases List.mem_singleton.1 hab
                  exact ⟨c3, by omega⟩
              · intro a b hab
                rcases List.mem_append.1 hab with hab | hab
                · exact .inr (hDk _ hab)
                · cases List.mem_singleton.1 hab
                  exact .inl rfl
              · rw [hde, show n - (i + 1) = m by omega]
                cases decRows clock m key rest2 with
                | none => rfl
                | some r => simp [finS]
      · have hin : i = n := by omega
        subst hin
        rw [Nat.sub_self] at hde
        simp [wops_cons, t5, t6, t8, t9, t37, t38]
        exact ⟨rest, hro, D, hst, hgz, hde⟩
    · exact ⟨_, 0, str [], rest, [], rfl, by simp [t5], by simp [t6], by simp [t8], by simp [t9], by simp, by simp, by omega, rfl, h3, hst0, List.Pairwise.nil, by simp, by simp, rfl, hrl, Fr.refl _ _ _, hde⟩
    · rintro out z (⟨tm, rest, D, rfl, t5, t6, t8, hro, hst, hgz, hde⟩ | ⟨tm, rfl, hgz, hde⟩)
      · simp [wops_cons, t5, t6, t8]
        refine rend_spec σ.n σ.n (some rest) z hro _ ?_
        by_cases hre : rest = []
        · subst hre
          have hQ := h _ z (by rw [hde]; exact ⟨_, rfl, by simpa [finS] using hst⟩) hgz
          simpa [wops_cons, t5, t6, t8, finS] using hQ
        · have hQ := hnone (by rw [hde]; simp [finS, hre]) z hgz
          simpa [wops_cons, t5, t6, t8, hre, kscope, findLabel] using hQ
      · have hQ := hnone hde z hgz
        simpa [wops_cons, kscope, findLabel] using hQ
end Go.Sm
/- A store's bytes, read again; plain. -/
set_option linter.unusedVariables false
set_option linter.unusedSimpArgs false
namespace Go.Sm
/-- What rows must be like to be an image's. -/
structure GoodS (S : Stl) : Prop where
  ks : KS S
  key : ∀ s ∈ S, 1 ≤ s.1.size ∧ s.1.size ≤ 32
  ne : ∀ s ∈ S, s.2 ≠ []
  srt : ∀ s ∈ S, Srt s.2
  ver : ∀ s ∈ S, ∀ x ∈ s.2, GoodV x ∧ 0 < x.at_ ∧ x.at_ ≤ 2 ^ 40
theorem serV_pos (x : Ver) : 1 ≤ (serV x).length := by
  have := num_pos x.at_.toNat
  rw [serV, List.length_append]
  omega
theorem flatV_len (c : List Ver) : c.length ≤ (c.flatMap serV).length := by
  induction c with
  | nil => simp
  | cons x c ih =>
    have := serV_pos x
    rw [List.flatMap_cons, List.length_append, List.length_cons]
    omega
theorem rdChain_ser {r : List UInt8} : ∀ {c : List Ver} {at_ : Int}, Srt c → (∀ x ∈ c, GoodV x ∧ at_ < x.at_ ∧ 0 < x.at_ ∧ x.at_ ≤ 2 ^ 40) → rdChain c.length at_ (c.flatMap serV ++ r) = some (c, r)
  | [], _, _, _ => rfl
  | x :: c, at_, hs, h => by
    obtain ⟨g1, g2, g3, g4⟩ := h x List.mem_cons_self
    obtain ⟨q1, q2⟩ := List.pairwise_cons.1 hs
    have ih := rdChain_ser (r := r) (at_ := x.at_) q2 fun y hy => by
      obtain ⟨k1, k2, k3, k4⟩ := h y (List.mem_cons_of_mem _ hy)
      exact ⟨k1, q1 y hy, k3, k4⟩
    show rdChain (c.length + 1) at_ _ = _
    rw [rdChain_step, List.flatMap_cons, List.append_assoc, rdV_ser g1 (by omega) (by omega), Option.bind_some, if_pos ⟨g2, g4⟩, ih]
    rfl
theorem rdRow_ser {last : ByteArray} {s : ByteArray × List Ver} (hk : klt last s.1 = true) (hks : s.1.size ≤ 32) (hne : s.2 ≠ []) (hs : Srt s.2) (hl : s.2.length < 2 ^ 64) (hv : ∀ x ∈ s.2, GoodV x ∧ 0 < x.at_ ∧ x.at_ ≤ 2 ^ 40) (r : List UInt8) : rdRow last (serRow s ++ r) = some (s, r) := by
  obtain ⟨key, c⟩ := s
  simp only at hk hks hne hs hl hv
  have hpos := List.length_pos_iff.2 hne
  unfold rdRow serRow
  simp only
  rw [List.append_assoc, List.append_assoc, rdText_ser hks (by decide), Option.bind_some]
  simp only
  rw [rd_num hl, Option.bind_some]
  have h1 := flatV_len c
  rw [if_pos ⟨hk, by simp only; omega, by simp only [List.length_append]; omega⟩]
  simp only
  rw [rdChain_ser hs fun x hx => by
    obtain ⟨a, b, d⟩ := hv x hx
    exact ⟨a, b, b, d⟩]
  rfl
theorem decRows_ser {clock : Nat} {r : List UInt8} : ∀ {S : Stl} {last : ByteArray}, GoodS S → (∀ s ∈ S, s.2.length < 2 ^ 64) → (∀ s ∈ S, klt last s.1 = true) → decRows clock S.length last (S.flatMap serRow ++ r) = if (∀ s ∈ S, lastT s.2 ≤ clock) then some (S, r) else none
  | [], _, _, _, _ => by simp [decRows]
  | s :: S, last, h, hl, hlast => by
    obtain ⟨q1, q2⟩ := List.pairwise_cons.1 h.ks
    have hm := List.mem_cons_self (a := s) (l := S)
    have ih := decRows_ser (r := r) (clock := clock) (S := S) (last := s.1) ⟨q2, fun x hx => h.key x (List.mem_cons_of_mem _ hx), fun x hx => h.ne x (List.mem_cons_of_mem _ hx), fun x hx => h.srt x (List.mem_cons_of_mem _ hx), fun x hx => h.ver x (List.mem_cons_of_mem _ hx)⟩ (fun x hx => hl x (List.mem_cons_of_mem _ hx)) q1
    show decRows clock (S.length + 1) last _ = _
    rw [decRows_step, List.flatMap_cons, List.append_assoc, rdRow_ser (hlast s hm) (h.key s hm).2 (h.ne s hm) (h.srt s hm) (hl s hm) (h.ver s hm), Option.bind_some]
    simp only
    rw [ih]
    by_cases h1 : lastT s.2 ≤ clock
    · rw [if_pos h1]
      by_cases h2 : ∀ x ∈ S, lastT x.2 ≤ clock
      · rw [if_pos h2, if_pos (fun x hx => by
          rcases List.mem_cons.1 hx with rfl | hx
          · exact h1
          · exact h2 x hx)]
        rfl
      · rw [if_neg h2, if_neg (fun h3 => h2 fun x hx => h3 x (List.mem_cons_of_mem _ hx))]
        rfl
    · rw [if_neg h1, if_neg (fun h3 => h1 (h3 s hm))]
theorem serRow_pos (s : ByteArray × List Ver) : 1 ≤ (serRow s).length := by
  have := num_pos s.2.length
  unfold serRow
  simp only [List.length_append]
  omega
theorem flatR_len (S : Stl) : S.length ≤ (S.flatMap serRow).length := by
  induction S with
  | nil => simp
  | cons x c ih =>
    have := serRow_pos x
    rw [List.flatMap_cons, List.length_append, List.length_cons]
    omega
theorem decS_ser {clock : Nat} {S : Stl} (hc : clock < 2 ^ 64) (h : GoodS S) (hl : ∀ s ∈ S, s.2.length < 2 ^ 64) (hS : S.length < 2 ^ 64) : decS (serS clock S) = if clock ≤ 2 ^ 40 ∧ ∀ s ∈ S, lastT s.2 ≤ clock then some (clock, S) else none := by
  have hlen := flatR_len S
  have e : serS clock S = num clock ++ (num S.length ++ (S.flatMap serRow ++ [])) := by rw [serS, List.append_nil, List.append_assoc]
  have e1 : rd (serS clock S) = some (clock, num S.length ++ (S.flatMap serRow ++ [])) := by rw [e, rd_num hc]
  have hbl : S.length ≤ (serS clock S).length := by unfold serS; simp only [List.length_append]; omega
  unfold decS
  rw [e1, Option.bind_some]
  simp only
  rw [rd_num hS, Option.bind_some]
  simp only
  by_cases hck : clock ≤ 2 ^ 40
  · rw [if_pos ⟨hck, hbl⟩, decRows_ser h hl fun s hs => klt_nil (h.key s hs).1]
    by_cases h2 : ∀ s ∈ S, lastT s.2 ≤ clock
    · rw [if_pos h2, if_pos ⟨hck, h2⟩]
      simp
    · rw [if_neg h2, if_neg (fun h3 => h2 h3.2)]
      rfl
  · rw [if_neg (fun h3 => hck h3.1), if_neg (fun h3 => hck h3.1)]
end Go.Sm
/- What the law's stores are like. -/
set_option linter.unusedVariables false
set_option linter.unusedSimpArgs false
namespace Go.Sm
theorem key12_size (n : Int) : (key12 n).size = 1 := by unfold key12; split <;> rfl
theorem verOf_good (x : VV) (h : x.ok) (h1 : 1 ≤ x.at_) : GoodV (verOf x) ∧ 0 < (verOf x).at_ ∧ (verOf x).at_ ≤ 255 := by
  obtain ⟨⟨a, b⟩, c⟩ := h
  rw [verOf_at]
  refine ⟨⟨fun hg => ?_, ?_⟩, by omega, by omega⟩
  · unfold verOf at hg ⊢
    by_cases e : x.gone = true
    · rw [if_pos e]; rfl
    · rw [if_neg e] at hg; cases hg
  · unfold verOf
    split
    · show (⟨#[]⟩ : ByteArray).size ≤ 200; decide
    · show (nameOf _).size ≤ 200
      unfold nameOf
      split <;> decide
theorem fixW_ok {w : WW} (h : w.ok) : (fixW w).ok ∧ 1 ≤ (fixW w).v.at_ := by
  obtain ⟨h1, h2⟩ := h
  refine ⟨⟨h1, fixV_ok h2⟩, ?_⟩
  obtain ⟨⟨a, b⟩, c⟩ := h2
  show 1 ≤ (if w.v.at_ = 0 then 1 else w.v.at_)
  split <;> omega
/-- Small numbers, keys and times from one on. -/
def WsOk (ws : List WW) : Prop := ∀ w ∈ ws, w.ok ∧ 1 ≤ w.v.at_
theorem wsOk_map {l : List WW} (h : ∀ w ∈ l, w.ok) : WsOk (l.map fixW) := by
  intro w hw
  obtain ⟨x, hx, rfl⟩ := List.mem_map.1 hw
  exact fixW_ok (h x hx)
theorem ofK_mem {ws : List WW} {k : ByteArray} {x : Ver} (h : x ∈ ofK ws k) : ∃ w ∈ ws, w.k = k ∧ x = verOf w.v := by
  unfold ofK at h
  obtain ⟨w, hw, rfl⟩ := List.mem_map.1 h
  obtain ⟨h1, h2⟩ := List.mem_filter.1 hw
  exact ⟨w, h1, by simpa using h2, rfl⟩
theorem makeL_ne : ∀ {l : List Ver}, l ≠ [] → makeL l ≠ [] := by
  intro l
  refine rev_ind (P := fun l => l ≠ [] → makeL l ≠ []) (fun h => absurd rfl h) (fun l v _ _ => ?_) l
  rw [makeL_snoc]
  unfold putL
  simp
theorem good_S {S : Stl} {ws : List WW} (h : SRel S ws) (hw : WsOk ws) : GoodS S := by
  have hv : ∀ s ∈ S, ∀ x ∈ s.2, GoodV x ∧ 0 < x.at_ ∧ x.at_ ≤ 255 := by
    intro s hs x hx
    rw [h.val s hs] at hx
    obtain ⟨w, hw1, _, rfl⟩ := ofK_mem (make_mem _ x hx)
    exact verOf_good _ (hw w hw1).1.2 (hw w hw1).2
  refine ⟨h.ks, fun s hs => ?_, fun s hs => ?_, h.srt, fun s hs x hx => ?_⟩
  · obtain ⟨w, _, e⟩ := h.only s hs
    rw [← e]
    have : w.k.size = 1 := key12_size _
    omega
  · rw [h.val s hs]
    refine makeL_ne ?_
    obtain ⟨w, hw1, e⟩ := h.only s hs
    have : verOf w.v ∈ ofK ws s.1 := by
      unfold ofK
      exact List.mem_map.2 ⟨w, List.mem_filter.2 ⟨hw1, by simpa using e⟩, rfl⟩
    exact List.ne_nil_of_mem this
  · obtain ⟨a, b, c⟩ := hv s hs x hx
    exact ⟨a, b, by omega⟩
theorem lastT_mem {c : List Ver} (h : c ≠ []) : ∃ x ∈ c, lastT c = x.at_ := by
  unfold lastT
  have hl := List.length_pos_iff.2 h
  rw [List.getLast?_eq_getElem?, List.getElem?_eq_getElem (by omega)]
  exact ⟨c[c.length - 1]'(by omega), List.getElem_mem (by omega), by simp⟩
theorem lastT_ge {c : List Ver} (hs : Srt c) : ∀ x ∈ c, x.at_ ≤ lastT c := by
  intro x hx
  have hne := List.ne_nil_of_mem hx
  obtain ⟨m, hm⟩ : ∃ m, c.length = m + 1 := ⟨c.length - 1, by have := List.length_pos_iff.2 hne; omega⟩
  have e : lastT c = (c[m]'(by omega)).at_ := by
    unfold lastT
    rw [List.getLast?_eq_getElem?, List.getElem?_eq_getElem (by omega)]
    simp [hm]
  rw [e]
  obtain ⟨j, hj, rfl⟩ := List.getElem_of_mem hx
  rcases Nat.lt_or_ge j m with h | h
  · have := List.pairwise_iff_getElem.1 hs j m hj (by omega) h
    omega
  · have : j = m := by omega
    subst this
    omega
theorem ok_S {S : Stl} {ws : List WW} (h : SRel S ws) (hw : WsOk ws) (hn : ws.length < 2 ^ 20) : OkS S := by
  have hg := good_S h hw
  intro s hs
  have h1 := h.short s hs
  refine ⟨by have := (hg.key s hs).2; omega, by omega, fun x hx => ?_⟩
  obtain ⟨⟨_, a⟩, b, c⟩ := hg.ver s hs x hx
  exact ⟨by omega, by omega, by omega⟩
theorem serS_small {S : Stl} {ws : List WW} {clock : Nat} (h : SRel S ws) (hw : WsOk ws) (hn : ws.length ≤ 1000) (hc : clock < 2 ^ 64) : (serS clock S).length < 2 ^ 30 := by
  have hg := good_S h hw
  have hS := h.len
  have e1 := num_len10 hc
  have e2 := num_len10 (n := S.length) (by omega)
  have e3 := flat_le serRow (100 + 250 * 1000) S fun s hs => by
    have k1 := serText_len s.1 (by have := (hg.key s hs).2; omega)
    have k2 := (hg.key s hs).2
    have k3 := h.short s hs
    have k4 := num_len10 (n := s.2.length) (by omega)
    have k5 := flat_le serV 250 s.2 fun x hx => by
      obtain ⟨⟨_, a⟩, b, c⟩ := hg.ver s hs x hx
      exact serV_len x (by omega) a
    have k6 : 250 * s.2.length ≤ 250 * 1000 := Nat.mul_le_mul_left _ (by omega)
    unfold serRow
    simp only [List.length_append]
    omega
  have e4 : (100 + 250 * 1000) * S.length ≤ (100 + 250 * 1000) * 1000 := Nat.mul_le_mul_left _ (by omega)
  unfold serS
  simp only [List.length_append]
  omega
end Go.Sm
/- The last of a map's times, plain. -/
set_option linter.unusedVariables false
set_option linter.unusedSimpArgs false
namespace Go.Sm
theorem putL_at {c : List Ver} {v : Ver} (y : Int) (h : y = v.at_ ∨ ∃ x ∈ c, x.at_ = y) : ∃ x ∈ putL c v, x.at_ = y := by
  unfold putL
  by_cases e : y = v.at_
  · exact ⟨v, by simp, e.symm⟩
  · rcases h with h | ⟨x, hx, rfl⟩
    · exact absurd h e
    · refine ⟨x, ?_, rfl⟩
      simp only [List.mem_append, List.mem_cons, List.mem_filter, decide_eq_true_eq]
      rcases Int.lt_or_gt_of_ne e with h | h
      · exact .inl ⟨hx, h⟩
      · exact .inr (.inr ⟨hx, h⟩)
theorem makeL_at : ∀ (l : List Ver), ∀ x ∈ l, ∃ y ∈ makeL l, y.at_ = x.at_ := by
  intro l
  refine rev_ind (P := fun l => ∀ x ∈ l, ∃ y ∈ makeL l, y.at_ = x.at_) (fun x h => by cases h) (fun l v ih x hx => ?_) l
  rw [makeL_snoc]
  refine putL_at _ ?_
  rcases List.mem_append.1 hx with h | h
  · exact .inr (ih x h)
  · rw [List.mem_singleton.1 h]; exact .inl rfl
/-- The latest time. -/
def Up (a : Int) (P : List VV) : Prop := ∀ c : Int, 0 ≤ c → (a ≤ c ↔ ∀ x ∈ P, x.at_ ≤ c)
theorem Up.nil : Up 0 [] := fun c h => by simp [h]
theorem Up.snoc {a : Int} {P : List VV} (h : Up a P) (x : VV) : Up (if a < x.at_ then x.at_ else a) (P ++ [x]) := fun c hc => by
  have := h c hc
  simp only [List.mem_append, List.mem_singleton]
  constructor
  · intro h1 y hy
    rcases hy with hy | rfl
    · exact this.1 (by split at h1 <;> omega) y hy
    · split at h1 <;> omega
  · intro h1
    have h2 := this.2 fun y hy => h1 y (.inl hy)
    have h3 := h1 x (.inr rfl)
    split <;> omega
theorem Up.perm {a : Int} {P Q : List VV} (h : Up a P) (hp : ∀ x, x ∈ P ↔ x ∈ Q) : Up a Q := fun c hc => by
  rw [h c hc]
  exact ⟨fun h x hx => h x ((hp x).2 hx), fun h x hx => h x ((hp x).1 hx)⟩
theorem up_S {S : Stl} {ws : List WW} (h : SRel S ws) (hw : WsOk ws) {D : List ByteArray} (hD : ∀ k, k ∈ D ↔ k ∈ (mapF ws).map (·.1)) {a : Int} (ha : Up a (D.flatMap fun k => getF (mapF ws) k)) (c : Int) (hc : 0 ≤ c) : a ≤ c ↔ ∀ s ∈ S, lastT s.2 ≤ c := by
  rw [ha c hc]
  have hG := good_S h hw
  constructor
  · intro h1 s hs
    obtain ⟨x, hx, e⟩ := lastT_mem (hG.ne s hs)
    rw [e]
    rw [h.val s hs] at hx
    have hx' := make_mem _ x hx
    rw [← getF_ofK] at hx'
    obtain ⟨y, hy, rfl⟩ := List.mem_map.1 hx'
    rw [verOf_at]
    obtain ⟨w, hw1, e1⟩ := h.only s hs
    exact h1 y (List.mem_flatMap.2 ⟨s.1, (hD _).2 ((mapF_keys ws _).2 ⟨w, hw1, e1⟩), hy⟩)
  · intro h1 x hx
    obtain ⟨k, hk, hx⟩ := List.mem_flatMap.1 hx
    obtain ⟨w, hw1, e1⟩ := (mapF_keys ws k).1 ((hD k).1 hk)
    obtain ⟨s, hs, e2⟩ := h.all w hw1
    have hxk : verOf x ∈ ofK ws k := by rw [← getF_ofK]; exact List.mem_map_of_mem hx
    obtain ⟨y, hy, e3⟩ := makeL_at _ _ hxk
    have e4 : s.2 = makeL (ofK ws k) := by rw [h.val s hs, e2, e1]
    rw [← e4] at hy
    have h5 := lastT_ge (h.srt s hs) y hy
    have h6 := h1 s hs
    rw [verOf_at] at e3
    omega
end Go.Sm
/- Single plain arguments. -/
set_option linter.unusedVariables false
set_option linter.unusedSimpArgs false
namespace Go.Sm
open Go Go.WideShapes Go.ChangeShapes
section
variable {H : Type} {en : TypeId × Value → H} {P : Program} {w : World}
theorem open_one {base base' : Nat} {spare : Nat → Bool} {held : Bool} {t : TypeId} {f fuel : Nat} {ks : List PK} {v : Value} {x : DataW H × List MemPlace} {r : Reach}
    (hk : kindsF P f t = some ks) (hval : Value.okWide P w r base t v) (hd : DataW.trod en P w base' spare held fuel t v.cells.toList = some x) : ∃ xs, OkL ks xs ∧ v = wrapV P t xs := by
  have h := trod_kinds f t ks hk fuel _ x hd
  refine ⟨_, h, ?_⟩
  cases f with
  | zero => cases hk
  | succ f =>
    unfold kindsF at hk
    cases hu : P.underlying t with
    | none => rw [hu] at hk; cases hk
    | some d =>
      rw [hu] at hk
      cases d with
      | int k => obtain ⟨n, rfl⟩ := okWide_int hu hval; simp [wrapV, isAggT, hu, Value.cells]
      | bool => obtain ⟨n, rfl⟩ := okWide_bool hu hval; simp [wrapV, isAggT, hu, Value.cells]
      | string => obtain ⟨n, rfl⟩ := okWide_string hu hval; simp [wrapV, isAggT, hu, Value.cells]
      | struct fs => obtain ⟨cs, rfl, _⟩ := okWide_struct hu hval; simp [wrapV, isAggT, hu, Value.cells]
      | _ => cases hk
theorem open_i {base base' : Nat} {spare : Nat → Bool} {held : Bool} {t : TypeId} {fuel : Nat} {k : IntKind} {v : Value} {x : DataW H × List MemPlace} {r : Reach}
    (hk : P.underlying t = some (.int k)) (hval : Value.okWide P w r base t v) (hd : DataW.trod en P w base' spare held fuel t v.cells.toList = some x) : ∃ n, v = .int k n ∧ k.min ≤ n ∧ n ≤ k.max := by
  obtain ⟨xs, h, rfl⟩ := open_one (f := 1) (ks := [.int k]) (by simp [kindsF, hk]) hval hd
  match xs, h with
  | [a], ⟨⟨n, ha, hn⟩, _⟩ =>
    subst ha
    simp only [Lit.wf, Bool.and_eq_true, decide_eq_true_eq] at hn
    exact ⟨n, by simp [wrapV, isAggT, hk], hn⟩
end
end Go.Sm
/- Nil pointers, compared; a Boolean among the arguments. -/
set_option linter.unusedVariables false
set_option linter.unusedSimpArgs false
namespace Go.Sm
open Go Go.Proofs
set_option maxRecDepth 100000
theorem isNil_none61 (op : BinOp) : isNilCmp Tryz.prog op 61 (.pointer none) (.pointer none) = none := by simp [isNilCmp, nilPair, Tryz.underlying61]
theorem equal_nil61 : pureRun Tryz.prog (Op.equal 61 (.pointer none) (.pointer none)) = some true := by
  unfold Op.equal Op.equalIn
  simp only [Op.maxDepth, pureRun_bind, pureRun_underlying, Tryz.underlying61, Option.bind_some]
  rfl
theorem bin_nil61 {σ : CSt} {x y : Operand} : binF Tryz.prog σ .eql 61 x y (.pointer none) (.pointer none) = .val (.bool true) σ := by
  have : pureRun Tryz.prog (do eqGuard .eql 61 x y (.pointer none) (.pointer none); binOp .eql 61 (.pointer none) (.pointer none)) = some (.bool true) := by
    have h1 : binOp .eql 61 (.pointer none) (.pointer none) = (do pure (.bool (← Op.equal 61 (.pointer none) (.pointer none))) : Sem Value) := rfl
    have h2 : pureRun Tryz.prog (eqGuard .eql 61 x y (.pointer none) (.pointer none)) = some () := rfl
    rw [pureRun_bind, h2, Option.bind_some, h1, pureRun_bind, equal_nil61, Option.bind_some]
    rfl
  simp only [binF, Sm.flat, flat0, Bool.and_self, if_true, this]
section
open Go.WideShapes Go.ChangeShapes
variable {H : Type} {en : TypeId × Value → H} {P : Program} {w : World}
theorem open_b {base base' : Nat} {spare : Nat → Bool} {held : Bool} {t : TypeId} {fuel : Nat} {v : Value} {x : DataW H × List MemPlace} {r : Reach}
    (hk : P.underlying t = some .bool) (hval : Value.okWide P w r base t v) (hd : DataW.trod en P w base' spare held fuel t v.cells.toList = some x) : ∃ b : Bool, v = .bool b := by
  obtain ⟨xs, h, rfl⟩ := open_one (f := 1) (ks := [.bool]) (by simp [kindsF, hk]) hval hd
  match xs, h with
  | [a], ⟨⟨n, ha⟩, _⟩ =>
    subst ha
    exact ⟨n, by simp [wrapV, isAggT, hk]⟩
end
end Go.Sm
/- ImageLate, walked. -/
set_option linter.unusedVariables false
set_option linter.unusedSimpArgs false
namespace Go.Sm
open Go Go.Proofs
set_option maxRecDepth 100000
set_option maxHeartbeats 4000000
theorem law_ImageLate (c0 : Nat) (hc0 : c0 < 2 ^ 64) (near : Bool) (l : List WW) (hok : ∀ w ∈ l, w.ok) (v : Value) (σ : CSt) (hn : gnone σ) (hz : 1 < σ.n) (hsl : Sl σ 82 4 encW v l) : W E1 (.fn 9 #[v, .int .u64 c0, .bool near] none) σ isTrueP := by
  rw [W_fn (fn := Tryz.f9) Tryz.func9 rfl rfl rfl]
  obtain ⟨pl, cl, rfl⟩ := hsl.form
  simp [wops_cons]
  rw [awake_spec rfl hn]
  simp [wops_cons]
  by_cases hl : 20 < l.length
  · have hl' : (20 : Int) < l.length := by omega
    simp [wops_cons, wops_if', dstOf, hl', isTrueP]
  have hl' : ¬ (20 : Int) < l.length := by omega
  simp [wops_cons, wops_if', dstOf, hl']
  refine store_spec l hok _ _ hsl (by omega) _ fun i m S M σ1 hS hst hmp hmr hm1 hm2 g1 => ?_
  have gn1 := g1.n
  have hw := wsOk_map hok
  have hok' : ∀ w ∈ l.map fixW, w.ok := fun w h => (hw w h).1
  have hSl := hS.len
  simp only [List.length_map] at hSl
  have hOk := ok_S hS hw (by simp; omega)
  have hG := good_S hS hw
  simp [wops_cons, -W_condK, W_cond_t, W_cond_f]
  refine W_cut (fun out z => ∃ tm, ∃ c : Nat, out = .code .normal ⟨tm, 80, [], false⟩ ∧ tm.get 1 = some (.int .u64 (c : Nat)) ∧ tm.get 8 = some (.map (some m)) ∧ z = σ1 ∧ c < 2 ^ 64) ?_ ?_
  · by_cases h3 : near = true
    · have ht1 : (c0 : Int).tmod 300 = ((c0 % 300 : Nat) : Int) := by rw [Int.tmod_eq_emod_of_nonneg (by omega)]; omega
      simp [wops_cons, h3, ht1]
      exact ⟨c0 % 300, by omega, by omega⟩
    · have h3' : near = false := by simpa using h3
      simp [wops_cons, h3']
      exact ⟨c0, rfl, hc0⟩
  rintro out z ⟨tm, c, rfl, t1, t8, rfl, hc⟩
  obtain ⟨o2, ho2, hit2⟩ := range_mpG (P := Tryz.prog) (t := 62) (kt := 9) (et := 75) Tryz.underlying62 hmp (by omega)
  simp [wops_cons, t1, t8, ho2]
  have hkn : (M.map (·.1)).Nodup := by obtain ⟨_, _, _, h⟩ := hmp; exact h.keys
  refine W_loop_inv (fun n A s => ∃ tm R D, ∃ a : Int, A = ⟨tm, 80, [], false⟩ ∧ tm.get 1 = some (.int .u64 (c : Nat)) ∧ tm.get 8 = some (.map (some m)) ∧ tm.get 31 = some (.pointer (some ⟨z.n, 0, none⟩)) ∧ tm.get 9 = some (.int .u64 a) ∧ n = List.length R ∧ MIt Value.string s z.n m M R ∧ (D ++ R.map (·.1)).Perm (M.map (·.1)) ∧ (∀ e ∈ R, e ∈ M) ∧ Up a (D.flatMap fun k => getF (mapF (l.map fixW)) k) ∧ (0 ≤ a ∧ a < 256) ∧ But z.n (z.alloc o2) s) ?_ (List.length M) _ _ ?_
  · rintro n A s ⟨tm, R, D, a, rfl, t1, t8, t31, t9, hnR, hit, hpm, hmem, hup, ha, hb⟩
    have hbn := hb.1
    simp at hbn
    simp [wops_cons, t1, t8, t31, t9]
    refine wres_next hit (fun hR => ?_) (fun j hj ob hit' hent => ?_)
    · subst hR
      simp at hpm
      simp [wops_cons, t1, t8, t31, t9]
      have hgs : Grow z s := hb.from_ ((Grow.refl z).alloc o2) (Nat.le_refl _)
      have hrs := hmr.fr (T := fun _ => False) (fun h => h) (b' := 0) hgs.fr
      have hsm := serS_small (clock := c) hS hw (by simp; omega) hc
      have hdec := decS_ser (clock := c) hc hG (fun s hs => by have := hS.short s hs; simp at this; omega) (by omega)
      have hiff := up_S hS hw (D := D) (fun k => by rw [← hmr.keys]; exact hpm.mem_iff) hup (c : Int) (by omega)
      refine limg_spec σ.n m S (l.map fixW) M c hc s hok' hS hit.mp (by omega) hrs (by simp; omega) (by omega) _ fun v5 σ5 o5 g5 => ?_
      obtain ⟨p5, c5, rfl⟩ := o5.sl.form
      simp [wops_cons, t1, t8, t31, t9]
      refine imgdec_spec _ _ σ5 o5.sl (by omega) _ fun r σ6 hr g6 => ?_
      rw [hdec] at hr
      have nl : ∀ a, isNilCmp Tryz.prog .eql 61 (.pointer (some a)) (.pointer none) = some (.bool false) := nil61_eq
      have nl2 : ∀ a, isNilCmp Tryz.prog .neq 61 (.pointer (some a)) (.pointer none) = some (.bool true) := nil61_ne
      by_cases h1 : (c : Int) < a
      · rw [if_neg (by rw [← hiff]; omega)] at hr
        obtain rfl := hr
        simp [wops_cons, wops_if', dstOf, t1, t8, t31, t9, h1, isNil_none61, bin_nil61, isTrueP]
      by_cases h2 : 1099511627776 < (c : Int)
      · have h2' : 1099511627776 < c := by omega
        rw [if_neg (by rw [← hiff]; omega)] at hr
        obtain rfl := hr
        simp [wops_cons, wops_if', dstOf, t1, t8, t31, t9, h1, h2, h2', isNil_none61, bin_nil61, isTrueP]
      · have h2' : ¬ 1099511627776 < c := by omega
        rw [if_pos (by rw [← hiff]; omega)] at hr
        obtain ⟨i6, rfl, _⟩ := hr
        simp [wops_cons, wops_if', dstOf, t1, t8, t31, t9, h1, h2, h2', nl, nl2, isTrueP]
    · have hRj : R[j] ∈ R := List.getElem_mem hj
      have hget : getM M R[j].1 = some R[j].2 := getM_mem hkn (hmem _ hRj)
      have hbs := hb.putL ob
      have hown := (hmr.fr (T := fun _ => False) (fun h => h) (b' := 0) (hbs.from_ ((Grow.refl z).alloc o2) (Nat.le_refl _)).fr).get R[j].1
      rw [hget] at hown
      simp only [Option.getD_some] at hown
      have hsl := hown.sl (sz := 3) lenVV
      have hgo := getF_ok (l.map fixW) hok' R[j].1
      have hgl := getF_len (l.map fixW) R[j].1
      simp only [List.length_map] at hgl
      obtain ⟨pv, cv, hpv⟩ := hsl.form
      rw [hpv] at hent hsl
      have hperm : ((D ++ [R[j].1]) ++ (R.eraseIdx j).map (·.1)).Perm (M.map (·.1)) := by
        refine List.Perm.trans ?_ hpm
        rw [List.append_assoc]
        refine List.Perm.append_left D ?_
        have := (perm_eraseIdx R j hj).map (·.1)
        simpa using this
      have hfl : (D ++ [R[j].1]).flatMap (fun k => getF (mapF (l.map fixW)) k) = D.flatMap (fun k => getF (mapF (l.map fixW)) k) ++ getF (mapF (l.map fixW)) R[j].1 := by simp [List.flatMap_append]
      have hsn : (s.put z.n ob).n = s.n := rfl
      have hlenR : (R.eraseIdx j).length = R.length - 1 := List.length_eraseIdx_of_lt hj
      have hmemE : ∀ e ∈ R.eraseIdx j, e ∈ M := fun e he => hmem e (List.mem_of_mem_eraseIdx he)
      generalize s.put z.n ob = s1 at hit' hent hbs hsl hsn ⊢
      generalize getF (mapF (l.map fixW)) R[j].1 = P at hsl hgo hgl hfl hpv hent ⊢
      generalize R.eraseIdx j = R' at hit' hperm hlenR hmemE
      simp [wops_cons, t1, t8, t31, t9, hent]
      refine W_loop_inv (fun n A s => ∃ tm, ∃ i : Nat, ∃ a : Int, A = ⟨tm, 80, [], false⟩ ∧ tm.get 1 = some (.int .u64 (c : Nat)) ∧ tm.get 8 = some (.map (some m)) ∧ tm.get 31 = some (.pointer (some ⟨z.n, 0, none⟩)) ∧ tm.get 9 = some (.int .u64 a) ∧ tm.get 36 = some (.slice pv P.length cv) ∧ tm.get 37 = some (.int .i64 P.length) ∧ tm.get 38 = some (.int .i64 (i : Nat)) ∧ n = P.length - i ∧ i ≤ P.length ∧ Up a (D.flatMap (fun k => getF (mapF (l.map fixW)) k) ++ P.take i) ∧ (0 ≤ a ∧ a < 256) ∧ Grow s1 s) ?_ P.length _ _ ?_
      · rintro n A s2 ⟨tm, i, a, rfl, t1, t8, t31, t9, t36, t37, t38, hni, hi, hup2, ha2, hg2⟩
        by_cases hlt : i < P.length
        · have hlt' : (i : Int) < P.length := by omega
          obtain ⟨ib, off, row, ro, rfl, hgr, hin, hrow, hle⟩ := Sl.at (hsl.grow hg2) hlt
          have hle2 := row_le hle i hlt
          have hld := row_get lenVV hrow i hlt
          have hl1 : encU P[i] = [.int .u8 P[i].at_, .int .u8 P[i].v, .bool P[i].gone] := rfl
          have hx := hgo _ (List.getElem_mem hlt)
          obtain ⟨⟨x1, x2⟩, _⟩ := hx
          have hw1 := i64n1 i (by omega)
          have hwx : IntKind.u64.wrap P[i].at_ = P[i].at_ := IntWalk.u64_in _ (by omega)
          have hg3 : Grow s1 ((s2.alloc (.cells [.int .u8 0, .int .u8 0, .bool false] 78 false)).put s2.n (.cells [.int .u8 P[i].at_, .int .u8 P[i].v, .bool P[i].gone] 78 false)) := hg2.trans (((Grow.refl s2).alloc _).put (Nat.le_refl _) _)
          have htk : P.take (i + 1) = P.take i ++ [P[i]] := List.take_succ_eq_append_getElem hlt
          have hupn := hup2.snoc P[i]
          rw [List.append_assoc, ← htk] at hupn
          simp [wops_cons, t1, t8, t31, t9, t36, t37, t38, hlt, hlt', hin, hgr, hld, hle2]
          simp [wops_cons, hl1, t1, t8, t31, t9, t36, t37, t38, hwx, maxK, hw1]
          refine ⟨P.length - (i + 1), by omega, i + 1, by omega, rfl, by omega, hupn, ?_, hg3⟩
          split <;> omega
        · have hie : i = P.length := by omega
          subst hie
          rw [List.take_length, ← hfl] at hup2
          simp [wops_cons, t1, t8, t31, t9, t36, t37, t38]
          refine ⟨R.length - 1, by omega, R', by omega, ?_, D ++ [R[j].1], ?_⟩
          · exact hit'.congr (hg2.2 _ (by omega)) (hg2.2 _ (by omega))
          · exact ⟨by simpa using hperm, fun a b he => hmemE (a, b) he, hup2, ha2, hbs.trans hg2.but⟩
      · refine ⟨_, 0, a, rfl, ?_⟩
        simp [t1, t8, t31, t9]
        exact ⟨hup, ha, Grow.refl _⟩
  · refine ⟨_, M, [], 0, rfl, ?_⟩
    simp [t1, t8]
    exact ⟨hit2, Up.nil, But.refl _ _⟩
end Go.Sm
