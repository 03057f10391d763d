/- Part Store of the proof. -/
import Derived.Test.YtngpgkbkelcihaaGreatDoorSmChain
import Derived.Test.YtngpgkbkelcihaaGreatDoorSmStore
import Derived.Test.YtngpgkbkelcihaaGreatDoorLawBt
import Derived.Test.YtngpgkbkelcihaaGreatDoorLawAt
import Derived.Test.YtngpgkbkelcihaaGreatDoorRowB
/- Stores: rows; the comparison, the search; keys. -/
set_option linter.unusedVariables false
set_option linter.unusedSimpArgs false
namespace Go.Sm
open Go Go.Proofs
set_option maxRecDepth 100000
set_option maxHeartbeats 1000000
/-- A row: a key, and where its chain lies. -/
structure RV where
  key : ByteArray
  p : Option Addr
  n : Nat
  c : Nat
def encR (r : RV) : List Value := [.string r.key, .slice r.p r.n r.c]
theorem lenR (r : RV) : (encR r).length = 2 := rfl
theorem cokR (r : RV) : cokL (encR r) = true := rfl
open Classical in
noncomputable def ordR (k : ByteArray) (r : RV) : Int := if klt r.key k = true then -1 else if r.key = k then 0 else 1
theorem orderR_spec (k : ByteArray) (r : RV) (σ : CSt) (Q : Out → CSt → Prop) (h : ∀ σ', Grow σ σ' → Q (.ret (.int .i64 (ordR k r)) false) σ') : W E1 (.fn 52 #[.agg (encR r).toArray, .string k] none) σ Q := by
  rw [W_fn (fn := Tryz.f52) Tryz.func52 rfl rfl rfl]
  have hg := h _ ((Grow.refl σ).alloc (CObj.cells (encR r) 95 false))
  simp only [encR, ordR] at hg
  simp [wops_cons, encR]
  cases h1 : klt r.key k
  · by_cases h2 : r.key = k
    · have h3 : r.key.toList = k.toList := by rw [h2]
      have h4 : klt k k = false := bl_irrefl _
      simpa [h1, h2, h3, h4] using hg
    · have h3 : ¬ r.key.toList = k.toList := fun e => h2 (ba_list_inj e)
      simpa [h1, h2, h3] using hg
  · simpa [h1] using hg
theorem search_95 (l : List RV) (v key : Value) (hkey : flat0 key = true) (ord : RV → Int) (σ : CSt) (hsl : Sl σ 95 2 encR v l) (hbig : l.length < 2 ^ 40)
    (hcmp : ∀ (x : RV) (σ : CSt) (Q : Out → CSt → Prop), (∀ σ', Grow σ σ' → Q (.ret (.int .i64 (ord x)) false) σ') → W E1 (.fn 52 #[.agg (encR x).toArray, key] none) σ Q)
    (hmono : ∀ j k (hj : j < l.length) (hk : k < l.length), j < k → ord l[k] < 0 → ord l[j] < 0) (Q : Out → CSt → Prop)
    (h : ∀ (k : Nat) (σ' : CSt), Cut ord l k → Grow σ σ' → Q (.ret (.tuple #[.int .i64 k, .bool (decide (∃ h : k < l.length, ord l[k] = 0))]) false) σ') :
    W E1 (.fn 51 #[v, key, .func (.func 52) #[] #[]] none) σ Q := by
  rw [W_fn (fn := Tryz.f51) Tryz.func51 rfl rfl rfl]
  rcases hsl with ⟨rfl, rfl⟩ | ⟨i, off, cap, row, ro, rfl, hg, hin, hrow, hlen, hcap⟩
  · have := h 0 σ ⟨Nat.le_refl _, by simp, by simp⟩ (Grow.refl σ)
    simp [wops_cons]
    rw [W_loop]
    simp [wops_cons, wops_if', dstOf]
    have e : decide (∃ h : 0 < ([] : List RV).length, ord ([] : List RV)[0] = 0) = false := decide_eq_false fun ⟨h, _⟩ => absurd h (by simp)
    rw [e] at this
    exact this
  simp [wops_cons]
  refine W_loop_inv (fun n a σ' => ∃ tm lo hi, a = ⟨tm, 49, [], false⟩ ∧ tm.get 0 = some (.slice (some ⟨i, off, none⟩) l.length cap) ∧ tm.get 1 = some key ∧ tm.get 2 = some (.func (.func 52) #[] #[]) ∧ tm.get 8 = some (.int .i64 l.length) ∧ tm.get 9 = some (.int .i64 lo) ∧ tm.get 10 = some (.int .i64 hi) ∧
      (0 ≤ lo ∧ lo ≤ hi ∧ hi ≤ l.length ∧ n = (hi - lo).toNat ∧ (∀ j (h : j < l.length), (j : Int) < lo → ord l[j] < 0) ∧ (∀ j (h : j < l.length), hi ≤ j → 0 ≤ ord l[j])) ∧ Grow σ σ') ?_ l.length _ _ ?_
  · rintro n a σ' ⟨tm, lo, hi, rfl, h0, h1, h2, h8, h9, h10, ⟨hlo, hlh, hhi, hn, hl, hr⟩, hgr⟩
    have hgi := hgr.get hg hin
    by_cases hlt : lo < hi
    · have hm := mid_eq lo hi hlo hlt (by omega)
      obtain ⟨m, hmm⟩ : ∃ m : Nat, (lo + hi) / 2 = m := ⟨((lo + hi) / 2).toNat, by omega⟩
      have hm1 : m < l.length := by omega
      have hm2 : lo ≤ m ∧ (m : Int) < hi := by omega
      rw [hmm] at hm
      have hld := row_get (enc := encR) (fun _ => rfl) hrow m hm1
      have hle := row_le hlen m hm1
      have hw := i64n1 m (by omega)
      simp [wops_cons, h0, h1, h2, h8, h9, h10, hlt, hm, hm1, hgi, hld, hle, -List.length_flatMap]
      refine hcmp _ _ _ fun σ'' hgr2 => ?_
      by_cases hc : ord l[m] < 0
      · simp [wops_cons, hc, hw]
        refine ⟨_, ?_, h0, h1, h2, h8, hi, h10, ⟨by omega, by omega, hhi, rfl, fun j hjl hj => ?_, hr⟩, hgr.trans hgr2⟩
        · omega
        · by_cases hj' : j = m
          · subst hj'; exact hc
          · exact hmono j m hjl hm1 (by omega) hc
      · simp [wops_cons, hc]
        refine ⟨_, ?_, h0, h1, h2, h8, lo, h9, ⟨hlo, by omega, by omega, rfl, hl, fun j hjl hj => ?_⟩, hgr.trans hgr2⟩
        · omega
        · by_cases hj' : j = m
          · subst hj'; omega
          · have := hmono m j hm1 hjl (by omega)
            omega
    · obtain ⟨k, rfl⟩ := Int.eq_ofNat_of_zero_le hlo
      have hk : hi = k := by omega
      have hcut : Cut ord l k := ⟨by omega, fun j hj h => hl j hj (by omega), fun j hj h => hr j hj (by omega)⟩
      by_cases hkl : k < l.length
      · have hld := row_get (enc := encR) (fun _ => rfl) hrow k hkl
        have hle := row_le hlen k hkl
        simp [wops_cons, wops_if', dstOf, h0, h1, h2, h8, h9, h10, hlt, hkl, hgi, hld, hle, -List.length_flatMap]
        refine hcmp _ _ _ fun σ'' hgr2 => ?_
        have := h k σ'' hcut (hgr.trans hgr2)
        simp [wops_cons, wops_if', dstOf, hkl] at this ⊢
        exact this
      · have := h k σ' hcut hgr
        simp [wops_cons, wops_if', dstOf, h0, h1, h2, h8, h9, h10, hlt, hkl] at this ⊢
        exact this
  · refine ⟨_, 0, l.length, rfl, ?_⟩
    simp
    exact ⟨⟨fun j _ h => by omega, fun j h1 h2 => by omega⟩, Grow.refl σ⟩

/-- A key, by a number. -/
def keyOf (n : Int) : ByteArray := match n.toNat with
  | 0 => ⟨#[97]⟩ | 1 => ⟨#[98]⟩ | 2 => ⟨#[98, 97]⟩ | 3 => ⟨#[98, 98]⟩ | 4 => ⟨#[99]⟩ | 5 => ⟨#[122, 122]⟩ | 6 => ⟨#[]⟩ | _ => ⟨#[255]⟩
theorem key_spec (n : Int) (h0 : 0 ≤ n) (h1 : n < 256) (σ : CSt) (Q : Out → CSt → Prop) (h : ∀ σ', Grow σ σ' → Q (.ret (.string (keyOf (n.tmod 8))) false) σ') : W E1 (.fn 30 #[.int .u8 n] none) σ Q := by
  rw [W_fn (fn := Tryz.f30) Tryz.func30 rfl rfl rfl]
  have h2 : 0 ≤ n.tmod 8 := Int.tmod_nonneg 8 h0
  have h3 : n.tmod 8 < 8 := Int.tmod_lt_of_pos n (by decide)
  obtain ⟨k, hk⟩ : ∃ k : Nat, n.tmod 8 = k := ⟨(n.tmod 8).toNat, by omega⟩
  have h4 : k < 8 := by omega
  rw [hk] at h
  have hg := fun o => h _ ((Grow.refl σ).alloc o)
  match k, hk, h4, hg with
  | 0, hk, _, hg => have := hg (.cells [.string ⟨#[97]⟩, .string ⟨#[98]⟩, .string ⟨#[98, 97]⟩, .string ⟨#[98, 98]⟩, .string ⟨#[99]⟩, .string ⟨#[122, 122]⟩, .string ⟨#[]⟩, .string ⟨#[255]⟩] 9 false); simpa [wops_cons, hk, keyOf] using this
  | 1, hk, _, hg => have := hg (.cells [.string ⟨#[97]⟩, .string ⟨#[98]⟩, .string ⟨#[98, 97]⟩, .string ⟨#[98, 98]⟩, .string ⟨#[99]⟩, .string ⟨#[122, 122]⟩, .string ⟨#[]⟩, .string ⟨#[255]⟩] 9 false); simpa [wops_cons, hk, keyOf] using this
  | 2, hk, _, hg => have := hg (.cells [.string ⟨#[97]⟩, .string ⟨#[98]⟩, .string ⟨#[98, 97]⟩, .string ⟨#[98, 98]⟩, .string ⟨#[99]⟩, .string ⟨#[122, 122]⟩, .string ⟨#[]⟩, .string ⟨#[255]⟩] 9 false); simpa [wops_cons, hk, keyOf] using this
  | 3, hk, _, hg => have := hg (.cells [.string ⟨#[97]⟩, .string ⟨#[98]⟩, .string ⟨#[98, 97]⟩, .string ⟨#[98, 98]⟩, .string ⟨#[99]⟩, .string ⟨#[122, 122]⟩, .string ⟨#[]⟩, .string ⟨#[255]⟩] 9 false); simpa [wops_cons, hk, keyOf] using this
  | 4, hk, _, hg => have := hg (.cells [.string ⟨#[97]⟩, .string ⟨#[98]⟩, .string ⟨#[98, 97]⟩, .string ⟨#[98, 98]⟩, .string ⟨#[99]⟩, .string ⟨#[122, 122]⟩, .string ⟨#[]⟩, .string ⟨#[255]⟩] 9 false); simpa [wops_cons, hk, keyOf] using this
  | 5, hk, _, hg => have := hg (.cells [.string ⟨#[97]⟩, .string ⟨#[98]⟩, .string ⟨#[98, 97]⟩, .string ⟨#[98, 98]⟩, .string ⟨#[99]⟩, .string ⟨#[122, 122]⟩, .string ⟨#[]⟩, .string ⟨#[255]⟩] 9 false); simpa [wops_cons, hk, keyOf] using this
  | 6, hk, _, hg => have := hg (.cells [.string ⟨#[97]⟩, .string ⟨#[98]⟩, .string ⟨#[98, 97]⟩, .string ⟨#[98, 98]⟩, .string ⟨#[99]⟩, .string ⟨#[122, 122]⟩, .string ⟨#[]⟩, .string ⟨#[255]⟩] 9 false); simpa [wops_cons, hk, keyOf] using this
  | 7, hk, _, hg => have := hg (.cells [.string ⟨#[97]⟩, .string ⟨#[98]⟩, .string ⟨#[98, 97]⟩, .string ⟨#[98, 98]⟩, .string ⟨#[99]⟩, .string ⟨#[122, 122]⟩, .string ⟨#[]⟩, .string ⟨#[255]⟩] 9 false); simpa [wops_cons, hk, keyOf] using this
end Go.Sm
/- Stores as lists: plain facts. -/
set_option linter.unusedSimpArgs false
namespace Go.Sm
theorem klt_irrefl (k : ByteArray) : klt k k = false := bl_irrefl _
theorem klt_trans {a b c : ByteArray} (h : klt a b = true) (h' : klt b c = true) : klt a c = true := bl_trans h h'
theorem klt_tri {a b : ByteArray} (h : klt a b = false) (h' : klt b a = false) : a = b := ba_list_inj (bl_tri h h')
/-- A store as a list: the keys, and their chains. -/
abbrev Stl := List (ByteArray × List Ver)
def KS (S : Stl) : Prop := S.Pairwise fun a c => klt a.1 c.1 = true
/-- Where a key stands, or would. -/
structure Pos (S : Stl) (k : ByteArray) (n : Nat) : Prop where
  le : n ≤ S.length
  lo : ∀ j (h : j < S.length), j < n → klt S[j].1 k = true
  hi : ∀ j (h : j < S.length), n ≤ j → klt S[j].1 k = false
def putAt (S : Stl) (k : ByteArray) (x : Ver) (n : Nat) : Stl :=
  match S[n]? with
  | some s => if s.1 = k then S.set n (k, putL s.2 x) else S.take n ++ (k, putL [] x) :: S.drop n
  | none => S.take n ++ (k, putL [] x) :: S.drop n
def getS (S : Stl) (k : ByteArray) : Option (List Ver) := (S.find? fun s => decide (s.1 = k)).map (·.2)
end Go.Sm
/- Stores: a row more; the store itself. -/
set_option linter.unusedVariables false
set_option linter.unusedSimpArgs false
namespace Go.Sm
open Go Go.Proofs
set_option maxRecDepth 100000
set_option maxHeartbeats 1000000
theorem ins_own_95 (b : Nat) (l : List RV) (x : RV) (a : Nat) (ha : a ≤ l.length) (v : Value) (σ : CSt) (hb : b ≤ σ.n) (hown : Own b σ 95 encR v l) (j : Nat) (hj : σ.get j = some (.cells (encR x) 95 false))
    (hji : ∀ i off n c, v = .slice (some ⟨i, off, none⟩) n c → i ≠ j) (hbig : l.length < 2 ^ 40) (Q : Out → CSt → Prop)
    (h : ∀ (v' : Value) (σ' : CSt), Own b σ' 95 encR v' (l.take a ++ x :: l.drop a) → Fr (fun t => t = 95) b σ σ' → Q (.ret v' false) σ') :
    W E1 (.fn 58 #[v, .int .i64 a, .slice (some ⟨j, 0, none⟩) 1 1] none) σ Q := by
  have hxl : (encR x).length = 2 := rfl
  rcases hown with ⟨rfl, rfl⟩ | ⟨i, cap, rfl, hbi, hin, hg, hcap⟩
  · have ha0 : a = 0 := by simpa using ha
    subst ha0
    rw [Int.natCast_zero, W_gam (E := E1) (f := 58) (g := insG 95 2 40) rfl rfl (v := .slice (some ⟨σ.n, 0, none⟩) 1 openCap) (σ' := σ.alloc (.cells (encR x) 95 false)) (insG_nil hj rfl rfl (by omega))]
    exact h _ _ (.inr ⟨σ.n, openCap, rfl, hb, by simp, by simp, .inl rfl⟩) ((Fr.refl (fun t => t = 95) b σ).alloc _)
  · have hij := hji i 0 _ _ rfl
    have hrl : (l.flatMap encR).length = l.length * 2 := enc_length encR (fun _ => rfl) l
    have hck : cokL (l.flatMap encR) = true := cokL_enc (fun _ => rfl) l
    rcases hcap with rfl | ⟨rfl, rfl⟩
    · have he := insRow_enc (enc := encR) (l := l) (sz := 2) (fun _ => rfl) a ha x
      rw [W_gam (E := E1) (f := 58) (g := insG 95 2 40) rfl rfl (v := .slice (some ⟨σ.n, 0, none⟩) (l.length + 1) openCap) (σ' := (σ.put i .dead).alloc (.cells ((l.take a ++ x :: l.drop a).flatMap encR) 95 false)) (by
        rw [insG_some (sz := 2) hg hj rfl rfl (by omega) (by omega) hij (by omega) (cokL_take hck _) (by omega) (by omega) hbig, if_pos rfl, ← he]
        rfl)]
      refine h _ _ (.inr ⟨σ.n, openCap, ?_, hb, by simp, by simp, .inl rfl⟩) (((Fr.refl (fun t => t = 95) b σ).put hbi hg rfl _).alloc _)
      have : (l.take a ++ x :: l.drop a).length = l.length + 1 := by simp; omega
      rw [this]
    · have ha0 : a = 0 := by simpa using ha
      subst ha0
      rw [Int.natCast_zero, W_gam (E := E1) (f := 58) (g := insG 95 2 40) rfl rfl (v := .slice (some ⟨σ.n, 0, none⟩) 1 openCap) (σ' := σ.alloc (.cells (encR x) 95 false)) (by
        have hg' : σ.get i = some (.cells [] 95 false) := hg
        exact (insG_some (sz := 2) (n := 0) hg' hj rfl rfl (by omega) (by omega) hij (by simp) (by simp) (by omega) (by omega) (by omega)).trans ((if_neg (by simp [openCap])).trans (if_pos ⟨rfl, rfl⟩)))]
      exact h _ _ (.inr ⟨σ.n, openCap, rfl, hb, by simp, by simp, .inl rfl⟩) ((Fr.refl (fun t => t = 95) b σ).alloc _)

def Rws (σ : CSt) (R : List RV) (S : Stl) : Prop := R.length = S.length ∧ ∀ j (h : j < R.length) (h' : j < S.length), R[j].key = S[j].1 ∧ Sl σ 29 3 encV (.slice R[j].p R[j].n R[j].c) S[j].2
theorem Rws.fr {T : TypeId → Prop} {b : Nat} {σ σ' : CSt} {R : List RV} {S : Stl} (h : Rws σ R S) (ht : ¬ T 29) (hg : Fr T b σ σ') : Rws σ' R S := ⟨h.1, fun j h1 h2 => ⟨(h.2 j h1 h2).1, (h.2 j h1 h2).2.fr ht hg⟩⟩
theorem Rws.grow {σ σ' : CSt} {R : List RV} {S : Stl} (h : Rws σ R S) (hg : Grow σ σ') : Rws σ' R S := ⟨h.1, fun j h1 h2 => ⟨(h.2 j h1 h2).1, (h.2 j h1 h2).2.grow hg⟩⟩
theorem Rws.ins {σ : CSt} {R : List RV} {S : Stl} (h : Rws σ R S) (a : Nat) (ha : a ≤ R.length) (r : RV) (s : ByteArray × List Ver) (hr : r.key = s.1) (hs : Sl σ 29 3 encV (.slice r.p r.n r.c) s.2) : Rws σ (R.take a ++ r :: R.drop a) (S.take a ++ s :: S.drop a) := by
  have hl := h.1
  refine ⟨by simp; omega, fun j h1 h2 => ?_⟩
  rcases Nat.lt_trichotomy j a with hj | hj | hj
  · have e1 : (R.take a ++ r :: R.drop a)[j] = R[j] := by rw [List.getElem_append_left (by simp; omega), List.getElem_take]
    have e2 : (S.take a ++ s :: S.drop a)[j] = S[j] := by rw [List.getElem_append_left (by simp; omega), List.getElem_take]
    rw [e1, e2]; exact h.2 j _ _
  · subst hj
    have e1 : (R.take j ++ r :: R.drop j)[j] = r := by rw [List.getElem_append_right (by simp; omega)]; simp [Nat.min_eq_left ha]
    have e2 : (S.take j ++ s :: S.drop j)[j] = s := by rw [List.getElem_append_right (by simp; omega)]; simp [Nat.min_eq_left (hl ▸ ha)]
    rw [e1, e2]; exact ⟨hr, hs⟩
  · obtain ⟨k, rfl⟩ : ∃ k, j = a + 1 + k := ⟨j - (a + 1), by omega⟩
    have hk : a + k < R.length := by simp at h1; omega
    have e1 : (R.take a ++ r :: R.drop a)[a + 1 + k] = R[a + k] := by
      rw [List.getElem_append_right (by simp; omega)]
      have : a + 1 + k - (R.take a).length = k + 1 := by simp; omega
      simp only [this, List.getElem_cons_succ, List.getElem_drop]
    have e2 : (S.take a ++ s :: S.drop a)[a + 1 + k] = S[a + k] := by
      rw [List.getElem_append_right (by simp; omega)]
      have : a + 1 + k - (S.take a).length = k + 1 := by simp; omega
      simp only [this, List.getElem_cons_succ, List.getElem_drop]
    rw [e1, e2]; exact h.2 (a + k) _ _
theorem Rws.set {σ : CSt} {R : List RV} {S : Stl} (h : Rws σ R S) (a : Nat) (r : RV) (s : ByteArray × List Ver) (hr : r.key = s.1) (hs : Sl σ 29 3 encV (.slice r.p r.n r.c) s.2) : Rws σ (R.set a r) (S.set a s) := by
  have hl := h.1
  refine ⟨by simp; omega, fun j h1 h2 => ?_⟩
  by_cases e : a = j
  · subst e; simp; exact ⟨hr, hs⟩
  · rw [List.getElem_set_ne e, List.getElem_set_ne e]; exact h.2 j _ _
/-- A store that was made behind a point. -/
def St (b : Nat) (σ : CSt) (i : Nat) (S : Stl) : Prop := ∃ vr R, b ≤ i ∧ i < σ.n ∧ σ.get i = some (.cells [vr] 97 false) ∧ Own b σ 95 encR vr R ∧ Rws σ R S
def stT (t : TypeId) : Prop := t = 95 ∨ t = 97
theorem St.grow {b : Nat} {σ σ' : CSt} {i : Nat} {S : Stl} (h : St b σ i S) (hg : Grow σ σ') : St b σ' i S := by
  obtain ⟨vr, R, h1, h2, h3, h4, h5⟩ := h
  exact ⟨vr, R, h1, Nat.lt_of_lt_of_le h2 hg.n, hg.get h3 h2, h4.grow hg, h5.grow hg⟩
theorem new_spec (σ : CSt) (Q : Out → CSt → Prop) (h : ∀ σ', St σ.n σ' σ.n [] → Grow σ σ' → Q (.ret (.pointer (some ⟨σ.n, 0, none⟩)) false) σ') : W E1 (.fn 50 #[] none) σ Q := by
  rw [W_fn (fn := Tryz.f50) Tryz.func50 rfl rfl rfl]
  have := h (σ.alloc (.cells [.slice none 0 0] 97 false)) ⟨.slice none 0 0, [], Nat.le_refl _, by simp, by simp, Own.nil, rfl, fun j h => by simp at h⟩ ((Grow.refl σ).alloc _)
  simpa [wops_cons] using this
theorem find_store (S : Stl) (hk : KS S) (R : List RV) (v : Value) (k : ByteArray) (σ : CSt) (hr : Rws σ R S) (hsl : Sl σ 95 2 encR v R) (hbig : S.length < 2 ^ 40) (Q : Out → CSt → Prop)
    (h : ∀ (n : Nat) (σ' : CSt), Pos S k n → Grow σ σ' → Q (.ret (.tuple #[.int .i64 n, .bool (decide (∃ h : n < S.length, S[n].1 = k))]) false) σ') :
    W E1 (.fn 51 #[v, .string k, .func (.func 52) #[] #[]] none) σ Q := by
  have hl := hr.1
  have hlt : ∀ r : RV, ordR k r < 0 ↔ klt r.key k = true := by
    intro r
    unfold ordR
    cases h1 : klt r.key k
    · by_cases h2 : r.key = k <;> simp [h2]
    · simp
  have hz : ∀ r : RV, ordR k r = 0 ↔ r.key = k := by
    intro r
    unfold ordR
    cases h1 : klt r.key k
    · by_cases h2 : r.key = k <;> simp [h2]
    · simp
      intro e
      rw [e, klt_irrefl] at h1
      cases h1
  refine search_95 R v _ rfl (ordR k) σ hsl (by omega) (fun x σ Q h => orderR_spec k x σ Q h) (fun j m hj hm hjm ho => ?_) Q fun n σ' hc hg => ?_
  · rw [hlt] at ho ⊢
    have h1 := (hr.2 j hj (by omega)).1
    have h2 := (hr.2 m hm (by omega)).1
    have h3 := List.pairwise_iff_getElem.1 hk j m (by omega) (by omega) hjm
    rw [h2] at ho
    rw [h1]
    exact klt_trans h3 ho
  · have hp : Pos S k n := by
      refine ⟨by have := hc.le; omega, fun j hj hjn => ?_, fun j hj hjn => ?_⟩
      · have := hc.lo j (by omega) hjn
        rw [hlt, (hr.2 j (by omega) hj).1] at this
        exact this
      · have := hc.hi j (by omega) hjn
        cases h1 : klt S[j].1 k
        · rfl
        · have h2 := (hlt R[j]).2 (by rw [(hr.2 j (by omega) hj).1]; exact h1)
          omega
    have := h n σ' hp hg
    have e : (∃ h : n < R.length, ordR k R[n] = 0) ↔ ∃ h : n < S.length, S[n].1 = k :=
      ⟨fun ⟨h1, h2⟩ => ⟨by omega, by rw [← (hr.2 n h1 (by omega)).1]; exact (hz _).1 h2⟩, fun ⟨h1, h2⟩ => ⟨by omega, (hz _).2 (by rw [(hr.2 n (by omega) h1).1]; exact h2)⟩⟩
    rw [decide_eq_decide.2 e]
    exact this
end Go.Sm
/- Stores: Put. -/
set_option linter.unusedVariables false
set_option linter.unusedSimpArgs false
namespace Go.Sm
open Go Go.Proofs
set_option maxRecDepth 100000
set_option maxHeartbeats 4000000
theorem encR_set1 (R : List RV) (n : Nat) (h : n < R.length) (p : Option Addr) (m c : Nat) : (R.flatMap encR).take (n * 2 + 1) ++ .slice p m c :: (R.flatMap encR).drop (n * 2 + 1 + 1) = (R.set n ⟨R[n].key, p, m, c⟩).flatMap encR := by
  have h1 := enc_set encR (n := 2) lenR R n ⟨R[n].key, p, m, c⟩ h
  rw [← h1]
  have hl : (R.flatMap encR).length = R.length * 2 := enc_length encR lenR R
  have h2 : n * 2 < (R.flatMap encR).length := by omega
  have hrow : ((R.flatMap encR).drop 0).take (R.length * 2) = R.flatMap encR := by rw [List.drop_zero, List.take_of_length_le (by omega)]
  have h3 := row_cell (enc := encR) lenR hrow n 0 h (by omega)
  rw [Nat.zero_add, Nat.add_zero, List.getElem?_eq_getElem h2] at h3
  have h4 : (R.flatMap encR)[n * 2] = .string R[n].key := by simpa [encR] using h3
  rw [List.take_succ_eq_append_getElem h2, h4]
  simp [encR]
theorem hbits : ∀ j, j < 17 → Nat.testBit 131071 j = true := by decide
theorem put_store (b : Nat) (i : Nat) (S : Stl) (hk : KS S) (hc : ∀ s ∈ S, Srt s.2) (hcl : ∀ s ∈ S, s.2.length < 2 ^ 38) (k : ByteArray) (x : Ver) (σ : CSt) (hb : b ≤ σ.n) (hst : St b σ i S) (hbig : S.length < 2 ^ 38) (Q : Out → CSt → Prop)
    (h : ∀ (n : Nat) (σ' : CSt), Pos S k n → St b σ' i (putAt S k x n) → Fr stT b σ σ' → Q (.ret (.tuple #[]) false) σ') :
    W E1 (.fn 35 #[.pointer (some ⟨i, 0, none⟩), .string k, .agg (encV x).toArray] none) σ Q := by
  obtain ⟨vr, R, hbi, hin, hg, hown, hrw⟩ := hst
  rw [W_fn (fn := Tryz.f35) Tryz.func35 rfl rfl rfl]
  have hni : ¬ i = σ.n := by omega
  have hga : Grow σ (σ.alloc (.cells (encV x) 29 false)) := (Grow.refl σ).alloc _
  obtain ⟨pr, cr, rfl⟩ := (hown.sl (sz := 2) lenR).form
  have hl := hrw.1
  simp [wops_cons, encV, hg, hni]
  simp only [encV] at hga
  refine find_store S hk R _ k _ (hrw.grow hga) ((hown.grow hga).sl lenR) (by omega) _ fun n σ1 hp g1 => ?_
  have hg1 := hga.trans g1
  have hgi := hg1.get hg hin
  have hcell : σ1.get σ.n = some (.cells [.int .u64 x.at_, .string x.val, .bool x.gone] 29 false) := g1.get (by simp) (by simp)
  have hn1 : σ.n < σ1.n := by have := g1.n; simp at this; omega
  have hown1 := hown.grow hg1
  have hrw1 := hrw.grow hg1
  by_cases hfo : ∃ h : n < S.length, S[n].1 = k
  · obtain ⟨hnS, hkey⟩ := hfo
    rw [decide_eq_true ⟨hnS, hkey⟩]
    have hput : putAt S k x n = S.set n (k, putL S[n].2 x) := by
      unfold putAt
      rw [List.getElem?_eq_getElem hnS]
      simp only [hkey, if_true]
    have hnR : n < R.length := by omega
    obtain ⟨hkeyR, hslR⟩ := hrw1.2 n hnR hnS
    rcases hown1 with ⟨h1, h2⟩ | ⟨o, cap, h1, hbo, hon, hgo, hcap⟩
    · rw [h2] at hnR; simp at hnR
    · cases h1
      have hrl : (R.flatMap encR).length = R.length * 2 := enc_length encR lenR R
      have hrow : ((R.flatMap encR).drop 0).take (R.length * 2) = R.flatMap encR := by rw [List.drop_zero, List.take_of_length_le (by omega)]
      have hcel := row_cell (enc := encR) lenR hrow n 1 hnR (by omega)
      rw [Nat.zero_add] at hcel
      have hcel2 : (R.flatMap encR)[n * 2 + 1]? = some (.slice R[n].p R[n].n R[n].c) := hcel
      have hle2 : n * 2 + 1 + 1 ≤ R.length * 2 := by omega
      simp [wops_cons, hgi, hcell]
      refine W_drawn (l := [0, 1, 2, 3, 4, 5, 6, 7, 8, 9, 10, 11, 12, 13, 14, 15, 16, 17]) (b := #[0, 1, 3, 7, 0, 0, 32, 96, 224, 0, 992, 2016, 4064, 0, 16352, 32767, 65535, 131071]) (by kernel_rfl) (by kernel_rfl) (by kernel_rfl) ?_
      simp [dopsR_cons, opAt, isEff, again, befBits, isRead, Nat.add_assoc, hgi, hcell, hgo, hnR, hcel2, hrl, -List.length_flatMap]
      have hsrt := hc _ (List.getElem_mem hnS)
      have hlen := hcl _ (List.getElem_mem hnS)
      have hps := fun Q => put_spec S[n].2 hsrt (.slice R[n].p R[n].n R[n].c) x σ1 hslR (by omega) Q
      simp only [encV] at hps
      refine hps _ fun v2 σ2 h2 g2 => ?_
      obtain ⟨p2, c2, rfl⟩ := (h2.sl (sz := 3) (fun _ => rfl)).form
      have hgi2 := g2.get hgi (Nat.lt_of_lt_of_le hin hg1.n)
      have hgo2 := g2.get hgo hon
      have hcell2 := g2.get hcell hn1
      simp [dopsR_cons, opAt, isEff, again, befBits, isRead, Nat.add_assoc, hgi2, hgo2, hcell2, hnR, hcel2, hrl, hle2, hbits, -List.length_flatMap]
      have hset := encR_set1 R n hnR p2 (putL S[n].2 x).length c2
      rw [hset]
      have hR2 := (hrw1.grow g2).set n ⟨R[n].key, p2, (putL S[n].2 x).length, c2⟩ (k, putL S[n].2 x) (by rw [hkeyR, hkey]) (h2.sl (fun _ => rfl))
      have hoi : ¬ i = o := by
        intro e
        subst e
        rw [hgi] at hgo
        have h1 := Option.some.inj hgo
        injection h1 with _ h2
        exact absurd h2 (by decide)
      have hF : Fr stT b σ (σ2.put o (.cells ((R.set n ⟨R[n].key, p2, (putL S[n].2 x).length, c2⟩).flatMap encR) 95 false)) := ((hg1.trans g2).fr (T := stT)).put hbo hgo2 (.inl rfl) _
      refine h n _ hp ?_ hF
      rw [hput]
      have hon2 := Nat.lt_of_lt_of_le hon g2.n
      have hin2 := Nat.lt_of_lt_of_le (Nat.lt_of_lt_of_le hin hg1.n) g2.n
      have hfr : Fr (fun t => t = 95) 0 σ2 (σ2.put o (.cells ((R.set n ⟨R[n].key, p2, (putL S[n].2 x).length, c2⟩).flatMap encR) 95 false)) := (Fr.refl (fun t => t = 95) 0 σ2).put (Nat.zero_le _) hgo2 rfl _
      refine ⟨_, R.set n ⟨R[n].key, p2, (putL S[n].2 x).length, c2⟩, hbi, by simpa using hin2, by rw [CSt.get_put, if_neg hoi]; exact hgi2, .inr ⟨o, cr, by simp, hbo, by simpa using hon2, by simp, ?_⟩, hR2.fr (by decide) hfr⟩
      rcases hcap with h | ⟨h, _⟩
      · exact .inl h
      · rw [h] at hnR; simp at hnR
  · have hput : putAt S k x n = S.take n ++ (k, putL [] x) :: S.drop n := by
      unfold putAt
      cases hn : S[n]? with
      | none => rfl
      | some s =>
        have hs : ¬ s.1 = k := fun e => hfo (by
          obtain ⟨h1, h2⟩ := List.getElem?_eq_some_iff.1 hn
          exact ⟨h1, by rw [h2]; exact e⟩)
        simp only [hs, if_false]
    rw [decide_eq_false hfo]
    have hnR : n ≤ R.length := by have := hp.le; omega
    have hg2a : Grow σ1 (σ1.alloc (.cells (encR ⟨k, none, 0, 0⟩) 95 false)) := (Grow.refl σ1).alloc _
    have hji : ∀ o off m c, Value.slice pr R.length cr = .slice (some ⟨o, off, none⟩) m c → o ≠ σ1.n := by
      rintro o off m c e
      rcases hown1 with ⟨h0, _⟩ | ⟨i', cap, h0, _, h1, _⟩
      · rw [h0] at e; cases e
      · rw [h0] at e; cases e; omega
    have hins := fun Q => ins_own_95 b R ⟨k, none, 0, 0⟩ n hnR (.slice pr R.length cr) _ (by have := hg1.n; simp; omega) (hown1.grow hg2a) σ1.n (by simp) hji (by omega) Q
    simp only [encR] at hins hg2a
    simp [wops_cons, hgi, hcell]
    refine hins _ fun v2 σ2 h2 g2 => ?_
    have hin1 := Nat.lt_of_lt_of_le hin hg1.n
    have hgi2 : σ2.get i = some (.cells [.slice pr R.length cr] 97 false) := g2.get (hg2a.get hgi hin1) (by simp; omega) (.inr fun row e ro he => by injection he with _ h2 _; rw [← h2]; decide)
    have hcell2 : σ2.get σ.n = some (.cells [.int .u64 x.at_, .string x.val, .bool x.gone] 29 false) := g2.get (hg2a.get hcell hn1) (by simp; omega) (.inr fun row e ro he => by injection he with _ h2 _; rw [← h2]; decide)
    have hRl : (R.take n ++ (⟨k, none, 0, 0⟩ : RV) :: R.drop n).length = R.length + 1 := by simp; omega
    have hRn : (R.take n ++ (⟨k, none, 0, 0⟩ : RV) :: R.drop n)[n]? = some ⟨k, none, 0, 0⟩ := by
      rw [List.getElem?_append_right (by simp; omega)]
      simp [Nat.min_eq_left hnR]
    have hrw2 := (((hrw1.grow hg2a).fr (T := fun t => t = 95) (by decide) g2)).ins n hnR ⟨k, none, 0, 0⟩ (k, []) rfl Sl.nil
    have hSset : (S.take n ++ ((k, []) : ByteArray × List Ver) :: S.drop n).set n (k, putL [] x) = S.take n ++ (k, putL [] x) :: S.drop n := by
      have h0 : n = (S.take n).length + 0 := by rw [List.length_take, Nat.min_eq_left hp.le, Nat.add_zero]
      conv => lhs; arg 2; rw [h0]
      rw [List.set_append_right _ _ (by omega)]
      simp
    generalize hR' : (R.take n ++ (⟨k, none, 0, 0⟩ : RV) :: R.drop n) = R' at h2 hRl hRn hrw2
    obtain ⟨hnR', hRn'⟩ := List.getElem?_eq_some_iff.1 hRn
    have hslR : Sl σ2 29 3 encV (.slice none 0 0) ([] : List Ver) := Sl.nil
    rcases h2 with ⟨h1, h2⟩ | ⟨o, cap, h1, hbo, hon, hgo, hcap⟩
    · rw [h2] at hnR'; simp at hnR'
    · subst h1
      have hrl : (R'.flatMap encR).length = R'.length * 2 := enc_length encR lenR R'
      have hrow : ((R'.flatMap encR).drop 0).take (R'.length * 2) = R'.flatMap encR := by rw [List.drop_zero, List.take_of_length_le (by omega)]
      have hcel := row_cell (enc := encR) lenR hrow n 1 hnR' (by omega)
      rw [Nat.zero_add, hRn'] at hcel
      have hcel2 : (R'.flatMap encR)[n * 2 + 1]? = some (.slice none 0 0) := hcel
      have hle2 : n * 2 + 1 + 1 ≤ R'.length * 2 := by omega
      have hoi : ¬ i = o := by
        intro e
        subst e
        rw [hgi2] at hgo
        have h1 := Option.some.inj hgo
        injection h1 with _ h2
        exact absurd h2 (by decide)
      have hni2 : ¬ σ.n = i := by omega
      have hoi2 : ¬ o = i := fun e => hoi e.symm
      have hin2 : i < σ2.n := by have := g2.1; simp at this; omega
      simp [wops_cons, hgi2, hcell2]
      refine W_drawn (l := [0, 1, 2, 3, 4, 5, 6, 7, 8, 9, 10, 11, 12, 13, 14, 15, 16, 17]) (b := #[0, 1, 3, 7, 0, 0, 32, 96, 224, 0, 992, 2016, 4064, 0, 16352, 32767, 65535, 131071]) (by kernel_rfl) (by kernel_rfl) (by kernel_rfl) ?_
      simp [dopsR_cons, opAt, isEff, again, befBits, isRead, Nat.add_assoc, hgi2, hcell2, hgo, hnR', hcel2, hrl, hoi, hoi2, hni2, -List.length_flatMap]
      have hgp : (σ2.put i (.cells [.slice (some ⟨o, 0, none⟩) R'.length cap] 97 false)).get o = some (.cells (R'.flatMap encR) 95 false) := by rw [CSt.get_put, if_neg hoi2]; exact hgo
      have hgip : (σ2.put i (.cells [.slice (some ⟨o, 0, none⟩) R'.length cap] 97 false)).get i = some (.cells [.slice (some ⟨o, 0, none⟩) R'.length cap] 97 false) := by rw [CSt.get_put, if_pos rfl]
      have hcep : (σ2.put i (.cells [.slice (some ⟨o, 0, none⟩) R'.length cap] 97 false)).get σ.n = some (.cells [.int .u64 x.at_, .string x.val, .bool x.gone] 29 false) := by rw [CSt.get_put, if_neg hni2]; exact hcell2
      have hFi : Fr (fun t => t = 97) 0 σ2 (σ2.put i (.cells [.slice (some ⟨o, 0, none⟩) R'.length cap] 97 false)) := (Fr.refl (fun t => t = 97) 0 σ2).put (Nat.zero_le _) hgi2 rfl _
      have hF3 : Fr stT b σ (σ2.put i (.cells [.slice (some ⟨o, 0, none⟩) R'.length cap] 97 false)) := ((((hg1.trans hg2a).fr (T := stT) (b := b)).trans (g2.mono (fun e he => .inl he) (Nat.le_refl _)))).put hbi hgi2 (.inr rfl) _
      have hrw3 := hrw2.fr (T := fun t => t = 97) (by decide) hFi
      have hn3 : (σ2.put i (.cells [.slice (some ⟨o, 0, none⟩) R'.length cap] 97 false)).n = σ2.n := rfl
      have hns2 : σ.n < σ2.n := by have := g2.1; simp at this; omega
      generalize hσ3 : σ2.put i (.cells [.slice (some ⟨o, 0, none⟩) R'.length cap] 97 false) = σ3 at hgp hgip hcep hF3 hrw3 hn3 ⊢
      have hps := fun Q => put_spec [] List.Pairwise.nil (.slice none 0 0) x σ3 Sl.nil (by simp) Q
      simp only [encV] at hps
      refine hps _ fun v4 σ4 h4 g4 => ?_
      obtain ⟨p4, c4, rfl⟩ := (h4.sl (sz := 3) (fun _ => rfl)).form
      have hgi4 := g4.get hgip (by omega)
      have hgo4 := g4.get hgp (by omega)
      have hcell4 := g4.get hcep (by omega)
      simp [dopsR_cons, opAt, isEff, again, befBits, isRead, Nat.add_assoc, hgi4, hgo4, hcell4, hnR', hcel2, hrl, hle2, hbits, -List.length_flatMap]
      have hset := encR_set1 R' n hnR' p4 (putL [] x).length c4
      rw [hRn'] at hset
      rw [hset]
      have hR4 := (hrw3.grow g4).set n ⟨k, p4, (putL [] x).length, c4⟩ (k, putL [] x) rfl (h4.sl (fun _ => rfl))
      rw [hSset, ← hput] at hR4
      have hF : Fr stT b σ (σ4.put o (.cells ((R'.set n ⟨k, p4, (putL [] x).length, c4⟩).flatMap encR) 95 false)) := (hF3.trans g4.fr).put hbo hgo4 (.inl rfl) _
      refine h n _ hp ?_ hF
      have hn4 := g4.n
      have hfr : Fr (fun t => t = 95) 0 σ4 (σ4.put o (.cells ((R'.set n ⟨k, p4, (putL [] x).length, c4⟩).flatMap encR) 95 false)) := (Fr.refl (fun t => t = 95) 0 σ4).put (Nat.zero_le _) hgo4 rfl _
      refine ⟨_, R'.set n ⟨k, p4, (putL [] x).length, c4⟩, hbi, by simp; omega, by rw [CSt.get_put, if_neg hoi]; exact hgi4, .inr ⟨o, cap, by simp, hbo, by simp; omega, by simp, ?_⟩, hR4.fr (by decide) hfr⟩
      rcases hcap with h | ⟨h, _⟩
      · exact .inl h
      · rw [h] at hnR'; simp at hnR'
end Go.Sm
/- Stores: At, All. -/
set_option linter.unusedVariables false
set_option linter.unusedSimpArgs false
namespace Go.Sm
open Go Go.Proofs
set_option maxRecDepth 100000
set_option maxHeartbeats 4000000
def atS (S : Stl) (k : ByteArray) (n : Nat) (t : Int) : Option Ver := match S[n]? with
  | some s => if s.1 = k then atL s.2 t else none
  | none => none
theorem at_store (b : Nat) (i : Nat) (S : Stl) (hk : KS S) (hc : ∀ s ∈ S, Srt s.2) (hcl : ∀ s ∈ S, s.2.length < 2 ^ 38) (k : ByteArray) (t : Int) (σ : CSt) (hst : St b σ i S) (hbig : S.length < 2 ^ 38) (Q : Out → CSt → Prop)
    (h : ∀ (n : Nat) (σ' : CSt), Pos S k n → Grow σ σ' → Q (.ret (retV2 (atS S k n t)) false) σ') :
    W E1 (.fn 29 #[.pointer (some ⟨i, 0, none⟩), .string k, .int .u64 t] none) σ Q := by
  obtain ⟨vr, R, hbi, hin, hg, hown, hrw⟩ := hst
  rw [W_fn (fn := Tryz.f29) Tryz.func29 rfl rfl rfl]
  have hni : ¬ i = σ.n := by omega
  have hga : Grow σ (σ.alloc (.cells [.int .u64 0, .string ⟨#[]⟩, .bool false] 29 false)) := (Grow.refl σ).alloc _
  obtain ⟨pr, cr, rfl⟩ := (hown.sl (sz := 2) lenR).form
  have hl := hrw.1
  simp [wops_cons, hg, hni]
  refine find_store S hk R _ k _ (hrw.grow hga) ((hown.grow hga).sl lenR) (by omega) _ fun n σ1 hp g1 => ?_
  have hg1 := hga.trans g1
  have hgi := hg1.get hg hin
  have hcell : σ1.get σ.n = some (.cells [.int .u64 0, .string ⟨#[]⟩, .bool false] 29 false) := g1.get (by simp) (by simp)
  have hn1 : σ.n < σ1.n := by have := g1.n; simp at this; omega
  have hown1 := hown.grow hg1
  have hrw1 := hrw.grow hg1
  by_cases hfo : ∃ h : n < S.length, S[n].1 = k
  · obtain ⟨hnS, hkey⟩ := hfo
    rw [decide_eq_true ⟨hnS, hkey⟩]
    have hat : atS S k n t = atL S[n].2 t := by
      unfold atS
      rw [List.getElem?_eq_getElem hnS]
      simp only [hkey, if_true]
    have hnR : n < R.length := by omega
    obtain ⟨hkeyR, hslR⟩ := hrw1.2 n hnR hnS
    rcases hown1 with ⟨h1, h2⟩ | ⟨o, cap, h1, hbo, hon, hgo, hcap⟩
    · rw [h2] at hnR; simp at hnR
    · cases h1
      have hrl : (R.flatMap encR).length = R.length * 2 := enc_length encR lenR R
      have hrow : ((R.flatMap encR).drop 0).take (R.length * 2) = R.flatMap encR := by rw [List.drop_zero, List.take_of_length_le (by omega)]
      have hcel := row_cell (enc := encR) lenR hrow n 1 hnR (by omega)
      rw [Nat.zero_add] at hcel
      have hcel2 : (R.flatMap encR)[n * 2 + 1]? = some (.slice R[n].p R[n].n R[n].c) := hcel
      simp [wops_cons, hgi, hcell, hgo, hnR, hcel2, hrl, -List.length_flatMap]
      refine at_spec S[n].2 (hc _ (List.getElem_mem hnS)) _ t σ1 hslR (by have := hcl _ (List.getElem_mem hnS); omega) _ fun σ2 g2 => ?_
      have hcell2 := g2.get hcell hn1
      have fin := fun o => h n _ hp ((hg1.trans g2).put (i := σ.n) (Nat.le_refl _) o)
      rw [hat, retV2_eq] at fin
      rw [retV2_eq]
      generalize (atL S[n].2 t).getD zeroV = w at fin ⊢
      have fin1 := fin (.cells (encV w) 29 false)
      simp only [encV] at fin1
      simpa [wops_cons, encV, hcell2] using fin1
  · rw [decide_eq_false hfo]
    have hat : atS S k n t = none := by
      unfold atS
      cases hn : S[n]? with
      | none => rfl
      | some s =>
        have hs : ¬ s.1 = k := fun e => hfo (by
          obtain ⟨h1, h2⟩ := List.getElem?_eq_some_iff.1 hn
          exact ⟨h1, by rw [h2]; exact e⟩)
        simp only [hs, if_false]
    have fin := h n _ hp (hg1.put (i := σ.n) (Nat.le_refl _) (.cells [.int .u64 0, .string ⟨#[]⟩, .bool false] 29 false))
    rw [hat] at fin
    simp only [retV2] at fin
    simpa [wops_cons, hgi, hcell] using fin
end Go.Sm
/- Stores: All, gone over. -/
set_option linter.unusedVariables false
set_option linter.unusedSimpArgs false
namespace Go.Sm
open Go Go.Proofs
set_option maxRecDepth 100000
set_option maxHeartbeats 4000000
/-- The store's objects are as they were. -/
def Kept (σ σ' : CSt) : Prop := σ.n ≤ σ'.n ∧ ∀ m, m < σ.n → ∀ row e ro, σ.get m = some (.cells row e ro) → (e = 95 ∨ e = 97 ∨ e = 29 ∨ e = 51) → σ'.get m = σ.get m
theorem Kept.sl {α : Type} {σ σ' : CSt} {e : TypeId} {sz : Nat} {enc : α → List Value} {v : Value} {l : List α} (hk : Kept σ σ') (h : Sl σ e sz enc v l) (he : e = 95 ∨ e = 97 ∨ e = 29 ∨ e = 51) : Sl σ' e sz enc v l := by
  rcases h with h | ⟨i, off, cap, row, ro, h1, h2, h3, h4⟩
  · exact .inl h
  · exact .inr ⟨i, off, cap, row, ro, h1, by rw [hk.2 i h3 _ _ _ h2 he]; exact h2, Nat.lt_of_lt_of_le h3 hk.1, h4⟩
theorem Grow.kept {σ σ' : CSt} (h : Grow σ σ') : Kept σ σ' := ⟨h.n, fun m hm _ _ _ _ _ => h.old m hm⟩
theorem hbits63 : ∀ j, j < 6 → Nat.testBit 63 j = true := by decide
theorem all_spec (b : Nat) (i : Nat) (S : Stl) (q L : Nat) (qo : Bool) (σ : CSt) (hst : St b σ i S) (hq : σ.get q = some (.cells [.pointer (some ⟨i, 0, none⟩)] 51 qo)) (hqn : q < σ.n) (hbig : S.length < 2 ^ 38) (hcl : ∀ s ∈ S, s.2.length < 2 ^ 38)
    (Inv : Nat → CSt → Prop) (Done : CSt → Prop) (hkept : ∀ j σ', Inv j σ' → Kept σ σ') (hgrow : ∀ j σ' σ'', Inv j σ' → Grow σ' σ'' → Inv j σ'') (h0 : Inv 0 σ)
    (hround : ∀ (j : Nat) (hj : j < S.length) (σ' : CSt) (v : Value) (b' : Nat) (Q' : Out → CSt → Prop), Inv j σ' → σ.n ≤ b' → b' ≤ σ'.n → Own b' σ' 29 encV v S[j].2 →
      (∀ (ok : Bool) σ'', (ok = true → Inv (j + 1) σ'') → (ok = false → Done σ'') → Q' (.ret (.bool ok) false) σ'') → W E1 (.round L #[.string S[j].1, v]) σ' Q')
    (Q : Out → CSt → Prop) (h1 : ∀ σ', Inv S.length σ' → Q (.ret (.tuple #[]) false) σ') (h2 : ∀ σ', Done σ' → Q (.ret (.tuple #[]) false) σ') :
    W E1 (.fn 56 #[.func (.yield L) #[] #[], .pointer (some ⟨q, 0, none⟩)] none) σ Q := by
  obtain ⟨vr, R, hbi, hin, hg, hown, hrw⟩ := hst
  rw [W_fn (fn := Tryz.f56) Tryz.func56 rfl rfl rfl]
  have hsR := hown.sl (sz := 2) lenR
  obtain ⟨pr, cr, rfl⟩ := hsR.form
  have hl := hrw.1
  simp [wops_cons, hq, hg]
  refine W_loop_inv (fun n a σ' => ∃ tm j, a = ⟨tm, 23, [], false⟩ ∧ tm.get 0 = some (.func (.yield L) #[] #[]) ∧ tm.get 8 = some (.slice pr R.length cr) ∧ tm.get 9 = some (.int .i64 R.length) ∧ tm.get 10 = some (.int .i64 (j : Nat)) ∧ j ≤ R.length ∧ n = R.length - j ∧ Inv j σ') ?_ R.length _ _ ?_
  · rintro n a σ1 ⟨tm, j, rfl, e0, e8, e9, e10, hj, hn, hinv⟩
    have hkp := hkept j σ1 hinv
    by_cases hjl : j < R.length
    · have hjS : j < S.length := by omega
      obtain ⟨o, off, row, ro, rfl, hgo, hon, hrow, hle⟩ := (hkp.sl hsR (.inl rfl)).at hjl
      have hld := row_get (enc := encR) lenR hrow j hjl
      have hl1 := row_le hle j hjl
      have hw2 := i64n1 j (by omega)
      obtain ⟨hkey, hch⟩ := hrw.2 j hjl hjS
      have hch1 := hkp.sl hch (.inr (.inr (.inl rfl)))
      have hgw : Grow σ1 ((σ1.alloc (.cells [.string ⟨#[]⟩, .slice none 0 0] 95 false)).put σ1.n (.cells [.string R[j].key, .slice R[j].p R[j].n R[j].c] 95 false)) := ((Grow.refl σ1).alloc _).put (Nat.le_refl _) _
      simp [wops_cons, e0, e8, e9, e10, hjl, hgo, hld, hl1]
      simp [wops_cons, encR, e0]
      refine W_drawn (l := [0, 1, 2, 3, 4, 5, 6, 7]) (b := #[0, 0, 2, 0, 8, 24, 63, 127]) (by kernel_rfl) (by kernel_rfl) (by kernel_rfl) ?_
      simp [dopsR_cons, opAt, isEff, again, befBits, isRead, Nat.add_assoc, e0]
      refine clone_29 S[j].2 _ _ (hch1.grow hgw) (by have := hcl _ (List.getElem_mem hjS); omega) _ fun v2 σ2 h2' g2 => ?_
      have hc2 := g2.get (i := σ1.n) (o := .cells [.string R[j].key, .slice R[j].p R[j].n R[j].c] 95 false) (by simp) (by simp)
      simp [dopsR_cons, opAt, isEff, again, befBits, isRead, Nat.add_assoc, e0, hc2]
      rw [hkey]
      refine hround j hjS σ2 v2 _ _ (hgrow j σ1 σ2 hinv (hgw.trans g2)) (by have := hkp.1; simp; omega) g2.n h2' fun ok σ3 ht hf => ?_
      cases ok with
      | true =>
        simp [wops_cons, dopsR_cons, opAt, isEff, again, befBits, isRead, Nat.add_assoc, e0, e8, e9, e10, hbits63, hw2]
        refine ⟨_, ?_, j + 1, rfl, by omega, rfl, ht rfl⟩
        omega
      | false =>
        simp [dopsR_cons, opAt, isEff, again, befBits, isRead, Nat.add_assoc, e0, hbits63]
        exact h2 σ3 (hf rfl)
    · have hjl' : j = R.length := by omega
      subst hjl'
      rw [hl] at hinv
      simp [wops_cons, e0, e8, e9, e10]
      exact h1 σ1 hinv
  · refine ⟨_, 0, rfl, ?_⟩
    simp
    exact h0
end Go.Sm
/- Stores: the laws' Make: a store, and the same as a map. -/
set_option linter.unusedVariables false
set_option linter.unusedSimpArgs false
namespace Go.Sm
open Go Go.Proofs
set_option maxRecDepth 100000
set_option maxHeartbeats 4000000
structure WW where
  key : Int
  v : VV
def encW (w : WW) : List Value := [.int .u8 w.key, .int .u8 w.v.at_, .int .u8 w.v.v, .bool w.v.gone]
theorem lenW (w : WW) : (encW w).length = 4 := rfl
theorem cokW (w : WW) : cokL (encW w) = true := rfl
def WW.ok (w : WW) : Prop := (0 ≤ w.key ∧ w.key < 256) ∧ w.v.ok
def WW.k (w : WW) : ByteArray := keyOf (w.key.tmod 8)
/-- A map as a list: the keys, and what was put, in order. -/
abbrev Fl := List (ByteArray × List VV)
def putF : Fl → ByteArray → VV → Fl
  | [], k, x => [(k, [x])]
  | p :: F, k, x => if p.1 = k then (k, p.2 ++ [x]) :: F else p :: putF F k x
def objOf : Value → Option Nat
  | .slice (some ⟨i, _, _⟩) _ _ => some i
  | _ => none
def MRel (b : Nat) (σ : CSt) : Ml → Fl → Prop
  | [], [] => True
  | p :: M, q :: F => (p.1 = q.1 ∧ Own b σ 34 encU p.2 q.2) ∧ (∀ r ∈ M, ∀ i, objOf p.2 = some i → objOf r.2 ≠ some i) ∧ MRel b σ M F
  | _, _ => False
theorem Own.at_obj {α : Type} {b : Nat} {σ σ' : CSt} {e : TypeId} {enc : α → List Value} {v : Value} {l : List α} (h : Own b σ e enc v l) (hn : σ.n ≤ σ'.n) (hg : ∀ i, objOf v = some i → i < σ.n → σ'.get i = σ.get i) : Own b σ' e enc v l := by
  rcases h with h | ⟨i, cap, h1, hb, hi, h2, h3⟩
  · exact .inl h
  · exact .inr ⟨i, cap, h1, hb, Nat.lt_of_lt_of_le hi hn, by rw [hg i (by rw [h1]; rfl) hi]; exact h2, h3⟩
theorem Own.obj_lt {α : Type} {b : Nat} {σ : CSt} {e : TypeId} {enc : α → List Value} {v : Value} {l : List α} (h : Own b σ e enc v l) {i : Nat} (ho : objOf v = some i) : i < σ.n := by
  rcases h with ⟨rfl, _⟩ | ⟨j, cap, rfl, _, h1, _⟩
  · cases ho
  · cases ho; exact h1
theorem MRel.own {b : Nat} {σ : CSt} : ∀ {M : Ml} {F : Fl}, MRel b σ M F → ∀ r ∈ M, ∃ l : List VV, Own b σ 34 encU r.2 l
  | [], [], _, r, hr => by cases hr
  | p :: M, q :: F, h, r, hr => by
    rcases List.mem_cons.1 hr with rfl | hr
    · exact ⟨_, h.1.2⟩
    · exact MRel.own h.2.2 r hr
theorem MRel.keep {b : Nat} {σ σ' : CSt} (hn : σ.n ≤ σ'.n) : ∀ {M : Ml} {F : Fl}, MRel b σ M F → (∀ r ∈ M, ∀ i, objOf r.2 = some i → i < σ.n → σ'.get i = σ.get i) → MRel b σ' M F
  | [], [], _, _ => trivial
  | p :: M, q :: F, h, hg => ⟨⟨h.1.1, h.1.2.at_obj hn (hg p (by simp))⟩, h.2.1, MRel.keep hn h.2.2 fun r hr => hg r (by simp [hr])⟩
theorem MRel.fr {T : TypeId → Prop} {b b' : Nat} {σ σ' : CSt} (ht : ¬ T 34) (hg : Fr T b' σ σ') : ∀ {M : Ml} {F : Fl}, MRel b σ M F → MRel b σ' M F
  | [], [], _ => trivial
  | p :: M, q :: F, h => ⟨⟨h.1.1, h.1.2.fr ht hg⟩, h.2.1, MRel.fr ht hg h.2.2⟩
def getF (F : Fl) (k : ByteArray) : List VV := match F.find? (fun p => decide (p.1 = k)) with | some p => p.2 | none => []
theorem MRel.get {b : Nat} {σ : CSt} (k : ByteArray) : ∀ {M : Ml} {F : Fl}, MRel b σ M F → Own b σ 34 encU ((getM M k).getD (.slice none 0 0)) (getF F k)
  | [], [], _ => Own.nil
  | p :: M, q :: F, h => by
    have ih := MRel.get k h.2.2
    unfold getM getF at ih ⊢
    rw [List.find?_cons, List.find?_cons, h.1.1]
    by_cases e : q.1 = k
    · simp only [e, decide_true]; exact h.1.2
    · simp only [e, decide_false]; exact ih
theorem MRel.set {b : Nat} {σ σ' : CSt} (k : ByteArray) (x : VV) (v' : Value) {n c : Nat} (hn : σ.n ≤ σ'.n) (hv : v' = .slice (some ⟨σ.n, 0, none⟩) n c) : ∀ {M : Ml} {F : Fl}, MRel b σ M F → Own b σ' 34 encU v' (getF F k ++ [x]) →
    (∀ j, j < σ.n → (∀ i, objOf ((getM M k).getD (.slice none 0 0)) = some i → j ≠ i) → σ'.get j = σ.get j) → MRel b σ' (setM M k v') (putF F k x)
  | [], [], _, ho, _ => ⟨⟨rfl, ho⟩, by simp, trivial⟩
  | p :: M, q :: F, h, ho, hg => by
    unfold getM at hg
    unfold getF at ho
    rw [List.find?_cons] at hg ho
    unfold setM putF
    rw [h.1.1] at hg ⊢
    have hobj : objOf v' = some σ.n := by rw [hv]; rfl
    by_cases e : q.1 = k
    · simp only [e, decide_true, Option.map_some, Option.getD_some] at hg ho
      rw [if_pos e, if_pos e]
      refine ⟨⟨rfl, ho⟩, fun r hr i hi => ?_, MRel.keep hn h.2.2 fun r hr i hi hlt => hg i hlt fun i' hi' e' => h.2.1 r hr i' hi' (by rw [← e']; exact hi)⟩
      rw [hobj] at hi
      cases hi
      intro h2
      obtain ⟨l, hl⟩ := MRel.own h.2.2 r hr
      have := hl.obj_lt h2
      omega
    · simp only [e, decide_false] at hg ho
      rw [if_neg e, if_neg e]
      refine ⟨⟨h.1.1, h.1.2.at_obj hn fun i hi hlt => hg i hlt fun i' hi' e' => ?_⟩, fun r hr i hi => ?_, MRel.set k x v' hn hv h.2.2 ho hg⟩
      · subst e'
        cases hf : M.find? (fun p => decide (p.1 = k)) with
        | none => rw [hf] at hi'; cases hi'
        | some r =>
          rw [hf] at hi'
          exact h.2.1 r (List.mem_of_find?_eq_some hf) i hi hi'
      · have hlt := h.1.2.obj_lt hi
        have hmem : ∀ {M : Ml}, r ∈ setM M k v' → r ∈ M ∨ r.2 = v' := by
          intro M
          induction M with
          | nil => intro hr; simp [setM] at hr; right; rw [hr]
          | cons a M ih =>
            unfold setM
            split
            · intro hr
              rcases List.mem_cons.1 hr with rfl | hr
              · exact .inr rfl
              · exact .inl (by simp [hr])
            · intro hr
              rcases List.mem_cons.1 hr with rfl | hr
              · exact .inl (by simp)
              · rcases ih hr with h | h
                · exact .inl (by simp [h])
                · exact .inr h
        rcases hmem hr with h1 | h1
        · exact h.2.1 r h1 i hi
        · rw [h1, hobj]
          intro e2
          cases e2
          omega
end Go.Sm
/- Stores as lists: puts, one after the other. -/
set_option linter.unusedSimpArgs false
namespace Go.Sm
def ofK (ws : List WW) (k : ByteArray) : List Ver := (ws.filter fun w => decide (w.k = k)).map fun w => verOf w.v
/-- The store of these versions. -/
structure SRel (S : Stl) (ws : List WW) : Prop where
  ks : KS S
  val : ∀ s ∈ S, s.2 = makeL (ofK ws s.1)
  all : ∀ w ∈ ws, ∃ s ∈ S, s.1 = w.k
  only : ∀ s ∈ S, ∃ w ∈ ws, w.k = s.1
  len : S.length ≤ ws.length
theorem ofK_snoc (ws : List WW) (w : WW) (k : ByteArray) : ofK (ws ++ [w]) k = if w.k = k then ofK ws k ++ [verOf w.v] else ofK ws k := by
  unfold ofK
  rw [List.filter_append]
  by_cases e : w.k = k <;> simp [e]
theorem SRel.srt {S : Stl} {ws : List WW} (h : SRel S ws) : ∀ s ∈ S, Srt s.2 := fun s hs => by rw [h.val s hs]; exact makeL_srt _
theorem SRel.short {S : Stl} {ws : List WW} (h : SRel S ws) : ∀ s ∈ S, s.2.length ≤ ws.length := fun s hs => by
  rw [h.val s hs]
  refine Nat.le_trans (make_len _) ?_
  unfold ofK
  rw [List.length_map]
  exact List.length_filter_le _ _
theorem SRel.nil : SRel [] [] := ⟨List.Pairwise.nil, by simp, by simp, by simp, Nat.le_refl _⟩
theorem SRel.put {S : Stl} {ws : List WW} {w : WW} {n : Nat} (h : SRel S ws) (hp : Pos S w.k n) : SRel (putAt S w.k (verOf w.v) n) (ws ++ [w]) := by
  have hnew : (∀ s, S[n]? = some s → s.1 ≠ w.k) → SRel (S.take n ++ (w.k, putL [] (verOf w.v)) :: S.drop n) (ws ++ [w]) := by
    intro hne
    have hlo : ∀ s ∈ S.take n, klt s.1 w.k = true := fun s hs => by
      obtain ⟨j, hj, rfl⟩ := List.mem_iff_getElem.1 hs
      rw [List.length_take] at hj
      rw [List.getElem_take]
      exact hp.lo j (by omega) (by omega)
    have hhi : ∀ s ∈ S.drop n, klt w.k s.1 = true := fun s hs => by
      obtain ⟨j, hj, rfl⟩ := List.mem_iff_getElem.1 hs
      rw [List.length_drop] at hj
      rw [List.getElem_drop]
      have h1 := hp.hi (n + j) (by omega) (by omega)
      have h0 := hne S[n] (List.getElem?_eq_getElem (by omega))
      have h2 := hp.hi n (by omega) (Nat.le_refl _)
      have h3 : klt w.k S[n].1 = true := by
        cases h4 : klt w.k S[n].1 with
        | true => rfl
        | false => exact absurd (klt_tri h2 h4) h0
      cases j with
      | zero => exact h3
      | succ j => exact klt_trans h3 (List.pairwise_iff_getElem.1 h.ks n (n + (j + 1)) (by omega) (by omega) (by omega))
    have hno : ∀ s ∈ S, s.1 ≠ w.k := fun s hs e => by
      rw [← List.take_append_drop n S] at hs
      rcases List.mem_append.1 hs with hs | hs
      · have := hlo s hs; rw [e, klt_irrefl] at this; cases this
      · have := hhi s hs; rw [e, klt_irrefl] at this; cases this
    have hmem : ∀ s, s ∈ S.take n ++ (w.k, putL [] (verOf w.v)) :: S.drop n ↔ s = (w.k, putL [] (verOf w.v)) ∨ s ∈ S := fun s => by
      conv => rhs; rw [← List.take_append_drop n S]
      simp only [List.mem_append, List.mem_cons]
      exact or_left_comm
    have hempty : ofK ws w.k = [] := by
      unfold ofK
      rw [List.map_eq_nil_iff, List.filter_eq_nil_iff]
      intro u hu
      obtain ⟨s, hs, e⟩ := h.all u hu
      have := hno s hs
      simp
      intro e2
      exact this (by rw [e, e2])
    refine ⟨?_, fun s hs => ?_, fun u hu => ?_, fun s hs => ?_, ?_⟩
    · unfold KS
      rw [List.pairwise_append]
      have hks := h.ks
      unfold KS at hks
      refine ⟨List.Pairwise.sublist (List.take_sublist n S) hks, List.pairwise_cons.2 ⟨fun s hs => hhi s hs, List.Pairwise.sublist (List.drop_sublist n S) hks⟩, fun a ha c hc => ?_⟩
      rcases List.mem_cons.1 hc with rfl | hc
      · exact hlo a ha
      · exact klt_trans (hlo a ha) (hhi c hc)
    · rw [ofK_snoc]
      rcases (hmem s).1 hs with rfl | hs
      · simp only [if_true, hempty, List.nil_append]; rfl
      · rw [if_neg (Ne.symm (hno s hs))]; exact h.val s hs
    · rcases List.mem_append.1 hu with hu | hu
      · obtain ⟨s, hs, e⟩ := h.all u hu
        exact ⟨s, (hmem s).2 (.inr hs), e⟩
      · rw [List.mem_singleton] at hu
        subst hu
        exact ⟨_, (hmem _).2 (.inl rfl), rfl⟩
    · rcases (hmem s).1 hs with rfl | hs
      · exact ⟨w, by simp, rfl⟩
      · obtain ⟨u, hu, e⟩ := h.only s hs
        exact ⟨u, by simp [hu], e⟩
    · have := h.len; have := hp.le; simp; omega
  unfold putAt
  cases hn : S[n]? with
  | none => exact hnew fun s hs => by rw [hn] at hs; cases hs
  | some s =>
    simp only
    by_cases e : s.1 = w.k
    · rw [if_pos e]
      obtain ⟨hnS, hs⟩ := List.getElem?_eq_some_iff.1 hn
      have hks := h.ks
      unfold KS at hks
      have hother : ∀ j (hj : j < S.length), j ≠ n → S[j].1 ≠ w.k := fun j hj hjn e2 => by
        rcases Nat.lt_or_gt_of_ne hjn with h1 | h1
        · have := List.pairwise_iff_getElem.1 hks j n hj hnS h1
          rw [e2, hs, e, klt_irrefl] at this; cases this
        · have := List.pairwise_iff_getElem.1 hks n j hnS hj h1
          rw [e2, hs, e, klt_irrefl] at this; cases this
      have hval := h.val s (by rw [← hs]; exact List.getElem_mem hnS)
      have hget : ∀ j (hj : j < (S.set n (w.k, putL s.2 (verOf w.v))).length), ((S.set n (w.k, putL s.2 (verOf w.v)))[j]).1 = (S[j]'(by simpa using hj)).1 := fun j hj => by
        by_cases e2 : n = j
        · subst e2; simp [hs, e]
        · rw [List.getElem_set_ne e2]
      refine ⟨?_, fun u hu => ?_, fun u hu => ?_, fun u hu => ?_, ?_⟩
      · unfold KS
        rw [List.pairwise_iff_getElem]
        intro i j hi hj hij
        rw [hget, hget]
        exact List.pairwise_iff_getElem.1 hks i j _ _ hij
      · rw [ofK_snoc]
        obtain ⟨j, hj, rfl⟩ := List.mem_iff_getElem.1 hu
        by_cases e2 : n = j
        · subst e2
          simp only [List.getElem_set_self, if_true]
          rw [hval, e, makeL_snoc]
        · rw [List.getElem_set_ne e2]
          have hj' : j < S.length := by simpa using hj
          rw [if_neg (Ne.symm (hother j hj' (Ne.symm e2)))]
          exact h.val _ (List.getElem_mem hj')
      · rcases List.mem_append.1 hu with hu | hu
        · obtain ⟨r, hr, e2⟩ := h.all u hu
          obtain ⟨j, hj, rfl⟩ := List.mem_iff_getElem.1 hr
          have hj' : j < (S.set n (w.k, putL s.2 (verOf w.v))).length := by simpa using hj
          exact ⟨_, List.getElem_mem hj', by rw [hget]; exact e2⟩
        · rw [List.mem_singleton] at hu
          subst hu
          have hn' : n < (S.set n (u.k, putL s.2 (verOf u.v))).length := by simpa using hnS
          exact ⟨_, List.getElem_mem hn', by rw [hget, hs]; exact e⟩
      · obtain ⟨j, hj, rfl⟩ := List.mem_iff_getElem.1 hu
        rw [hget]
        obtain ⟨r, hr, e2⟩ := h.only _ (List.getElem_mem (by simpa using hj : j < S.length))
        exact ⟨r, by simp [hr], e2⟩
      · have := h.len; simp; omega
    · rw [if_neg e]
      exact hnew fun r hr => by rw [hn] at hr; cases hr; exact e
end Go.Sm
/- Stores: the laws' Make, walked. -/
set_option linter.unusedVariables false
set_option linter.unusedSimpArgs false
namespace Go.Sm
open Go Go.Proofs
set_option maxRecDepth 100000
set_option maxHeartbeats 4000000
def mapF (ws : List WW) : Fl := ws.foldl (fun F w => putF F w.k w.v) []
theorem mapF_snoc (ws : List WW) (w : WW) : mapF (ws ++ [w]) = putF (mapF ws) w.k w.v := by simp [mapF]
theorem getF_putF (k : ByteArray) (x : VV) (k' : ByteArray) : ∀ F : Fl, getF (putF F k x) k' = if k = k' then getF F k ++ [x] else getF F k'
  | [] => by
    unfold putF getF
    by_cases e : k = k' <;> simp [e]
  | p :: F => by
    have ih := getF_putF k x k' F
    unfold getF at ih ⊢
    unfold putF
    by_cases e1 : p.1 = k
    · by_cases e : k = k' <;> simp [e1, e]
    · rw [if_neg e1]
      simp only [List.find?_cons, e1, decide_false]
      by_cases e2 : p.1 = k'
      · have e : ¬ k = k' := fun h => e1 (by rw [e2, h])
        simp [e2, e]
      · simp only [e2, decide_false]
        exact ih
theorem getF_len (ws : List WW) (k : ByteArray) : (getF (mapF ws) k).length ≤ ws.length := by
  refine rev_ind (P := fun ws => ∀ k, (getF (mapF ws) k).length ≤ ws.length) (fun k => by simp [mapF, getF]) (fun ws w ih k => ?_) ws k
  rw [mapF_snoc, getF_putF]
  have a := ih k
  have b := ih w.k
  split <;> simp <;> omega
theorem nil51_ne (a : Addr) : isNilCmp Tryz.prog .neq 51 (.pointer (some a)) (.pointer none) = some (.bool true) := by simp [isNilCmp, nilPair, Tryz.underlying51]
theorem nil51_eq (a : Addr) : isNilCmp Tryz.prog .eql 51 (.pointer (some a)) (.pointer none) = some (.bool false) := by simp [isNilCmp, nilPair, Tryz.underlying51]
theorem Mp.fr {T : TypeId → Prop} {b : Nat} {σ σ' : CSt} {m : Nat} {M : Ml} (h : Mp σ m M) (hm : m < σ.n) (hf : Fr T b σ σ') : Mp σ' m M := by
  obtain ⟨es, clock, h1, h2⟩ := h
  exact ⟨es, clock, hf.get h1 hm (.inr fun _ _ _ h => by cases h), h2⟩
theorem Mp.grow {σ σ' : CSt} {m : Nat} {M : Ml} (h : Mp σ m M) (hm : m < σ.n) (hf : Grow σ σ') : Mp σ' m M := by
  obtain ⟨es, clock, h1, h2⟩ := h
  exact ⟨es, clock, hf.get h1 hm, h2⟩
theorem Own.is_cells {α : Type} {b : Nat} {σ : CSt} {e : TypeId} {enc : α → List Value} {v : Value} {l : List α} (h : Own b σ e enc v l) {i : Nat} (hi : objOf v = some i) : ∃ row, σ.get i = some (.cells row e false) := by
  rcases h with ⟨rfl, _⟩ | ⟨j, cap, rfl, _, _, h2, _⟩
  · cases hi
  · cases hi; exact ⟨_, h2⟩
theorem objOf_eq {v : Value} {b : Nat} {σ : CSt} {l : List VV} (h : Own b σ 34 encU v l) {i off n c : Nat} (hv : v = .slice (some ⟨i, off, none⟩) n c) : objOf v = some i := by rw [hv]; rfl
theorem mset_step (b : Nat) {σ σ9 : CSt} {m : Nat} {M : Ml} {F : Fl} {k : ByteArray} {x : VV} {v' : Value} (hmp : Mp σ m M) (hm : m < σ.n) (hmr : MRel b σ M F) (hn : σ.n ≤ σ9.n)
    (hkeep : ∀ j, j < σ.n → (∀ i off n c, (getM M k).getD (.slice none 0 0) = .slice (some ⟨i, off, none⟩) n c → j ≠ i) → σ9.get j = σ.get j) (hv : ∃ n c, v' = .slice (some ⟨σ.n, 0, none⟩) n c) (ho : Own b σ9 34 encU v' (getF F k ++ [x])) :
    ∃ o, updateOp Tryz.prog σ9 52 (.map (some m)) (.string k) v' = some (σ9.put m o) ∧ Mp (σ9.put m o) m (setM M k v') ∧ MRel b (σ9.put m o) (setM M k v') (putF F k x) ∧ Kept σ (σ9.put m o) := by
  have hown := hmr.get k
  have hobj : ∀ i off n c, (getM M k).getD (.slice none 0 0) = .slice (some ⟨i, off, none⟩) n c → ∃ row, σ.get i = some (.cells row 34 false) := fun i off n c e => hown.is_cells (by rw [e]; rfl)
  have hmap : ∃ es clock, σ.get m = some (.map es clock) := by obtain ⟨es, clock, h1, _⟩ := hmp; exact ⟨es, clock, h1⟩
  obtain ⟨es, clock, hmg⟩ := hmap
  have hm9 : σ9.get m = σ.get m := hkeep m hm fun i off n c e e2 => by
    obtain ⟨row, hr⟩ := hobj i off n c e
    rw [← e2, hmg] at hr
    cases hr
  have hmp9 : Mp σ9 m M := by
    obtain ⟨es, clock, h1, h2⟩ := hmp
    exact ⟨es, clock, by rw [hm9]; exact h1, h2⟩
  obtain ⟨o, h1, h2⟩ := update_mp (P := Tryz.prog) (t := 52) (kt := 9) (et := 22) (k := k) Tryz.underlying52 (by kernel_rfl) hmp9 v'
  obtain ⟨n, c, hv'⟩ := hv
  have hset : MRel b σ9 (setM M k v') (putF F k x) := MRel.set k x v' hn hv' hmr ho fun j hj hne => hkeep j hj fun i off n c e => hne i (by rw [e]; rfl)
  refine ⟨o, h1, h2, MRel.keep (σ' := σ9.put m o) (Nat.le_refl σ9.n) hset fun r hr i hi hlt => ?_, hn, fun j hj row e ro hg he => ?_⟩
  · obtain ⟨l, hl⟩ := hset.own r hr
    obtain ⟨row, hrow⟩ := hl.is_cells hi
    rw [CSt.get_put, if_neg]
    rintro rfl
    rw [hm9, hmg] at hrow
    cases hrow
  · have hjm : ¬ j = m := by
      rintro rfl
      rw [hmg] at hg
      cases hg
    rw [CSt.get_put, if_neg hjm]
    refine hkeep j hj fun i off n c e' e2 => ?_
    obtain ⟨row', hr⟩ := hobj i off n c e'
    rw [← e2, hg] at hr
    injection hr with hr
    injection hr with _ h3 _
    have h4 : e = 34 := by first | exact h3 | exact h3.symm
    rw [h4] at he
    exact absurd he (by decide)
theorem St.kept {b : Nat} {σ σ' : CSt} {i : Nat} {S : Stl} (h : St b σ i S) (hk : Kept σ σ') : St b σ' i S := by
  obtain ⟨vr, R, h1, h2, h3, h4, h5⟩ := h
  refine ⟨vr, R, h1, Nat.lt_of_lt_of_le h2 hk.1, by rw [hk.2 i h2 _ _ _ h3 (by simp)]; exact h3, ?_, h5.1, fun j h6 h7 => ⟨(h5.2 j h6 h7).1, hk.sl (h5.2 j h6 h7).2 (by simp)⟩⟩
  rcases h4 with h | ⟨o, cap, g1, g2, g3, g4, g5⟩
  · exact .inl h
  · exact .inr ⟨o, cap, g1, g2, Nat.lt_of_lt_of_le g3 hk.1, by rw [hk.2 o g3 _ _ _ g4 (by simp)]; exact g4, g5⟩
theorem st75 : ¬ stT 75 := by unfold stT; decide
theorem st34 : ¬ stT 34 := by unfold stT; decide
theorem lenVV (x : VV) : (encU x).length = 3 := rfl
theorem cokVV (x : VV) : cokL (encU x) = true := rfl
theorem hbits127 : ∀ j, j < 7 → Nat.testBit 127 j = true := by decide
theorem make_store (l : List WW) (hok : ∀ w ∈ l, w.ok) (v : Value) (σ : CSt) (hsl : Sl σ 75 4 encW v l) (hbig : l.length < 2 ^ 30) (Q : Out → CSt → Prop)
    (h : ∀ (i m : Nat) (S : Stl) (M : Ml) (σ' : CSt), SRel S l → St σ.n σ' i S → Mp σ' m M → MRel σ.n σ' M (mapF l) → σ.n ≤ m → m < σ'.n → Grow σ σ' → Q (.ret (.tuple #[.pointer (some ⟨i, 0, none⟩), .map (some m)]) false) σ') :
    W E1 (.fn 28 #[v] none) σ Q := by
  rw [W_fn (fn := Tryz.f28) Tryz.func28 rfl rfl rfl]
  obtain ⟨p, c, rfl⟩ := hsl.form
  simp [wops_cons]
  refine new_spec σ _ fun σ1 h1 g1 => ?_
  have hn1 : σ.n < σ1.n := by obtain ⟨_, _, _, h, _⟩ := h1; exact h
  have hm : Mp (σ1.alloc (.map #[] 0)) σ1.n [] := ⟨#[], 0, by simp, rfl⟩
  have gm : Grow σ1 (σ1.alloc (.map #[] 0)) := (Grow.refl σ1).alloc _
  simp [wops_cons, copE_makeMap (P := Tryz.prog) (t := 52) Tryz.underlying52]
  refine W_loop_inv (fun n a σ' => ∃ tm j S M, a = ⟨tm, 42, [], false⟩ ∧ tm.get 4 = some (.pointer (some ⟨σ.n, 0, none⟩)) ∧ tm.get 5 = some (.map (some σ1.n)) ∧ tm.get 10 = some (.slice p l.length c) ∧ tm.get 11 = some (.int .i64 l.length) ∧ tm.get 12 = some (.int .i64 (j : Nat)) ∧ j ≤ l.length ∧ n = l.length - j ∧
    SRel S (l.take j) ∧ St σ.n σ' σ.n S ∧ Mp σ' σ1.n M ∧ MRel σ.n σ' M (mapF (l.take j)) ∧ σ1.n < σ'.n ∧ Grow σ σ') ?_ l.length _ _ ?_
  · rintro n a σ2 ⟨tm, j, S, M, rfl, e4, e5, e10, e11, e12, hj, hn, hS, hst, hmp, hmr, hn2, hgr⟩
    by_cases hjl : j < l.length
    · obtain ⟨i, off, row, ro, rfl, hg, hin, hrow, hle⟩ := (hsl.grow hgr).at hjl
      have hld := row_get (enc := encW) lenW hrow j hjl
      have hl1 := row_le hle j hjl
      have hw2 := i64n1 j (by omega)
      have hx := hok _ (List.getElem_mem hjl)
      have hgw : Grow σ2 ((σ2.alloc (.cells [.int .u8 0, .int .u8 0, .int .u8 0, .bool false] 75 false)).put σ2.n (.cells [.int .u8 l[j].key, .int .u8 l[j].v.at_, .int .u8 l[j].v.v, .bool l[j].v.gone] 75 false)) := ((Grow.refl σ2).alloc _).put (Nat.le_refl _) _
      simp [wops_cons, e4, e5, e10, e11, e12, hjl, hg, hld, hl1]
      simp [wops_cons, encW, e4, e5, nil51_ne]
      refine W_drawn (l := [0, 1, 2, 4, 5, 3, 6, 7]) (b := #[0, 0, 2, 6, 0, 16, 62, 127]) (by kernel_rfl) (by kernel_rfl) (by kernel_rfl) ?_
      simp [dopsR_cons, opAt, isEff, again, befBits, isRead, Nat.add_assoc, e4, e5]
      generalize hσ3 : (σ2.alloc (.cells [.int .u8 0, .int .u8 0, .int .u8 0, .bool false] 75 false)).put σ2.n (.cells [.int .u8 l[j].key, .int .u8 l[j].v.at_, .int .u8 l[j].v.v, .bool l[j].v.gone] 75 false) = σ3 at hgw ⊢
      have hc3 : σ3.get σ2.n = some (.cells [.int .u8 l[j].key, .int .u8 l[j].v.at_, .int .u8 l[j].v.v, .bool l[j].v.gone] 75 false) := by rw [← hσ3]; simp
      have hn3 : σ2.n < σ3.n := by rw [← hσ3]; simp
      refine key_spec _ hx.1.1 hx.1.2 σ3 _ fun σ4 g4 => ?_
      have hc4 := g4.get hc3 hn3
      simp [dopsR_cons, opAt, isEff, again, befBits, isRead, Nat.add_assoc, e4, e5, hc4]
      have hvm := vmake_spec l[j].v hx.2
      simp only [encU] at hvm
      refine hvm σ4 _ fun σ5 g5 => ?_
      have g35 := g4.trans g5
      have hc5 := g5.get hc4 (Nat.lt_of_lt_of_le hn3 g4.n)
      simp [dopsR_cons, opAt, isEff, again, befBits, isRead, Nat.add_assoc, e4, e5, hc5]
      have g25 := hgw.trans g35
      have hlt := List.length_take_le j l
      refine put_store σ.n σ.n S hS.ks hS.srt (fun s hs => by have := hS.short s hs; omega) _ (verOf l[j].v) σ5 (by have := (hgr.trans g25).n; exact this) (hst.grow g25) (by have := hS.len; omega) _ fun n6 σ6 hp h6 f6 => ?_
      simp [dopsR_cons, opAt, isEff, again, befBits, isRead, Nat.add_assoc, e4, e5, hbits127]
      have hn25 : σ2.n < σ5.n := Nat.lt_of_lt_of_le hn3 g35.n
      have hc6 := f6.get hc5 hn25 (.inr fun row e ro he => by injection he with _ h2 _; rw [← h2]; exact st75)
      have hmp6 := (hmp.grow hn2 g25).fr (Nat.lt_of_lt_of_le hn2 g25.n) f6
      have hmr6 := (hmr.fr (T := fun _ => False) (fun h => h) (b' := 0) g25.fr).fr (T := stT) st34 f6
      have hn26 : σ2.n < σ6.n := Nat.lt_of_lt_of_le hn25 f6.1
      have hn16 : σ1.n < σ6.n := Nat.lt_of_lt_of_le hn2 (Nat.le_trans g25.n f6.1)
      have hg06 : Grow σ σ6 := by
        have := (hgr.trans g25).fr (T := stT) (b := σ.n)
        exact (this.trans f6).grow (Nat.le_refl _)
      have hkdef : keyOf (l[j].key.tmod 8) = l[j].k := rfl
      have hS6 := hS.put (w := l[j]) hp
      rw [hkdef] at h6
      have htk : l.take (j + 1) = l.take j ++ [l[j]] := List.take_succ_eq_append_getElem hjl
      have hlk : ∀ σ', Mp σ' σ1.n M → lookupOp Tryz.prog σ' 52 (.map (some σ1.n)) (.string l[j].k) false = some ((getM M l[j].k).getD (.slice none 0 0)) := fun σ' hm' => lookup_mp Tryz.underlying52 (by kernel_rfl) (by kernel_rfl) hm'
      have hgl := getF_len (l.take j) l[j].k
      rw [List.length_take, Nat.min_eq_left (by omega)] at hgl
      have hne26 : ¬ σ2.n = σ6.n := by omega
      have hb9 : Nat.testBit 1536 9 = true := by decide
      have hb10 : Nat.testBit 1536 10 = true := by decide
      have hb81 : ∀ j, j < 13 → Nat.testBit 8191 j = true := by decide
      have hb40 : ∀ j, j < 12 → 0 < j → Nat.testBit 4094 j = true := by decide
      have hfin : ∀ (σ8 : CSt) (a : Nat), Grow σ6 σ8 → σ8.get a = some (.cells (encU l[j].v) 34 false) → a < σ8.n → ∃ v9 σ9 o, appendOp Tryz.prog σ8 #[22, 22] ((getM M l[j].k).getD (.slice none 0 0)) (.slice (some ⟨a, 0, none⟩) 1 1) = some (v9, σ9) ∧
          updateOp Tryz.prog σ9 52 (.map (some σ1.n)) (.string l[j].k) v9 = some (σ9.put σ1.n o) ∧ (∃ S' M', SRel S' (l.take (j + 1)) ∧ St σ.n (σ9.put σ1.n o) σ.n S' ∧ Mp (σ9.put σ1.n o) σ1.n M' ∧ MRel σ.n (σ9.put σ1.n o) M' (mapF (l.take (j + 1))) ∧ σ1.n < σ9.n ∧ Grow σ (σ9.put σ1.n o)) := by
        intro σ8 a hg8 hca han
        have hmr8 := hmr6.fr (T := fun _ => False) (fun h => h) (b' := 0) hg8.fr
        have hmp8 := hmp6.grow hn16 hg8
        obtain ⟨v9, σ9, a1, a2, a3, a4, a5⟩ := append_only (P := Tryz.prog) (ts := #[22, 22]) (e := 34) (sz := 3) (enc := encU) (l := getF (mapF (l.take j)) l[j].k) (m := [l[j].v]) (b := σ.n) ef22 (by simp) lenVV cokVV rfl (by decide) (by decide) rfl (σ := σ8) (hmr8.get l[j].k)
          (hg06.trans hg8).n (Sl.all (l := [l[j].v]) (i := a) (cap := 1) (ro := false) lenVV (by simpa using hca) han (.inr ⟨by simp, by simp [openCap]⟩)) (by simp; omega) (by omega)
        obtain ⟨o, b1, b2, b3, b4⟩ := mset_step σ.n hmp8 (Nat.lt_of_lt_of_le hn16 hg8.n) hmr8 a3.1 a4 (a5 (by simp)) a2
        refine ⟨v9, σ9, o, a1, b1, _, _, by rw [htk]; exact hS6, (h6.grow hg8).kept b4, b2, by rw [htk, mapF_snoc]; exact b3, Nat.lt_of_lt_of_le (Nat.lt_of_lt_of_le hn16 hg8.n) a3.1, ?_⟩
        exact Grow.thenB (hg06.trans hg8) (a3.put (by omega) _) (Nat.le_refl _)
      refine W_plans (ls := [[0, 1, 2, 4, 5, 6, 9, 10, 3, 7, 8, 11, 12, 13], [0, 1, 2, 4, 5, 6, 9, 10, 3, 11, 7, 8, 12, 13], [0, 1, 2, 4, 5, 6, 9, 10, 11, 3, 7, 8, 12, 13]]) (b := #[0, 0, 2, 6, 0, 0, 32, 110, 254, 0, 512, 1536, 4094, 8191]) (by kernel_rfl) (by kernel_rfl) (by kernel_rfl) (by kernel_rfl) ?_
      intro ll hll
      simp only [List.mem_cons, List.not_mem_nil, or_false] at hll
      rcases hll with rfl | rfl | rfl
      · simp [dopsR_cons, opAt, isEff, again, befBits, isRead, Nat.add_assoc, e4, e5, hc6]
        refine key_spec _ hx.1.1 hx.1.2 σ6 _ fun σ7 g7 => ?_
        have hc7 := g7.get hc6 hn26
        rw [hkdef]
        simp [dopsR_cons, opAt, isEff, again, befBits, isRead, Nat.add_assoc, e4, e5, hc7]
        refine key_spec _ hx.1.1 hx.1.2 σ7 _ fun σ8 g8 => ?_
        have hg8 := g7.trans g8
        have hc8 := hg8.get hc6 hn26
        have hmp8 := hmp6.grow hn16 hg8
        have hlk8 := hlk _ hmp8
        have hne28 : ¬ σ2.n = σ8.n := by have := hg8.n; omega
        rw [hkdef]
        have hga : Grow σ8 (σ8.alloc (.cells (encU l[j].v) 34 false)) := (Grow.refl σ8).alloc _
        have hlk9 := hlk _ (hmp8.grow (Nat.lt_of_lt_of_le hn16 hg8.n) hga)
        simp [dopsR_cons, opAt, isEff, again, befBits, isRead, Nat.add_assoc, e4, e5, hc8, hlk8]
        obtain ⟨v9, σ9, o, a1, b1, S', M', c1, c2, c3, c4, c5, c6⟩ := hfin (σ8.alloc (.cells (encU l[j].v) 34 false)) σ8.n (hg8.trans hga) (by simp) (by simp)
        simp only [encU] at a1 b1 hlk9
        simp [wops_cons, dopsR_cons, opAt, isEff, again, befBits, isRead, Nat.add_assoc, e4, e5, e10, e11, e12, hw2, hb9, hb10, hb81, hb40, hlk9, hne28, hc8, hlk8, a1, b1]
        refine ⟨_, ?_, j + 1, rfl, by omega, rfl, S', c1, c2, M', c3, c4, c5, c6⟩
        omega
      · simp [dopsR_cons, opAt, isEff, again, befBits, isRead, Nat.add_assoc, e4, e5, hc6]
        refine key_spec _ hx.1.1 hx.1.2 σ6 _ fun σ7 g7 => ?_
        have hc7 := g7.get hc6 hn26
        rw [hkdef]
        have hne27 : ¬ σ2.n = σ7.n := by have := g7.n; omega
        have hga : Grow σ7 (σ7.alloc (.cells (encU l[j].v) 34 false)) := (Grow.refl σ7).alloc _
        have hga2 := hga
        simp only [encU] at hga2
        simp [dopsR_cons, opAt, isEff, again, befBits, isRead, Nat.add_assoc, e4, e5, hc7, hne27, hb9, hb10]
        refine key_spec _ hx.1.1 hx.1.2 _ _ fun σ8 g8 => ?_
        have hg8 := (g7.trans hga2).trans g8
        have hc8 := hg8.get hc6 hn26
        have hmp8 := hmp6.grow hn16 hg8
        have hlk8 := hlk _ hmp8
        have hlk9 := hlk8
        have hne28 : ¬ σ2.n = σ8.n := by have := hg8.n; omega
        rw [hkdef]
        simp [dopsR_cons, opAt, isEff, again, befBits, isRead, Nat.add_assoc, e4, e5, hc8, hlk8]
        obtain ⟨v9, σ9, o, a1, b1, S', M', c1, c2, c3, c4, c5, c6⟩ := hfin σ8 σ7.n hg8 (g8.get (by simp [encU]) (by simp)) (by have := g8.n; simp at this; omega)
        simp [wops_cons, dopsR_cons, opAt, isEff, again, befBits, isRead, Nat.add_assoc, e4, e5, e10, e11, e12, hw2, hb9, hb10, hb81, hb40, hlk9, hne28, hc8, hlk8, a1, b1]
        refine ⟨_, ?_, j + 1, rfl, by omega, rfl, S', c1, c2, M', c3, c4, c5, c6⟩
        omega
      · have hga : Grow σ6 (σ6.alloc (.cells (encU l[j].v) 34 false)) := (Grow.refl σ6).alloc _
        have hga2 := hga
        simp only [encU] at hga2
        simp [dopsR_cons, opAt, isEff, again, befBits, isRead, Nat.add_assoc, e4, e5, hc6, hne26, hb9, hb10]
        refine key_spec _ hx.1.1 hx.1.2 _ _ fun σ7 g7 => ?_
        have hg7 := hga2.trans g7
        have hc7 := hg7.get hc6 hn26
        rw [hkdef]
        simp [dopsR_cons, opAt, isEff, again, befBits, isRead, Nat.add_assoc, e4, e5, hc7, hb9, hb10]
        refine key_spec _ hx.1.1 hx.1.2 _ _ fun σ8 g8 => ?_
        have hg8 := hg7.trans g8
        have hc8 := hg8.get hc6 hn26
        have hmp8 := hmp6.grow hn16 hg8
        have hlk8 := hlk _ hmp8
        have hlk9 := hlk8
        have hne28 : ¬ σ2.n = σ8.n := by have := hg8.n; omega
        rw [hkdef]
        simp [dopsR_cons, opAt, isEff, again, befBits, isRead, Nat.add_assoc, e4, e5, hc8, hlk8]
        obtain ⟨v9, σ9, o, a1, b1, S', M', c1, c2, c3, c4, c5, c6⟩ := hfin σ8 σ6.n hg8 ((g7.trans g8).get (by simp [encU]) (by simp)) (by have := (g7.trans g8).n; simp at this; omega)
        simp [wops_cons, dopsR_cons, opAt, isEff, again, befBits, isRead, Nat.add_assoc, e4, e5, e10, e11, e12, hw2, hb9, hb10, hb81, hb40, hlk9, hne28, hc8, hlk8, a1, b1]
        refine ⟨_, ?_, j + 1, rfl, by omega, rfl, S', c1, c2, M', c3, c4, c5, c6⟩
        omega
    · have hj' : j = l.length := by omega
      subst hj'
      rw [List.take_length] at hS hmr
      have := h σ.n σ1.n S M σ2 hS hst hmp hmr (by omega) hn2 hgr
      simpa [wops_cons, e4, e5, e10, e11, e12] using this
  · refine ⟨_, 0, [], [], rfl, ?_⟩
    simp
    exact ⟨SRel.nil, h1.grow gm, hm, trivial, g1.trans gm⟩
end Go.Sm
/- Stores: All, ranged over by a body that changes nothing. -/
set_option linter.unusedVariables false
set_option linter.unusedSimpArgs false
namespace Go.Sm
open Go Go.Proofs
set_option maxRecDepth 100000
set_option maxHeartbeats 4000000
theorem kround1_mono {E : Env} {L : Nat} {fn : FuncId} {body : Code} {Q Q' : Out → CSt → Prop} (hQ : ∀ o s, Q o s → Q' o s) (o : Out) (s : CSt) (h : kround1 E L fn body Q o s) : kround1 E L fn body Q' o s := by
  unfold kround1 at h ⊢
  split at h
  · split at h
    · refine W.weaken h fun o2 s2 h2 => ?_
      split at h2
      · split at h2
        · split at h2
          · exact hQ _ _ h2
          · exact h2.elim
        · split at h2
          · split at h2
            · split at h2
              · first
                  | exact hQ _ _ h2
                  | (rw [if_pos (by assumption)]; exact hQ _ _ h2)
              · exact h2.elim
            · exact h2.elim
          · exact h2.elim
      · exact h2.elim
    · exact h.elim
  · exact h.elim
def allF (q : Nat) : Value := .func (.func 56) #[] #[.pointer (some ⟨q, 0, none⟩)]
theorem all33 (p : Addr) (σ : CSt) (Q : Out → CSt → Prop) (h : Q (.ret (allF σ.n) false) (σ.alloc (.cells [.pointer (some p)] 51 false))) : W E1 (.fn 33 #[.pointer (some p)] none) σ Q := by
  rw [W_fn (fn := Tryz.f33) Tryz.func33 rfl rfl rfl]
  simpa [wops_cons, allF] using h
theorem range_all {b i : Nat} {S : Stl} {q : Nat} {qo : Bool} {x : Ctx} {a : CAct} {σ : CSt} {f : Operand} {p1 p2 : Tmp} {asg body : Code} {Q : Out → CSt → Prop} (hf : a.eval f = allF q) (ha : aroundOk σ x.rnd = true) (hst : St b σ i S)
    (hq : σ.get q = some (.cells [.pointer (some ⟨i, 0, none⟩)] 51 qo)) (hqn : q < σ.n) (hbig : S.length < 2 ^ 38) (hcl : ∀ s ∈ S, s.2.length < 2 ^ 38) (hp1 : p1 < a.sz) (hp2 : p2 < a.sz)
    (hround : ∀ (j : Nat) (hj : j < S.length) (σ' : CSt) (v : Value) (b' : Nat), Grow (σ.alloc (.loop .ready none x.f a.tm a.sz #[p1, p2] asg body)) σ' → σ.n < b' → b' ≤ σ'.n → Own b' σ' 29 encV v S[j].2 →
      W E1 (.code ⟨x.f, some σ.n, none⟩ asg { tm := (a.tm.set p1 (.string S[j].1)).set p2 v, sz := a.sz, df := [], tk := false }) σ' (kround1 E1 σ.n x.f body fun o s => o = .ret (.bool true) false ∧ Grow (σ.alloc (.loop .ready none x.f a.tm a.sz #[p1, p2] asg body)) s))
    (h : ∀ σ', Grow σ σ' → Q (.code .normal a) σ') : W E1 (.code x (.rangeFunc f #[p1, p2] asg body) a) σ Q := by
  rw [W_rangeFunc hf ha]
  have hg : Grow σ (σ.alloc (.loop .ready none x.f a.tm a.sz #[p1, p2] asg body)) := (Grow.refl σ).alloc _
  have hL : (σ.alloc (.loop .ready none x.f a.tm a.sz #[p1, p2] asg body)).get σ.n = some (.loop .ready none x.f a.tm a.sz #[p1, p2] asg body) := by simp
  have hLn : σ.n < (σ.alloc (.loop .ready none x.f a.tm a.sz #[p1, p2] asg body)).n := by simp
  generalize σ.alloc (.loop .ready none x.f a.tm a.sz #[p1, p2] asg body) = σL at hg hL hLn hround ⊢
  refine all_spec b i S q σ.n qo σL (hst.grow hg) (hg.get hq hqn) (Nat.lt_of_lt_of_le hqn hg.n) hbig hcl (fun _ σ' => Grow σL σ') (fun _ => False) (fun j σ' h => h.kept) (fun j σ' σ'' h h' => h.trans h') (Grow.refl σL) ?_ _ (fun σ' h' => ?_) (fun σ' h' => h'.elim)
  · intro j hj σ' v b' Q' hi hb1 hb2 ho hQ
    rw [W_round (hi.get hL hLn) rfl]
    have := hround j hj σ' v b' hi (Nat.lt_of_lt_of_le hLn hb1) hb2 ho
    simp only [List.zip_cons_cons, List.zip_nil_left, List.foldl_cons, List.foldl_nil, hp1, hp2, if_true]
    refine W.weaken this fun o s h' => kround1_mono (fun o s h => ?_) o s h'
    obtain ⟨rfl, h2⟩ := h
    exact hQ true s (fun _ => h2) (fun h => by cases h)
  · unfold krange
    rw [h'.get hL hLn]
    simp only
    rw [if_neg (by decide)]
    exact h _ ((hg.trans h').put (Nat.le_refl _) _)
/-- The loop's own object while a round runs. -/
def busyO (x : Ctx) (a : CAct) (p1 p2 : Tmp) (asg body : Code) : CObj := .loop .busy none x.f a.tm a.sz #[p1, p2] asg body
/-- All but the loop's own object is as it was. -/
def But (L : Nat) (s0 s1 : CSt) : Prop := s0.n ≤ s1.n ∧ ∀ j, j < s0.n → j ≠ L → s1.get j = s0.get j
theorem Grow.but {L : Nat} {s0 s1 : CSt} (h : Grow s0 s1) : But L s0 s1 := ⟨h.n, fun j hj _ => h.old j hj⟩
theorem But.trans {L : Nat} {s0 s1 s2 : CSt} (h : But L s0 s1) (h' : But L s1 s2) : But L s0 s2 := ⟨Nat.le_trans h.1 h'.1, fun j hj hne => by rw [h'.2 j (Nat.lt_of_lt_of_le hj h.1) hne, h.2 j hj hne]⟩
theorem But.putL {L : Nat} {s0 s1 : CSt} (h : But L s0 s1) (o : CObj) : But L s0 (s1.put L o) := ⟨h.1, fun j hj hne => by rw [CSt.get_put, if_neg hne]; exact h.2 j hj hne⟩
theorem But.back {L : Nat} {s0 s1 : CSt} {o : CObj} (h : But L s0 s1) (hL : s0.get L = some o) : Grow s0 (s1.put L o) := ⟨h.1, fun j hj => by
  by_cases e : j = L
  · subst e; simp [hL]
  · rw [CSt.get_put, if_neg e]; exact h.2 j hj e⟩
theorem range_all2 {b i : Nat} {S : Stl} {q : Nat} {qo : Bool} {x : Ctx} {a : CAct} {σ : CSt} {f : Operand} {p1 p2 : Tmp} {asg body : Code} {Q : Out → CSt → Prop} (hf : a.eval f = allF q) (ha : aroundOk σ x.rnd = true) (hst : St b σ i S)
    (hq : σ.get q = some (.cells [.pointer (some ⟨i, 0, none⟩)] 51 qo)) (hqn : q < σ.n) (hbig : S.length < 2 ^ 38) (hcl : ∀ s ∈ S, s.2.length < 2 ^ 38) (hp1 : p1 < a.sz) (hp2 : p2 < a.sz)
    (hround : ∀ (j : Nat) (hj : j < S.length) (σ' : CSt) (v : Value) (b' : Nat), Grow σ σ' → σ.n < b' → b' ≤ σ'.n → Own b' σ' 29 encV v S[j].2 →
      W E1 (.code ⟨x.f, some σ.n, none⟩ asg { tm := (a.tm.set p1 (.string S[j].1)).set p2 v, sz := a.sz, df := [], tk := false }) σ' fun o s => ∃ a', o = .code .normal a' ∧ s = σ' ∧ ∀ ob : CObj,
        W E1 (.code ⟨x.f, some σ.n, none⟩ body a') (σ'.put σ.n ob) fun o2 s2 => (∃ a2, o2 = .code .normal a2) ∧ s2.get σ.n = some ob ∧ σ'.n ≤ s2.n ∧ ∀ m, m < b' → m ≠ σ.n → s2.get m = σ'.get m)
    (h : ∀ σ', Grow σ σ' → Q (.code .normal a) σ') : W E1 (.code x (.rangeFunc f #[p1, p2] asg body) a) σ Q := by
  refine range_all hf ha hst hq hqn hbig hcl hp1 hp2 (fun j hj σ' v b' hg hb1 hb2 ho => ?_) h
  have hgr : Grow σ σ' := ((Grow.refl σ).alloc _).trans hg
  have hL : σ'.get σ.n = some (.loop .ready none x.f a.tm a.sz #[p1, p2] asg body) := hg.get (by simp) (by simp)
  refine W.weaken (hround j hj σ' v b' hgr hb1 hb2 ho) fun o s h1 => ?_
  obtain ⟨a', rfl, rfl, h2⟩ := h1
  unfold kround1
  rw [hL]
  simp only
  refine W.weaken (h2 (busyO x a p1 p2 asg body)) fun o2 s2 h3 => ?_
  obtain ⟨⟨a2, rfl⟩, h4, h5, h6⟩ := h3
  simp only [jumpOf]
  rw [h4]
  unfold busyO
  simp only [Option.isNone_none, if_true]
  refine ⟨trivial, But.back (L := σ.n) ⟨Nat.le_trans hg.n h5, fun m hm hne => ?_⟩ (by simp)⟩
  have hm' : m < b' := by simp at hm; omega
  rw [h6 m hm' hne]
  exact hg.old m hm
end Go.Sm
/- Stores as lists: one put, whatever it is. -/
set_option linter.unusedSimpArgs false
namespace Go.Sm
theorem getF_ofK (ws : List WW) (k : ByteArray) : (getF (mapF ws) k).map verOf = ofK ws k := by
  refine rev_ind (P := fun ws => ∀ k, (getF (mapF ws) k).map verOf = ofK ws k) (fun k => by simp [mapF, getF, ofK]) (fun ws w ih k => ?_) ws k
  rw [mapF_snoc, getF_putF, ofK_snoc]
  by_cases e : w.k = k
  · rw [if_pos e, if_pos e, List.map_append, ih w.k, e]; rfl
  · rw [if_neg e, if_neg e, ih k]
theorem getF_ok (ws : List WW) (h : ∀ w ∈ ws, w.ok) (k : ByteArray) : ∀ x ∈ getF (mapF ws) k, x.ok := by
  refine rev_ind (P := fun ws => (∀ w ∈ ws, w.ok) → ∀ k, ∀ x ∈ getF (mapF ws) k, x.ok) (fun _ k x hx => by simp [mapF, getF] at hx) (fun ws w ih h k x hx => ?_) ws h k
  rw [mapF_snoc, getF_putF] at hx
  have ih' := ih fun w hw => h w (by simp [hw])
  split at hx
  · rcases List.mem_append.1 hx with hx | hx
    · exact ih' _ x hx
    · rw [List.mem_singleton] at hx; rw [hx]; exact (h w (by simp)).2
  · exact ih' _ x hx
/-- What stands at a key's place behind a put. -/
theorem putAt_get {S : Stl} {k : ByteArray} {x : Ver} {n : Nat} (hp : Pos S k n) : ∃ c, (putAt S k x n)[n]? = some (k, putL c x) ∧ (c = [] ∨ (k, c) ∈ S) := by
  have hnew : (S.take n ++ (k, putL [] x) :: S.drop n)[n]? = some (k, putL [] x) := by
    rw [List.getElem?_append_right (by simp; omega)]
    simp [Nat.min_eq_left hp.le]
  unfold putAt
  cases hn : S[n]? with
  | none => exact ⟨[], hnew, .inl rfl⟩
  | some s =>
    simp only
    obtain ⟨h1, h2⟩ := List.getElem?_eq_some_iff.1 hn
    by_cases e : s.1 = k
    · rw [if_pos e]
      exact ⟨s.2, by simp [h1], .inr (by rw [← e, ← h2]; exact List.getElem_mem h1)⟩
    · rw [if_neg e]
      exact ⟨[], hnew, .inl rfl⟩
theorem putAt_mem {S : Stl} {k : ByteArray} {x : Ver} {n : Nat} : ∀ s ∈ putAt S k x n, s ∈ S ∨ ∃ c, s = (k, putL c x) ∧ (c = [] ∨ (k, c) ∈ S) := by
  have hnew : ∀ s ∈ S.take n ++ (k, putL [] x) :: S.drop n, s ∈ S ∨ ∃ c, s = (k, putL c x) ∧ (c = [] ∨ (k, c) ∈ S) := fun s hs => by
    rcases List.mem_append.1 hs with h | h
    · exact .inl (List.mem_of_mem_take h)
    · rcases List.mem_cons.1 h with rfl | h
      · exact .inr ⟨[], rfl, .inl rfl⟩
      · exact .inl (List.mem_of_mem_drop h)
  unfold putAt
  cases hn : S[n]? with
  | none => exact hnew
  | some s =>
    simp only
    obtain ⟨h1, h2⟩ := List.getElem?_eq_some_iff.1 hn
    by_cases e : s.1 = k
    · rw [if_pos e]
      intro r hr
      rcases List.mem_or_eq_of_mem_set hr with h | rfl
      · exact .inl h
      · exact .inr ⟨s.2, rfl, .inr (by rw [← e, ← h2]; exact List.getElem_mem h1)⟩
    · rw [if_neg e]; exact hnew
theorem putAt_ks {S : Stl} {k : ByteArray} {x : Ver} {n : Nat} (hks : KS S) (hp : Pos S k n) : KS (putAt S k x n) := by
  have hnew : (∀ s, S[n]? = some s → s.1 ≠ k) → KS (S.take n ++ (k, putL [] x) :: S.drop n) := by
    intro hne
    have hlo : ∀ s ∈ S.take n, klt s.1 k = true := fun s hs => by
      obtain ⟨j, hj, rfl⟩ := List.mem_iff_getElem.1 hs
      rw [List.length_take] at hj
      rw [List.getElem_take]
      exact hp.lo j (by omega) (by omega)
    have hhi : ∀ s ∈ S.drop n, klt k s.1 = true := fun s hs => by
      obtain ⟨j, hj, rfl⟩ := List.mem_iff_getElem.1 hs
      rw [List.length_drop] at hj
      rw [List.getElem_drop]
      have h0 := hne S[n] (List.getElem?_eq_getElem (by omega))
      have h2 := hp.hi n (by omega) (Nat.le_refl _)
      have h3 : klt k S[n].1 = true := by
        cases h4 : klt k S[n].1 with
        | true => rfl
        | false => exact absurd (klt_tri h2 h4) h0
      cases j with
      | zero => exact h3
      | succ j => exact klt_trans h3 (List.pairwise_iff_getElem.1 hks n (n + (j + 1)) (by omega) (by omega) (by omega))
    unfold KS at hks ⊢
    rw [List.pairwise_append]
    refine ⟨List.Pairwise.sublist (List.take_sublist n S) hks, List.pairwise_cons.2 ⟨fun s hs => hhi s hs, List.Pairwise.sublist (List.drop_sublist n S) hks⟩, fun a ha c hc => ?_⟩
    rcases List.mem_cons.1 hc with rfl | hc
    · exact hlo a ha
    · exact klt_trans (hlo a ha) (hhi c hc)
  unfold putAt
  cases hn : S[n]? with
  | none => exact hnew fun s hs => by rw [hn] at hs; cases hs
  | some s =>
    simp only
    by_cases e : s.1 = k
    · rw [if_pos e]
      obtain ⟨hnS, hs⟩ := List.getElem?_eq_some_iff.1 hn
      have hget : ∀ j (hj : j < (S.set n (k, putL s.2 x)).length), ((S.set n (k, putL s.2 x))[j]).1 = (S[j]'(by simpa using hj)).1 := fun j hj => by
        by_cases e2 : n = j
        · subst e2; simp [hs, e]
        · rw [List.getElem_set_ne e2]
      unfold KS at hks ⊢
      rw [List.pairwise_iff_getElem]
      intro i j hi hj hij
      rw [hget, hget]
      exact List.pairwise_iff_getElem.1 hks i j _ _ hij
    · rw [if_neg e]
      exact hnew fun r hr => by rw [hn] at hr; cases hr; exact e
theorem pos_unique {S : Stl} {k : ByteArray} {n m : Nat} (hks : KS S) (hp : Pos S k m) {s : ByteArray × List Ver} (hn : S[n]? = some s) (hk : s.1 = k) : m = n := by
  obtain ⟨h1, h2⟩ := List.getElem?_eq_some_iff.1 hn
  rcases Nat.lt_trichotomy m n with h | h | h
  · have a := hp.hi m (by omega) (Nat.le_refl _)
    have b := List.pairwise_iff_getElem.1 hks m n (by omega) h1 h
    rw [h2, hk, a] at b
    cases b
  · exact h
  · have a := hp.lo n h1 h
    rw [h2, hk, klt_irrefl] at a
    cases a
theorem putAt_len (S : Stl) (k : ByteArray) (x : Ver) (n : Nat) : (putAt S k x n).length ≤ S.length + 1 := by
  have hnew : (S.take n ++ (k, putL [] x) :: S.drop n).length ≤ S.length + 1 := by simp; omega
  unfold putAt
  cases S[n]? with
  | none => exact hnew
  | some s =>
    simp only
    split
    · simp
    · exact hnew
end Go.Sm
/- Rows of keys' versions among the arguments. -/
set_option linter.unusedVariables false
namespace Go.Sm
open Go Go.Proofs
theorem okW_of (r : List Value) (h : OkL [.int .u8, .int .u8, .int .u8, .bool] r) : ∃ x : WW, x.ok ∧ r = encW x := by
  match r, h with
  | [d, a, b, c], ⟨⟨k, hd, hk⟩, ⟨n, ha, hn⟩, ⟨m, hb, hm⟩, ⟨g, hc⟩, _⟩ =>
    subst ha; subst hb; subst hc; subst hd
    simp only [Lit.wf, Bool.and_eq_true, decide_eq_true_eq] at hn hm hk
    have e1 : IntKind.u8.min = 0 := rfl
    have e2 : IntKind.u8.max = 255 := rfl
    rw [e1, e2] at hn hm hk
    exact ⟨⟨k, ⟨n, m, g⟩⟩, by simp only [WW.ok, VV.ok]; omega, rfl⟩
end Go.Sm
